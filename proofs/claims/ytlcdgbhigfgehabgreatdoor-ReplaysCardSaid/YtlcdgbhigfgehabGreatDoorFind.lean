/- delta's index: find. -/
import Derived.Test.YtlcdgbhigfgehabGreatDoorNewIndex
import Derived.Test.YtlcdgbhigfgehabGreatDoorOToks
import Derived.Deep.QuietTactic
import Derived.BigQuiet
namespace Go.Proofs.YtlcdgbhigfgehabGreatDoor
open Go.RowKit Go.ChangeMaps Go.Maps Go.WideMaps
set_option maxRecDepth 100000

theorem idxs_mem (b : List UInt8) (blk n wk : Nat) (dg : Int) (i : Nat) : i ∈ idxs b blk (List.range n) wk dg ↔ i < n ∧ isWhole b blk i = true ∧ weakOf (blockAt b blk i) = wk ∧ dgOf (blockAt b blk i) = dg := by
  simp [idxs]
theorem idxs_sorted (b : List UInt8) (blk n wk : Nat) (dg : Int) : (idxs b blk (List.range n) wk dg).Pairwise (· < ·) := List.Pairwise.filter _ List.pairwise_lt_range
theorem isWhole_of {b : List UInt8} {blk i : Nat} (h : (i + 1) * blk ≤ b.length) : isWhole b blk i = true := by simpa [isWhole] using h
theorem lt_of_whole {b : List UInt8} {blk i : Nat} (hb : 0 < blk) (h : (i + 1) * blk ≤ b.length) : i < nBlocks b.length blk := (lt_nBlocks _ _ _ hb).2 (by rw [Nat.add_mul] at h; omega)
theorem place_none (b wl : List UInt8) (blk : Nat) (hb : 0 < blk) (hl : wl.length = blk) (h : ∀ i ∈ idxs b blk (List.range (nBlocks b.length blk)) (weakOf wl) (dgOf wl), blockAt b blk i ≠ wl) : placeOf b blk wl = none := by
  have ht : wl.take blk = wl := List.take_of_length_le (by omega)
  rw [placeOf_none b blk hb wl (by omega), ht]
  intro i hi he
  have hbi : blockAt b blk i = wl := he
  exact h i ((idxs_mem ..).2 ⟨lt_of_whole hb hi, isWhole_of hi, by rw [hbi], by rw [hbi]⟩) hbi
theorem place_some (b wl : List UInt8) (blk : Nat) (hb : 0 < blk) (hl : wl.length = blk) (j : Nat) (hj : j < (idxs b blk (List.range (nBlocks b.length blk)) (weakOf wl) (dgOf wl)).length)
    (he : blockAt b blk ((idxs b blk (List.range (nBlocks b.length blk)) (weakOf wl) (dgOf wl))[j]) = wl)
    (h : ∀ q (hq : q < (idxs b blk (List.range (nBlocks b.length blk)) (weakOf wl) (dgOf wl)).length), q < j → blockAt b blk ((idxs b blk (List.range (nBlocks b.length blk)) (weakOf wl) (dgOf wl))[q]) ≠ wl) :
    placeOf b blk wl = some ((idxs b blk (List.range (nBlocks b.length blk)) (weakOf wl) (dgOf wl))[j]) := by
  have hm := (idxs_mem ..).1 (List.getElem_mem hj)
  have hw : ((idxs b blk (List.range (nBlocks b.length blk)) (weakOf wl) (dgOf wl))[j] + 1) * blk ≤ b.length := by simpa [isWhole] using hm.2.1
  have ht : wl.take blk = wl := List.take_of_length_le (by omega)
  refine placeOf_eq b blk hb wl _ (by omega) hw (by rw [ht]; exact he) ?_
  rw [ht]
  intro i hi hbi
  have hbi : blockAt b blk i = wl := hbi
  have hiw : (i + 1) * blk ≤ b.length := by
    have := congrArg List.length hbi
    rw [blkLen_eq] at this
    unfold blkLen at this
    rw [Nat.add_mul, Nat.one_mul]; omega
  have hmem : i ∈ idxs b blk (List.range (nBlocks b.length blk)) (weakOf wl) (dgOf wl) := (idxs_mem ..).2 ⟨lt_of_whole hb hiw, isWhole_of hiw, by rw [hbi], by rw [hbi]⟩
  obtain ⟨q, hq, hqe⟩ := List.getElem_of_mem hmem
  have hs := idxs_sorted b blk (nBlocks b.length blk) (weakOf wl) (dgOf wl)
  rw [List.pairwise_iff_getElem] at hs
  rcases Nat.lt_trichotomy q j with h1 | h1 | h1
  · exact h q hq h1 (by rw [hqe]; exact hbi)
  · subst h1; omega
  · have := hs j q hj hq h1; omega
theorem cnts_zero (b wl : List UInt8) (blk : Nat) (hb : 0 < blk) (hl : wl.length = blk) (h : cnts b blk (List.range (nBlocks b.length blk)) (weakOf wl) = 0) : placeOf b blk wl = none := by
  refine place_none b wl blk hb hl fun i hi hbi => ?_
  have hm := (idxs_mem ..).1 hi
  have h0 : (List.range (nBlocks b.length blk)).filter (fun i => isWhole b blk i && decide (weakOf (blockAt b blk i) = weakOf wl)) = [] := List.eq_nil_of_length_eq_zero h
  have : i ∈ (List.range (nBlocks b.length blk)).filter (fun i => isWhole b blk i && decide (weakOf (blockAt b blk i) = weakOf wl)) := by
    simp [hm.1, hm.2.1, hm.2.2.1]
  rw [h0] at this
  simp at this
/-- What find gives: the place, or -1. -/
def findInt (b : List UInt8) (blk : Nat) (wl : List UInt8) : Int := match placeOf b blk wl with | some k => k | none => -1

theorem Groups.getN {w : World} {B mb n : Nat} {L : Nat → Int → List Nat} (h : Groups w B mb n L) (wk : Nat) (dg : Int) (h1 : wk < 4294967296) (h2 : 0 ≤ dg) (h3 : dg < 18446744073709551616) :
    ∃ v, (∀ nq, (Instr.lookup 257 (.map (some mb)) (.agg #[.int .u32 wk, .int .u64 dg]) false).run Tryz.prog (w.drewN nq) = .ok v (w.drewN nq)) ∧ Vec w B 3 1 v (L wk dg).length (icells (L wk dg)) := by
  obtain ⟨f, h4, -, h5, -⟩ := h
  obtain ⟨kl, hk⟩ := keyOf_key wk dg h1 h2 h3
  exact ⟨_, fun nq => (h4.keep ((Fr.refl (fun _ => False) _).drewN nq) id).look (Keyed.of_law key_law) Tryz.underlying257 (zero_ints _) hk, h5 wk dg⟩

set_option maxHeartbeats 2000000 in
theorem find_any (w : World) (B p : Nat) (v wv : Value) (b wl : List UInt8) (blk : Nat) (hx : IsIndex w B p v b blk) (hv : IsB w v b) (hw : IsB w wv wl) (hb1 : 1 ≤ blk) (hb2 : blk ≤ 64) (hbl : b.length ≤ 300) (hwl : wl.length = blk) :
    Calls Tryz.prog 123 #[.pointer (some ⟨p, 0, none⟩), .int .u32 (weakOf wl), wv] w fun e w' => e = .returned (.int .i64 (findInt b blk wl)) ∧ ∃ nq, w' = w.drewN nq := by
  obtain ⟨mb, mw, n, hI, hG, hM⟩ := hx.maps
  have c0 := hI.cell (i := 0) rfl
  have c1 := hI.cell (i := 1) rfl
  have c2 := hI.cell (i := 2) rfl
  have c3 := hI.cell (i := 3) rfl
  have hwk := weakOf_lt wl
  have hdg := dgOf_bd wl
  have hlkw := hM.look (weakOf wl) hwk
  have hNB : nBlocks b.length blk ≤ 300 := by have := (nBlocks_mul b.length blk (by omega)).2.2; omega
  have hcb : cnts b blk (List.range (nBlocks b.length blk)) (weakOf wl) ≤ 300 := Nat.le_trans (cnts_len _ _ _ _) (by simpa using hNB)
  have HC0 := Lib.hid (cnts_zero b wl blk (by omega) hwl)
  obtain ⟨ve, hlk, hve⟩ := hG.getN (weakOf wl) (dgOf wl) hwk hdg.1 hdg.2
  have hLL : (idxs b blk (List.range (nBlocks b.length blk)) (weakOf wl) (dgOf wl)).length ≤ 300 := Nat.le_trans (idxs_len _ _ _ _ _) (by simpa using hNB)
  have HN0 := Lib.hid (place_none b wl blk (by omega) hwl)
  have HS0 := Lib.hid (fun j hj he h => place_some b wl blk (by omega) hwl j hj he h)
  have HMEM := Lib.hid (fun i hi => (idxs_mem b blk (nBlocks b.length blk) (weakOf wl) (dgOf wl) i).1 hi)
  generalize cnts b blk (List.range (nBlocks b.length blk)) (weakOf wl) = cn at *
  generalize idxs b blk (List.range (nBlocks b.length blk)) (weakOf wl) (dgOf wl) = L at *
  have hdgc := Lib.hid (fun nq => (digest_any wv wl (w.drewN nq) (hw.keep0 ((Fr.refl _ _).drewN nq))).mono (fun (e : Ending) (w' : World) (h : e = .returned (.int .u64 (dgOf wl)) ∧ w.drewN nq = w') => (⟨h.1, h.2.symm⟩ : e = .returned (.int .u64 (dgOf wl)) ∧ w' = w.drewN nq)))
  obtain ⟨aw, cw, hsh, -⟩ := hw.shape
  subst hsh
  obtain ⟨ae, ce, hshe, hce1, hce2, hce3⟩ := hve.shape
  subst hshe
  have HV := Lib.hid hv
  have HW := Lib.hid hw
  have HVE := Lib.hid hve
  have HWL := Lib.hid hwl
  clear hx hv hw hve hI hG hM hwl
  unfold maxLen at hce2
  generalize hWK : weakOf wl = wk at *
  generalize hDG : dgOf wl = dg at *
  clear hWK hDG
  by_cases hc : cn = 0
  · have hc' : ((cn : Int) == 0) = true := by simpa using hc
    have hr : findInt b blk wl = -1 := by unfold findInt; rw [HC0.out hc]
    rw [hr]
    subst hc
    clear hlk hr
    go_enter Tryz.func123, Tryz.ntmps123
    go_wp2_with fail
    go_ret
    exact ⟨rfl, 0, rfl⟩
  · have hc' : ((cn : Int) == 0) = false := by simpa using hc
    go_enter Tryz.func123, Tryz.ntmps123
    go_wp2_with fail
    go_quiet ((go_at_call 69; exact Calls.quiet_of_same (hdgc.out _)))
    go_wp2_with fail
    go_loopw [26] (fun i wr => ∃ q : Nat, q ≤ L.length ∧ i = .int .i64 q ∧ (∀ r (h : r < L.length), r < q → blockAt b blk L[r] ≠ wl) ∧ ∃ nq, wr = w.drewN nq) (fun i _ => L.length - (intOf i).toNat)
    case atStart => exact ⟨0, Nat.zero_le _, rfl, fun r h hr => by omega, nq, rfl⟩
    case round =>
      obtain ⟨q, hq, rfl, hno, nq', rfl⟩ := hrel
      have HNO := Lib.hid hno
      clear hno
      by_cases hq2 : q < L.length
      · obtain ⟨ge, ce', rest, hqe, -, ho, -⟩ := HVE.out.row (by omega)
        simp only [Value.slice.injEq, true_and] at hqe
        obtain ⟨rfl, rfl⟩ := hqe
        have ce := ho.cell (i := q) (v := .int .i64 (L[q] : Nat)) (by rw [List.getElem?_append_left (by simpa using hq2)]; simp [icells, hq2])
        have hm := HMEM.out _ (List.getElem_mem hq2)
        have HSM := Lib.hid (HS0.out q hq2)
        have hwh : (L[q] + 1) * blk ≤ b.length := by simpa [isWhole] using hm.2.1
        have HE : Hid (∀ (h : q < L.length), L[q] = L[q]) := fun _ => rfl
        have HNX : Hid (blockAt b blk L[q] ≠ wl → ∀ r (h : r < L.length), r < q + 1 → blockAt b blk L[r] ≠ wl) := fun hne r h hr => by
          by_cases hrq : r = q
          · subst hrq; exact hne
          · exact HNO.out r h (by omega)
        have HYES : Hid (blockAt b blk L[q] = wl → findInt b blk wl = (L[q] : Int)) := fun he => by
          unfold findInt
          rw [HS0.out q hq2 he (fun r h hr => HNO.out r h hr)]
        clear ho hm HSM HE
        generalize hi0 : L[q] = i at *
        clear hi0
        rcases HV.out.cases with ⟨rfl, rfl⟩ | ⟨bb, bo, bc, rfl, hbc, hbm, -⟩
        · rw [Nat.add_mul] at hwh; simp at hwh; omega
        have hmul : ((i * blk : Nat) : Int) = (i : Int) * blk := by simp
        have hmul2 : (((i + 1) * blk : Nat) : Int) = ((i : Int) + 1) * blk := by simp
        have hle : i * blk ≤ (i + 1) * blk := Nat.mul_le_mul_right _ (by omega)
        have hlt2 : i * blk + blk = (i + 1) * blk := by rw [Nat.add_mul, Nat.one_mul]
        have m1 : 0 ≤ (i : Int) * blk := by rw [← hmul]; omega
        have m2 : (i : Int) * blk ≤ 300 := by rw [← hmul]; omega
        have m3 : 0 ≤ ((i : Int) + 1) * blk := by rw [← hmul2]; omega
        have m4 : ((i : Int) + 1) * blk ≤ b.length := by rw [← hmul2]; omega
        have m5 : (i : Int) * blk ≤ ((i : Int) + 1) * blk := by rw [← hmul, ← hmul2]; omega
        have m6 : ((i : Int) + 1) * blk ≤ (bc : Int) := by rw [← hmul2]; omega
        have hi9 : i ≤ 300 := by
          have : i * 1 ≤ i * blk := Nat.mul_le_mul_left _ hb1
          omega
        have w1 : IntKind.i64.wrap ((i : Int) * blk) = (i : Int) * blk := IntWalk.i64_in _ (by omega)
        have w2 : IntKind.i64.wrap ((i : Int) + 1) = (i : Int) + 1 := IntWalk.i64_in _ (by omega)
        have w3 : IntKind.i64.wrap (((i : Int) + 1) * blk) = ((i : Int) + 1) * blk := IntWalk.i64_in _ (by omega)
        have t1 : ((i : Int) * blk).toNat = i * blk := by rw [← hmul, Int.toNat_natCast]
        have t2 : (((i : Int) + 1) * blk).toNat = (i + 1) * blk := by rw [← hmul2, Int.toNat_natCast]
        have t3 : ¬ (bc = i * blk) := by omega
        have hpart := HV.out.part (i * blk) ((i + 1) * blk) (bc - i * blk) (by omega) (by omega) (by omega) (by unfold maxLen at hbm ⊢; omega)
        have hpb : (b.drop (i * blk)).take ((i + 1) * blk - i * blk) = blockAt b blk i := by unfold blockAt; rw [show (i + 1) * blk - i * blk = blk by omega]
        rw [hpb] at hpart
        have heq := Lib.hid (fun nq => (equal_any _ _ _ _ (w.drewN nq) (hpart.keep0 ((Fr.refl _ _).drewN nq)) (HW.out.keep0 ((Fr.refl _ _).drewN nq))).mono (fun (e : Ending) (w' : World) (h : e = .returned (.bool (decide (blockAt b blk i = wl))) ∧ w.drewN nq = w') => (⟨h.1, h.2.symm⟩ : e = .returned (.bool (decide (blockAt b blk i = wl))) ∧ w' = w.drewN nq)))
        clear hpart hpb hmul hmul2 hlt2
        by_cases hyes : blockAt b blk i = wl
        · have hd : decide (blockAt b blk i = wl) = true := by simpa using hyes
          rw [hd] at heq
          have HR := Lib.hid (HYES.out hyes)
          clear hd hyes
          go_wp2_with fail
          go_quiet ((go_at_call 149; exact (heq.out _).mono (fun _ _ h => ⟨h.1, _, h.2⟩)))
          go_wp2_with fail
          go_ret
          exact ⟨by rw [HR.out]; rfl, _, World.drewN_drewN ..⟩
        · have hd : decide (blockAt b blk i = wl) = false := by simpa using hyes
          rw [hd] at heq
          have HNX2 := Lib.hid (HNX.out hyes)
          clear hd hyes
          go_wp2_with fail
          go_quiet ((go_at_call 149; exact (heq.out _).mono (fun _ _ h => ⟨h.1, _, h.2⟩)))
          go_wp2_with fail
          exact ⟨⟨q + 1, by omega, by go_num, HNX2.out, _, rfl⟩, by simp [intOf]; omega⟩
      · obtain rfl : q = L.length := by omega
        have hr : findInt b blk wl = -1 := by
          unfold findInt
          rw [HN0.out (fun i hi => by
            obtain ⟨r, hr, rfl⟩ := List.getElem_of_mem hi
            exact HNO.out r hr hr)]
        have HR := Lib.hid hr
        clear hr
        go_wp2_with fail
        go_ret
        exact ⟨by rw [HR.out]; rfl, _, rfl⟩
end Go.Proofs.YtlcdgbhigfgehabGreatDoor
