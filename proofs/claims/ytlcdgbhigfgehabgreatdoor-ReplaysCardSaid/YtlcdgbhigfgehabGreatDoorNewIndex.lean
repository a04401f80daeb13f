/- The walk of delta.newIndex. -/
import Derived.Test.YtlcdgbhigfgehabGreatDoorIndex
import Derived.Test.YtlcdgbhigfgehabGreatDoorDiffPure
namespace Go.Proofs.YtlcdgbhigfgehabGreatDoor
open Go.RowKit Go.Shelf Go.ChangeMaps Go.Maps Go.WideMaps
attribute [local go_sem] Oper.semAt_some
attribute [local go_sem ↓] append_hide
set_option maxRecDepth 100000

/-! ### a map of counts -/
def Weaks (w : World) (mw n : Nat) (c : Nat → Nat) : Prop := ∃ f, VMap w Tryz.prog 92 mw n f ∧ ∀ wk : Nat, (f (.int .u32 wk)).getD (.int .i64 0) = .int .i64 (c wk)
theorem Weaks.made (w : World) : Weaks (w.alloc (.map #[] 0)) w.heap.size 0 (fun _ => 0) := ⟨_, VMap.made w _ _, fun _ => rfl⟩
theorem Weaks.keep {w w1 : World} {mw n : Nat} {c : Nat → Nat} {S : Nat → Prop} (h : Weaks w mw n c) (k : Fr S w w1) (hS : ¬ S mw) : Weaks w1 mw n c := by
  obtain ⟨f, h1, h2⟩ := h
  exact ⟨f, h1.keep k hS, h2⟩
theorem Weaks.mono {w : World} {mw n n' : Nat} {c : Nat → Nat} (h : Weaks w mw n c) (hn : n ≤ n') : Weaks w mw n' c := by
  obtain ⟨f, h1, h2⟩ := h
  exact ⟨f, h1.mono hn, h2⟩
theorem Groups.mono {w : World} {B mb n n' : Nat} {L : Nat → Int → List Nat} (h : Groups w B mb n L) (hn : n ≤ n') : Groups w B mb n' L := by
  obtain ⟨f, h1, h2⟩ := h
  exact ⟨f, h1.mono hn, h2⟩
theorem Weaks.lt {w : World} {mw n : Nat} {c : Nat → Nat} (h : Weaks w mw n c) : mw < w.heap.size := h.choose_spec.1.lt
theorem Weaks.look {w : World} {mw n : Nat} {c : Nat → Nat} (h : Weaks w mw n c) (wk : Nat) (h1 : wk < 4294967296) :
    (Instr.lookup 258 (.map (some mw)) (.int .u32 wk) false).run Tryz.prog w = .ok (.int .i64 (c wk)) w := by
  obtain ⟨f, h2, h3⟩ := h
  rw [h2.look u32_keyed Tryz.underlying258 (zero_int w) (keyOf_u32 wk h1), h3]
theorem Weaks.put {w : World} {mw n : Nat} {c : Nat → Nat} (h : Weaks w mw n c) (hn : n < maxLen) (wk : Nat) (h1 : wk < 4294967296) (m : Nat) (x : Int) (hx : x = m) :
    ∃ w', (Instr.mapUpdate 258 (.map (some mw)) (.int .u32 wk) (.int .i64 x)).run Tryz.prog w = .ok () w' ∧ Weaks w' mw (n + 1) (fun a => if a = wk then m else c a) ∧ Fr (fun k => k = mw) w w' := by
  subst hx
  obtain ⟨f, h2, h3⟩ := h
  obtain ⟨w', r1, r2, r3⟩ := h2.put u32_keyed Tryz.underlying258 hn (keyOf_u32 wk h1) (.int .i64 m)
  refine ⟨w', r1, ⟨_, r2, fun a => ?_⟩, r3⟩
  by_cases ha : a = wk
  · subst ha; rw [putAt_same]; simp
  · rw [putAt_other _ _ (fun e => ha (by simp at e; omega)), h3]; simp [ha]

/-! ### which blocks -/
def isWhole (b : List UInt8) (blk i : Nat) : Bool := decide ((i + 1) * blk ≤ b.length)
def idxs (b : List UInt8) (blk : Nat) (ns : List Nat) (wk : Nat) (dg : Int) : List Nat := ns.filter fun i => isWhole b blk i && (decide (weakOf (blockAt b blk i) = wk) && decide (dgOf (blockAt b blk i) = dg))
def cnts (b : List UInt8) (blk : Nat) (ns : List Nat) (wk : Nat) : Nat := (ns.filter fun i => isWhole b blk i && decide (weakOf (blockAt b blk i) = wk)).length
theorem idxs_no (b : List UInt8) (blk : Nat) (ns : List Nat) (i : Nat) (h : isWhole b blk i = false) : idxs b blk (ns ++ [i]) = idxs b blk ns := by
  funext wk dg; simp [idxs, h]
theorem cnts_no (b : List UInt8) (blk : Nat) (ns : List Nat) (i : Nat) (h : isWhole b blk i = false) : cnts b blk (ns ++ [i]) = cnts b blk ns := by
  funext wk; simp [cnts, h]
theorem idxs_yes (b : List UInt8) (blk : Nat) (ns : List Nat) (i : Nat) (h : isWhole b blk i = true) : idxs b blk (ns ++ [i]) = snocAt (idxs b blk ns) (weakOf (blockAt b blk i)) (dgOf (blockAt b blk i)) i := by
  funext wk dg
  unfold snocAt
  by_cases hh : wk = weakOf (blockAt b blk i) ∧ dg = dgOf (blockAt b blk i)
  · rw [if_pos hh]
    obtain ⟨rfl, rfl⟩ := hh
    simp [idxs, h]
  · rw [if_neg hh]
    have : (decide (weakOf (blockAt b blk i) = wk) && decide (dgOf (blockAt b blk i) = dg)) = false := by
      by_cases h1 : weakOf (blockAt b blk i) = wk
      · by_cases h2 : dgOf (blockAt b blk i) = dg
        · exact absurd ⟨h1.symm, h2.symm⟩ hh
        · simp [h2]
      · simp [h1]
    simp [idxs, this]
theorem cnts_yes (b : List UInt8) (blk : Nat) (ns : List Nat) (i : Nat) (h : isWhole b blk i = true) :
    cnts b blk (ns ++ [i]) = fun a => if a = weakOf (blockAt b blk i) then cnts b blk ns (weakOf (blockAt b blk i)) + 1 else cnts b blk ns a := by
  funext wk
  by_cases h1 : wk = weakOf (blockAt b blk i)
  · subst h1; simp [cnts, h]
  · rw [if_neg h1]
    have : decide (weakOf (blockAt b blk i) = wk) = false := by simpa using fun e => h1 e.symm
    simp [cnts, this]
theorem idxs_len (b : List UInt8) (blk : Nat) (ns : List Nat) (wk : Nat) (dg : Int) : (idxs b blk ns wk dg).length ≤ ns.length := List.length_filter_le _ _
theorem cnts_len (b : List UInt8) (blk : Nat) (ns : List Nat) (wk : Nat) : cnts b blk ns wk ≤ ns.length := List.length_filter_le _ _
theorem blkLen_eq (l : List UInt8) (blk i : Nat) : (blockAt l blk i).length = blkLen l.length blk i := by simp [blockAt, blkLen]
theorem isWhole_len (b : List UInt8) (blk i : Nat) (hb : 0 < blk) : isWhole b blk i = decide ((blockAt b blk i).length = blk) := by
  unfold isWhole
  rw [blkLen_eq]
  unfold blkLen
  rw [Nat.add_mul, Nat.one_mul]
  congr 1
  apply propext
  omega
theorem dgOf_bd (l : List UInt8) : 0 ≤ dgOf l ∧ dgOf l < 18446744073709551616 := by
  rcases List.eq_nil_or_concat l with rfl | ⟨l', c, rfl⟩
  · rw [dgOf_nil]; unfold dgInit; omega
  · rw [List.concat_eq_append, dgOf_snoc]
    unfold dgStep
    generalize bits _ _ _ _ * _ = x
    simp [IntKind.wrap, IntKind.bits, IntKind.signed]
    omega

def finNats {n : Nat} (pre : List (Fin n)) : List Nat := pre.map fun i => i.1
theorem finNats_snoc {n : Nat} (pre : List (Fin n)) (x : Fin n) : finNats (pre ++ [x]) = finNats pre ++ [x.1] := by simp [finNats]
@[simp] theorem finNats_len {n : Nat} (pre : List (Fin n)) : (finNats pre).length = pre.length := by simp [finNats]
theorem finNats_all (n : Nat) : finNats (List.finRange n) = List.range n := by
  unfold finNats
  apply List.ext_getElem
  · simp
  · intro i h1 h2; simp
/-- What the rounds keep. -/
def NI (l : List UInt8) (blk sz : Nat) (W0 : World) (pre : List (Fin (nBlocks l.length blk))) (W : World) : Prop :=
  (Groups W (sz + 7) (sz + 1) pre.length (idxs l blk (finNats pre)) ∧ Weaks W (sz + 2) pre.length (cnts l blk (finNats pre))) ∧ Fr (fun k => k = sz + 1 ∨ k = sz + 2) W0 W
/-- An index of b in memory. -/
structure IsIndex (w : World) (B p : Nat) (v : Value) (b : List UInt8) (blk : Nat) : Prop where
  maps : ∃ mb mw n, Own w p 260 [v, .int .i64 blk, .map (some mb), .map (some mw)] ∧ Groups w B mb n (idxs b blk (List.range (nBlocks b.length blk))) ∧ Weaks w mw n (cnts b blk (List.range (nBlocks b.length blk)))

set_option maxHeartbeats 4000000 in
theorem newIndex_any (v : Value) (l : List UInt8) (blk : Nat) (w : World) (hv : IsB w v l) (hb1 : 1 ≤ blk) (hb2 : blk ≤ 64) (hl : l.length ≤ 300) :
    Calls Tryz.prog 121 #[v, .int .i64 blk] w fun e w' => ∃ B p, e = .returned (.pointer (some ⟨p, 0, none⟩)) ∧ w.heap.size ≤ p ∧
      IsIndex w' B p v l blk ∧ Fr (fun _ => False) w w' := by
  obtain ⟨a0, c0, rfl, h1, h2⟩ := hv.shape
  have HV := Lib.hid hv
  have hmm := @run_makeMap Tryz.prog
  clear hv
  refine (callsIn_wide (n := 6)).1 ?_
  refine callsIn_of_wp_marks Tryz.func121 rfl trivial ?_ rfl
  simp only [Tryz.ntmps121, List.size_toArray, List.length_cons, List.length_nil, Nat.reduceAdd, Nat.reduceSub, Array.replicate_succ, Array.replicate_zero, List.push_toArray, List.append_toArray, List.nil_append, List.cons_append]
  gi_wp2_with (refine ⟨trivial, ?_⟩; gi_at_call 148; refine (blocks_in _ _ _ _ _ _).mono ?_; rintro e w' ⟨rfl, rfl⟩)
  obtain ⟨sz, hszw⟩ : ∃ sz, w.heap.size = sz := ⟨_, rfl⟩
  rw [hszw]
  have hO3 : Own (((w.alloc (.cells #[.int .i64 blk] 3)).alloc (.map #[] 0)).alloc (.map #[] 0) |>.alloc (.cells #[.slice a0 l.length c0, .int .i64 blk, .map (some (sz + 1)), .map (some (sz + 1 + 1))] 260)) (sz + 1 + 1 + 1) 260 [.slice a0 l.length c0, .int .i64 blk, .map (some (sz + 1)), .map (some (sz + 1 + 1))] := by
    have := Own.alloc (((w.alloc (.cells #[.int .i64 blk] 3)).alloc (.map #[] 0)).alloc (.map #[] 0)) #[.slice a0 l.length c0, .int .i64 blk, .map (some (sz + 1)), .map (some (sz + 1 + 1))] 260
    simpa [hszw] using this
  have hO0 : Own (w.alloc (.cells #[.int .i64 blk] 3)) sz 3 [.int .i64 blk] := by
    have := Own.alloc w #[.int .i64 blk] 3
    simpa [hszw] using this
  have hG := Groups.made (w.alloc (.cells #[.int .i64 blk] 3)) (sz + 7) (by simp [hszw])
  have hM := Weaks.made ((w.alloc (.cells #[.int .i64 blk] 3)).alloc (.map #[] 0))
  obtain ⟨w1, hw1⟩ : ∃ w1, w.alloc (.cells #[.int .i64 blk] 3) = w1 := ⟨_, rfl⟩
  rw [hw1] at hO3 hO0 hG hM ⊢
  have hf1 : Fr (fun _ => False) w w1 := by rw [← hw1]; exact (Fr.refl _ _).alloc _
  have hs1 : w1.heap.size = sz + 1 := by rw [← hw1]; simp [hszw]
  rw [hs1] at hG
  rw [World.size_alloc, hs1] at hM
  obtain ⟨w3, hw3⟩ : ∃ w3, (w1.alloc (.map #[] 0)).alloc (.map #[] 0) = w3 := ⟨_, rfl⟩
  have hG3 : Groups w3 (sz + 7) (sz + 1) 0 (fun _ _ => []) := by rw [← hw3]; exact hG.keep ((Fr.refl (fun _ => False) _).alloc _) (fun _ h => h.elim)
  rw [hw3] at hO3 hM ⊢
  have hf3 : Fr (fun _ => False) w1 w3 := by rw [← hw3]; exact ((Fr.refl _ _).alloc _).alloc _
  have hs3 : w3.heap.size = sz + 3 := by rw [← hw3]; simp [hs1]
  obtain ⟨w4, hw4⟩ : ∃ w4, w3.alloc (.cells #[.slice a0 l.length c0, .int .i64 blk, .map (some (sz + 1)), .map (some (sz + 1 + 1))] 260) = w4 := ⟨_, rfl⟩
  rw [hw4] at hO3 ⊢
  have hf4 : Fr (fun _ => False) w3 w4 := by rw [← hw4]; exact (Fr.refl _ _).alloc _
  have hs4 : w4.heap.size = sz + 4 := by rw [← hw4]; simp [hs3]
  have hO4 := Own.alloc w4 #[.pointer (some ⟨sz + 1 + 1 + 1, 0, none⟩)] 231
  have hO5 := Own.alloc (w4.alloc (.cells #[.pointer (some ⟨sz + 1 + 1 + 1, 0, none⟩)] 231)) #[.slice a0 l.length c0] 25
  have hO6 := Own.alloc ((w4.alloc (.cells #[.pointer (some ⟨sz + 1 + 1 + 1, 0, none⟩)] 231)).alloc (.cells #[.slice a0 l.length c0] 25)) #[.int .i64 blk] 3
  simp only [World.size_alloc, hs4] at hO4 hO5 hO6
  obtain ⟨W0, hW0⟩ : ∃ W0, ((w4.alloc (.cells #[.pointer (some ⟨sz + 1 + 1 + 1, 0, none⟩)] 231)).alloc (.cells #[.slice a0 l.length c0] 25)).alloc (.cells #[.int .i64 blk] 3) = W0 := ⟨_, rfl⟩
  rw [hW0] at hO6 ⊢
  have hs0 : W0.heap.size = sz + 7 := by rw [← hW0]; simp [hs4]
  have hF40 : Fr (fun _ => False) w4 W0 := by rw [← hW0]; exact (((Fr.refl _ _).alloc _).alloc _).alloc _
  have cI := hO3.keep hF40 id
  have cX : Own W0 (sz + 4) 231 [.pointer (some ⟨sz + 1 + 1 + 1, 0, none⟩)] := by rw [← hW0]; exact hO4.keep (((Fr.refl (fun _ => False) _).alloc _).alloc _) id
  have c0' : W0.cell? ⟨sz + 5, 0, none⟩ = some (.slice a0 l.length c0) := by rw [← hW0]; exact (hO5.keep ((Fr.refl (fun _ => False) _).alloc _) id).cell (i := 0) rfl
  have c1' : W0.cell? ⟨sz + 5 + 1, 0, none⟩ = some (.int .i64 blk) := hO6.cell (i := 0) rfl
  have cB := ((hO0.keep hf3 id).keep hf4 id).keep hF40 id
  have hF30 : Fr (fun _ => False) w3 W0 := hf4.step hF40 (fun _ h _ => h)
  have hG0 := hG3.keep hF30 (fun _ h => h.elim)
  have hM0 := hM.keep hF30 id
  have hF0 : Fr (fun _ => False) w W0 := (hf1.step hf3 (fun _ h _ => h)).step hF30 (fun _ h _ => h)
  have hV0 := HV.out.keep0 hF0
  have HV0 := Lib.hid hV0
  clear hW0 hw4 hw3 hw1 hO0 hO3 hO4 hO5 hO6 hG hG3 hM hf1 hf3 hf4 hF40 hF30 hs1 hs3 hs4 hmm
  simp only [Nat.add_assoc, Nat.reduceAdd] at c1' cI cX hM0 ⊢
  refine wpIn_rangeFunc_ownG rfl (by omega) (gf := 157) (lb := #[.pointer (some ⟨sz + 6, 0, none⟩), .pointer (some ⟨sz + 5, 0, none⟩)]) rfl trivial (enters_of Tryz.func157 (by kernel_rfl) rfl)
    (blocks_stops _ (by omega) (sz + 5) blk _ l (by omega) (by omega) (by omega) W0 c0' c1' (by omega) hV0) keptB_t (keptB_b (by omega)) (Below.refl _ _) (fun _ => rfl)
    (NI l blk sz W0)
    (fun _ _ _ => False)
    (fun s A B row hs hg hr => ⟨⟨hs.1.1.keep (fr_grown hg) (fun b hb => ⟨fun e => by have := (hr b hb).1; omega, .inr (hr b hb).2⟩), hs.1.2.keep (fr_grown hg) (fun e => by have := (hr _ e).1; omega)⟩, hs.2.grown hg hr (Nat.le_refl _)⟩)
    (fun _ _ _ _ _ hs _ _ => hs)
    ⟨⟨hG0, hM0⟩, Fr.refl _ _⟩
    (fun x => { tmps := #[.slice a0 l.length c0, .int .i64 blk, undef, .pointer (some ⟨sz, 0, none⟩), .pointer none, .pointer (some ⟨sz + 4, 0, none⟩), .int .i64 (x.1 : Int), blkVal (.slice a0 l.length c0) l.length blk x.1, undef, .slice a0 l.length c0, .int .i64 blk, .map (some (sz + 1)), .map (some (sz + 2)), .agg #[.slice a0 l.length c0, .int .i64 blk, .map (some (sz + 1)), .map (some (sz + 2))], .pointer (some ⟨sz + 3, 0, none⟩), .slice a0 l.length c0, .int .i64 blk, .func (.func 157) #[] #[.pointer (some ⟨sz + 6, 0, none⟩), .pointer (some ⟨sz + 5, 0, none⟩)], .int .i64 (x.1 : Int), blkVal (.slice a0 l.length c0) l.length blk x.1, undef, undef, undef, undef, undef, undef, undef, undef, undef, undef, undef, undef, undef, undef, undef, undef, undef, undef, undef, undef, undef, undef, undef, undef, undef, undef, undef, undef, undef], defers := [] }) ?assign ?body ?done ?stop
  case assign =>
    intro lp x W K hK
    gi_wp2
    exact hK
  case body =>
    rintro lp pre x W ⟨⟨hg, hm⟩, hF⟩ hlt
    have hib := (blkVal_isB (hV0.keep hF (fun b hb e => by have := HV.out.lt0 b hb; omega)) blk x.1 (by omega) x.2)
    change IsB W _ (blockAt l blk x.1) at hib
    obtain ⟨a1, n1, hsh, -⟩ := hib.shape
    rw [hsh] at hib ⊢
    have hwh := isWhole_len l blk x.1 (by omega)
    have cX1 := (cX.keep hF (by omega)).cell (i := 0) rfl
    have cB1 := (cB.keep hF (by omega)).cell (i := 0) rfl
    have cI0 := (cI.keep hF (by omega)).cell (i := 0) rfl
    have hN300 : pre.length < 300 := by have := (nBlocks_mul l.length blk (by omega)).2.2; omega
    by_cases hfull : (blockAt l blk x.1).length = blk
    · rw [show decide ((blockAt l blk x.1).length = blk) = true by simpa using hfull] at hwh
      have hi := idxs_yes l blk (finNats pre) x.1 hwh
      have hcn := cnts_yes l blk (finNats pre) x.1 hwh
      have hwk : weakOf (blockAt l blk x.1) < 4294967296 := weakOf_lt _
      have hdg := dgOf_bd (blockAt l blk x.1)
      rw [hfull] at hib ⊢
      have HI := Lib.hid hi
      have HCN := Lib.hid hcn
      have HIB := Lib.hid hib
      have hw := Lib.hid (weak_any _ _ W hib)
      have hdgc := Lib.hid (digest_any _ _ W hib)
      have hL1 := idxs_len l blk (finNats pre) (weakOf (blockAt l blk x.1)) (dgOf (blockAt l blk x.1))
      have hL2 := cnts_len l blk (finNats pre) (weakOf (blockAt l blk x.1))
      rw [finNats_len] at hL1 hL2
      generalize hB1 : weakOf (blockAt l blk x.1) = wk at *
      generalize hB2 : dgOf (blockAt l blk x.1) = dg at *
      have HG := Lib.hid hg
      have HM := Lib.hid hm
      have HF := Lib.hid hF
      clear hi hcn hwh hib hg hm hF hsh hfull
      dsimp only
      gi_wp2_with (first
        | (refine ⟨trivial, ?_⟩; gi_at_call 122; refine (CallsIn.inRound lp (callsIn_wide.2 hw.out)).mono ?_; rintro e w' ⟨rfl, rfl⟩)
        | (refine ⟨trivial, ?_⟩; gi_at_call 69; refine (CallsIn.inRound lp (callsIn_wide.2 hdgc.out)).mono ?_; rintro e w' ⟨rfl, rfl⟩))
      have hKF : Fr (fun _ => False) W (W.alloc (.cells #[.int .u32 wk, .int .u64 dg] 264)) := (Fr.refl _ _).alloc _
      have hKO := Own.alloc W #[.int .u32 wk, .int .u64 dg] 264
      have hKs : (W.alloc (.cells #[.int .u32 wk, .int .u64 dg] 264)).heap.size = W.heap.size + 1 := by simp
      obtain ⟨WK, hWK⟩ : ∃ WK, W.alloc (.cells #[.int .u32 wk, .int .u64 dg] 264) = WK := ⟨_, rfl⟩
      rw [hWK] at hKF hKO hKs ⊢
      have hF2 : Fr (fun _ => False) WK (WK.alloc (.cells #[.int .i64 (x.1 : Int)] 3)).drew := ((Fr.refl _ _).alloc _).drew
      have hRd := (Reads.new WK #[.int .i64 (x.1 : Int)] 3 WK.heap.size rfl 1 1).drew
      obtain ⟨W2, hW2⟩ : ∃ W2, (WK.alloc (.cells #[.int .i64 (x.1 : Int)] 3)).drew = W2 := ⟨_, rfl⟩
      rw [hW2] at hF2 hRd
      have hWsz : W0.heap.size ≤ W.heap.size := HF.out.size
      have hKsz : W.heap.size ≤ WK.heap.size := hKF.size
      have h2sz : WK.heap.size ≤ W2.heap.size := hF2.size
      have hG2 := (HG.out.keep hKF (fun _ h => h.elim)).keep hF2 (fun _ h => h.elim)
      obtain ⟨ve, st, We, re, fe, se, hve, hvne, back⟩ := hG2.entry (by unfold maxLen; omega) wk dg hwk hdg.1 hdg.2 (by omega)
      obtain ⟨i0, z0, e1, e2, e3, e4, e5, e6⟩ := elt_int
      have hRe : Reads We (.slice (some ⟨WK.heap.size, 0, none⟩) 1 1) 1 [.int .i64 (x.1 : Int)] := by
        rcases hRd with ⟨h, -⟩ | ⟨b, off, c, h, h'⟩
        · simp at h
        · refine .inr ⟨b, off, c, h, fun j u hu => fe.cell (h' j u hu) (fun e => ?_)⟩
          have h8 := World.block_lt_of_cell? W2 _ (h' j u hu)
          have := HG.out.lt
          simp at h e
          omega
      obtain ⟨va, Wa, ra, hva, fa, da, -⟩ := run_append_vec (P := Tryz.prog) We (sz + 7) 55 55 3 i0 z0 1 8 e1 e2 e3 e4 e5 e6 _ _ _ hve _ 1 _ hRe rfl (by intro u hu; simp at hu; subst hu; rfl) (by unfold maxLen; omega) (by omega) (by omega)
      obtain ⟨W4, rs, fs, ss, hG4⟩ := back Wa va x.1 fa hva da
      have hfull : Fr (fun k => k = sz + 1 ∨ ve.ownBlock = some k) W W4 :=
        ((((hKF.step hF2 (fun _ h _ => h)).mono (fun _ h _ => h.elim)).step fe (fun k hk _ => .inl hk)).step fa (fun k hk _ => .inr hk)).step fs (fun k hk _ => .inl hk)
      have hve2 : ∀ k, ve.ownBlock = some k → sz + 7 ≤ k := fun k hk => (hve.lt k hk).1
      have hF24 : Fr (fun k => k = sz + 1 ∨ ve.ownBlock = some k) W2 W4 :=
        ((fe.mono (fun k hk _ => .inl hk)).step fa (fun k hk _ => .inr hk)).step fs (fun k hk _ => .inl hk)
      have hM4 := HM.out.keep hfull (fun h => by rcases h with h | h; · omega
                                                 · have := hve2 _ h; omega)
      have hM4' : Weaks W4.drew (sz + 2) pre.length (cnts l blk (finNats pre)) := hM4.keep (Fr.drew (Fr.refl (fun _ => False) _)) id
      have rl := hM4'.look wk hwk
      obtain ⟨W5, rp, hM5, fp⟩ := hM4'.put (by unfold maxLen; omega) wk hwk (cnts l blk (finNats pre) wk + 1) (IntKind.i64.wrap ((cnts l blk (finNats pre) wk : Int) + 1)) (by rw [IntWalk.i64_in _ (by omega)]; simp)
      have fp4 : Fr (fun k => k = sz + 2) W4 W5 := ((Fr.refl (fun _ => False) W4).drew.mono (fun _ h _ => h.elim)).step fp (fun k hk _ => hk)
      have hG5 := hG4.keep fp4 (fun b hb => ⟨by omega, .inl (by omega)⟩)
      have hfin : Fr (fun k => (k = sz + 1 ∨ k = sz + 2) ∨ ve.ownBlock = some k) W W5 :=
        (hfull.mono (fun k hk _ => by rcases hk with h | h; · exact .inl (.inl h)
                                      · exact .inr h)).step fp4 (fun k hk _ => .inl (.inr hk))
      have hWe : Fr (fun k => k = sz + 1) W We := ((hKF.step hF2 (fun _ h _ => h)).mono (fun _ h _ => h.elim)).step fe (fun k hk _ => hk)
      have FIN : ∀ a, ownPostG W0.heap.size (KeptB (sz + 5)) (NI l blk sz W0) (fun _ _ _ => False) (pre ++ [x]) W .normal a W5 := by
        intro a
        refine ⟨KeepsFrom.of_fr hfin ?_, KeptB.of_fr hfin (by omega) ?_ ?_, ⟨⟨?_, ?_⟩, ?_⟩⟩
        · rintro k (hk | hk) hB o ho
          · omega
          · have hkl := (Array.getElem?_eq_some_iff.1 ho).1
            exact hve.cells hk o ((hWe.block k hkl (by have := hve2 k hk; omega)).trans ho)
        · rintro (h | h)
          · omega
          · have := hve2 _ h; omega
        · rintro (h | h)
          · omega
          · have := hve2 _ h; omega
        · rw [finNats_snoc, HI.out, List.length_append]
          exact hG5
        · rw [finNats_snoc, HCN.out, List.length_append]
          exact hM5
        · refine HF.out.step hfin ?_
          rintro k (hk | hk) hl
          · exact hk
          · have := hve2 k hk; omega
      have HFIN := Lib.hid FIN
      -- the cells that the regions read
      have rX2 : ∀ W', Fr (fun k => k = sz + 1 ∨ ve.ownBlock = some k) W2 W' → (W'.cell? ⟨sz + 4, 0, none⟩ = some (.pointer (some ⟨sz + 3, 0, none⟩)) ∧ W'.cell? ⟨sz + 3, 2, none⟩ = some (.map (some (sz + 1))) ∧ W'.cell? ⟨W.heap.size, 0, none⟩ = some (.int .u32 wk) ∧ W'.cell? ⟨W.heap.size, 1, none⟩ = some (.int .u64 dg)) ∧ W'.cell? ⟨sz + 3, 3, none⟩ = some (.map (some (sz + 2))) := by
        intro W' hW'
        have hK2 : Fr (fun k => k = sz + 1 ∨ ve.ownBlock = some k) W W' := ((hKF.step hF2 (fun _ h _ => h)).mono (fun _ h _ => h.elim)).step hW' (fun k hk _ => hk)
        have no : ∀ k, k < sz + 7 → k ≠ sz + 1 → ¬ (k = sz + 1 ∨ ve.ownBlock = some k) := by
          rintro k h1 h2 (h3 | h3)
          · exact h2 h3
          · have := hve2 k h3; omega
        have hvk : ¬ (W.heap.size = sz + 1 ∨ ve.ownBlock = some W.heap.size) := by
          rintro (h3 | h3)
          · omega
          · have hkk := hKO.keep (hF2.mono (S' := fun _ => False) (fun _ h _ => h)) id
            have h9 := hkk.keep fe (by omega)
            have hc := hve.2
            rcases hc with ⟨rfl, _⟩ | ⟨g, cap, rest, rfl, _, ho, _⟩
            · simp [Value.ownBlock] at h3
            · simp [Value.ownBlock] at h3
              subst h3
              obtain ⟨_, u1, _⟩ := ho
              obtain ⟨_, u2, _⟩ := h9
              rw [u1] at u2
              simp at u2
        have hO := hKO.keep ((hF2.mono (fun _ h _ => h.elim)).step hW' (fun k hk _ => hk) : Fr (fun k => k = sz + 1 ∨ ve.ownBlock = some k) WK W') hvk
        refine ⟨⟨?_, ?_, hO.cell rfl, hO.cell rfl⟩, ?_⟩
        · exact ((cX.keep HF.out (by omega)).keep hK2 (no _ (by omega) (by omega))).cell (i := 0) rfl
        · exact ((cI.keep HF.out (by omega)).keep hK2 (no _ (by omega) (by omega))).cell (i := 2) rfl
        · exact ((cI.keep HF.out (by omega)).keep hK2 (no _ (by omega) (by omega))).cell (i := 3) rfl
      have g0 := (rX2 W2 (Fr.refl _ _)).1
      have ge := (rX2 We (fe.mono (fun k hk _ => .inl hk))).1
      have ga := (rX2 Wa ((fe.mono (fun k hk _ => .inl hk)).step fa (fun k hk _ => .inr hk))).1
      have g4 := rX2 W4 hF24
      have g5 : (W5.cell? ⟨sz + 4, 0, none⟩ = some (.pointer (some ⟨sz + 3, 0, none⟩)) ∧ W5.cell? ⟨sz + 3, 3, none⟩ = some (.map (some (sz + 2))) ∧ W5.cell? ⟨W.heap.size, 0, none⟩ = some (.int .u32 wk) ∧ W5.cell? ⟨W.heap.size, 1, none⟩ = some (.int .u64 dg)) :=
        ⟨fp4.cell g4.1.1 (by simp), fp4.cell g4.2 (by simp), fp4.cell g4.1.2.2.1 (by simp; omega), fp4.cell g4.1.2.2.2 (by simp; omega)⟩
      have g4' : (W4.drew.cell? ⟨sz + 4, 0, none⟩ = some (.pointer (some ⟨sz + 3, 0, none⟩)) ∧ W4.drew.cell? ⟨sz + 3, 3, none⟩ = some (.map (some (sz + 2))) ∧ W4.drew.cell? ⟨W.heap.size, 0, none⟩ = some (.int .u32 wk) ∧ W4.drew.cell? ⟨W.heap.size, 1, none⟩ = some (.int .u64 dg)) :=
        ⟨g4.1.1, g4.2, g4.1.2.2.1, g4.1.2.2.2⟩
      have hk0 : (WK.drew.cell? ⟨sz + 4, 0, none⟩ = some (.pointer (some ⟨sz + 3, 0, none⟩)) ∧ WK.drew.cell? ⟨sz + 3, 2, none⟩ = some (.map (some (sz + 1))) ∧ WK.drew.cell? ⟨W.heap.size, 0, none⟩ = some (.int .u32 wk) ∧ WK.drew.cell? ⟨W.heap.size, 1, none⟩ = some (.int .u64 dg)) :=
        ⟨((cX.keep HF.out (by omega)).keep hKF id).cell (i := 0) rfl, ((cI.keep HF.out (by omega)).keep hKF id).cell (i := 2) rfl, hKO.cell rfl, hKO.cell rfl⟩
      have HG0 := Lib.hid g0
      have HGE := Lib.hid ge
      have HGA := Lib.hid ga
      have HG4 := Lib.hid g4
      have HG5 := Lib.hid g5
      have HG4' := Lib.hid g4'
      have HK0 := Lib.hid hk0
      rw [append_hide, hKs] at ra
      unfold keyV at re
      unfold goInt at re rs
      have hmx : Tryz.prog.follows .mixedOrders = true := by kernel_rfl
      have hcb : cnts l blk (finNats pre) wk ≤ 300 := by omega
      clear FIN rX2 g0 ge ga g4 g5 g4' hk0 hfin hWe hfull hF24 hG5 hG4 hM4 hM4' hM5 fp fp4 back hve hva fa da fs ss fe se hRe hRd hG2 hvne hve2 hF2 hKO hKF HI HCN HIB hw hdgc hwk hdg hL1 hL2 e1 e2 e3 e4 e5 e6 cX1 cB1 cI0 hN300 hV0
      have hHeld := HK0.out
      refine wpIn_region_round_held (fun w' => w'.cell? ⟨sz + 4, 0, none⟩ = some (.pointer (some ⟨sz + 3, 0, none⟩)) ∧ w'.cell? ⟨sz + 3, 2, none⟩ = some (.map (some (sz + 1))) ∧ w'.cell? ⟨W.heap.size, 0, none⟩ = some (.int .u32 wk) ∧ w'.cell? ⟨W.heap.size, 1, none⟩ = some (.int .u64 dg)) lp ?letsout hmx (by kernel_rfl) hHeld ?_
      case letsout => (rintro ⟨a, w, h⟩; exact h)
      simp only [List.size_toArray, List.length_cons, List.length_nil, Nat.reduceAdd]
      refine wpAnyH_take (i := 0) (v := ?_) rfl (by decide +kernel) (by decide +kernel) (by decide +kernel) (fun _ _ _ h => h) (Or.inl ⟨by rfl, ?_⟩) (by assumption) ?_
      rotate_left
      · (intro w hSw; obtain ⟨q1, q2, q3, q4⟩ := hSw; go_simp; try with_reducible rfl)
      try simp only [Act.put, List.setIfInBounds_toArray, List.set_cons_zero, List.set_cons_succ]
      refine wpAnyH_take (i := 1) (v := ?_) rfl (by decide +kernel) (by decide +kernel) (by decide +kernel) (fun _ _ _ h => h) (Or.inl ⟨by rfl, ?_⟩) (by assumption) ?_
      rotate_left
      · (intro w hSw; obtain ⟨q1, q2, q3, q4⟩ := hSw; go_simp; try with_reducible rfl)
      try simp only [Act.put, List.setIfInBounds_toArray, List.set_cons_zero, List.set_cons_succ]
      refine wpAnyH_take (i := 2) (v := ?_) rfl (by decide +kernel) (by decide +kernel) (by decide +kernel) (fun _ _ _ h => h) (Or.inl ⟨by rfl, ?_⟩) (by assumption) ?_
      rotate_left
      · (intro w hSw; obtain ⟨q1, q2, q3, q4⟩ := hSw; go_simp; try with_reducible rfl)
      try simp only [Act.put, List.setIfInBounds_toArray, List.set_cons_zero, List.set_cons_succ]
      refine wpAnyH_take (i := 3) (v := ?_) rfl (by decide +kernel) (by decide +kernel) (by decide +kernel) (fun _ _ _ h => h) (Or.inl ⟨by rfl, ?_⟩) (by assumption) ?_
      rotate_left
      · (intro w hSw; obtain ⟨q1, q2, q3, q4⟩ := hSw; go_simp; try with_reducible rfl)
      try simp only [Act.put, List.setIfInBounds_toArray, List.set_cons_zero, List.set_cons_succ]
      refine wpAnyH_take (i := 4) (v := ?_) rfl (by decide +kernel) (by decide +kernel) (by decide +kernel) (fun _ _ _ h => h) (Or.inl ⟨by rfl, ?_⟩) (by assumption) ?_
      rotate_left
      · (intro w hSw; obtain ⟨q1, q2, q3, q4⟩ := hSw; go_simp; try with_reducible rfl)
      try simp only [Act.put, List.setIfInBounds_toArray, List.set_cons_zero, List.set_cons_succ]
      refine wpAnyH_take (i := 5) (v := ?_) rfl (by decide +kernel) (by decide +kernel) (by decide +kernel) (fun _ _ _ h => h) (Or.inl ⟨by rfl, ?_⟩) (by assumption) ?_
      rotate_left
      · (intro w hSw; obtain ⟨q1, q2, q3, q4⟩ := hSw; go_simp; try with_reducible rfl)
      try simp only [Act.put, List.setIfInBounds_toArray, List.set_cons_zero, List.set_cons_succ]
      refine wpAnyH_ready (rs := [6]) (by decide +kernel) (by simp) ?_
      refine AllReadyH.cons rfl (fun K hK => ?_) AllReadyH.nil
      go_simp
      refine hK.out _ _ HG0.out (fun hHeld => ?_)
      clear hK K
      try simp only [Act.put, List.setIfInBounds_toArray, List.set_cons_zero, List.set_cons_succ]
      refine wpAnyH_ready (rs := [7]) (by decide +kernel) (by simp) ?_
      refine AllReadyH.cons rfl (fun K hK => ?_) AllReadyH.nil
      go_simp
      refine hK.out _ _ HGE.out (fun hHeld => ?_)
      clear hK K
      try simp only [Act.put, List.setIfInBounds_toArray, List.set_cons_zero, List.set_cons_succ]
      refine wpAnyH_take (i := 8) (v := ?_) rfl (by decide +kernel) (by decide +kernel) (by decide +kernel) (fun _ _ _ h => h) (Or.inl ⟨by rfl, ?_⟩) (by assumption) ?_
      rotate_left
      · (intro w hSw; obtain ⟨q1, q2, q3, q4⟩ := hSw; go_simp; try with_reducible rfl)
      try simp only [Act.put, List.setIfInBounds_toArray, List.set_cons_zero, List.set_cons_succ]
      refine wpAnyH_take (i := 10) (v := ?_) rfl (by decide +kernel) (by decide +kernel) (by decide +kernel) (fun _ _ _ h => h) (Or.inl ⟨by rfl, ?_⟩) (by assumption) ?_
      rotate_left
      · (intro w hSw; obtain ⟨q1, q2, q3, q4⟩ := hSw; go_simp; try with_reducible rfl)
      try simp only [Act.put, List.setIfInBounds_toArray, List.set_cons_zero, List.set_cons_succ]
      refine wpAnyH_ready (rs := [9]) (by decide +kernel) (by simp) ?_
      refine AllReadyH.cons rfl (fun K hK => ?_) AllReadyH.nil
      go_simp
      refine hK.out _ _ HGA.out (fun hHeld => ?_)
      clear hK K
      try simp only [Act.put, List.setIfInBounds_toArray, List.set_cons_zero, List.set_cons_succ]
      refine wpAnyH_ready (rs := [11]) (by decide +kernel) (by simp) ?_
      refine AllReadyH.cons rfl (fun K hK => ?_) AllReadyH.nil
      go_simp
      refine hK.out _ _ HG4.out.1 (fun hHeld => ?_)
      clear hK K
      refine wpAnyH_done (by decide +kernel) ?_ _
      gi_wp2
      clear hHeld
      have hHeld := HG4'.out
      refine wpIn_region_round_held (fun w' => w'.cell? ⟨sz + 4, 0, none⟩ = some (.pointer (some ⟨sz + 3, 0, none⟩)) ∧ w'.cell? ⟨sz + 3, 3, none⟩ = some (.map (some (sz + 2))) ∧ w'.cell? ⟨W.heap.size, 0, none⟩ = some (.int .u32 wk) ∧ w'.cell? ⟨W.heap.size, 1, none⟩ = some (.int .u64 dg)) lp ?letsout2 hmx (by kernel_rfl) hHeld ?_
      case letsout2 => (rintro ⟨a, w, h⟩; exact h)
      simp only [List.size_toArray, List.length_cons, List.length_nil, Nat.reduceAdd]
      refine wpAnyH_take (i := 0) (v := ?_) rfl (by decide +kernel) (by decide +kernel) (by decide +kernel) (fun _ _ _ h => h) (Or.inl ⟨by rfl, ?_⟩) (by assumption) ?_
      rotate_left
      · (intro w hSw; obtain ⟨q1, q2, q3, q4⟩ := hSw; go_simp; try with_reducible rfl)
      try simp only [Act.put, List.setIfInBounds_toArray, List.set_cons_zero, List.set_cons_succ]
      refine wpAnyH_take (i := 1) (v := ?_) rfl (by decide +kernel) (by decide +kernel) (by decide +kernel) (fun _ _ _ h => h) (Or.inl ⟨by rfl, ?_⟩) (by assumption) ?_
      rotate_left
      · (intro w hSw; obtain ⟨q1, q2, q3, q4⟩ := hSw; go_simp; try with_reducible rfl)
      try simp only [Act.put, List.setIfInBounds_toArray, List.set_cons_zero, List.set_cons_succ]
      refine wpAnyH_take (i := 2) (v := ?_) rfl (by decide +kernel) (by decide +kernel) (by decide +kernel) (fun _ _ _ h => h) (Or.inl ⟨by rfl, ?_⟩) (by assumption) ?_
      rotate_left
      · (intro w hSw; obtain ⟨q1, q2, q3, q4⟩ := hSw; go_simp; try with_reducible rfl)
      try simp only [Act.put, List.setIfInBounds_toArray, List.set_cons_zero, List.set_cons_succ]
      refine wpAnyH_take (i := 3) (v := ?_) rfl (by decide +kernel) (by decide +kernel) (by decide +kernel) (fun _ _ _ h => h) (Or.inl ⟨by rfl, ?_⟩) (by assumption) ?_
      rotate_left
      · (intro w hSw; obtain ⟨q1, q2, q3, q4⟩ := hSw; go_simp; try with_reducible rfl)
      try simp only [Act.put, List.setIfInBounds_toArray, List.set_cons_zero, List.set_cons_succ]
      refine wpAnyH_take (i := 4) (v := ?_) rfl (by decide +kernel) (by decide +kernel) (by decide +kernel) (fun _ _ _ h => h) (Or.inl ⟨by rfl, ?_⟩) (by assumption) ?_
      rotate_left
      · (intro w hSw; obtain ⟨q1, q2, q3, q4⟩ := hSw; go_simp; try with_reducible rfl)
      try simp only [Act.put, List.setIfInBounds_toArray, List.set_cons_zero, List.set_cons_succ]
      refine wpAnyH_take (i := 5) (v := ?_) rfl (by decide +kernel) (by decide +kernel) (by decide +kernel) (fun _ _ _ h => h) (Or.inl ⟨by rfl, ?_⟩) (by assumption) ?_
      rotate_left
      · (intro w hSw; obtain ⟨q1, q2, q3, q4⟩ := hSw; go_simp; try with_reducible rfl)
      try simp only [Act.put, List.setIfInBounds_toArray, List.set_cons_zero, List.set_cons_succ]
      refine wpAnyH_ready (rs := [6]) (by decide +kernel) (by simp) ?_
      refine AllReadyH.cons rfl (fun K hK => ?_) AllReadyH.nil
      go_simp
      refine hK.out _ _ HG4'.out (fun hHeld => ?_)
      clear hK K
      try simp only [Act.put, List.setIfInBounds_toArray, List.set_cons_zero, List.set_cons_succ]
      refine wpAnyH_take (i := 7) (v := ?_) rfl (by decide +kernel) (by decide +kernel) (by decide +kernel) (fun _ _ _ h => h) (Or.inl ⟨by rfl, ?_⟩) (by assumption) ?_
      rotate_left
      · (intro w hSw; obtain ⟨q1, q2, q3, q4⟩ := hSw; go_simp; try with_reducible rfl)
      try simp only [Act.put, List.setIfInBounds_toArray, List.set_cons_zero, List.set_cons_succ]
      refine wpAnyH_ready (rs := [8]) (by decide +kernel) (by simp) ?_
      refine AllReadyH.cons rfl (fun K hK => ?_) AllReadyH.nil
      go_simp
      refine hK.out _ _ HG5.out (fun hHeld => ?_)
      clear hK K
      refine wpAnyH_done (by decide +kernel) ?_ _
      exact HFIN.out { tmps := #[], defers := [] }
    · rw [show decide ((blockAt l blk x.1).length = blk) = false by simpa using hfull] at hwh
      have hne : decide (((blockAt l blk x.1).length : Int) = (blk : Int)) = false := by simpa using fun e => hfull (by omega)
      have HG := Lib.hid hg
      have HM := Lib.hid hm
      have HF := Lib.hid hF
      have hi := idxs_no l blk (finNats pre) x.1 hwh
      have hcn := cnts_no l blk (finNats pre) x.1 hwh
      have HI := Lib.hid hi
      have HCN := Lib.hid hcn
      clear hi hcn hwh hib hg hm hF hsh
      dsimp only
      gi_wp2
      refine ⟨KeepsFrom.refl _ _, fun _ _ => rfl, ⟨⟨?_, ?_⟩, HF.out⟩⟩
      · rw [finNats_snoc, HI.out, List.length_append]
        exact HG.out.mono (by omega)
      · rw [finNats_snoc, HCN.out, List.length_append]
        exact HM.out.mono (by omega)
  case done =>
    rintro D ys W hD rfl ⟨⟨hg, hm⟩, hF⟩ hK
    rw [finNats_all] at hg hm
    have cX1 := (cX.keep hF (by omega)).cell (i := 0) rfl
    have hcI := cI.keep hF (by omega)
    have HG := Lib.hid hg
    have HM := Lib.hid hm
    have HF := Lib.hid hF
    have HCI := Lib.hid hcI
    clear hg hm hF hcI
    gi_wp2
    refine ⟨by simp, .inl ⟨_, _, rfl, run_takeDeferred hK, ?_⟩⟩
    have hp : Fr (fun k => k = D) W (W.putObj D (.deferred none)) := fr_putObj W D _
    have hcells : ∀ g T xs, Own W g T xs → g ≠ D := by
      rintro g T xs ⟨fr, h, _⟩ rfl
      rw [hK] at h
      cases h
    refine ⟨.pointer (some ⟨sz + 3, 0, none⟩), by simp [results, Tryz.results121, go_sem], sz + 7, sz + 3, rfl, by omega, ⟨sz + 1, sz + 2, _, HCI.out.keep hp (hcells _ _ _ HCI.out), HG.out.keep hp (fun b hb => ⟨by omega, .inr ⟨.deferred (some []), by rw [show b = D from hb]; exact hK, rfl⟩⟩), HM.out.keep hp (by omega)⟩, ?_⟩
    exact (hF0.step HF.out (fun k hk hl => by omega)).putObj (by omega) _
  case stop =>
    rintro D c pre W _ _ h _
    exact h.elim
end Go.Proofs.YtlcdgbhigfgehabGreatDoor
