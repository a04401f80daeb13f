/- The walk of delta.Diff; its fronts in mirror and plain. -/
import Derived.Test.YtlcdgbhigfgehabGreatDoorFind
import Derived.Test.YtlcdgbhigfgehabGreatDoorTBlock
import Derived.Test.YtlcdgbhigfgehabGreatDoorDiffStep
import Derived.Test.YtlcdgbhigfgehabGreatDoorPlainApply
namespace Go.Proofs.YtlcdgbhigfgehabGreatDoor
open Go.RowKit
set_option maxRecDepth 100000

theorem IsIndex.keep0 {w w1 : World} {B p : Nat} {v : Value} {b : List UInt8} {blk : Nat} (h : IsIndex w B p v b blk) (k : Fr (fun _ => False) w w1) : IsIndex w1 B p v b blk := by
  obtain ⟨mb, mw, n, h1, h2, h3⟩ := h.maps
  exact ⟨mb, mw, n, h1.keep k id, h2.keep k (fun _ h => h.elim), h3.keep k id⟩
theorem IsIndex.lt {w : World} {B p : Nat} {v : Value} {b : List UInt8} {blk : Nat} (h : IsIndex w B p v b blk) : p < w.heap.size := by
  obtain ⟨mb, mw, n, h1, h2, h3⟩ := h.maps
  exact h1.lt
/-- Between two steps of Diff: the world W1 is that behind the index. -/
structure DI (W1 wr : World) (tb : Nat) (v1 : Value) (base data : List UInt8) (blk : Nat) (L : List Tok) (f i : Nat) : Prop where
  gath : Gath wr (tb + 1) tb v1 f L
  good : Good L f
  at_ : AtI base data blk L f i
  fr : Fr (fun _ => False) W1 wr
  fi : f ≤ i
  big : tb < wr.heap.size
theorem GS.or {w : World} {B tb k : Nat} (h : GS w B tb k) : k = tb ∨ B ≤ k := by
  rcases h with h | h
  · exact .inl h
  · exact .inr h.1
def DOut (base data : List UInt8) (blk : Nat) (w : World) (e : Ending) (w' : World) : Prop :=
  ∃ lv l, e = .returned (.tuple #[lv, .nilIface]) ∧ OToks w' w.heap.size lv l ∧ l.map (·.1) = diffOf base data blk ∧ Fr (fun _ => False) w w'

set_option maxHeartbeats 8000000 in
theorem diff_good (v0 v1 : Value) (base data : List UInt8) (blk : Nat) (w : World) (h0 : IsB w v0 base) (h1 : IsB w v1 data) (hs0 : sized blk base.length = 0) (hs1 : sized blk data.length = 0) :
    Calls Tryz.prog 77 #[v0, v1, .int .i64 blk] w (DOut base data blk w) := by
  obtain ⟨a0, c0, rfl, hc0, hm0⟩ := h0.shape
  obtain ⟨a1, c1, rfl, hc1, hm1⟩ := h1.shape
  have hk := check_row blk w.heap.size 2 [(a0, base.length, c0), (a1, data.length, c1)] (w.alloc (.cells #[.slice a0 base.length c0, .slice a1 data.length c1] 25))
    (fun i h => by
      have : i = 0 ∨ i = 1 := by simp at h; omega
      rcases this with rfl | rfl <;> simp) (by simp) (by intro x hx; simp at hx; rcases hx with rfl | rfl <;> simp <;> omega)
  rw [show [(a0, base.length, c0), (a1, data.length, c1)].map (·.2.1) = [base.length, data.length] from rfl, checkK_two, hs0, if_pos rfl, hs1, kindErr_zero] at hk
  have hblk : 1 ≤ blk ∧ blk ≤ 64 ∧ base.length ≤ 300 := by
    unfold sized at hs0
    split at hs0
    · omega
    · split at hs0 <;> omega
  have hdl : data.length ≤ 300 := by
    unfold sized at hs1
    split at hs1
    · omega
    · split at hs1 <;> omega
  have HK := Lib.hid hk
  have H0 := Lib.hid h0
  have H1 := Lib.hid h1
  clear hk h0 h1 hs0 hs1
  go_enter Tryz.func77, Tryz.ntmps77
  go_wp2_with fail
  refine HK.out.mono ?_
  rintro e w' ⟨rfl, rfl⟩
  go_wp2_with fail
  have hfa : Fr (fun _ => False) w (w.alloc (.cells #[.slice a0 base.length c0, .slice a1 data.length c1] 25)) := (Fr.refl _ _).alloc _
  refine (newIndex_any _ base blk _ (H0.out.keep0 hfa) (by omega) (by omega) (by omega)).mono ?_
  rintro e W1 ⟨BI, p, rfl, hp, hix, hfi⟩
  have HF1 := Lib.hid (hfa.step hfi (fun _ h _ => h))
  have hz1 := HF1.out.size
  have HIX := Lib.hid hix
  have hplt := hix.lt
  clear hfa hfi hix
  go_wp2_with fail
  obtain ⟨tb, htb⟩ : ∃ tb, W1.heap.size = tb := ⟨_, rfl⟩
  have hst : DI W1 (W1.alloc (.cells #[.slice a1 data.length c1, .slice none 0 0, .int .i64 0] 235)) tb (.slice a1 data.length c1) base data blk [] 0 0 := by
    subst htb
    exact ⟨⟨_, _, Own.alloc _ _ _, OToks.nil _ _, rfl⟩, Good.start, atI_start _ _ _, (Fr.refl _ _).alloc _, Nat.le_refl _, by simp⟩
  have HST := Lib.hid hst
  clear hst
  rw [htb]
  have HTB := Lib.hid htb
  clear htb
  go_loopw [11, 12, 13] (fun fr wk iv wr => ∃ (i f : Nat) (L : List Tok) (b : Bool) (k : Nat), i ≤ data.length ∧ fr = .bool b ∧ wk = .int .u32 k ∧ iv = .int .i64 i ∧ k < 4294967296 ∧ (b = false → i + blk ≤ data.length → k = weakOf ((data.drop i).take blk)) ∧ DI W1 wr tb (.slice a1 data.length c1) base data blk L f i)
    (fun _ _ iv _ => data.length + 1 - (intOf iv).toNat)
  case atStart => exact ⟨0, 0, [], true, 0, Nat.zero_le _, rfl, rfl, rfl, by omega, fun h => by simp at h, HST.out⟩
  case round =>
    obtain ⟨i, f, L, b, k, hi, rfl, rfl, rfl, hk32, hroll, hdi⟩ := hrel
    have HDI := Lib.hid hdi
    have hbig := hdi.big
    have hfi := hdi.fi
    have HROLL := Lib.hid hroll
    have hV1 := (H1.out.keep0 HF1.out).keep0 hdi.fr
    have HV1 := Lib.hid hV1
    have HIXr := Lib.hid (HIX.out.keep0 hdi.fr)
    have hV0 := (H0.out.keep0 HF1.out).keep0 hdi.fr
    have HV0 := Lib.hid hV0
    clear hdi hroll hV1 hV0
    by_cases hin : i + blk ≤ data.length
    · have hwl : ((data.drop i).take blk).length = blk := by simp; omega
      rcases HV1.out.cases with ⟨-, rfl⟩ | ⟨db, dof, dcap, hv1e, -, hdm, -⟩
      · simp at hin; omega
      simp only [Value.slice.injEq, true_and] at hv1e
      obtain ⟨rfl, rfl⟩ := hv1e
      have hpart := HV1.out.part i (i + blk) (i + blk - i) (by omega) (by omega) (by omega) (by unfold maxLen; omega)
      rw [Nat.add_sub_cancel_left] at hpart
      have HP := Lib.hid hpart
      have HWL := Lib.hid hwl
      have hne : ¬ (blk = 0) := by omega
      have i0 : (0 : Int) ≤ (i : Int) := by omega
      have i1 : (i : Int) + blk ≤ (data.length : Int) := by omega
      have i2 : (i : Int) + blk ≤ (c1 : Int) := by omega
      have i3 : (i : Int) ≤ (i : Int) + blk := by omega
      have i4 : ((i : Int) + blk).toNat = i + blk := by omega
      have i5 : (i : Int) + blk ≤ 600 := by omega
      have hpt := placeOf_take base blk (data.drop i) (by simp; omega)
      have HPT := Lib.hid hpt
      have hrs : i + blk < data.length → rollOf (weakOf ((data.drop i).take blk)) blk (data.getD i 0).toNat (data.getD (i + blk) 0).toNat = weakOf ((data.drop (i + 1)).take blk) := fun h => by
        rw [← weak_roll_seg data i blk (by omega) h, List.getD_eq_getElem?_getD, List.getD_eq_getElem?_getD, List.getElem?_eq_getElem (by omega), List.getElem?_eq_getElem (by omega)]
        rfl
      have HRS := Lib.hid hrs
      clear hpart hwl hpt hrs
      have hwk0 := weakOf_lt ((data.drop i).take blk)
      generalize hW : (data.drop i).take blk = wl at *
      have hfd := Lib.hid (find_any wr BI p _ _ base wl blk HIXr.out HV0.out HP.out (by omega) (by omega) (by omega) HWL.out)
      generalize hWK : weakOf wl = wk at *
      cases hpl : placeOf base blk wl with
      | some kk =>
        have hr : findInt base blk wl = kk := by unfold findInt; rw [hpl]
        rw [hr] at hfd
        have hkk := (placeOf_some base blk (by omega) _ kk hpl).2.1
        have hkk3 : kk ≤ 300 := by
          have : (kk + 1) * 1 ≤ (kk + 1) * blk := Nat.mul_le_mul_left _ (by omega)
          omega
        have HPL := Lib.hid (HPT.out.trans hpl)
        clear hpl hr hkk
        cases b with
        | true =>
          have hwc := Lib.hid (weak_any _ _ wr HP.out)
          have HWK := Lib.hid hWK
          clear hW hWK
          go_wp2_with fail
          refine hwc.out.mono ?_
          rintro e w' ⟨rfl, rfl⟩
          rw [HWK.out]
          have hk32' := hwk0
          go_wp2_with fail
          refine hfd.out.mono ?_
          rintro e w' ⟨rfl, nq, rfl⟩
          go_wp2_with fail
          have hdrw : Fr (fun _ => False) wr (wr.drewN nq) := (Fr.refl _ _).drewN nq
          have hgl := HDI.out.good.len
          have hmid := HDI.out.good.mid data hfi
          refine (upTo_any (wr.drewN nq) (tb + 1) tb _ data f i L (HDI.out.gath.keep0 hdrw) (by have := hdrw.size; omega) hfi hi (by omega) (by omega) (HV1.out.keep0 hdrw) (fun b hb => by have := H1.out.lt0 b hb; have := HTB.out; omega) _ rfl).mono ?_
          rintro e W2 ⟨rfl, hg2, hf2⟩
          go_wp2_with fail
          have hz2 := hf2.size
          refine (tblock_any W2 (tb + 1) tb _ i _ hg2 (by have := hdrw.size; omega) (by omega) kk (by omega) (fun t ht => ⟨(hmid.1 t ht).1, by have := (hmid.1 t ht).2; omega⟩)).mono ?_
          rintro e W3 ⟨rfl, hg3, hf3⟩
          have hc3 := hg3.from_cell
          have hz3 := hf3.size
          have hfz3 : W3.frozen? ⟨tb, 2, none⟩ = false := by
            obtain ⟨lv3, l3, o3, -⟩ := hg3.mem
            exact o3.free 2 (by simp)
          have HG3 := Lib.hid hg3
          have HF2 := Lib.hid hf2
          have HF3 := Lib.hid hf3
          have HDW := Lib.hid hdrw
          clear hg2 hg3 hf2 hf3 hmid hdrw
          go_wp2_with fail
          obtain ⟨q1, q2⟩ := HG3.out.from_ (i + blk) ((i : Int) + blk) (by simp)
          have hall : Fr (fun k => k = tb ∨ tb + 1 ≤ k) wr (W3.setCell ⟨tb, 2, none⟩ (.int .i64 ((i : Int) + blk))) :=
            (((HDW.out.mono (fun _ h _ => h.elim)).step HF2.out (fun k hk _ => hk.or)).step HF3.out (fun k hk _ => hk.or)).step q2 (fun k hk _ => .inl hk)
          refine ⟨⟨i + blk, i + blk, _, true, wk, hin, rfl, rfl, by simp, hk32', fun h => by simp at h, ⟨q1, HDI.out.good.block data hfi hkk3 (by omega), atI_some HDI.out.at_ (by omega) (by omega) HPL.out, HDI.out.fr.step hall (fun k hk hl => by have := HTB.out; omega), Nat.le_refl _, by have := hall.size; omega⟩⟩, by simp [intOf]; omega⟩
        | false =>
          obtain rfl : k = wk := HROLL.out rfl hin
          clear hW hWK
          have hk32' := hk32
          go_wp2_with fail
          refine hfd.out.mono ?_
          rintro e w' ⟨rfl, nq, rfl⟩
          go_wp2_with fail
          have hdrw : Fr (fun _ => False) wr (wr.drewN nq) := (Fr.refl _ _).drewN nq
          have hgl := HDI.out.good.len
          have hmid := HDI.out.good.mid data hfi
          refine (upTo_any (wr.drewN nq) (tb + 1) tb _ data f i L (HDI.out.gath.keep0 hdrw) (by have := hdrw.size; omega) hfi hi (by omega) (by omega) (HV1.out.keep0 hdrw) (fun b hb => by have := H1.out.lt0 b hb; have := HTB.out; omega) _ rfl).mono ?_
          rintro e W2 ⟨rfl, hg2, hf2⟩
          go_wp2_with fail
          have hz2 := hf2.size
          refine (tblock_any W2 (tb + 1) tb _ i _ hg2 (by have := hdrw.size; omega) (by omega) kk (by omega) (fun t ht => ⟨(hmid.1 t ht).1, by have := (hmid.1 t ht).2; omega⟩)).mono ?_
          rintro e W3 ⟨rfl, hg3, hf3⟩
          have hc3 := hg3.from_cell
          have hz3 := hf3.size
          have hfz3 : W3.frozen? ⟨tb, 2, none⟩ = false := by
            obtain ⟨lv3, l3, o3, -⟩ := hg3.mem
            exact o3.free 2 (by simp)
          have HG3 := Lib.hid hg3
          have HF2 := Lib.hid hf2
          have HF3 := Lib.hid hf3
          have HDW := Lib.hid hdrw
          clear hg2 hg3 hf2 hf3 hmid hdrw
          go_wp2_with fail
          obtain ⟨q1, q2⟩ := HG3.out.from_ (i + blk) ((i : Int) + blk) (by simp)
          have hall : Fr (fun k => k = tb ∨ tb + 1 ≤ k) wr (W3.setCell ⟨tb, 2, none⟩ (.int .i64 ((i : Int) + blk))) :=
            (((HDW.out.mono (fun _ h _ => h.elim)).step HF2.out (fun k hk _ => hk.or)).step HF3.out (fun k hk _ => hk.or)).step q2 (fun k hk _ => .inl hk)
          refine ⟨⟨i + blk, i + blk, _, true, k, hin, rfl, rfl, by simp, hk32', fun h => by simp at h, ⟨q1, HDI.out.good.block data hfi hkk3 (by omega), atI_some HDI.out.at_ (by omega) (by omega) HPL.out, HDI.out.fr.step hall (fun k hk hl => by have := HTB.out; omega), Nat.le_refl _, by have := hall.size; omega⟩⟩, by simp [intOf]; omega⟩
      | none =>
        have hr : findInt base blk wl = -1 := by unfold findInt; rw [hpl]
        rw [hr] at hfd
        have HPL := Lib.hid (HPT.out.trans hpl)
        clear hpl hr
        cases b with
        | true =>
          have hwc := Lib.hid (weak_any _ _ wr HP.out)
          have HWK := Lib.hid hWK
          clear hW hWK
          go_wp2_with fail
          refine hwc.out.mono ?_
          rintro e w' ⟨rfl, rfl⟩
          rw [HWK.out]
          have hk32' := hwk0
          go_wp2_with fail
          refine hfd.out.mono ?_
          rintro e w' ⟨rfl, nq, rfl⟩
          have hdrw : Fr (fun _ => False) wr (wr.drewN nq) := (Fr.refl _ _).drewN nq
          have HDW := Lib.hid hdrw
          clear hdrw
          by_cases hlast : i + blk < data.length
          · have hl2 : (i : Int) + blk < (data.length : Int) := by omega
            obtain ⟨hvv, hcells⟩ : True ∧ ∀ q, q < data.length → wr.cell? ⟨db, dof + q, none⟩ = some (.int .u8 (data.getD q 0).toNat) := by
              rcases HV1.out.cases with ⟨h, -⟩ | ⟨db', dof', dc', h, -, -, h'⟩
              · simp at h
              · simp only [Value.slice.injEq, Option.some.injEq, Addr.mk.injEq, and_true, true_and] at h
                obtain ⟨⟨rfl, rfl⟩, rfl⟩ := h
                exact ⟨trivial, h'⟩
            have y0 := hcells i (by omega)
            have y1 := hcells (i + blk) (by omega)
            have hu0 := (data.getD i 0).toNat_lt
            have hu1 := (data.getD (i + blk) 0).toNat_lt
            have HR2 := Lib.hid (HRS.out hlast)
            generalize (data.getD i 0).toNat = u0 at *
            generalize (data.getD (i + blk) 0).toNat = u1 at *
            have hrl := Lib.hid (fun m => (roll_any (wk : Int) blk u0 u1 (wr.drewN m) (by omega) (by omega) (by omega) (by omega) (by omega) (by omega)).mono (fun (e : Ending) (w' : World) (h : e = .returned (.int .u32 (rollOf wk blk u0 u1)) ∧ wr.drewN m = w') => (⟨h.1, h.2.symm⟩ : e = .returned (.int .u32 (rollOf wk blk u0 u1)) ∧ w' = wr.drewN m)))
            have w1 : IntKind.i64.wrap ((i : Int) + blk) = (i : Int) + blk := IntWalk.i64_in _ (by omega)
            have l0 : (i : Int) < (data.length : Int) := by omega
            have l1 : (0 : Int) ≤ (i : Int) + blk := by omega
            clear hcells hvv
            go_wp2_with fail
            go_quiet ((go_at_call 126; exact (hrl.out _).mono (fun _ _ h => ⟨h.1, _, h.2⟩)))
            go_wp2_with fail
            have hd2 : ∀ m, Fr (fun _ => False) wr (wr.drewN m) := fun m => (Fr.refl _ _).drewN m
            refine ⟨⟨i + 1, f, L, false, weakOf ((data.drop (i + 1)).take blk), by omega, rfl, by rw [HR2.out], by simp, weakOf_lt _, fun _ _ => rfl, ⟨HDI.out.gath.keep0 (hd2 _), HDI.out.good, atI_none HDI.out.at_ HDI.out.good.nolit hfi (by omega) HPL.out, HDI.out.fr.step (hd2 _) (fun _ h _ => h), by omega, by simpa using hbig⟩⟩, by simp [intOf]; omega⟩
          · have hl2 : ¬ ((i : Int) + blk < (data.length : Int)) := by omega
            go_wp2_with fail
            refine ⟨⟨i + 1, f, L, false, wk, by omega, rfl, rfl, by simp, hk32', fun _ h => by omega, ⟨HDI.out.gath.keep0 HDW.out, HDI.out.good, atI_none HDI.out.at_ HDI.out.good.nolit hfi (by omega) HPL.out, HDI.out.fr.step HDW.out (fun _ h _ => h), by omega, by simpa using hbig⟩⟩, by simp [intOf]; omega⟩
        | false =>
          obtain rfl : k = wk := HROLL.out rfl hin
          clear hW hWK
          have hk32' := hk32
          go_wp2_with fail
          refine hfd.out.mono ?_
          rintro e w' ⟨rfl, nq, rfl⟩
          have hdrw : Fr (fun _ => False) wr (wr.drewN nq) := (Fr.refl _ _).drewN nq
          have HDW := Lib.hid hdrw
          clear hdrw
          by_cases hlast : i + blk < data.length
          · have hl2 : (i : Int) + blk < (data.length : Int) := by omega
            obtain ⟨hvv, hcells⟩ : True ∧ ∀ q, q < data.length → wr.cell? ⟨db, dof + q, none⟩ = some (.int .u8 (data.getD q 0).toNat) := by
              rcases HV1.out.cases with ⟨h, -⟩ | ⟨db', dof', dc', h, -, -, h'⟩
              · simp at h
              · simp only [Value.slice.injEq, Option.some.injEq, Addr.mk.injEq, and_true, true_and] at h
                obtain ⟨⟨rfl, rfl⟩, rfl⟩ := h
                exact ⟨trivial, h'⟩
            have y0 := hcells i (by omega)
            have y1 := hcells (i + blk) (by omega)
            have hu0 := (data.getD i 0).toNat_lt
            have hu1 := (data.getD (i + blk) 0).toNat_lt
            have HR2 := Lib.hid (HRS.out hlast)
            generalize (data.getD i 0).toNat = u0 at *
            generalize (data.getD (i + blk) 0).toNat = u1 at *
            have hrl := Lib.hid (fun m => (roll_any (k : Int) blk u0 u1 (wr.drewN m) (by omega) (by omega) (by omega) (by omega) (by omega) (by omega)).mono (fun (e : Ending) (w' : World) (h : e = .returned (.int .u32 (rollOf k blk u0 u1)) ∧ wr.drewN m = w') => (⟨h.1, h.2.symm⟩ : e = .returned (.int .u32 (rollOf k blk u0 u1)) ∧ w' = wr.drewN m)))
            have w1 : IntKind.i64.wrap ((i : Int) + blk) = (i : Int) + blk := IntWalk.i64_in _ (by omega)
            have l0 : (i : Int) < (data.length : Int) := by omega
            have l1 : (0 : Int) ≤ (i : Int) + blk := by omega
            clear hcells hvv
            go_wp2_with fail
            go_quiet ((go_at_call 126; exact (hrl.out _).mono (fun _ _ h => ⟨h.1, _, h.2⟩)))
            go_wp2_with fail
            have hd2 : ∀ m, Fr (fun _ => False) wr (wr.drewN m) := fun m => (Fr.refl _ _).drewN m
            refine ⟨⟨i + 1, f, L, false, weakOf ((data.drop (i + 1)).take blk), by omega, rfl, by rw [HR2.out], by simp, weakOf_lt _, fun _ _ => rfl, ⟨HDI.out.gath.keep0 (hd2 _), HDI.out.good, atI_none HDI.out.at_ HDI.out.good.nolit hfi (by omega) HPL.out, HDI.out.fr.step (hd2 _) (fun _ h _ => h), by omega, by simpa using hbig⟩⟩, by simp [intOf]; omega⟩
          · have hl2 : ¬ ((i : Int) + blk < (data.length : Int)) := by omega
            go_wp2_with fail
            refine ⟨⟨i + 1, f, L, false, k, by omega, rfl, rfl, by simp, hk32', fun _ h => by omega, ⟨HDI.out.gath.keep0 HDW.out, HDI.out.good, atI_none HDI.out.at_ HDI.out.good.nolit hfi (by omega) HPL.out, HDI.out.fr.step HDW.out (fun _ h _ => h), by omega, by simpa using hbig⟩⟩, by simp [intOf]; omega⟩
    · have hin' : ¬ ((i : Int) + blk ≤ (data.length : Int)) := by omega
      have i5 : (i : Int) + blk ≤ 600 := by omega
      have i0 : (0 : Int) ≤ (i : Int) := by omega
      have hgl := HDI.out.good.len
      go_wp2_with fail
      refine (upTo_any wr (tb + 1) tb _ data f data.length L HDI.out.gath (by omega) (by omega) (Nat.le_refl _) (by omega) (by omega) HV1.out (fun b hb => by have := H1.out.lt0 b hb; have := HTB.out; omega) _ rfl).mono ?_
      rintro e W2 ⟨rfl, hg2, hf2⟩
      rw [atI_end HDI.out.at_ HDI.out.good.nolit hfi hi (by omega)] at hg2
      have hz2 := hf2.size
      obtain ⟨lv, l, ho, hot, hl⟩ := hg2.mem
      have y1 := ho.cell (i := 1) rfl
      have HOT := Lib.hid hot
      have HLL := Lib.hid hl
      have HF2 := Lib.hid hf2
      clear ho hot hl hg2 hf2
      go_wp2_with fail
      go_ret2
      exact ⟨lv, l, rfl, HOT.out.lift (by have := HTB.out; omega), HLL.out, HF1.out.step (HDI.out.fr.step HF2.out (fun k hk hl => by have := HTB.out; rcases hk with h | h <;> omega)) (fun _ h _ => h)⟩
end Go.Proofs.YtlcdgbhigfgehabGreatDoor
