/- Tree: is a list of files a tree? The program's; and the document's. -/
import Derived.Test.YtlcdgbhigfgehabGreatDoorFilMem
import Derived.Test.YtlcdgbhigfgehabGreatDoorReader
import Derived.Test.YtlcdgbhigfgehabGreatDoorTold
import Derived.BigQuiet
import Derived.Test.YtlcdgbhigfgehabGreatDoorREntry
namespace Go.Proofs.YtlcdgbhigfgehabGreatDoor
open Go.RowKit
set_option maxRecDepth 100000

/-- The name ahead of place k. -/
def nameAt (l : List Fil) (k : Nat) : List UInt8 := if k = 0 then [] else (l[k - 1]?.map (·.name)).getD []
theorem nameAt_succ (l : List Fil) (k : Nat) (h : k < l.length) : nameAt l (k + 1) = l[k].name := by
  unfold nameAt
  rw [if_neg (by omega), Nat.add_sub_cancel, List.getElem?_eq_getElem h]; rfl
theorem treeF_step (l : List Fil) (k : Nat) (h : k < l.length) : treeF k (nameAt l k) (l.drop k) = if filBad k (nameAt l k) l[k] then some l[k].name else treeF (k + 1) (nameAt l (k + 1)) (l.drop (k + 1)) := by
  rw [List.drop_eq_getElem_cons h, nameAt_succ l k h]; rfl
/-- The error of a tree. -/
def errTree (o : Option (List UInt8)) : Err := match o with | none => .none | some n => .file ⟨n.toArray⟩ 4
theorem leq_behind (a b : List UInt8) : (Op.bytesLess a b || a == b) = !(behind a b) := by unfold behind; simp
set_option maxHeartbeats 1000000 in
theorem tree_any (v : Value) (l : List (Fil × Value)) (B : Nat) (w : World) (h : Fils w B v l) (hn : ∀ p ∈ l, p.1.name.length ≤ 1000000) (hd : ∀ p ∈ l, p.1.data.length ≤ 1000000) :
    Calls Tryz.prog 43 #[v] w fun e w' => ∃ x, e = .returned x ∧ IsErr w' x (errTree (treeErr (l.map (·.1)))) ∧ Fr (fun _ => False) w w' := by
  have hL := h.vec.len
  unfold maxLen at hL
  have H := Lib.hid h
  have HN := Lib.hid hn
  have HD := Lib.hid hd
  obtain ⟨va, vc, hq, -⟩ := h.vec.shape
  subst hq
  clear h hn hd
  go_enter Tryz.func43, Tryz.ntmps43
  go_wp2_with fail
  go_loopw [7] (fun iv wr => ∃ k : Nat, k ≤ l.length ∧ iv = .int .i64 k ∧ Fr (fun _ => False) w wr ∧ treeErr (l.map (·.1)) = treeF k (nameAt (l.map (·.1)) k) ((l.map (·.1)).drop k)) (fun iv _ => l.length - (intOf iv).toNat)
  case atStart => exact ⟨0, Nat.zero_le _, rfl, Fr.refl _ _, rfl⟩
  case round =>
    obtain ⟨k, hk, rfl, hfr, htr⟩ := hrel
    have HFR := Lib.hid hfr
    have HTR := Lib.hid htr
    clear htr
    by_cases hlt : k < l.length
    · have hfl := H.out.keep0 hfr
      obtain ⟨g, cap, hq, e0, e1, hgl⟩ := hfl.get k hlt
      simp only [Value.slice.injEq, true_and] at hq
      obtain ⟨rfl, rfl⟩ := hq
      have hst := treeF_step (l.map (·.1)) k (by simpa using hlt)
      rw [List.getElem_map] at hst
      have hnl := HN.out l[k] (List.getElem_mem _)
      have hdl := HD.out l[k] (List.getElem_mem _)
      obtain ⟨da, dc, hdv, -⟩ := (hfl.data l[k] (List.getElem_mem _)).shape
      rw [hdv] at e1
      have hp0 : 0 < k → ∃ pn : ByteArray, nameAt (l.map (·.1)) k = pn.data.toList ∧ wr.cell? ⟨g, (k - 1) * 2, none⟩ = some (.string pn) := fun h0 => by
        obtain ⟨g', cap', hq', e0', -⟩ := hfl.get (k - 1) (by omega)
        simp only [Value.slice.injEq, true_and, Option.some.injEq, Addr.mk.injEq, and_true] at hq'
        obtain ⟨rfl, -⟩ := hq'
        refine ⟨_, ?_, e0'⟩
        obtain ⟨j, rfl⟩ : ∃ j, k = j + 1 := ⟨k - 1, by omega⟩
        rw [nameAt_succ _ j (by simp; omega)]
        simp
      have HP := Lib.hid hp0
      have HST := Lib.hid hst
      obtain ⟨nm, hnm⟩ : ∃ nm : ByteArray, nm = ⟨l[k].1.name.toArray⟩ := ⟨_, rfl⟩
      have hnd : l[k].1.name = nm.data.toList := by rw [hnm]
      rw [← hnm] at e0
      have HND := Lib.hid hnd
      rw [hnd] at HST hnl
      clear hfl hp0 hst hdv hnm hnd hfr
      generalize hpl : nameAt (l.map (·.1)) k = pl at *
      obtain ⟨dl, hdle⟩ : ∃ dl, l[k].1.data = dl := ⟨_, rfl⟩
      have HDL := Lib.hid hdle
      have HPL := Lib.hid hpl
      rw [hdle] at hdl e1
      have hnm2 : nm.data.toList.length = nm.size := by simp
      rw [hnm2] at hnl
      clear hdle hpl hnm2
      have hbad : filBad k pl l[k].1 = true → ∀ nq, ∃ x, Ending.returned (Value.iface 84 (.pointer (some ⟨wr.heap.size + 1, 0, none⟩))) = Ending.returned x ∧ IsErr (((wr.alloc (.cells #[.string nm, .slice da dl.length dc] 37)).drewN nq).alloc (.cells #[.string nm, .int .i64 4] 88)) x (errTree (treeErr (l.map (·.1)))) ∧
          Fr (fun _ => False) w (((wr.alloc (.cells #[.string nm, .slice da dl.length dc] 37)).drewN nq).alloc (.cells #[.string nm, .int .i64 4] 88)) := fun hb nq => by
        refine ⟨_, rfl, ?_, ((HFR.out.alloc _).drewN _).alloc _⟩
        rw [HTR.out, HST.out, if_pos hb]
        refine ⟨wr.heap.size + 1, rfl, ?_⟩
        rw [ba_eq]
        have := Own.alloc ((wr.alloc (.cells #[.string nm, .slice da dl.length dc] 37)).drewN nq) #[.string nm, .int .i64 4] 88
        simpa using this
      have hgood : filBad k pl l[k].1 = false → ∀ nq, (∃ k', k' ≤ l.length ∧ Value.int .i64 ((k : Int) + 1) = .int .i64 k' ∧ Fr (fun _ => False) w ((wr.alloc (.cells #[.string nm, .slice da dl.length dc] 37)).drewN nq) ∧ treeErr (l.map (·.1)) = treeF k' (nameAt (l.map (·.1)) k') ((l.map (·.1)).drop k')) ∧ l.length - (intOf (Value.int .i64 ((k : Int) + 1))).toNat < l.length - (intOf (Value.int .i64 (k : Int))).toNat := fun hb nq => by
        refine ⟨⟨k + 1, by omega, by go_num, (HFR.out.alloc _).drewN _, ?_⟩, by simp [intOf]; omega⟩
        rw [HTR.out, HST.out, if_neg (by rw [hb]; decide)]
      have HBAD := Lib.hid hbad
      have HGOOD := Lib.hid hgood
      clear hbad hgood
      cases hisn : isName nm.data.toList with
      | false =>
        have HIN := Lib.hid hisn
        have HB := Lib.hid (show filBad k pl l[k].1 = true by unfold filBad; rw [HND.out, HIN.out]; rfl)
        go_wp2_with fail
        go_quiet ((go_at_call 74; exact Calls.quiet_of_same ((named_any _ _ (by omega)).mono (fun _ _ h => ⟨h.1, h.2.symm⟩))))
        go_wp2_with fail
        go_ret
        exact HBAD.out HB.out _
      | true =>
        have HIN := Lib.hid hisn
        by_cases hk0 : 0 < k
        · obtain ⟨j, rfl⟩ : ∃ j, k = j + 1 := ⟨k - 1, by omega⟩
          obtain ⟨pn, hpn, p0⟩ := HP.out (by omega)
          rw [Nat.add_sub_cancel] at p0
          have HPN := Lib.hid hpn
          clear hpn
          have hk0b : decide ((0 : Int) < ((j + 1 : Nat) : Int)) = true := by simp
          have hlb := leq_behind nm.data.toList pn.data.toList
          rw [← ByteArray.toList_eq, ← ByteArray.toList_eq] at hlb
          cases hbh : behind nm.data.toList pn.data.toList with
          | false =>
            rw [ByteArray.toList_eq, ByteArray.toList_eq, hbh, ← ByteArray.toList_eq, ← ByteArray.toList_eq] at hlb
            have HBH := Lib.hid hbh
            clear hbh
            have HB := Lib.hid (show filBad (j + 1) pl l[j + 1].1 = true by unfold filBad; rw [HND.out, HIN.out, HPN.out, HBH.out]; simp)
            go_wp2_with fail
            go_quiet ((go_at_call 74; exact Calls.quiet_of_same ((named_any _ _ (by omega)).mono (fun _ _ h => ⟨h.1, h.2.symm⟩))))
            go_wp2_with fail
            go_ret
            exact HBAD.out HB.out _
          | true =>
            rw [ByteArray.toList_eq, ByteArray.toList_eq, hbh, ← ByteArray.toList_eq, ← ByteArray.toList_eq] at hlb
            have HBH := Lib.hid hbh
            clear hbh
            by_cases hd3 : 300 < dl.length
            · have hd3b : decide ((300 : Int) < (dl.length : Int)) = true := by simp; omega
              have HB := Lib.hid (show filBad (j + 1) pl l[j + 1].1 = true by unfold filBad; rw [HND.out, HIN.out, HDL.out, HPN.out, HBH.out]; simp [hd3])
              go_wp2_with fail
              go_quiet ((go_at_call 74; exact Calls.quiet_of_same ((named_any _ _ (by omega)).mono (fun _ _ h => ⟨h.1, h.2.symm⟩))))
              go_wp2_with fail
              go_ret
              exact HBAD.out HB.out _
            · have hd3b : decide ((300 : Int) < (dl.length : Int)) = false := by simp; omega
              by_cases hk8 : 8 ≤ j + 1
              · have hk8b : decide ((8 : Int) ≤ ((j + 1 : Nat) : Int)) = true := by simp; omega
                have HB := Lib.hid (show filBad (j + 1) pl l[j + 1].1 = true by unfold filBad; rw [HND.out, HIN.out, HDL.out, HPN.out, HBH.out]; simp [hk8])
                go_wp2_with fail
                go_quiet ((go_at_call 74; exact Calls.quiet_of_same ((named_any _ _ (by omega)).mono (fun _ _ h => ⟨h.1, h.2.symm⟩))))
                go_wp2_with fail
                go_ret
                exact HBAD.out HB.out _
              · have hk8b : decide ((8 : Int) ≤ ((j + 1 : Nat) : Int)) = false := by simp; omega
                have HG := Lib.hid (show filBad (j + 1) pl l[j + 1].1 = false by unfold filBad; rw [HND.out, HIN.out, HDL.out, HPN.out, HBH.out]; simp; omega)
                go_wp2_with fail
                go_quiet ((go_at_call 74; exact Calls.quiet_of_same ((named_any _ _ (by omega)).mono (fun _ _ h => ⟨h.1, h.2.symm⟩))))
                go_wp2_with fail
                exact HGOOD.out HG.out _
        · have hk0b : decide ((0 : Int) < (k : Int)) = false := by simp; omega
          have hk8b : decide ((8 : Int) ≤ (k : Int)) = false := by simp; omega
          by_cases hd3 : 300 < dl.length
          · have hd3b : decide ((300 : Int) < (dl.length : Int)) = true := by simp; omega
            have HB := Lib.hid (show filBad k pl l[k].1 = true by unfold filBad; rw [HND.out, HIN.out, HDL.out]; simp [hd3])
            go_wp2_with fail
            go_quiet ((go_at_call 74; exact Calls.quiet_of_same ((named_any _ _ (by omega)).mono (fun _ _ h => ⟨h.1, h.2.symm⟩))))
            go_wp2_with fail
            go_ret
            exact HBAD.out HB.out _
          · have hd3b : decide ((300 : Int) < (dl.length : Int)) = false := by simp; omega
            have HG := Lib.hid (show filBad k pl l[k].1 = false by unfold filBad; rw [HND.out, HIN.out, HDL.out]; simp; omega)
            go_wp2_with fail
            go_quiet ((go_at_call 74; exact Calls.quiet_of_same ((named_any _ _ (by omega)).mono (fun _ _ h => ⟨h.1, h.2.symm⟩))))
            go_wp2_with fail
            exact HGOOD.out HG.out _
    · obtain rfl : k = l.length := by omega
      have hnone : treeErr (l.map (·.1)) = none := by rw [HTR.out, List.drop_of_length_le (by simp)]; rfl
      have HNO := Lib.hid hnone
      clear hnone
      go_wp2_with fail
      go_ret
      exact ⟨_, rfl, by rw [HNO.out]; rfl, hfr⟩
set_option maxHeartbeats 4000000 in
theorem rtree_any (v : Value) (l : List Fil) (B : Nat) (w : World) (h : Refs w B v l) (hn : ∀ p ∈ l, p.name.length ≤ 1000000) (hd : ∀ p ∈ l, p.data.length ≤ 1000000) :
    Calls Tryz.prog 99 #[v] w fun e w' => e = .returned (.tuple #[.bool (treeErr l).isNone, .string ⟨((treeErr l).getD []).toArray⟩]) ∧ Fr (fun _ => False) w w' := by
  have hL := Vec.len h
  unfold maxLen at hL
  have H := Lib.hid h
  have HN := Lib.hid hn
  have HD := Lib.hid hd
  obtain ⟨va, vc, hq, -⟩ := Vec.shape h
  subst hq
  clear h hn hd
  obtain ⟨TE, hTE⟩ : ∃ TE, treeErr l = TE := ⟨_, rfl⟩
  rw [hTE]
  have HTE := Lib.hid hTE
  clear hTE
  go_enter Tryz.func99, Tryz.ntmps99
  go_wp2_with fail
  go_loopw [4] (fun iv wr => ∃ k : Nat, k ≤ l.length ∧ iv = .int .i64 k ∧ Fr (fun _ => False) w wr ∧ TE = treeF k (nameAt l k) (l.drop k)) (fun iv _ => l.length - (intOf iv).toNat)
  case atStart => exact ⟨0, Nat.zero_le _, rfl, Fr.refl _ _, HTE.out.symm⟩
  case round =>
    obtain ⟨k, hk, rfl, hfr, htr⟩ := hrel
    have HFR := Lib.hid hfr
    have HTR := Lib.hid htr
    clear htr
    by_cases hlt : k < l.length
    · have hfl : Refs wr B (.slice va l.length vc) l := Vec.keep H.out hfr (fun _ _ h => h)
      obtain ⟨g, cap, hq, e0, e1, hgl⟩ := hfl.get k hlt
      simp only [Value.slice.injEq, true_and] at hq
      obtain ⟨rfl, rfl⟩ := hq
      have hst := treeF_step l k hlt
      have hnl := HN.out l[k] (List.getElem_mem _)
      have hdl := HD.out l[k] (List.getElem_mem _)
      have hp0 : 0 < k → ∃ pn : ByteArray, nameAt l k = pn.data.toList ∧ wr.cell? ⟨g, (k - 1) * 2, none⟩ = some (.string pn) := fun h0 => by
        obtain ⟨g', cap', hq', e0', -⟩ := hfl.get (k - 1) (by omega)
        simp only [Value.slice.injEq, true_and, Option.some.injEq, Addr.mk.injEq, and_true] at hq'
        obtain ⟨rfl, -⟩ := hq'
        refine ⟨_, ?_, e0'⟩
        obtain ⟨j, rfl⟩ : ∃ j, k = j + 1 := ⟨k - 1, by omega⟩
        rw [nameAt_succ _ j (by omega)]
        simp
      have HP := Lib.hid hp0
      obtain ⟨nm, hnm⟩ : ∃ nm : ByteArray, nm = ⟨l[k].name.toArray⟩ := ⟨_, rfl⟩
      have hnd : l[k].name = nm.data.toList := by rw [hnm]
      rw [← hnm] at e0
      obtain ⟨dt, hdt⟩ : ∃ dt : ByteArray, dt = ⟨l[k].data.toArray⟩ := ⟨_, rfl⟩
      have hdd : l[k].data = dt.data.toList := by rw [hdt]
      rw [← hdt] at e1
      rw [hnd] at hst hnl
      rw [hdd] at hdl
      have HST := Lib.hid hst
      have HND := Lib.hid hnd
      have HDL := Lib.hid (show l[k].data.length = dt.size by rw [hdd]; simp)
      clear hfl hp0 hst hnm hnd hfr hdt hdd
      generalize hpl : nameAt l k = pl at *
      have HPL := Lib.hid hpl
      have hnm2 : nm.data.toList.length = nm.size := by simp
      have hdt2 : dt.data.toList.length = dt.size := by simp
      rw [hnm2] at hnl
      rw [hdt2] at hdl
      clear hpl hnm2 hdt2
      have hbad : filBad k pl l[k] = true → ∀ W, Fr (fun _ => False) wr W → Ending.returned (Value.tuple #[.bool false, .string nm]) = .returned (.tuple #[.bool TE.isNone, .string ⟨(TE.getD []).toArray⟩]) ∧ Fr (fun _ => False) w W := fun hb W hW => by
        refine ⟨?_, HFR.out.step hW (fun _ h _ => h)⟩
        rw [HTR.out, HST.out, if_pos hb]
        simp
      have hgood : filBad k pl l[k] = false → ∀ nq, (∃ k', k' ≤ l.length ∧ Value.int .i64 ((k : Int) + 1) = .int .i64 k' ∧ Fr (fun _ => False) w (wr.drewN nq) ∧ TE = treeF k' (nameAt l k') (l.drop k')) ∧ l.length - (intOf (Value.int .i64 ((k : Int) + 1))).toNat < l.length - (intOf (Value.int .i64 (k : Int))).toNat := fun hb nq => by
        refine ⟨⟨k + 1, by omega, by go_num, HFR.out.drewN _, ?_⟩, by simp [intOf]; omega⟩
        rw [HTR.out, HST.out, if_neg (by rw [hb]; decide)]
      have HBAD := Lib.hid hbad
      have HGOOD := Lib.hid hgood
      clear hbad hgood
      go_wp2_with fail
      refine (rnamed_any nm _ (by omega)).mono ?_
      rintro e w' ⟨rfl, rfl⟩
      cases hisn : isName nm.data.toList with
      | false =>
        have HIN := Lib.hid hisn
        have HB := Lib.hid (show filBad k pl l[k] = true by unfold filBad; rw [HND.out, HIN.out]; rfl)
        go_wp2_with fail
        go_quiet (fail)
        go_wp2_with fail
        go_quiet (fail)
        go_wp2_with fail
        go_ret2
        exact HBAD.out HB.out _ (((Fr.refl _ _).drewN _).drewN _)
      | true =>
        have HIN := Lib.hid hisn
        by_cases hk0 : 0 < k
        · obtain ⟨j, rfl⟩ : ∃ j, k = j + 1 := ⟨k - 1, by omega⟩
          obtain ⟨pn, hpn, p0⟩ := HP.out (by omega)
          rw [Nat.add_sub_cancel] at p0
          have HPN := Lib.hid hpn
          clear hpn
          have hk0b : decide ((0 : Int) < ((j + 1 : Nat) : Int)) = true := by simp
          have hlb := leq_behind nm.data.toList pn.data.toList
          rw [← ByteArray.toList_eq, ← ByteArray.toList_eq] at hlb
          cases hbh : behind nm.data.toList pn.data.toList with
          | false =>
            rw [ByteArray.toList_eq, ByteArray.toList_eq, hbh, ← ByteArray.toList_eq, ← ByteArray.toList_eq] at hlb
            have HBH := Lib.hid hbh
            clear hbh
            have HB := Lib.hid (show filBad (j + 1) pl l[j + 1] = true by unfold filBad; rw [HND.out, HIN.out, HPN.out, HBH.out]; simp)
            go_wp2_with fail
            go_quiet (fail)
            go_wp2_with fail
            go_quiet (fail)
            go_wp2_with fail
            go_ret2
            exact HBAD.out HB.out _ (((Fr.refl _ _).drewN _).drewN _)
          | true =>
            rw [ByteArray.toList_eq, ByteArray.toList_eq, hbh, ← ByteArray.toList_eq, ← ByteArray.toList_eq] at hlb
            have HBH := Lib.hid hbh
            clear hbh
            by_cases hd3 : 300 < dt.size
            · have hd3b : decide ((300 : Int) < (dt.size : Int)) = true := by simp; omega
              have HB := Lib.hid (show filBad (j + 1) pl l[j + 1] = true by unfold filBad; rw [HND.out, HIN.out, HDL.out, HPN.out, HBH.out]; simp [hd3])
              go_wp2_with fail
              go_quiet (fail)
              go_wp2_with fail
              go_quiet (fail)
              go_wp2_with fail
              go_ret2
              exact HBAD.out HB.out _ (((Fr.refl _ _).drewN _).drewN _)
            · have hd3b : decide ((300 : Int) < (dt.size : Int)) = false := by simp; omega
              by_cases hk8 : 8 ≤ j + 1
              · have hk8b : decide ((8 : Int) ≤ ((j + 1 : Nat) : Int)) = true := by simp; omega
                have HB := Lib.hid (show filBad (j + 1) pl l[j + 1] = true by unfold filBad; rw [HND.out, HIN.out, HDL.out, HPN.out, HBH.out]; simp [hk8])
                go_wp2_with fail
                go_quiet (fail)
                go_wp2_with fail
                go_quiet (fail)
                go_wp2_with fail
                go_ret2
                exact HBAD.out HB.out _ (((Fr.refl _ _).drewN _).drewN _)
              · have hk8b : decide ((8 : Int) ≤ ((j + 1 : Nat) : Int)) = false := by simp; omega
                have HG := Lib.hid (show filBad (j + 1) pl l[j + 1] = false by unfold filBad; rw [HND.out, HIN.out, HDL.out, HPN.out, HBH.out]; simp; omega)
                go_wp2_with fail
                go_quiet (fail)
                go_wp2_with fail
                exact HGOOD.out HG.out _
        · have hk0b : decide ((0 : Int) < (k : Int)) = false := by simp; omega
          have hk8b : decide ((8 : Int) ≤ (k : Int)) = false := by simp; omega
          by_cases hd3 : 300 < dt.size
          · have hd3b : decide ((300 : Int) < (dt.size : Int)) = true := by simp; omega
            have HB := Lib.hid (show filBad k pl l[k] = true by unfold filBad; rw [HND.out, HIN.out, HDL.out]; simp [hd3])
            go_wp2_with fail
            go_quiet (fail)
            go_wp2_with fail
            go_quiet (fail)
            go_wp2_with fail
            go_ret2
            exact HBAD.out HB.out _ (((Fr.refl _ _).drewN _).drewN _)
          · have hd3b : decide ((300 : Int) < (dt.size : Int)) = false := by simp; omega
            have HG := Lib.hid (show filBad k pl l[k] = false by unfold filBad; rw [HND.out, HIN.out, HDL.out]; simp; omega)
            go_wp2_with fail
            go_quiet (fail)
            go_wp2_with fail
            exact HGOOD.out HG.out _
    · obtain rfl : k = l.length := by omega
      have hnone : TE = none := by rw [HTR.out, List.drop_of_length_le (Nat.le_refl _)]; rfl
      have HNO := Lib.hid hnone
      clear hnone
      go_wp2_with fail
      go_ret2
      exact ⟨by rw [HNO.out]; rfl, hfr⟩
/-- The data of a name's file; is there one? -/
theorem find_step (l : List Fil) (k : Nat) (h : k < l.length) (n : List UInt8) : findF (l.drop k) n = if l[k].name = n then some l[k].data else findF (l.drop (k + 1)) n := by
  rw [List.drop_eq_getElem_cons h]; rfl
set_option maxHeartbeats 1000000 in
theorem rfind_any (v : Value) (l : List Fil) (B : Nat) (nm : ByteArray) (w : World) (h : Refs w B v l) :
    Calls Tryz.prog 135 #[v, .string nm] w fun e w' => e = .returned (.tuple #[.string ⟨(baseOf l nm.data.toList).toArray⟩, .bool (findF l nm.data.toList).isSome]) ∧ Fr (fun _ => False) w w' := by
  have hL := Vec.len h
  unfold maxLen at hL
  have H := Lib.hid h
  obtain ⟨va, vc, hq, -⟩ := Vec.shape h
  subst hq
  clear h
  unfold baseOf
  obtain ⟨TE, hTE⟩ : ∃ TE, findF l nm.data.toList = TE := ⟨_, rfl⟩
  rw [hTE]
  have HTE := Lib.hid hTE
  clear hTE
  go_enter Tryz.func135, Tryz.ntmps135
  go_wp2_with fail
  go_loopw [6] (fun iv wr => ∃ k : Nat, k ≤ l.length ∧ iv = .int .i64 k ∧ Fr (fun _ => False) w wr ∧ TE = findF (l.drop k) nm.data.toList) (fun iv _ => l.length - (intOf iv).toNat)
  case atStart => exact ⟨0, Nat.zero_le _, rfl, Fr.refl _ _, HTE.out.symm⟩
  case round =>
    obtain ⟨k, hk, rfl, hfr, htr⟩ := hrel
    have HFR := Lib.hid hfr
    have HTR := Lib.hid htr
    clear htr
    by_cases hlt : k < l.length
    · have hfl : Refs wr B (.slice va l.length vc) l := Vec.keep H.out hfr (fun _ _ h => h)
      obtain ⟨g, cap, hq, e0, e1, hgl⟩ := hfl.get k hlt
      simp only [Value.slice.injEq, true_and] at hq
      obtain ⟨rfl, rfl⟩ := hq
      have HST := Lib.hid (find_step l k hlt nm.data.toList)
      clear hfl hfr
      generalize l[k] = f at *
      by_cases hnm : f.name = nm.data.toList
      · have hne : (f.name == nm.toList) = true := by rw [ByteArray.toList_eq]; simp [hnm]
        have HNM := Lib.hid hnm
        clear hnm
        go_wp2_with fail
        go_ret2
        exact ⟨by rw [HTR.out, HST.out, if_pos HNM.out]; rfl, HFR.out⟩
      · have hne : (f.name == nm.toList) = false := by rw [ByteArray.toList_eq]; simp [hnm]
        have HNM := Lib.hid hnm
        clear hnm
        go_wp2_with fail
        exact ⟨⟨k + 1, by omega, by go_num, HFR.out, by rw [HTR.out, HST.out, if_neg HNM.out]⟩, by simp [intOf]; omega⟩
    · obtain rfl : k = l.length := by omega
      have hnone : TE = none := by rw [HTR.out, List.drop_of_length_le (Nat.le_refl _)]; rfl
      have HNO := Lib.hid hnone
      clear hnone
      go_wp2_with fail
      go_ret2
      exact ⟨by rw [HNO.out]; rfl, hfr⟩
end Go.Proofs.YtlcdgbhigfgehabGreatDoor
