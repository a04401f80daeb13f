/- put: a number in n bytes behind a row of bytes: the program's and the document's. -/
import Derived.Test.YtlcdgbhigfgehabGreatDoorRecPure
import Derived.Test.YtlcdgbhigfgehabGreatDoorRoomy
import Derived.Test.YtlcdgbhigfgehabGreatDoorVec
namespace Go.Proofs.YtlcdgbhigfgehabGreatDoor
open Go.RowKit
set_option maxRecDepth 100000

/-- A row grows: which blocks may be turned, and where the row lies then. -/
structure Grew (w : World) (v v' : Value) (w' : World) : Prop where
  fr : Fr (fun k => v.ownBlock = some k) w w'
  at_ : v'.ownBlock = v.ownBlock ∨ ∃ g, v'.ownBlock = some g ∧ w.heap.size ≤ g
theorem Grew.refl (w : World) (v : Value) : Grew w v v w := ⟨Fr.refl _ _, .inl rfl⟩
theorem Grew.step {w w1 w2 : World} {v v1 v2 : Value} (h : Grew w v v1 w1) (k : Grew w1 v1 v2 w2) : Grew w v v2 w2 := by
  refine ⟨h.fr.step k.fr (fun b hb hl => ?_), ?_⟩
  · rcases h.at_ with e | ⟨g, e, hg⟩
    · rw [← e]; exact hb
    · rw [e] at hb; cases hb; omega
  · have hz := h.fr.size
    rcases k.at_ with e | ⟨g, e, hg⟩
    · rw [e]; exact h.at_
    · exact .inr ⟨g, e, by omega⟩
theorem Grew.keep0 {w w1 w2 : World} {v v1 : Value} (h : Grew w v v1 w1) (k : Fr (fun _ => False) w1 w2) : Grew w v v1 w2 := ⟨h.fr.step k (fun _ h _ => h.elim), h.at_⟩
theorem Grew.alloc {w w1 : World} {v v1 : Value} (o : Obj) (h : Grew (w.alloc o) v v1 w1) : Grew w v v1 w1 := by
  have hf : Fr (fun _ => False) w (w.alloc o) := (Fr.refl _ _).alloc o
  have hz := hf.size
  refine ⟨(hf.mono (fun _ h _ => h.elim)).step h.fr (fun b hb hl => hb), ?_⟩
  rcases h.at_ with e | ⟨g, e, hg⟩
  · exact .inl e
  · exact .inr ⟨g, e, by omega⟩
/-- The byte that a number shows at a place. -/
theorem byte_cell (v i : Nat) : bcells [UInt8.ofNat (v / 256 ^ i)] = [.int .u8 ((v : Int) / 2 ^ (8 * i) % 256)] := by
  have h1 : (2 : Int) ^ (8 * i) = ((256 ^ i : Nat) : Int) := by rw [Int.pow_mul]; norm_cast
  have : (UInt8.ofNat (v / 256 ^ i)).toNat = v / 256 ^ i % 256 := by simp
  unfold bcells
  rw [List.map_cons, List.map_nil, this, h1]; norm_cast
set_option maxHeartbeats 1000000 in
theorem rput_any (bv : Value) (l : List UInt8) (v n B : Nat) (c x : Int) (w : World) (hv : Vec w B 5 1 bv l.length (bcells l)) (hn : n ≤ 8) (hl : l.length ≤ 1000000) (hc : c = n) (hx : x = v) (hv64 : v < 18446744073709551616) (hB : B ≤ w.heap.size) :
    Calls Tryz.prog 137 #[bv, .int .u64 x, .int .i64 c] w fun e w' => ∃ v', e = .returned v' ∧ Vec w' B 5 1 v' (l ++ putN n v).length (bcells (l ++ putN n v)) ∧ Grew w bv v' w' := by
  subst hc
  subst hx
  have HV := Lib.hid hv
  obtain ⟨ba, bc, rfl, -⟩ := hv.shape
  have hwn : wrap64 ((n : Int) - 1) = (n : Int) - 1 := IntWalk.wrap64_in _ (by omega)
  clear hv
  go_enter Tryz.func137, Tryz.ntmps137
  go_wp2_with fail
  go_loopw [0, 7] (fun bl iv wr => ∃ (j : Nat) (v' : Value) (W : List UInt8), bl = v' ∧ iv = .int .i64 ((j : Int) - 1) ∧ j ≤ n ∧ W ++ putN j v = putN n v ∧ W.length + j = n ∧ Vec wr B 5 1 v' (l.length + W.length) (bcells (l ++ W)) ∧ Grew w (.slice ba l.length bc) v' wr) (fun _ iv _ => (intOf iv + 1).toNat)
  case atStart => exact ⟨n, _, [], rfl, rfl, Nat.le_refl _, rfl, by simp, by rw [List.append_nil]; exact HV.out, Grew.refl _ _⟩
  case round =>
    obtain ⟨j, v', W, rfl, rfl, hj, hW, hWl, hvr, hgr⟩ := hrel
    obtain ⟨va, vc, hvs, -⟩ := hvr.shape
    subst hvs
    have HVR := Lib.hid hvr
    have HGR := Lib.hid hgr
    have HW := Lib.hid hW
    have hzr := hgr.fr.size
    clear hvr hgr hW
    cases j with
    | zero =>
      go_wp2_with fail
      go_ret
      have e : W = putN n v := by rw [← HW.out, putN, List.append_nil]
      exact ⟨_, rfl, by rw [← e, List.length_append]; exact HVR.out, HGR.out⟩
    | succ j =>
      have hj1 : ((j + 1 : Nat) : Int) - 1 = j := by omega
      rw [hj1]
      go_wp2_with (at_builtin; refine wpList_append_vec rfl _ _ _ rfl B 5 1 1 elt_u8 (HVR.out.keep (Fr.alloc (Fr.refl (fun _ => False) _) _) (fun _ _ h => h)) rfl (m := 1) (Reads.new _ _ _ _ (by first | omega | simp) _ _) rfl rfl (by intro u hu; simp at hu; subst hu; rfl) (by unfold maxLen; omega) (by omega) (by simp; omega) ?_; intro v3 w3 hv3 hf3 hd3 hn3; obtain ⟨a3, c3, hs3, -⟩ := hv3.shape; subst hs3; have HV3 := Lib.hid hv3; have HF3 := Lib.hid (Grew.alloc _ ⟨hf3, hd3⟩); clear hv3 hf3 hd3 hn3)
      have hr := byte_cell v j
      refine ⟨⟨j, _, W ++ [UInt8.ofNat (v / 256 ^ j)], rfl, by go_num, by omega, ?_, ?_, ?_, HGR.out.step HF3.out⟩, by simp [intOf]⟩
      · rw [List.append_assoc]; exact HW.out
      · simp; omega
      · rw [← List.append_assoc, bcells_append (l ++ W), hr, List.length_append]; exact HV3.out
set_option maxHeartbeats 1000000 in
theorem put_any (bv : Value) (l : List UInt8) (v n B : Nat) (c x : Int) (w : World) (hv : Vec w B 5 1 bv l.length (bcells l)) (hn : n ≤ 8) (hl : l.length ≤ 1000000) (hc : c = n) (hx : x = v) (hv64 : v < 18446744073709551616) (hB : B ≤ w.heap.size) :
    Calls Tryz.prog 78 #[bv, .int .u64 x, .int .i64 c] w fun e w' => ∃ v', e = .returned v' ∧ Vec w' B 5 1 v' (l ++ putN n v).length (bcells (l ++ putN n v)) ∧ Grew w bv v' w' := by
  subst hc
  subst hx
  have HV := Lib.hid hv
  obtain ⟨ba, bc, rfl, -⟩ := hv.shape
  clear hv
  go_enter Tryz.func78, Tryz.ntmps78
  go_wp2_with fail
  go_loopw [0, 2] (fun bl iv wr => ∃ (j : Nat) (v' : Value) (W : List UInt8), bl = v' ∧ iv = .int .i64 ((j : Int) - 1) ∧ j ≤ n ∧ W ++ putN j v = putN n v ∧ W.length + j = n ∧ Vec wr B 5 1 v' (l.length + W.length) (bcells (l ++ W)) ∧ Grew w (.slice ba l.length bc) v' wr) (fun _ iv _ => (intOf iv + 1).toNat)
  case atStart => exact ⟨n, _, [], rfl, rfl, Nat.le_refl _, rfl, by simp, by rw [List.append_nil]; exact HV.out, Grew.refl _ _⟩
  case round =>
    obtain ⟨j, v', W, rfl, rfl, hj, hW, hWl, hvr, hgr⟩ := hrel
    obtain ⟨va, vc, hvs, -⟩ := hvr.shape
    subst hvs
    have HVR := Lib.hid hvr
    have HGR := Lib.hid hgr
    have HW := Lib.hid hW
    have hzr := hgr.fr.size
    clear hvr hgr hW
    cases j with
    | zero =>
      go_wp2_with fail
      go_ret
      have e : W = putN n v := by rw [← HW.out, putN, List.append_nil]
      exact ⟨_, rfl, by rw [← e, List.length_append]; exact HVR.out, HGR.out⟩
    | succ j =>
      have hj1 : ((j + 1 : Nat) : Int) - 1 = j := by omega
      rw [hj1]
      go_wp2_with (at_builtin; refine wpList_append_vec rfl _ _ _ rfl B 5 1 1 elt_u8 (HVR.out.keep (Fr.alloc (Fr.refl (fun _ => False) _) _) (fun _ _ h => h)) rfl (m := 1) (Reads.new _ _ _ _ (by first | omega | simp) _ _) rfl rfl (by intro u hu; simp at hu; subst hu; rfl) (by unfold maxLen; omega) (by omega) (by simp; omega) ?_; intro v3 w3 hv3 hf3 hd3 hn3; obtain ⟨a3, c3, hs3, -⟩ := hv3.shape; subst hs3; have HV3 := Lib.hid hv3; have HF3 := Lib.hid (Grew.alloc _ ⟨hf3, hd3⟩); clear hv3 hf3 hd3 hn3)
      have hr := byte_cell v j
      refine ⟨⟨j, _, W ++ [UInt8.ofNat (v / 256 ^ j)], rfl, by go_num, by omega, ?_, ?_, ?_, HGR.out.step HF3.out⟩, by simp [intOf]⟩
      · rw [List.append_assoc]; exact HW.out
      · simp; omega
      · rw [← List.append_assoc, bcells_append (l ++ W), hr, List.length_append]; exact HV3.out
end Go.Proofs.YtlcdgbhigfgehabGreatDoor
