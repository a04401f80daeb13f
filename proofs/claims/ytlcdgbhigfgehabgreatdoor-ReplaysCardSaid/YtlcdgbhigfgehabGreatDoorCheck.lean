/- The walks of delta.Check, and the document's Blocks. -/
import Derived.Test.YtlcdgbhigfgehabGreatDoorToks
import Derived.Test.YtlcdgbhigfgehabGreatDoorRoomy
import Derived.WalkSpells
import Derived.WalkLawsBesides
namespace Go.Proofs.YtlcdgbhigfgehabGreatDoor
open Go.RowKit
set_option maxRecDepth 100000

theorem info_str : (Tryz.prog.info? 9).map (fun i => (i.zero, i.size, i.bytes)) = some (some (.string ByteArray.empty), 1, 16) := by kernel_rfl
theorem elt_str : Elt Tryz.prog 22 9 1 16 := Elt.mk Tryz.underlying22 info_str rfl

/-- An error of this kind; 0: none. -/
def kindErr (k : Int) : Value := if k = 0 then .nilIface else .iface 30 (.int .i64 k)
/-- What Check tells of data of these lengths. -/
def checkK (block : Int) (lens : List Nat) : Int := if block < 1 ∨ 64 < block then 1 else if lens.any (fun n => decide (300 < n)) then 2 else 0
theorem checkK_one (block : Int) (n : Nat) : checkK block [n] = sized block n := by simp [checkK, sized]
theorem checkK_two (block : Int) (n m : Nat) : checkK block [n, m] = if sized block n = 0 then sized block m else sized block n := by
  unfold checkK sized
  by_cases h : block < 1 ∨ 64 < block
  · simp [h]
  · by_cases h1 : 300 < n <;> by_cases h2 : 300 < m <;> simp [h, h1, h2]
theorem bad_block (block : Int) (lens : List Nat) (v : Value) (w : World) (h : block < 1 ∨ 64 < block) :
    Calls Tryz.prog 75 #[.int .i64 block, v] w fun e w' => e = .returned (kindErr (checkK block lens)) ∧ w = w' := by
  rw [checkK, if_pos h]
  rcases h with h | h
  · go_enter Tryz.func75, Tryz.ntmps75
    go_wp2
    go_ret
    exact ⟨rfl, rfl⟩
  · have h' : ¬ block < 1 := by omega
    go_enter Tryz.func75, Tryz.ntmps75
    go_wp2
    go_ret
    exact ⟨rfl, rfl⟩
set_option maxHeartbeats 1000000 in
theorem check_row (block : Int) (g c : Nat) (vs : List (Option Addr × Nat × Nat)) (w : World) (hg : ∀ i (h : i < vs.length), w.cell? ⟨g, i, none⟩ = some (.slice vs[i].1 vs[i].2.1 vs[i].2.2)) (hm : vs.length ≤ 1000) (hv : ∀ x ∈ vs, x.2.1 ≤ maxLen) :
    Calls Tryz.prog 75 #[.int .i64 block, .slice (some ⟨g, 0, none⟩) vs.length c] w fun e w' => e = .returned (kindErr (checkK block (vs.map (·.2.1)))) ∧ w = w' := by
  by_cases hb : block < 1 ∨ 64 < block
  · exact bad_block block _ _ w hb
  have hb1 : ¬ block < 1 := by omega
  have hb2 : ¬ 64 < block := by omega
  have HG := Lib.hid hg
  have HV := Lib.hid hv
  clear hg hv
  go_enter Tryz.func75, Tryz.ntmps75
  go_wp2
  go_loop [16] (fun i => ∃ k : Nat, k ≤ vs.length ∧ i = .int .i64 k ∧ ∀ x ∈ vs.take k, x.2.1 ≤ 300) (fun i => vs.length - (intOf i).toNat)
  case atStart => exact ⟨0, Nat.zero_le _, rfl, fun x hx => by simp at hx⟩
  case round =>
    obtain ⟨k, hk, rfl, hall⟩ := hrel
    by_cases hlt : k < vs.length
    · have hc := HG.out k hlt
      have hv' := HV.out vs[k] (List.getElem_mem hlt)
      have HA := Lib.hid hall
      have hA1 : vs[k] ∈ vs := List.getElem_mem hlt
      have HT : Hid (vs.take (k + 1) = vs.take k ++ [vs[k]]) := List.take_succ_eq_append_getElem hlt
      unfold maxLen at hv'
      generalize vs[k] = x at *
      clear hall
      by_cases h3 : 300 < x.2.1
      · go_wp2
        go_ret
        refine ⟨?_, rfl⟩
        have : checkK block (vs.map (·.2.1)) = 2 := by
          rw [checkK, if_neg hb, if_pos]
          rw [List.any_map, List.any_eq_true]
          exact ⟨x, hA1, by simpa using h3⟩
        rw [this]
        rfl
      · go_wp2
        go_round
        case rel =>
          refine ⟨k + 1, by omega, by go_num, ?_⟩
          intro y hy
          rw [HT.out] at hy
          rcases List.mem_append.1 hy with hy | hy
          · exact HA.out y hy
          · simp at hy; subst hy; omega
        case measure => simp [intOf]; omega
    · obtain rfl : k = vs.length := by omega
      have HA := Lib.hid hall
      clear hall
      go_wp2
      go_ret
      refine ⟨?_, rfl⟩
      have : checkK block (vs.map (·.2.1)) = 0 := by
        rw [checkK, if_neg hb, if_neg]
        rw [List.any_map, List.any_eq_true]
        rintro ⟨y, hy, hy2⟩
        have := HA.out y (by rw [List.take_length]; exact hy)
        simp at hy2
        omega
      rw [this]
      rfl
theorem check_none (block : Int) (w : World) :
    Calls Tryz.prog 75 #[.int .i64 block, .slice none 0 0] w fun e w' => e = .returned (kindErr (checkK block [])) ∧ w = w' := by
  by_cases hb : block < 1 ∨ 64 < block
  · exact bad_block block _ _ w hb
  have hb1 : ¬ block < 1 := by omega
  have hb2 : ¬ 64 < block := by omega
  rw [checkK, if_neg hb]
  go_enter Tryz.func75, Tryz.ntmps75
  go_wp2
  refine wp_loop_rounds 1 ?_
  rw [rounds_succ]
  go_wp2
  go_ret
  exact ⟨rfl, rfl⟩

set_option maxHeartbeats 1000000 in
theorem blocks_any (s : ByteArray) (blk : Nat) (c : Int) (w : World) (hc : c = blk) (hb : 0 < blk) (hb2 : blk ≤ 64) (hs : s.size ≤ 100000) :
    Calls Tryz.prog 150 #[.string s, .int .i64 c] w fun e w' => ∃ v, e = .returned v ∧
      Vec w' w.heap.size 9 1 v (nBlocks s.size blk) ((blocksOf s.data.toList blk).map fun l => .string ⟨l.toArray⟩) ∧ Fr (fun _ => False) w w' := by
  subst hc
  go_enter Tryz.func150, Tryz.ntmps150
  go_wp2
  go_loopw [0, 5] (fun x v wr => ∃ (r : ByteArray) (k : Nat), x = .string r ∧ k ≤ nBlocks s.size blk ∧ r.data.toList = s.data.toList.drop (k * blk) ∧
      Vec wr w.heap.size 9 1 v k (((blocksOf s.data.toList blk).take k).map fun l => .string ⟨l.toArray⟩) ∧ Fr (fun _ => False) w wr) (fun x _ _ => match x with | .string r => r.size | _ => 0)
  case atStart => exact ⟨s, 0, rfl, Nat.zero_le _, by simp, Vec.nil _ _ _ _, Fr.refl _ _⟩
  case round =>
    obtain ⟨r, k, rfl, hk, hr, hv, hfr⟩ := hrel
    have hkb : k * blk ≤ s.size ∨ k = nBlocks s.size blk := by
      rcases Nat.lt_or_ge k (nBlocks s.size blk) with h | h
      · have := (lt_nBlocks s.size blk k hb).1 h; omega
      · omega
    have hrs : r.size = s.size - k * blk := by rw [show r.size = r.data.toList.length by simp, hr]; simp
    by_cases h0 : r.size = 0
    · have hkk : k = nBlocks s.size blk := by
        rcases Nat.lt_or_ge k (nBlocks s.size blk) with h | h
        · have := (lt_nBlocks s.size blk k hb).1 h; omega
        · omega
      have HR := Lib.hid hr
      have HV := Lib.hid hv
      have HF := Lib.hid hfr
      have HRS := Lib.hid hrs
      have HKK := Lib.hid hkk
      have h0' : ¬ 0 < r.size := by omega
      clear hr hv hfr hrs hkk h0
      go_wp2
      go_ret
      refine ⟨_, rfl, ?_, HF.out⟩
      have := HV.out
      rw [HKK.out, List.take_of_length_le (by rw [length_blocksOf]; simp)] at this
      exact this
    · have hlt : k < nBlocks s.size blk := (lt_nBlocks s.size blk k hb).2 (by omega)
      have hbk : (blocksOf s.data.toList blk).take (k + 1) = (blocksOf s.data.toList blk).take k ++ [r.data.toList.take blk] := by
        have h : k < (blocksOf s.data.toList blk).length := by rw [length_blocksOf]; simpa using hlt
        rw [List.take_succ_eq_append_getElem h, blocksOf_get _ _ _ (by simpa using hlt), hr]
      have fin : ∀ (r' : ByteArray) (d : ByteArray) (v4 : Value) (w3 w4 : World), r'.data.toList = r.data.toList.drop blk → d.data.toList = r.data.toList.take blk → Fr (fun _ => False) wr w3 →
          Vec w4 w.heap.size 9 1 v4 (k + 1) (((blocksOf s.data.toList blk).take k).map (fun l => Value.string ⟨l.toArray⟩) ++ [.string d]) → Fr (fun k => u5.ownBlock = some k) w3 w4 →
          (∃ (r'' : ByteArray) (k' : Nat), Value.string r' = .string r'' ∧ k' ≤ nBlocks s.size blk ∧ r''.data.toList = s.data.toList.drop (k' * blk) ∧
            Vec w4 w.heap.size 9 1 v4 k' (((blocksOf s.data.toList blk).take k').map fun l => .string ⟨l.toArray⟩) ∧ Fr (fun _ => False) w w4) ∧ r'.size < r.size := by
        intro r' d v4 w3 w4 h1 h2 hf3 hv4 hf4
        refine ⟨⟨r', k + 1, rfl, by omega, ?_, ?_, ?_⟩, ?_⟩
        · rw [h1, hr, List.drop_drop, Nat.add_mul, Nat.one_mul]
        · rw [hbk, List.map_append, ← h2]
          simp only [List.map_cons, List.map_nil]
          rw [ba_eq]
          exact hv4
        · exact (hfr.step hf3 (fun _ h _ => h)).step hf4 (fun b hb hl => by have := (hv.lt b hb).1; omega)
        · rw [show r'.size = r'.data.toList.length by simp, h1, show r.size = r.data.toList.length by simp]
          simp; omega
      have FIN := Lib.hid fin
      have HV := Lib.hid hv
      have HF := Lib.hid hfr
      have hkl : k ≤ 100000 := by have := (nBlocks_mul s.size blk hb).2.2; omega
      have hpos : 0 < r.size := by omega
      have hB : w.heap.size ≤ wr.heap.size := hfr.size
      clear fin hr hv hfr hrs h0 hbk hkb
      by_cases hm : r.size < blk
      · go_wp2_with (at_builtin; go_must (refine wpList_append_vec rfl _ _ _ rfl w.heap.size 9 1 16 elt_str (HV.out.keep ((Fr.refl (fun _ => False) _).alloc _) (fun _ _ h => h)) rfl (m := 1) (Reads.new _ _ _ _ (by simp) _ _) rfl rfl (by intro u hu; simp at hu; subst hu; rfl) (by unfold maxLen; omega) (by omega) (by simp; omega) ?_); intro v4 w4 hv4 hf4 hd4 hn4)
        exact FIN.out ByteArray.empty r v4 _ w4 (by rw [List.drop_eq_nil_of_le (by simp; omega)]; rfl) (by rw [List.take_of_length_le (by simp; omega)]) ((Fr.refl _ _).alloc _) hv4 hf4
      · go_wp2_with (at_builtin; go_must (refine wpList_append_vec rfl _ _ _ rfl w.heap.size 9 1 16 elt_str (HV.out.keep ((Fr.refl (fun _ => False) _).alloc _) (fun _ _ h => h)) rfl (m := 1) (Reads.new _ _ _ _ (by simp) _ _) rfl rfl (by intro u hu; simp at hu; subst hu; rfl) (by unfold maxLen; omega) (by omega) (by simp; omega) ?_); intro v4 w4 hv4 hf4 hd4 hn4)
        exact FIN.out _ _ v4 _ w4 (ext_drop _ _) (ext_take _ _) ((Fr.refl _ _).alloc _) hv4 hf4
end Go.Proofs.YtlcdgbhigfgehabGreatDoor
