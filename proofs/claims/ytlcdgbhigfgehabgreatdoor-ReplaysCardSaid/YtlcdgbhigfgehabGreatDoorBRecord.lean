/- batch.Record: a batch is written. -/
import Derived.Test.YtlcdgbhigfgehabGreatDoorTree
import Derived.Test.YtlcdgbhigfgehabGreatDoorRecEntry
import Derived.Test.YtlcdgbhigfgehabGreatDoorBases
import Derived.Test.YtlcdgbhigfgehabGreatDoorDiffAny
import Derived.Deep.CutBlock
import Derived.Lib.SlBytesConst
import Derived.Deep.AppendLies
import Derived.Test.YtlcdgbhigfgehabGreatDoorUpTo
import Derived.Carry
namespace Go.Proofs.YtlcdgbhigfgehabGreatDoor
open Go.RowKit Go.Maps
set_option maxRecDepth 100000

/-- The error of a record. -/
def recErr (block : Int) (src ref : List Fil) : Err := if block < 1 ∨ 64 < block then .kind 1 else match treeErr src with | some n => errTree (some n) | none => errTree (treeErr ref)
/-- How long what is written of a target is. -/
theorem entB_length (f : Fil) (h : f.name.length ≤ 12) : (entB f).length ≤ 23 := by simp [entB, length_putN]; omega
theorem tokB_length (t : Tok) (h : t.d.length ≤ 255) : (tokB t).length ≤ 257 := by unfold tokB; split <;> simp [length_putN]; omega
theorem toksTo_length (l : List Tok) (h : ∀ t ∈ l, t.d.length ≤ 255) : (l.flatMap tokB).length ≤ l.length * 257 := by
  induction l with
  | nil => simp
  | cons a l ih =>
    rw [List.flatMap_cons, List.length_append, List.length_cons]
    have := ih (fun x hx => h x (by simp [hx]))
    have := tokB_length a (h a (by simp))
    omega
/-- What stands of a record when the head and k files of the older tree are written. -/
def headTo (ref : List Fil) (blk k : Nat) : List UInt8 := headB ref blk ++ (ref.take k).flatMap entB
theorem headTo_succ (ref : List Fil) (blk k : Nat) (h : k < ref.length) : headTo ref blk (k + 1) = headTo ref blk k ++ entB ref[k] := by
  unfold headTo
  rw [List.take_succ_eq_append_getElem h, List.flatMap_append, List.flatMap_singleton, List.append_assoc]
theorem headTo_length (ref : List Fil) (blk : Nat) (hr : ∀ f ∈ ref, f.name.length ≤ 12) (k : Nat) (hk : k ≤ ref.length) : (headTo ref blk k).length ≤ 5 + 23 * k := by
  induction k with
  | zero => simp [headTo, headB]
  | succ k ih =>
    rw [headTo_succ _ _ _ (by omega), List.length_append]
    have := entB_length ref[k] (hr _ (List.getElem_mem _))
    have := ih (by omega)
    omega
/-- .. and k files of the newer. -/
def bodyTo (H : List UInt8) (src ref : List Fil) (blk k : Nat) : List UInt8 := H ++ (src.take k).flatMap (targB ref blk)
theorem bodyTo_succ (H : List UInt8) (src ref : List Fil) (blk k : Nat) (h : k < src.length) : bodyTo H src ref blk (k + 1) = bodyTo H src ref blk k ++ targB ref blk src[k] := by
  unfold bodyTo
  rw [List.take_succ_eq_append_getElem h, List.flatMap_append, List.flatMap_singleton, List.append_assoc]
theorem targB_length (ref : List Fil) (blk : Nat) (hb : 0 < blk) (f : Fil) (h : f.name.length ≤ 12) (hd : f.data.length ≤ 300) : (targB ref blk f).length ≤ 77200 := by
  unfold targB toksB targToks
  have h1 := entB_length f h
  have h2 := diff_makes (baseOf ref f.name) f.data blk hb hd
  have h3 := toksTo_length (diffOf (baseOf ref f.name) f.data blk) (fun t ht => by
    rcases h2.2.1 t ht with h | h
    · omega
    · rw [h.2.2.2]; simp)
  simp only [List.length_append, length_putN]
  omega
theorem bodyTo_length (H : List UInt8) (src ref : List Fil) (blk : Nat) (hb : 0 < blk) (hr : ∀ f ∈ src, f.name.length ≤ 12 ∧ f.data.length ≤ 300) (k : Nat) (hk : k ≤ src.length) : (bodyTo H src ref blk k).length ≤ H.length + 77200 * k := by
  induction k with
  | zero => simp [bodyTo]
  | succ k ih =>
    rw [bodyTo_succ _ _ _ _ _ (by omega), List.length_append]
    have := targB_length ref blk hb src[k] (hr _ (List.getElem_mem _)).1 (hr _ (List.getElem_mem _)).2
    have := ih (by omega)
    omega
/-- .. and j tokens behind. -/
def toksTo (H : List UInt8) (l : List Tok) (j : Nat) : List UInt8 := H ++ (l.take j).flatMap tokB
theorem toksTo_succ (H : List UInt8) (l : List Tok) (k : Nat) (h : k < l.length) : toksTo H l (k + 1) = toksTo H l k ++ tokB l[k] := by
  unfold toksTo
  rw [List.take_succ_eq_append_getElem h, List.flatMap_append, List.flatMap_singleton, List.append_assoc]
theorem toksTo_len (H : List UInt8) (l : List Tok) (h : ∀ t ∈ l, t.d.length ≤ 255) (k : Nat) : (toksTo H l k).length ≤ H.length + l.length * 257 := by
  unfold toksTo
  rw [List.length_append]
  have := toksTo_length (l.take k) (fun t ht => h t (List.mem_of_mem_take ht))
  have h2 : (l.take k).length * 257 ≤ l.length * 257 := Nat.mul_le_mul_right _ (by simp; omega)
  omega
theorem Grew.of_drew {w w1 : World} {v v1 : Value} (h : Grew w.drew v v1 w1) : Grew w v v1 w1 := by
  have hf : Fr (fun _ => False) w w.drew := (Fr.refl _ _).drew
  have hz := hf.size
  refine ⟨(hf.mono (fun _ h _ => h.elim)).step h.fr (fun b hb hl => hb), ?_⟩
  rcases h.at_ with e | ⟨g, e, hg⟩
  · exact .inl e
  · exact .inr ⟨g, e, by omega⟩
theorem Grew.keepF {w w1 w2 : World} {v v1 : Value} (k : Fr (fun _ => False) w w1) (h : Grew w1 v v1 w2) : Grew w v v1 w2 := by
  have hz := k.size
  refine ⟨(k.mono (fun _ h _ => h.elim)).step h.fr (fun b hb hl => hb), ?_⟩
  rcases h.at_ with e | ⟨g, e, hg⟩
  · exact .inl e
  · exact .inr ⟨g, e, by omega⟩
theorem Own.mark (w : World) (a : Array Value) (T : TypeId) : Own (w.alloc (.cells a T (a.size, a.size + 1))) w.heap.size T a.toList :=
  ⟨(a.size, a.size + 1), by simpa using heap_alloc_new w (.cells a T (a.size, a.size + 1)), .inl (by simp)⟩
theorem run_two0 (W : World) (a0 a1 : Option Addr) (n0 c0 n1 c1 : Nat) : Sem.run Tryz.prog (Instr.index 160 (.agg #[.slice a0 n0 c0, .slice a1 n1 c1]) (.int .i64 0)) W = .ok (.slice a0 n0 c0) W := by kernel_rfl
theorem run_two1 (W : World) (a0 a1 : Option Addr) (n0 c0 n1 c1 : Nat) : Sem.run Tryz.prog (Instr.index 160 (.agg #[.slice a0 n0 c0, .slice a1 n1 c1]) (.int .i64 1)) W = .ok (.slice a1 n1 c1) W := by kernel_rfl
set_option maxHeartbeats 1000000 in
theorem brecord_block (v0 v1 : Value) (src ref : List (Fil × Value)) (B : Nat) (block : Int) (w : World) (h0 : Fils w B v0 src) (h1 : Fils w B v1 ref) (hb : block < 1 ∨ 64 < block) :
    Calls Tryz.prog 47 #[v0, v1, .int .i64 block] w fun e w' => e = .returned (.tuple #[.slice none 0 0, .iface 30 (.int .i64 1)]) ∧ Fr (fun _ => False) w w' := by
  obtain ⟨a0, c0, rfl, -⟩ := h0.vec.shape
  obtain ⟨a1, c1, rfl, -⟩ := h1.vec.shape
  have hk := check_none block w
  rw [show checkK block [] = 1 from by unfold checkK; rw [if_pos hb]] at hk
  have HK := Lib.hid hk
  clear hk h0 h1 hb
  have hx0 := fun W => run_two0 W a0 a1 src.length c0 ref.length c1
  have hx1 := fun W => run_two1 W a0 a1 src.length c0 ref.length c1
  go_enter Tryz.func47, Tryz.ntmps47
  go_wp2_with fail
  refine HK.out.mono ?_
  rintro e w' ⟨rfl, rfl⟩
  rw [kindErr_pos 1 (by decide)]
  go_wp2_with fail
  go_ret2
  exact ⟨rfl, Fr.refl _ _⟩
set_option maxHeartbeats 2000000 in
theorem brecord_tree (v0 v1 : Value) (src ref : List (Fil × Value)) (B : Nat) (block : Int) (w : World) (h0 : Fils w B v0 src) (h1 : Fils w B v1 ref) (hb : ¬ (block < 1 ∨ 64 < block))
    (hn0 : ∀ p ∈ src, p.1.name.length ≤ 1000000) (hd0 : ∀ p ∈ src, p.1.data.length ≤ 1000000) (hn1 : ∀ p ∈ ref, p.1.name.length ≤ 1000000) (hd1 : ∀ p ∈ ref, p.1.data.length ≤ 1000000) (n : List UInt8)
    (ht : treeErr (src.map (·.1)) = some n ∨ treeErr (src.map (·.1)) = none ∧ treeErr (ref.map (·.1)) = some n) :
    Calls Tryz.prog 47 #[v0, v1, .int .i64 block] w fun e w' => ∃ x, e = .returned (.tuple #[.slice none 0 0, x]) ∧ IsErr w' x (.file ⟨n.toArray⟩ 4) ∧ Fr (fun _ => False) w w' := by
  have H0 := Lib.hid h0
  have H1 := Lib.hid h1
  obtain ⟨a0, c0, rfl, -⟩ := h0.vec.shape
  obtain ⟨a1, c1, rfl, -⟩ := h1.vec.shape
  have hk := check_none block w
  rw [show checkK block [] = 0 from by unfold checkK; rw [if_neg hb]; rfl] at hk
  have HK := Lib.hid hk
  have HT := Lib.hid ht
  have HC0 := Lib.hid (fun W (h : Fils W B (.slice a0 src.length c0) src) => tree_any _ src B W h hn0 hd0)
  have HC1 := Lib.hid (fun W (h : Fils W B (.slice a1 ref.length c1) ref) => tree_any _ ref B W h hn1 hd1)
  clear hk h0 h1 hb ht hn0 hd0 hn1 hd1
  have hx0 := fun W => run_two0 W a0 a1 src.length c0 ref.length c1
  have hx1 := fun W => run_two1 W a0 a1 src.length c0 ref.length c1
  go_enter Tryz.func47, Tryz.ntmps47
  go_wp2_with fail
  refine HK.out.mono ?_
  rintro e w' ⟨rfl, rfl⟩
  rw [show kindErr 0 = .nilIface from rfl]
  go_wp2_with fail
  rcases HT.out with ht | ⟨ht, ht2⟩
  · refine wp_loop_rounds 1 ?_
    rw [rounds_succ]
    have HC := Lib.hid (HC0.out w H0.out)
    rw [ht] at HC
    go_wp2_with fail
    refine HC.out.mono ?_
    rintro e w1 ⟨x, rfl, hx, hf1⟩
    obtain ⟨g, rfl, ho⟩ := hx
    have HO := Lib.hid ho
    clear ho ht
    go_wp2_with fail
    go_ret2
    exact ⟨_, rfl, ⟨g, rfl, HO.out⟩, hf1⟩
  · refine wp_loop_rounds 2 ?_
    rw [rounds_succ]
    have HC := Lib.hid (HC0.out w H0.out)
    rw [ht] at HC
    have HT2 := Lib.hid ht2
    clear ht ht2
    go_wp2_with fail
    refine HC.out.mono ?_
    rintro e w1 ⟨x, rfl, hx, hf1⟩
    obtain rfl : x = .nilIface := hx
    have HF1 := Lib.hid hf1
    have HC2 := Lib.hid (HC1.out w1 (H1.out.keep0 hf1))
    rw [HT2.out] at HC2
    clear hf1
    go_wp2_with fail
    rw [rounds_succ]
    go_wp2_with fail
    refine HC2.out.mono ?_
    rintro e w2 ⟨x, rfl, hx, hf2⟩
    obtain ⟨g, rfl, ho⟩ := hx
    have HO := Lib.hid ho
    clear ho
    go_wp2_with fail
    go_ret2
    exact ⟨_, rfl, ⟨g, rfl, HO.out⟩, HF1.out.step hf2 (fun _ h _ => h)⟩
set_option maxHeartbeats 4000000 in
theorem brecord_good (v0 v1 : Value) (src ref : List (Fil × Value)) (B : Nat) (blk : Nat) (w : World) (h0 : Fils w B v0 src) (h1 : Fils w B v1 ref) (hb1 : 1 ≤ blk) (hb2 : blk ≤ 64) (hs : IsTree (src.map (·.1))) (hr : IsTree (ref.map (·.1))) :
    Calls Tryz.prog 47 #[v0, v1, .int .i64 blk] w fun e w' => ∃ x, e = .returned (.tuple #[x, .nilIface]) ∧ Vec w' w.heap.size 5 1 x (recOf (src.map (·.1)) (ref.map (·.1)) blk).length (bcells (recOf (src.map (·.1)) (ref.map (·.1)) blk)) ∧ Fr (fun _ => False) w w' := by
  have H0 := Lib.hid h0
  have H1 := Lib.hid h1
  obtain ⟨a0, c0, rfl, -⟩ := h0.vec.shape
  obtain ⟨a1, c1, rfl, -⟩ := h1.vec.shape
  have hk := check_none blk w
  rw [show checkK blk [] = 0 from by unfold checkK; rw [if_neg (by omega)]; rfl] at hk
  have HK := Lib.hid hk
  have HS := Lib.hid hs
  have HR := Lib.hid hr
  have hsl : src.length ≤ 8 := by have := hs.len; simpa using this
  have hrl : ref.length ≤ 8 := by have := hr.len; simpa using this
  have hname : ∀ p ∈ src, p.1.name.length ≤ 12 ∧ p.1.data.length ≤ 300 := fun p hp => by
    have h := hs.ok p.1 (List.mem_map_of_mem hp)
    have h3 := h.1
    unfold isName at h3
    simp at h3
    exact ⟨by omega, h.2⟩
  have hname1 : ∀ p ∈ ref, p.1.name.length ≤ 12 ∧ p.1.data.length ≤ 300 := fun p hp => by
    have h := hr.ok p.1 (List.mem_map_of_mem hp)
    have h3 := h.1
    unfold isName at h3
    simp at h3
    exact ⟨by omega, h.2⟩
  have HN0 := Lib.hid hname
  have HN1 := Lib.hid hname1
  have hc0 := tree_any _ src B w h0 (fun p hp => by have := (hname p hp).1; omega) (fun p hp => by have := (hname p hp).2; omega)
  rw [(treeErr_none _).2 hs] at hc0
  have HC0 := Lib.hid hc0
  have hc1 : ∀ W, Fr (fun _ => False) w W → Calls Tryz.prog 43 #[.slice a1 ref.length c1] W fun e w' => ∃ x, e = .returned x ∧ IsErr w' x .none ∧ Fr (fun _ => False) W w' := fun W hW => by
    have := tree_any _ ref B W (h1.keep0 hW) (fun p hp => by have := (hname1 p hp).1; omega) (fun p hp => by have := (hname1 p hp).2; omega)
    rw [(treeErr_none _).2 hr] at this
    exact this
  have HC1 := Lib.hid hc1
  clear hk h0 h1 hs hr hname hname1 hc0 hc1
  have hx0 := fun W => run_two0 W a0 a1 src.length c0 ref.length c1
  have hx1 := fun W => run_two1 W a0 a1 src.length c0 ref.length c1
  go_enter Tryz.func47, Tryz.ntmps47
  go_wp2_with fail
  refine HK.out.mono ?_
  rintro e w' ⟨rfl, rfl⟩
  rw [show kindErr 0 = .nilIface from rfl]
  go_wp2_with fail
  refine wp_loop_rounds 3 ?_
  rw [rounds_succ]
  go_wp2_with fail
  refine HC0.out.mono ?_
  rintro e w1 ⟨x, rfl, hx, hf1⟩
  obtain rfl : x = .nilIface := hx
  have HF1 := Lib.hid hf1
  clear hf1
  go_wp2_with fail
  rw [rounds_succ]
  go_wp2_with fail
  refine (HC1.out w1 HF1.out).mono ?_
  rintro e w2 ⟨x, rfl, hx, hf2⟩
  obtain rfl : x = .nilIface := hx
  have HF2 := Lib.hid (HF1.out.step hf2 (fun _ h _ => h))
  clear hf2
  go_wp2_with fail
  rw [rounds_succ]
  go_upto_region 11 with fail
  have hz2 := HF2.out.size
  have hcv := Lib.run_convert_bytes_const (P := Tryz.prog) w2 25 5 #[.int .u8 66, .int .u8 65, .int .u8 84] 3 3 Tryz.underlying25 Tryz.underlying5
  have hmm := @run_makeMap Tryz.prog
  have hva : Vec (w2.alloc (.cells #[.int .u8 66, .int .u8 65, .int .u8 84] 5 (3, 4))) w.heap.size 5 1 (.slice (some ⟨w2.heap.size, 0, none⟩) 3 3) 3 [.int .u8 66, .int .u8 65, .int .u8 84] :=
    ⟨rfl, .inr ⟨_, 3, [], rfl, hz2, Own.mark w2 #[.int .u8 66, .int .u8 65, .int .u8 84] _, rfl, Nat.le_refl _, by unfold maxLen; omega⟩⟩
  have HVA := Lib.hid hva
  have HFA := Lib.hid (HF2.out.alloc (.cells #[.int .u8 66, .int .u8 65, .int .u8 84] 5 (3, 4)))
  have hbw : IntKind.u8.wrap (blk : Int) = (blk : Int) := IntWalk.u8_in _ (by omega)
  have hlw : IntKind.u8.wrap (ref.length : Int) = (ref.length : Int) := IntWalk.u8_in _ (by omega)
  clear hva
  go_upto_region 12 with (at_builtin; refine wpList_append_vec rfl (.tmp 40) (.tmp 46) _ rfl w.heap.size 5 1 1 elt_u8 (HVA.out.keep ((Fr.refl (fun _ => False) _).alloc _) (fun _ _ h => h)) rfl (m := 2) (Reads.new _ _ _ _ (by simp) _ _) rfl rfl (by intro u hu; simp at hu; rcases hu with rfl | rfl <;> rfl) (by unfold maxLen; omega) (by omega) (by simp; omega) ?_; intro v3 w3 hv3 hf3 hd3 hn3; obtain ⟨a3, c3, hs3, -⟩ := hv3.shape; subst hs3; have HV3 := Lib.hid hv3; have HF3 := Lib.hid (((HFA.out.alloc _)).step hf3 (fun b hb hl => by have := (HVA.out.lt b hb).1; omega)); clear hv3 hf3 hd3 hn3)
  obtain ⟨hbe⟩ : Nonempty (([Value.int .u8 66, .int .u8 65, .int .u8 84] ++ [Value.int .u8 blk, .int .u8 ref.length]) = bcells (headB (ref.map (·.1)) blk)) := ⟨by
    have e1 := byte_small blk (by omega)
    have e2 := byte_small ref.length (by omega)
    unfold headB
    rw [show [66, 65, 84, UInt8.ofNat blk, UInt8.ofNat (ref.map (·.1)).length] = [66, 65, 84] ++ [UInt8.ofNat blk] ++ [UInt8.ofNat (ref.map (·.1)).length] from rfl, bcells_append, bcells_append, e1, List.length_map, e2]; rfl⟩
  have hv3 : Vec w3 w.heap.size 5 1 (.slice a3 5 c3) (headB (ref.map (·.1)) blk).length (bcells (headB (ref.map (·.1)) blk)) := by
    rw [← hbe]; exact HV3.out
  have HV3' := Lib.hid hv3
  have hz3 := HF3.out.size
  clear hv3 HV3 hbe hbw hlw
  go_wp2_with fail
  have hF4 : Fr (fun _ => False) w3 (w3.alloc (.map #[] 0)) := (Fr.refl _ _).alloc _
  have HBS4 := Lib.hid (Bases.made w3)
  have HV4 := Lib.hid (HV3'.out.keep hF4 (fun _ _ h => h))
  have HF4 := Lib.hid (HF3.out.step hF4 (fun _ h _ => h))
  have hmb4 : w3.heap.size < (w3.alloc (.map #[] 0)).heap.size := by simp
  obtain ⟨mb, hmb⟩ : ∃ mb, w3.heap.size = mb := ⟨_, rfl⟩
  rw [hmb] at HBS4 hmb4 ⊢
  have hmbw : w.heap.size ≤ mb := by omega
  clear hF4 HVA HFA HV3' HF3 HF2 hcv
  generalize w3.alloc (.map #[] 0) = w4 at *
  have hh5 : (headB (ref.map (·.1)) blk).length = 5 := rfl
  go_loopw [12, 51] (fun bv iv wr => ∃ k : Nat, k ≤ ref.length ∧ iv = .int .i64 k ∧ Fr (fun _ => False) w wr ∧ mb < wr.heap.size ∧ Vec wr w.heap.size 5 1 bv (headTo (ref.map (·.1)) blk k).length (bcells (headTo (ref.map (·.1)) blk k)) ∧ Bases wr mb k (ref.take k)) (fun _ iv _ => ref.length - (intOf iv).toNat)
  case atStart => exact ⟨0, Nat.zero_le _, rfl, HF4.out, hmb4, by unfold headTo; rw [List.take_zero, List.flatMap_nil, List.append_nil]; exact HV4.out, HBS4.out⟩
  case round =>
    obtain ⟨k, hk, rfl, hfr, hmz, hbv, hbs⟩ := hrel
    obtain ⟨ba, bc, hbq, -⟩ := hbv.shape
    subst hbq
    have HFR := Lib.hid hfr
    have HBV := Lib.hid hbv
    have HBS := Lib.hid hbs
    have hwz := hfr.size
    have hL := headTo_length (ref.map (·.1)) blk (fun f hf => by obtain ⟨p, hp, rfl⟩ := List.mem_map.1 hf; exact (HN1.out p hp).1) k (by simpa using hk)
    clear hbv hbs
    by_cases hlt : k < ref.length
    · have hfl := H1.out.keep0 hfr
      obtain ⟨g, cap, hq, e0, e1, hgl⟩ := hfl.get k hlt
      simp only [Value.slice.injEq, true_and] at hq
      obtain ⟨rfl, rfl⟩ := hq
      have hnn := HN1.out ref[k] (List.getElem_mem _)
      have hfrm := H1.out.from_ ref[k] (List.getElem_mem _)
      obtain ⟨da, dc, hdv, -⟩ := (hfl.data ref[k] (List.getElem_mem _)).shape
      have hisb := hfl.data ref[k] (List.getElem_mem _)
      have hsu := headTo_succ (ref.map (·.1)) blk k (by simpa using hlt)
      have htk : ref.take (k + 1) = ref.take k ++ [ref[k]] := List.take_succ_eq_append_getElem hlt
      rw [List.getElem_map] at hsu
      obtain ⟨L, hLe⟩ : ∃ L, headTo (ref.map (·.1)) blk k = L := ⟨_, rfl⟩
      rw [hLe] at hsu hL HBV ⊢
      clear hfl hfr hLe
      obtain ⟨f, hf⟩ : ∃ f, ref[k] = f := ⟨_, rfl⟩
      rw [hf] at hnn hfrm hdv hisb hsu htk e0 e1
      obtain ⟨⟨fn, d⟩, dv⟩ := f
      simp only at hnn hfrm hdv hisb hsu htk e0 e1
      obtain ⟨nm, hnm⟩ : ∃ nm : ByteArray, nm = ⟨fn.toArray⟩ := ⟨_, rfl⟩
      have hnd : fn = nm.data.toList := by rw [hnm]
      rw [← hnm] at e0
      subst hnd
      have hns : nm.data.toList.length = nm.size := by simp
      rw [hns] at hnn
      rw [hdv] at e1 hisb hfrm
      have hdv' := hdv
      subst hdv
      have HSU := Lib.hid hsu
      have HTK := Lib.hid htk
      have HIS := Lib.hid hisb
      have HFM := Lib.hid hfrm
      have HNN := Lib.hid hnn
      have hd3 := hnn.2
      have hn12 := hnn.1
      clear hnm hf hns hsu htk hisb hfrm hnn hdv'
      have hA : Fr (fun _ => False) wr (wr.alloc (.cells #[.string nm, .slice da d.length dc] 37)) := (Fr.refl _ _).alloc _
      have HA := Lib.hid hA
      have HO := Lib.hid (Own.alloc wr #[.string nm, .slice da d.length dc] 37)
      have hzA := hA.size
      clear hA
      have hbvA := HBV.out.keep HA.out (fun _ _ h => h)
      have HBV2 := Lib.hid hbvA
      have HBS2 := Lib.hid (HBS.out.keep HA.out id)
      have hnx : (Value.slice ba L.length bc).ownBlock ≠ some wr.heap.size := fun hb => by have := (HBV.out.lt _ hb).2; omega
      have HNX := Lib.hid hnx
      clear hbvA hnx
      go_wp2_with fail
      refine (entryW_any _ (.slice da d.length dc) L d nm w.heap.size _ HBV2.out (by omega) (by omega) (HIS.out.keep0 HA.out) hd3 (by omega) (fun b hb hb2 => by have h1 := (HFM.out b hb).2; have h2 := (HBV.out.lt b hb2).1; omega)).mono ?_
      rintro e w5 ⟨v5, rfl, hv5, hg5⟩
      rw [← HSU.out] at hv5
      obtain ⟨L5, hL5⟩ : ∃ L5, headTo (ref.map (·.1)) blk (k + 1) = L5 := ⟨_, rfl⟩
      rw [hL5] at hv5
      obtain ⟨a5, c5, hs5, -⟩ := hv5.shape
      subst hs5
      have HO5 := Lib.hid (hg5.own HO.out HNX.out)
      have x0 := HO5.out.cell (i := 0) rfl
      have x1 := HO5.out.cell (i := 1) rfl
      have hbs5 := HBS2.out.keep hg5.fr (fun hb => HBS2.out.apart HBV2.out hb)
      have HV5 := Lib.hid hv5
      obtain ⟨w6, r1, r2, r3⟩ := hbs5.put (by unfold maxLen; omega) nm d (.slice da d.length dc) (by omega)
      have hf6 : Fr (fun _ => False) w w6 := ((HFR.out.step HA.out (fun _ h _ => h)).step hg5.fr (fun b hb hl => by have := (HBV.out.lt b hb).1; omega)).step r3 (fun b hb hl => by omega)
      have HF6 := Lib.hid hf6
      have HV6 := Lib.hid (hv5.keep r3 (fun b hb hs => by subst hs; exact hbs5.apart hv5 hb))
      have HB6 := Lib.hid r2
      have hz6 : mb < w6.heap.size := by have := r3.size; have := hg5.fr.size; omega
      have HL5 := Lib.hid hL5
      clear hv5 hg5 hbs5 r2 r3 hf6 hL5
      go_wp2_with fail
      refine ⟨⟨k + 1, by omega, by go_num, HF6.out, hz6, by rw [HL5.out]; exact HV6.out, by rw [HTK.out]; exact HB6.out⟩, by simp [intOf]; omega⟩
    · obtain rfl : k = ref.length := by omega
      clear hfr
      rw [List.take_length] at HBS
      obtain ⟨L, hLe⟩ : ∃ L, headTo (ref.map (·.1)) blk ref.length = L := ⟨_, rfl⟩
      rw [hLe] at hL HBV ⊢
      have HLE := Lib.hid hLe
      have hb8 := byte_small src.length (by omega)
      have HB8 := Lib.hid hb8
      have hsw : IntKind.u8.wrap (src.length : Int) = (src.length : Int) := IntWalk.u8_in _ (by omega)
      clear hLe hb8
      go_upto_region 20 with (at_builtin; refine wpList_append_vec rfl _ _ _ rfl w.heap.size 5 1 1 elt_u8 (HBV.out.keep ((Fr.refl (fun _ => False) _).alloc _) (fun _ _ h => h)) rfl (m := 1) (Reads.new _ _ _ _ (by first | omega | simp) _ _) rfl rfl (by intro u hu; simp at hu; subst hu; rfl) (by unfold maxLen; omega) (by omega) (by simp; omega) ?_; intro v5 w5 hv5 hf5 hd5 hn5; obtain ⟨a5, c5, hs5, -⟩ := hv5.shape; subst hs5; have HG5 := Lib.hid (Grew.alloc _ ⟨hf5, hd5⟩); have HV5 := Lib.hid hv5; clear hv5 hf5 hd5 hn5)
      have hv5 : Vec w5 w.heap.size 5 1 (.slice a5 (L.length + 1) c5) (L ++ [UInt8.ofNat src.length]).length (bcells (L ++ [UInt8.ofNat src.length])) := by
        rw [bcells_append, HB8.out, List.length_append]; exact HV5.out
      have hHS := HG5.out.fr.size
      have HF5 := Lib.hid (HFR.out.step HG5.out.fr (fun b hb hl => by have := (HBV.out.lt b hb).1; omega))
      have HBS5 := Lib.hid (HBS.out.keep HG5.out.fr (fun hb => HBS.out.apart HBV.out hb))
      have hmz5 : mb < w5.heap.size := by omega
      obtain ⟨L5, hL5⟩ : ∃ L5, L ++ [UInt8.ofNat src.length] = L5 := ⟨_, rfl⟩
      have hl5 : L5.length = L.length + 1 := by rw [← hL5]; simp
      rw [hL5] at hv5
      have HV5' := Lib.hid hv5
      have HL5 := Lib.hid hL5
      have hl5b : L5.length ≤ 200 := by omega
      rw [← hl5] at HV5' ⊢
      clear hl5
      clear hv5 HV5 HG5 hL5 HBV HBS HFR hmz hsw
      go_wp2_with fail
      go_loopw [12, 72] (fun bv iv wr => ∃ k : Nat, k ≤ src.length ∧ iv = .int .i64 k ∧ Fr (fun _ => False) w wr ∧ mb < wr.heap.size ∧ Vec wr w.heap.size 5 1 bv (bodyTo L5 (src.map (·.1)) (ref.map (·.1)) blk k).length (bcells (bodyTo L5 (src.map (·.1)) (ref.map (·.1)) blk k)) ∧ Bases wr mb ref.length ref) (fun _ iv _ => src.length - (intOf iv).toNat)
      case atStart => exact ⟨0, Nat.zero_le _, rfl, HF5.out, hmz5, by unfold bodyTo; rw [List.take_zero, List.flatMap_nil, List.append_nil]; exact HV5'.out, HBS5.out⟩
      case round =>
        obtain ⟨k, hk, rfl, hfr, hmz, hbv, hbs⟩ := hrel
        obtain ⟨ba, bc, hbq, -⟩ := hbv.shape
        subst hbq
        have HFR := Lib.hid hfr
        have HBV := Lib.hid hbv
        have HBS := Lib.hid hbs
        have hwz := hfr.size
        have hL := bodyTo_length L5 (src.map (·.1)) (ref.map (·.1)) blk (by omega) (fun f hf => by obtain ⟨p, hp, rfl⟩ := List.mem_map.1 hf; exact HN0.out p hp) k (by simpa using hk)
        clear hbv hbs
        by_cases hlt : k < src.length
        · have hfl := H0.out.keep0 hfr
          obtain ⟨g, cap, hq, e0, e1, hgl⟩ := hfl.get k hlt
          simp only [Value.slice.injEq, true_and] at hq
          obtain ⟨rfl, rfl⟩ := hq
          have hnn := HN0.out src[k] (List.getElem_mem _)
          have hfrm := H0.out.from_ src[k] (List.getElem_mem _)
          obtain ⟨da, dc, hdv, -⟩ := (hfl.data src[k] (List.getElem_mem _)).shape
          have hisb := hfl.data src[k] (List.getElem_mem _)
          have hsu := bodyTo_succ L5 (src.map (·.1)) (ref.map (·.1)) blk k (by simpa using hlt)
          rw [List.getElem_map] at hsu
          obtain ⟨L, hLe⟩ : ∃ L, bodyTo L5 (src.map (·.1)) (ref.map (·.1)) blk k = L := ⟨_, rfl⟩
          rw [hLe] at hsu hL HBV ⊢
          clear hfl hfr hLe
          obtain ⟨f, hf⟩ : ∃ f, src[k] = f := ⟨_, rfl⟩
          rw [hf] at hnn hfrm hdv hisb hsu e0 e1
          obtain ⟨⟨fn, d⟩, dv⟩ := f
          simp only at hnn hfrm hdv hisb hsu e0 e1
          obtain ⟨nm, hnm⟩ : ∃ nm : ByteArray, nm = ⟨fn.toArray⟩ := ⟨_, rfl⟩
          have hnd : fn = nm.data.toList := by rw [hnm]
          rw [← hnm] at e0
          subst hnd
          have hns : nm.data.toList.length = nm.size := by simp
          rw [hns] at hnn
          rw [hdv] at e1 hisb hfrm
          have hdv' := hdv
          subst hdv
          have HSU := Lib.hid hsu
          have HIS := Lib.hid hisb
          have HFM := Lib.hid hfrm
          have hd3 := hnn.2
          have hn12 := hnn.1
          have hL6 : L.length ≤ 800000 := by omega
          clear hnm hf hns hsu hisb hfrm hnn hdv'
          have hA : Fr (fun _ => False) wr (wr.alloc (.cells #[.string nm, .slice da d.length dc] 37)) := (Fr.refl _ _).alloc _
          have HA := Lib.hid hA
          have HO := Lib.hid (Own.alloc wr #[.string nm, .slice da d.length dc] 37)
          have hzA := hA.size
          clear hA
          have hbvA := HBV.out.keep HA.out (fun _ _ h => h)
          have HBV2 := Lib.hid hbvA
          have HBS2 := Lib.hid (HBS.out.keep HA.out id)
          have hnx : (Value.slice ba L.length bc).ownBlock ≠ some wr.heap.size := fun hb => by have := (HBV.out.lt _ hb).2; omega
          have HNX := Lib.hid hnx
          clear hbvA hnx
          go_wp2_with fail
          refine (entryW_any _ (.slice da d.length dc) L d nm w.heap.size _ HBV2.out (by omega) (by omega) (HIS.out.keep0 HA.out) hd3 (by omega) (fun b hb hb2 => by have h1 := (HFM.out b hb).2; have h2 := (HBV.out.lt b hb2).1; omega)).mono ?_
          rintro e w6 ⟨v6, rfl, hv6, hg6⟩
          have hl6 : (L ++ entB ⟨nm.data.toList, d⟩).length ≤ 801000 := by
            have := entB_length ⟨nm.data.toList, d⟩ (by simpa using hn12)
            rw [List.length_append]; omega
          obtain ⟨L6, hL6e⟩ : ∃ L6, L ++ entB ⟨nm.data.toList, d⟩ = L6 := ⟨_, rfl⟩
          rw [hL6e] at hv6 hl6
          obtain ⟨a6, c6, hs6, -⟩ := hv6.shape
          subst hs6
          have HO6 := Lib.hid (hg6.own HO.out HNX.out)
          have x0 := HO6.out.cell (i := 0) rfl
          have x1 := HO6.out.cell (i := 1) rfl
          have HBS6 := Lib.hid (HBS2.out.keep hg6.fr (fun hb => HBS2.out.apart HBV2.out hb))
          have HV6 := Lib.hid hv6
          have HF6 := Lib.hid ((HFR.out.step HA.out (fun _ h _ => h)).step hg6.fr (fun b hb hl => by have := (HBV.out.lt b hb).1; omega))
          have hz6 := hg6.fr.size
          have HLE6 := Lib.hid hL6e
          have hlook := HBS6.out.look nm (by omega)
          have hlb := lastV_isB (w := w6) (l := ref) (fun p hp => (H1.out.keep0 HF6.out).data p hp) nm.data.toList
          have hbase : (lastOf (ref.map (·.1)) nm.data.toList).getD [] = baseOf (ref.map (·.1)) nm.data.toList := by
            unfold baseOf; rw [find_last _ HR.out.up]
          rw [hbase] at hlb
          have hbl : (baseOf (ref.map (·.1)) nm.data.toList).length ≤ 300 := baseOf_len _ (fun f hf => (HR.out.ok f hf).2) _
          obtain ⟨base, hbe⟩ : ∃ base, baseOf (ref.map (·.1)) nm.data.toList = base := ⟨_, rfl⟩
          rw [hbe] at hlb hbl
          obtain ⟨V, hV⟩ : ∃ V, (lastV ref nm.data.toList).getD (.slice none 0 0) = V := ⟨_, rfl⟩
          rw [hV] at hlb hlook
          obtain ⟨la, lc, hls, -⟩ := hlb.shape
          subst hls
          have HLB := Lib.hid hlb
          have HBE := Lib.hid hbe
          have HIS6 := Lib.hid ((HIS.out.keep0 HA.out).keep hg6.fr (fun b hb hb2 => by have h1 := (HFM.out b hb).2; have h2 := (HBV.out.lt b hb2).1; omega))
          clear hv6 hg6 hL6e hbase hbe hV hlb
          go_wp2_with fail
          refine (diff_any _ _ base d blk _ HLB.out HIS6.out).mono ?_
          rintro e w7 ⟨x, l, rfl, hf7, hot, -, hgood⟩
          have hz0 : sized blk base.length = 0 := by unfold sized; rw [if_neg (by omega), if_neg (by omega)]
          have hz1 : sized blk d.length = 0 := by unfold sized; rw [if_neg (by omega), if_neg (by omega)]
          have hs2 : sized2 blk base.length d.length = 0 := by unfold sized2; rw [if_pos hz0]; exact hz1
          have hm := hgood hs2
          rw [hs2, show kErr (.int .i64 0) = .nilIface from rfl]
          rw [Int.toNat_natCast] at hm
          have hdm := diff_makes base d blk (by omega) hd3
          rw [← hm] at hdm
          have hll : l.length ≤ 300 := by have := hdm.2.2; rw [List.length_map] at this; omega
          have htok := fun t ht => applyF_ok base blk (l.map (·.1)) [] d hdm.1 t ht
          have hnb := (nBlocks_mul base.length blk (by omega)).2.2
          have hsm : ∀ t ∈ l.map (·.1), (t.c = 0 ∧ t.b = 0 ∧ t.d.length ≤ 255) ∨ (0 < t.c ∧ t.c ≤ 255 ∧ 0 ≤ t.b ∧ t.b ≤ 300 ∧ t.d = []) := fun t ht => by
            have h1 := htok t ht
            rcases hdm.2.1 t ht with h | h
            · exact .inl ⟨h.1, h.2.1, h.2.2.2⟩
            · refine .inr ⟨h.1, h.2.1, h.2.2.1, ?_, h.2.2.2⟩
              unfold tokOk at h1
              simp at h1
              omega
          have HDM := Lib.hid hsm
          obtain ⟨xa, xc, hxs, -⟩ := hot.vec.shape
          subst hxs
          have HM := Lib.hid hm
          have HOT := Lib.hid hot
          have HF7 := Lib.hid (HF6.out.step hf7 (fun _ h _ => h))
          have HV7 := Lib.hid (HV6.out.keep hf7 (fun _ _ h => h))
          have HBS7 := Lib.hid (HBS6.out.keep hf7 id)
          have hz7 := hf7.size
          clear hgood hz0 hz1 hs2 hm hdm hot hf7 x0 x1 hlook htok hnb hsm
          go_wp2_with fail
          refine (put_any _ L6 l.length 2 w.heap.size 2 _ w7 HV7.out (by omega) (by omega) rfl rfl (by omega) (by omega)).mono ?_
          rintro e w8 ⟨v8, rfl, hv8, hg8⟩
          have hl8 : (L6 ++ putN 2 l.length).length ≤ 801010 := by rw [List.length_append, length_putN]; omega
          obtain ⟨L8, hL8e⟩ : ∃ L8, L6 ++ putN 2 l.length = L8 := ⟨_, rfl⟩
          rw [hL8e] at hv8 hl8
          obtain ⟨a8, c8, hs8, -⟩ := hv8.shape
          subst hs8
          have HV8 := Lib.hid hv8
          have HG8 := Lib.hid hg8
          have HLE8 := Lib.hid hL8e
          clear hv8 hg8 hL8e
          go_wp2_with fail
          go_loopw [12, 100] (fun bv iv wr => ∃ j : Nat, j ≤ l.length ∧ iv = .int .i64 j ∧ Grew w7 (.slice a6 L6.length c6) bv wr ∧ Vec wr w.heap.size 5 1 bv (toksTo L8 (l.map (·.1)) j).length (bcells (toksTo L8 (l.map (·.1)) j))) (fun _ iv _ => l.length - (intOf iv).toNat)
          case atStart => exact ⟨0, Nat.zero_le _, rfl, HG8.out, by unfold toksTo; rw [List.take_zero, List.flatMap_nil, List.append_nil]; exact HV8.out⟩
          case round =>
            obtain ⟨j, hj, rfl, hgr, hbv⟩ := hrel
            obtain ⟨ba2, bc2, hbq, -⟩ := hbv.shape
            subst hbq
            have HGR := Lib.hid hgr
            have HBW := Lib.hid hbv
            have hwz2 := hgr.fr.size
            have hLj := toksTo_len L8 (l.map (·.1)) (fun t ht => by rcases HDM.out t ht with h | h; exact h.2.2; rw [h.2.2.2.2]; simp) j
            rw [List.length_map] at hLj
            clear hgr hbv
            by_cases hlj : j < l.length
            · have hot := HOT.out.below HGR.out.fr (fun b hb => (HV6.out.lt b hb).2)
              obtain ⟨gt, ct, hqt, t0, t1, t2⟩ := hot.toks.get j hlj
              simp only [Value.slice.injEq, true_and] at hqt
              obtain ⟨rfl, rfl⟩ := hqt
              have hmem : l[j] ∈ l := List.getElem_mem hlj
              have hsh := HDM.out l[j].1 (List.mem_map_of_mem hmem)
              obtain ⟨ea, ec, hev, -⟩ := (hot.data l[j] hmem).shape
              have hei := (hot.data l[j] hmem).isB
              have hel := HOT.out.lt l[j] hmem
              clear hmem
              have hstep := toksTo_succ L8 (l.map (·.1)) j (by simpa using hlj)
              rw [List.getElem_map] at hstep
              obtain ⟨L, hLe⟩ : ∃ L, toksTo L8 (l.map (·.1)) j = L := ⟨_, rfl⟩
              rw [hLe] at hstep hLj HBW HGR ⊢
              have hLJ : L.length ≤ 890000 := by omega
              clear hot hLe hLj
              obtain ⟨f, hf⟩ : ∃ f, l[j] = f := ⟨_, rfl⟩
              rw [hf] at t0 t1 t2 hsh hev hei hel hstep
              obtain ⟨⟨tb, tc, td⟩, ev⟩ := f
              simp only at t0 t1 t2 hsh hev hei hel hstep
              subst hev
              have HEI := Lib.hid hei
              have hap : ∀ b, (Value.slice ea td.length ec).ownBlock = some b → (Value.slice ba2 L.length bc2).ownBlock ≠ some b := fun b hb hb2 => by
                have h1 := hel b hb
                rcases HGR.out.at_ with e | ⟨g', e, hg'⟩
                · rw [e] at hb2
                  have := (HV6.out.lt b hb2).2
                  omega
                · rw [e] at hb2
                  cases hb2
                  omega
              have HEL := Lib.hid hap
              have HST := Lib.hid hstep
              clear hf hei hel hstep hap
              have hne : ∀ b, (Value.slice ba2 L.length bc2).ownBlock = some b → b < wr.heap.size := fun b hb => (HBW.out.lt b hb).2
              have HNE := Lib.hid hne
              clear hne
              rcases hsh with ⟨rfl, rfl, htd⟩ | ⟨hc1, hc2, hb1', hb2', rfl⟩
              · have htw : IntKind.u8.wrap (td.length : Int) = (td.length : Int) := IntWalk.u8_in _ (by omega)
                have HB8 := Lib.hid (byte_small td.length (by omega))
                have hA : Fr (fun _ => False) wr (wr.alloc (.cells #[.int .i64 0, .int .i64 0, .slice ea td.length ec] 171)) := (Fr.refl _ _).alloc _
                have HA := Lib.hid hA
                have HO := Lib.hid (Own.alloc wr #[.int .i64 0, .int .i64 0, .slice ea td.length ec] 171)
                have hzA := hA.size
                clear hA
                obtain ⟨wA, hwA⟩ : ∃ W, wr.alloc (.cells #[.int .i64 0, .int .i64 0, .slice ea td.length ec] 171) = W := ⟨_, rfl⟩
                rw [hwA] at HA HO hzA
                have HNG := Lib.hid (show (Value.slice ba2 L.length bc2).ownBlock ≠ some wr.heap.size from fun hb => by have := HNE.out _ hb; omega)
                have x2 := HO.out.cell (i := 2) rfl
                have x1 := HO.out.cell (i := 1) rfl
                have HBA := Lib.hid (HBW.out.keep HA.out (fun _ _ h => h))
                go_upto_region 33 with (at_builtin; refine wpList_append_vec rfl _ _ _ rfl w.heap.size 5 1 1 elt_u8 (HBA.out.keep ((Fr.refl (fun _ => False) _).alloc _) (fun _ _ h => h)) rfl (m := 2) (Reads.new _ _ _ _ (by first | omega | simp) _ _) rfl rfl (by intro u hu; simp at hu; rcases hu with rfl | rfl <;> rfl) (by unfold maxLen; omega) (by omega) (by simp; omega) ?_; intro v9 w9 hv9 hf9 hd9 hn9; obtain ⟨a9, c9, hs9, -⟩ := hv9.shape; subst hs9; have HG9 := Lib.hid (Grew.alloc _ ⟨hf9, hd9⟩); have HV9 := Lib.hid hv9; have HO9 := Lib.hid (HG9.out.own HO.out HNG.out); have y2 := HO9.out.cell (i := 2) rfl; clear hv9 hf9 hd9 hn9)
                have hv9 : Vec w9 w.heap.size 5 1 (.slice a9 (L.length + 2) c9) (L ++ [0, UInt8.ofNat td.length]).length (bcells (L ++ [0, UInt8.ofNat td.length])) := by
                  rw [bcells_append, show [0, UInt8.ofNat td.length] = [0] ++ [UInt8.ofNat td.length] from rfl, bcells_append, HB8.out, List.length_append]; exact HV9.out
                have HV9' := Lib.hid hv9
                have hei9 := (HEI.out.keep0 HA.out).keep HG9.out.fr (fun b hb => HEL.out b hb)
                have HE9 := Lib.hid hei9
                have hz9 := HG9.out.fr.size
                clear hv9 hei9
                go_wp2_with (at_builtin; refine wpList_append_vec rfl _ _ _ rfl w.heap.size 5 1 1 elt_u8 HV9'.out rfl (m := td.length) (Reads.ofB HE9.out) rfl (by simp) (bcells_one _) (by rw [List.length_append]; unfold maxLen; simp; omega) (by rw [List.length_append]; simp; omega) (by omega) ?_; intro v10 w10 hv10 hf10 hd10 hn10; obtain ⟨a10, c10, hs10, -⟩ := hv10.shape; subst hs10; have HG10 := Lib.hid (HG9.out.step ⟨hf10, hd10⟩); have HV10 := Lib.hid hv10; clear hv10 hf10 hd10 hn10)
                have hg10 := HG10.out
                rw [show (L ++ [0, UInt8.ofNat td.length]).length = L.length + 2 by simp] at hg10
                refine ⟨⟨j + 1, by omega, by go_num, HGR.out.step (Grew.keepF HA.out hg10), ?_⟩, by simp [intOf]; omega⟩
                have e : toksTo L8 (l.map (·.1)) (j + 1) = L ++ [0, UInt8.ofNat td.length] ++ td := by rw [HST.out]; simp [tokB]
                have hv := HV10.out
                rw [← bcells_append] at hv
                have e2 : (L ++ [0, UInt8.ofNat td.length] ++ td).length = L.length + 2 + td.length := by simp; omega
                have e3 : (L ++ [0, UInt8.ofNat td.length]).length = L.length + 2 := by simp
                rw [e3] at hv
                rw [e, e2]
                exact hv
              · obtain ⟨nb, rfl⟩ := Int.eq_ofNat_of_zero_le hb1'
                obtain ⟨nc, rfl⟩ := Int.eq_ofNat_of_zero_le (a := tc) (by omega)
                have hc0 : ((nc : Int) == 0) = false := by simp; omega
                have hcw : IntKind.u8.wrap (nc : Int) = (nc : Int) := IntWalk.u8_in _ (by omega)
                have hbw2 : IntKind.u64.wrap (nb : Int) = (nb : Int) := by rw [show ∀ n : Int, IntKind.u64.wrap n = n % 18446744073709551616 from fun n => by simp [IntKind.wrap, IntKind.bits, IntKind.signed]]; omega
                have HB8 := Lib.hid (byte_small nc (by omega))
                have hA : Fr (fun _ => False) wr (wr.alloc (.cells #[.int .i64 nb, .int .i64 nc, .slice ea 0 ec] 171)) := (Fr.refl _ _).alloc _
                have HA := Lib.hid hA
                have HO := Lib.hid (Own.alloc wr #[.int .i64 nb, .int .i64 nc, .slice ea 0 ec] 171)
                have hzA := hA.size
                clear hA
                go_upto_region 34 with fail
                generalize wr.alloc (.cells #[.int .i64 nb, .int .i64 nc, .slice ea 0 ec] 171) = wA at *
                have HNG := Lib.hid (show (Value.slice ba2 L.length bc2).ownBlock ≠ some wr.heap.size from fun hb => by have := HNE.out _ hb; omega)
                have x0 := HO.out.cell (i := 0) rfl
                have HBA := Lib.hid (HBW.out.keep HA.out (fun _ _ h => h))
                have x0d := (HO.out.keep ((Fr.refl (fun _ => False) wA).alloc (.cells #[.int .u8 1] 5)).drew id).cell (i := 0) rfl
                go_cut [12, 100] from 101 to 131 (fun s12 s100 wx => s100 = .int .i64 j ∧ ∃ a c, s12 = .slice a (L.length + 3) c ∧ Grew wA (.slice ba2 L.length bc2) (.slice a (L.length + 3) c) wx ∧ Vec wx w.heap.size 5 1 (.slice a (L.length + 3) c) (L ++ [1] ++ putN 2 nb).length (bcells (L ++ [1] ++ putN 2 nb)))
                case first =>
                  go_region_law
                    (first
                      | (rw [if_pos (by rfl)]; refine wp_append_vec (.tmp 118) (.tmp 119) 25 rfl w.heap.size 5 1 1 elt_u8 (v := .slice ba2 L.length bc2) (n := L.length) (xs := bcells L) (HBA.out.keep ((Fr.refl (fun _ => False) _).alloc _).drew (fun _ _ h => h)) rfl (m := 1) (Reads.drew (Reads.new _ _ _ _ (by simp) _ _)) rfl rfl (bcells_one [1]) (by unfold maxLen; omega) (by omega) (by simp; omega) ?_; intro v9 w9 hv9 hf9 hd9; obtain ⟨a9, c9, hsh9, -⟩ := hv9.shape; subst hsh9; have HG9 := Lib.hid (Grew.alloc _ (Grew.of_drew ⟨hf9, hd9⟩)); have HV9 := Lib.hid hv9; have y := HG9.out.own HO.out HNG.out; have y0 := y.cell (i := 0) rfl; have HV9' := Lib.hid (show Vec w9 w.heap.size 5 1 (.slice a9 (L.length + 1) c9) (L ++ [1]).length (bcells (L ++ [1])) from by rw [List.length_append, bcells_append]; exact HV9.out); have hz9 := HG9.out.fr.size; clear hv9 hf9 hd9 y)
                      | (go_simp; go_at_call 78; refine (put_any _ (L ++ [1]) nb 2 w.heap.size 2 _ w9 HV9'.out (by omega) (by simp; omega) rfl rfl (by omega) (by omega)).mono ?_; rintro e w10 ⟨v10, rfl, hv10, hg10⟩; have hl10 : (L ++ [1] ++ putN 2 nb).length = L.length + 3 := (by simp [length_putN]); obtain ⟨a10, c10, hs10, -⟩ := hv10.shape; rw [hl10] at hs10; subst hs10; have HV10 := Lib.hid hv10; have HG10 := Lib.hid (HG9.out.step hg10); clear hv10 hg10 hl10))
                  all_goals
                    go_wp2_with fail
                    go_meet
                    case rel => exact ⟨rfl, _, _, rfl, HG10.out, HV10.out⟩
                case rest =>
                obtain ⟨rfl, a10, c10, rfl, hg10, hv10⟩ := hcut
                have HG10 := Lib.hid hg10
                have HO10 := Lib.hid (hg10.own HO.out HNG.out)
                have x1 := HO10.out.cell (i := 1) rfl
                have hl10 : (L ++ [1] ++ putN 2 nb).length = L.length + 3 := by simp [length_putN]
                obtain ⟨L10, hLe⟩ : ∃ L10, L ++ [1] ++ putN 2 nb = L10 := ⟨_, rfl⟩
                rw [hLe] at hv10 hl10
                rw [hl10] at hv10
                have HLA := Lib.hid hLe
                have HL10 := Lib.hid hl10
                have HV10 := Lib.hid hv10
                have hz10 := hg10.fr.size
                clear hg10 hv10 hLe hl10 x0 x0d
                go_wp2_with (at_builtin; refine wpList_append_vec rfl _ _ _ rfl w.heap.size 5 1 1 elt_u8 (HV10.out.keep ((Fr.refl (fun _ => False) _).alloc _) (fun _ _ h => h)) rfl (m := 1) (Reads.new _ _ _ _ (by first | omega | simp) _ _) rfl rfl (by intro u hu; simp at hu; subst hu; rfl) (by unfold maxLen; omega) (by omega) (by simp; omega) ?_; intro v11 w11 hv11 hf11 hd11 hn11; obtain ⟨a11, c11, hs11, -⟩ := hv11.shape; subst hs11; have HG11 := Lib.hid (HG10.out.step (Grew.alloc _ ⟨hf11, hd11⟩)); have HV11 := Lib.hid hv11; clear hv11 hf11 hd11 hn11)
                refine ⟨⟨j + 1, by omega, by go_num, HGR.out.step (Grew.keepF HA.out HG11.out), ?_⟩, by simp [intOf]; omega⟩
                have hcn : ¬ ((nc : Int) = 0) := by omega
                have e : toksTo L8 (l.map (·.1)) (j + 1) = L10 ++ [UInt8.ofNat nc] := by
                  rw [HST.out, ← HLA.out]
                  unfold tokB
                  rw [if_neg hcn]
                  simp
                have hv := HV11.out
                rw [← HB8.out, ← bcells_append] at hv
                have e2 : (L10 ++ [UInt8.ofNat nc]).length = L.length + 3 + 1 := by rw [List.length_append, HL10.out]; rfl
                rw [e, e2]
                exact hv
            · obtain rfl : j = l.length := by omega
              obtain ⟨L9, hLe⟩ : ∃ L9, toksTo L8 (l.map (·.1)) l.length = L9 := ⟨_, rfl⟩
              rw [hLe] at hLj HBW ⊢
              have HLE9 := Lib.hid hLe
              clear hLe
              go_wp2_with fail
              have hLfin : bodyTo L5 (src.map (·.1)) (ref.map (·.1)) blk (k + 1) = L9 := by
                rw [HSU.out, ← HLE9.out, ← HLE8.out, ← HLE6.out]
                unfold targB toksB targToks toksTo
                rw [HBE.out, ← HM.out, List.take_of_length_le (by simp)]
                simp
              exact ⟨⟨k + 1, by omega, by go_num, HF7.out.step HGR.out.fr (fun b hb hl => by have := (HV6.out.lt b hb).1; omega), by omega, by rw [hLfin]; exact HBW.out, HBS7.out.keep HGR.out.fr (fun hb => HBS7.out.apart HV7.out hb)⟩, by simp [intOf]; omega⟩
        · obtain rfl : k = src.length := by omega
          obtain ⟨L, hLe⟩ : ∃ L, bodyTo L5 (src.map (·.1)) (ref.map (·.1)) blk src.length = L := ⟨_, rfl⟩
          rw [hLe] at hL HBV ⊢
          have HLEE := Lib.hid hLe
          have hll : L.length ≤ 900000 := by omega
          have hdl := dgN_lt L
          have HDL := Lib.hid (dgN_int L)
          clear hLe hfr
          go_wp2_with fail
          refine (digest_any _ L _ HBV.out.isB).mono ?_
          rintro e w' ⟨rfl, rfl⟩
          go_wp2_with fail
          refine (put_any _ L (dgN L) 8 w.heap.size 8 _ wr HBV.out (by omega) (by omega) rfl HDL.out.symm hdl (by omega)).mono ?_
          rintro e w6 ⟨v6, rfl, hv6, hg6⟩
          have hfin : recOf (src.map (·.1)) (ref.map (·.1)) blk = L ++ putN 8 (dgN L) := by
            have : recBody (src.map (·.1)) (ref.map (·.1)) blk = L := by
              rw [← HLEE.out, ← HL5.out, ← HLE.out]
              unfold recBody bodyTo headTo
              rw [List.take_of_length_le (l := ref.map (·.1)) (by simp), List.take_of_length_le (l := src.map (·.1)) (by simp)]
              simp
            unfold recOf
            rw [this]
          have HV6 := Lib.hid hv6
          have HF6 := Lib.hid (HFR.out.step hg6.fr (fun b hb hl => by have := (HBV.out.lt b hb).1; omega))
          have HFIN := Lib.hid hfin
          clear hv6 hg6 hfin
          go_wp2_with fail
          go_ret2
          exact ⟨v6, rfl, by rw [HFIN.out]; exact HV6.out, HF6.out⟩
end Go.Proofs.YtlcdgbhigfgehabGreatDoor
