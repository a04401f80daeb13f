/- delta.blocks: a file's blocks, one by one: what a loop over them may rely on. -/
import Derived.RangeFuncNested
import Derived.RangeFuncBound
import Derived.RangeFuncCalls
import Derived.RangeFuncLeaves
import Derived.Shelf.Abstract
import Derived.Shelf.RegionOpen
import Derived.WalkKit
import Derived.OwnWalkIn
import Derived.TacticsInMore
import Derived.LoopNIn
import Derived.LoopIn
import Derived.Test.YtlcdgbhigfgehabGreatDoorToks
import Derived.Test.YtlcdgbhigfgehabGreatDoorRoomy
namespace Go.Proofs.YtlcdgbhigfgehabGreatDoor
open Go.RowKit Go.Shelf
attribute [local go_sem] Oper.semAt_some
set_option maxRecDepth 100000

/-- How long the i-th block is. -/
def blkLen (n blk i : Nat) : Nat := min blk (n - i * blk)
/-- The i-th block as the loop is handed it. -/
def blkVal (v : Value) (n blk i : Nat) : Value :=
  match v with
  | .slice (some ⟨b, off, _⟩) _ _ => .slice (some ⟨b, off + i * blk, none⟩) (blkLen n blk i) (blkLen n blk i)
  | _ => .slice none 0 0
theorem blkVal_isB {w : World} {v : Value} {l : List UInt8} (h : IsB w v l) (blk i : Nat) (hb : 0 < blk) (hi : i < nBlocks l.length blk) : IsB w (blkVal v l.length blk i) ((l.drop (i * blk)).take blk) := by
  have hlt := (lt_nBlocks l.length blk i hb).1 hi
  have h0 := h
  rcases h with ⟨rfl, rfl⟩ | ⟨b, off, cap, cur, fr, rfl, h1, h2, h3, h4⟩
  · simp at hlt
  · have := h0.part (i * blk) (i * blk + blkLen l.length blk i) (blkLen l.length blk i) (by omega) (by unfold blkLen; omega) (by omega) (by unfold blkLen; omega)
    rw [Nat.add_sub_cancel_left] at this
    have e : (l.drop (i * blk)).take (blkLen l.length blk i) = (l.drop (i * blk)).take blk := by
      rw [List.take_eq_take_iff]; simp [blkLen]
    rw [e] at this
    exact this
theorem blkVal_own {v : Value} {n blk i b : Nat} (h : (blkVal v n blk i).ownBlock = some b) : v.ownBlock = some b := by
  unfold blkVal at h
  split at h
  · simp [Value.ownBlock] at h ⊢; exact h
  · simp [Value.ownBlock] at h
/-- What a round keeps: the two boxes. -/
def KeptB (D : Nat) (W W' : World) : Prop := ∀ k, k = D ∨ k = D + 1 → W'.heap[k]? = W.heap[k]?
theorem keptB_t {D : Nat} {A B C : World} (h : KeptB D A B) (k : KeptB D B C) : KeptB D A C := fun i hi => (k i hi).trans (h i hi)
theorem keptB_b {D : Nat} {w : World} (hD : D + 1 < w.heap.size) (W : World) (l : Nat) (o o' : Obj) (hl : w.heap.size ≤ l) (_ : W.heap[l]? = some o) (_ : o.isCells = false) (_ : o.isWalk = false) : KeptB D W (W.putObj l o') :=
  fun k hk => World.putObj_heap_other (by omega)
theorem KeptB.of_fr {D : Nat} {S : Nat → Prop} {W W' : World} (h : Fr S W W') (hD : D + 1 < W.heap.size) (h0 : ¬ S D) (h1 : ¬ S (D + 1)) : KeptB D W W' := by
  rintro k (rfl | rfl)
  · exact h.block _ (by omega) h0
  · exact h.block _ hD h1
theorem KeptB.cell0 {D : Nat} {W W' : World} {v : Value} (h : KeptB D W W') (hv : W.cell? ⟨D, 0, none⟩ = some v) : W'.cell? ⟨D, 0, none⟩ = some v := by
  rw [World.cell?_of_block (h D (.inl rfl))]; exact hv
theorem KeptB.cell1 {D : Nat} {W W' : World} {v : Value} (h : KeptB D W W') (hv : W.cell? ⟨D + 1, 0, none⟩ = some v) : W'.cell? ⟨D + 1, 0, none⟩ = some v := by
  rw [World.cell?_of_block (h (D + 1) (.inr rfl))]; exact hv

/-- The first k numbers below nb. -/
def firsts (nb k : Nat) : List (Fin nb) := (List.finRange nb).take k
theorem firsts_succ (nb k : Nat) (h : k < nb) : firsts nb (k + 1) = firsts nb k ++ [⟨k, h⟩] := by
  unfold firsts
  rw [List.take_succ_eq_append_getElem (by simpa using h)]
  simp
theorem firsts_length (nb k : Nat) (h : k ≤ nb) : (firsts nb k).length = k := by simp [firsts]; omega
theorem firsts_all (nb : Nat) : firsts nb nb = List.finRange nb := by unfold firsts; rw [List.take_of_length_le (by simp)]

set_option maxHeartbeats 2000000 in
theorem blocks1_row (n : Nat) (hn : 1 ≤ n) (lp D b off cap blk len : Nat) (hb : 0 < blk) (hb2 : blk ≤ 64) (hl : len ≤ 100000) (hlc : len ≤ cap) (J Jx : List (Fin (nBlocks len blk)) → World → Prop)
    (hY : ∀ pre x W, J pre W → pre.length < nBlocks len blk → YieldAt Fence.wide (n - 1) Tryz.prog lp #[.int .i64 (x.1 : Int), blkVal (.slice (some ⟨b, off, none⟩) len cap) len blk x.1] W fun e W' =>
      (e = .returned (.bool true) ∧ J (pre ++ [x]) W' ∧ KeptB D W W') ∨ (e = .returned (.bool false) ∧ Jx (pre ++ [x]) W'))
    (W : World) (h0 : W.cell? ⟨D, 0, none⟩ = some (.slice (some ⟨b, off, none⟩) len cap)) (h1 : W.cell? ⟨D + 1, 0, none⟩ = some (.int .i64 blk)) (hj : J [] W) :
    CallsIn Fence.wide n Tryz.prog 157 #[.func (.yield lp) #[] #[], .pointer (some ⟨D + 1, 0, none⟩), .pointer (some ⟨D, 0, none⟩)] W fun e W' => (∃ v, e = .returned v) ∧
      ((∃ ys, ys = List.finRange (nBlocks len blk) ∧ J ys W') ∨ (∃ pre, (∃ k, k ≤ nBlocks len blk ∧ pre = firsts _ k) ∧ Jx pre W')) := by
  refine callsIn_of_wp Tryz.func157 rfl trivial ?_ rfl
  simp only [Tryz.ntmps157, List.size_toArray, List.length_cons, List.length_nil, Nat.reduceAdd, Nat.reduceSub, Array.replicate_succ, Array.replicate_zero, List.push_toArray, List.append_toArray, List.nil_append, List.cons_append]
  gi_wp2
  gi_loopw [4] (fun i wr => ∃ k : Nat, k ≤ nBlocks len blk ∧ i = .int .i64 k ∧ J (firsts _ k) wr ∧ KeptB D W wr)
    (fun i _ => nBlocks len blk - (intOf i).toNat)
  case atStart => exact ⟨0, Nat.zero_le _, rfl, hj, fun _ _ => rfl⟩
  case round =>
    obtain ⟨k, hk, rfl, hJs, hkp⟩ := hrel
    have c0 := hkp.cell0 h0
    have c1 := hkp.cell1 h1
    have hnb := nBlocks_mul len blk hb
    have hk2 : k ≤ 100000 := by omega
    have b1 : (0 : Int) ≤ (k : Int) * (blk : Int) := by exact_mod_cast Nat.zero_le (k * blk)
    have b2 : (k : Int) * (blk : Int) ≤ 10000000 := by
      have : k * blk ≤ 100000 * 64 := Nat.mul_le_mul (by omega) hb2
      rw [← Int.natCast_mul]
      omega
    by_cases hlt : k < nBlocks len blk
    · have hx := (lt_nBlocks len blk k hb).1 hlt
      have b3 : (k : Int) * (blk : Int) < (len : Int) := by exact_mod_cast hx
      obtain ⟨fn, tmps, assign, body, hy, hR⟩ := hY _ ⟨k, hlt⟩ wr hJs (by rw [firsts_length _ _ hk]; exact hlt)
      have b4 : (0 : Int) ≤ ((k : Int) + 1) * (blk : Int) := by rw [Int.add_mul]; omega
      have b5 : ((k : Int) + 1) * (blk : Int) ≤ 20000000 := by rw [Int.add_mul]; omega
      have b6 : (k : Int) * (blk : Int) < ((k : Int) + 1) * (blk : Int) := by rw [Int.add_mul]; omega
      clear hnb
      have fin : ∀ e W3, ((e = Ending.returned (.bool true) ∧ J (firsts _ k ++ [⟨k, hlt⟩]) W3 ∧ KeptB D wr W3) ∨ (e = .returned (.bool false) ∧ Jx (firsts _ k ++ [⟨k, hlt⟩]) W3)) →
          (e = Ending.returned (.bool true) ∧ J (firsts _ (k + 1)) W3 ∧ KeptB D W W3) ∨ (e = .returned (.bool false) ∧ Jx (firsts _ (k + 1)) W3) := by
        rw [firsts_succ _ _ hlt]
        rintro e W3 (⟨h1, h2, h3⟩ | h)
        · exact .inl ⟨h1, h2, keptB_t hkp h3⟩
        · exact .inr h
      have HR := Lib.hid (hR.mono fin)
      clear hR fin
      by_cases hfull : ((k : Int) + 1) * (blk : Int) ≤ (len : Int)
      · have hbv : blkVal (.slice (some ⟨b, off, none⟩) len cap) len blk k = .slice (some ⟨b, off + k * blk, none⟩) ((k + 1) * blk - k * blk) ((k + 1) * blk - k * blk) := by
          have h1 : (k + 1) * blk ≤ len := by rw [← Int.ofNat_le, Int.natCast_mul]; exact hfull
          rw [Nat.add_mul, Nat.one_mul] at h1
          simp only [blkVal, blkLen, Nat.add_mul, Nat.one_mul, Nat.add_sub_cancel_left]
          rw [Nat.min_eq_left (by omega)]
        rw [hbv] at hy
        clear hbv
        gi_wp2
        refine HR.out.mono ?_
        rintro e W3 (⟨rfl, hJ3, hk3⟩ | ⟨rfl, hJx3⟩)
        · gi_wp2
          go_roundw
          case rel => exact ⟨k + 1, by omega, by simp, hJ3, hk3⟩
          case measure => simp [intOf]; omega
        · gi_wp2
          refine bodyPost_ret (results_none rfl _ _ _) rfl ?_
          exact ⟨⟨_, rfl⟩, .inr ⟨_, ⟨k + 1, by omega, rfl⟩, hJx3⟩⟩
      · have hbv : blkVal (.slice (some ⟨b, off, none⟩) len cap) len blk k = .slice (some ⟨b, off + k * blk, none⟩) (len - k * blk) (len - k * blk) := by
          have h1 : ¬ (k + 1) * blk ≤ len := by rw [← Int.ofNat_le, Int.natCast_mul]; exact hfull
          rw [Nat.add_mul, Nat.one_mul] at h1
          simp only [blkVal, blkLen]
          rw [Nat.min_eq_right (by omega)]
        rw [hbv] at hy
        clear hbv
        gi_wp2
        refine HR.out.mono ?_
        rintro e W3 (⟨rfl, hJ3, hk3⟩ | ⟨rfl, hJx3⟩)
        · gi_wp2
          go_roundw
          case rel => exact ⟨k + 1, by omega, by simp, hJ3, hk3⟩
          case measure => simp [intOf]; omega
        · gi_wp2
          refine bodyPost_ret (results_none rfl _ _ _) rfl ?_
          exact ⟨⟨_, rfl⟩, .inr ⟨_, ⟨k + 1, by omega, rfl⟩, hJx3⟩⟩
    · obtain rfl : k = nBlocks len blk := by omega
      have b3 : (len : Int) ≤ (nBlocks len blk : Int) * (blk : Int) := by exact_mod_cast hnb.1
      have HJ := Lib.hid hJs
      clear hJs hnb
      gi_wp2
      go_end0
      exact ⟨⟨_, rfl⟩, .inl ⟨_, rfl, by rw [← firsts_all]; exact HJ.out⟩⟩

set_option maxHeartbeats 2000000 in
theorem blocks1_nil (n : Nat) (lp D blk : Nat) (J : List (Fin (nBlocks 0 blk)) → World → Prop) (W : World)
    (h0 : W.cell? ⟨D, 0, none⟩ = some (.slice none 0 0)) (h1 : W.cell? ⟨D + 1, 0, none⟩ = some (.int .i64 blk)) (hj : J [] W) :
    CallsIn Fence.wide n Tryz.prog 157 #[.func (.yield lp) #[] #[], .pointer (some ⟨D + 1, 0, none⟩), .pointer (some ⟨D, 0, none⟩)] W fun e W' => (∃ v, e = .returned v) ∧ J [] W' := by
  refine callsIn_of_wp Tryz.func157 rfl trivial ?_ rfl
  simp only [Tryz.ntmps157, List.size_toArray, List.length_cons, List.length_nil, Nat.reduceAdd, Nat.reduceSub, Array.replicate_succ, Array.replicate_zero, List.push_toArray, List.append_toArray, List.nil_append, List.cons_append]
  gi_wp2
  gi_loopw [4] (fun i wr => i = .int .i64 0 ∧ J [] wr ∧ wr = W) (fun _ _ => 0)
  case atStart => exact ⟨rfl, hj, rfl⟩
  case round =>
    obtain ⟨rfl, hJs, rfl⟩ := hrel
    gi_wp2
    go_end0
    exact ⟨⟨_, rfl⟩, hJs⟩

/-- blocks(data, block): both parameters are boxed; the function value captures the boxes. -/
theorem blocks_in (n : Nat) (a : Option Addr) (len cap : Nat) (blk : Int) (w : World) :
    CallsIn Fence.wide n Tryz.prog 148 #[.slice a len cap, .int .i64 blk] w fun e w' =>
      e = .returned (.func (.func 157) #[] #[.pointer (some ⟨w.heap.size + 1, 0, none⟩), .pointer (some ⟨w.heap.size, 0, none⟩)]) ∧
      w' = (w.alloc (.cells #[.slice a len cap] 25)).alloc (.cells #[.int .i64 blk] 3) := by
  refine callsIn_of_wp Tryz.func148 rfl trivial ?_ rfl
  simp only [Tryz.ntmps148, List.size_toArray, List.length_cons, List.length_nil, Nat.reduceAdd, Nat.reduceSub, Array.replicate_succ, Array.replicate_zero, List.push_toArray, List.append_toArray, List.nil_append, List.cons_append]
  gi_wp2
  go_ret
  exact ⟨rfl, rfl⟩

/-- What comes out of blocks gives a file's blocks in their order. -/
theorem blocks_stops (n : Nat) (hn : 1 ≤ n) (D blk : Nat) (v : Value) (l : List UInt8) (hb : 0 < blk) (hb2 : blk ≤ 64) (hl : l.length ≤ 100000) (w : World)
    (h0 : w.cell? ⟨D, 0, none⟩ = some v) (h1 : w.cell? ⟨D + 1, 0, none⟩ = some (.int .i64 blk)) (hD : D + 1 < w.heap.size) (hI : IsB w v l) :
    SeqStopsK Fence.wide n Tryz.prog 157 #[.pointer (some ⟨D + 1, 0, none⟩), .pointer (some ⟨D, 0, none⟩)]
      (fun x : Fin (nBlocks l.length blk) => #[Value.int .i64 (x.1 : Int), blkVal v l.length blk x.1]) (KeptB D) (fun ys => ys = List.finRange (nBlocks l.length blk))
      (fun pre => ∃ k, k ≤ nBlocks l.length blk ∧ pre = firsts _ k) (nBlocks l.length blk) w := fun lp J Jx W hW _ _ hY hj => by
  have h0' := (hW.cell (p := ⟨D, 0, none⟩) (show D < w.heap.size by omega)).trans h0
  have h1' := (hW.cell (p := ⟨D + 1, 0, none⟩) hD).trans h1
  rcases hI.cases with ⟨rfl, rfl⟩ | ⟨b, off, cap, rfl, hlc, hcm, hc⟩
  · refine (blocks1_nil n lp D blk J W h0' h1' hj).mono fun e W' ⟨he, hj⟩ => ⟨he, .inl ⟨[], ?_, hj⟩⟩
    have : nBlocks ([] : List UInt8).length blk = 0 := by
      have := (lt_nBlocks 0 blk 0 hb).1
      simp at this ⊢
      omega
    exact (List.length_eq_zero_iff.1 (by rw [List.length_finRange]; exact this)).symm
  · exact blocks1_row n hn lp D b off cap blk l.length hb hb2 hl hlc J Jx hY W h0' h1' hj
end Go.Proofs.YtlcdgbhigfgehabGreatDoor
