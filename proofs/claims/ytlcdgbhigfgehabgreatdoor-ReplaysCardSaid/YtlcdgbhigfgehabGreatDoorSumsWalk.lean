/- The walks of the sums: delta.Weak, delta.Digest, delta.Roll, their fronts in mirror, and the document's answers of the same. -/
import Derived.Test.YtlcdgbhigfgehabGreatDoorSumsPure
import Derived.Test.YtlcdgbhigfgehabGreatDoorMem
import Derived.Test.YtlcdgbhigfgehabGreatDoorRows
import Derived.WalkKit
import Derived.WalkSpells
import Derived.WalkLawsBesides
import Derived.Lib.Hide
namespace Go.Proofs.YtlcdgbhigfgehabGreatDoor
open Go.RowKit
set_option maxRecDepth 100000

theorem ret_u32 {a b : Int} (h : a = b) : Ending.returned (.int .u32 a) = .returned (.int .u32 b) := by rw [h]
theorem ret_u64 {a b : Int} (h : a = b) : Ending.returned (.int .u64 a) = .returned (.int .u64 b) := by rw [h]
theorem ret_i64 {a b : Int} (h : a = b) : Ending.returned (.int .i64 a) = .returned (.int .i64 b) := by rw [h]

set_option maxHeartbeats 400000 in
theorem weak_any (v : Value) (l : List UInt8) (w : World) (h : IsB w v l) :
    Calls Tryz.prog 122 #[v] w fun e w' => e = .returned (.int .u32 (weakOf l)) ∧ w = w' := by
  rcases h.cases with ⟨rfl, rfl⟩ | ⟨b, off, cap, rfl, hlc, hcm, hc⟩
  · go_enter Tryz.func122, Tryz.ntmps122
    go_wp2
    refine wp_loop_rounds 1 ?_
    rw [rounds_succ]
    go_wp2
    go_ret
    exact ⟨by rfl, rfl⟩
  · have hl : l.length ≤ 9223372036854775807 := by unfold maxLen at hcm; omega
    go_enter Tryz.func122, Tryz.ntmps122
    go_wp2
    go_loop [3, 4, 9] (fun x y i => ∃ k : Nat, k ≤ l.length ∧ i = .int .i64 k ∧ x = .int .u16 (wsum (l.take k)).1 ∧ y = .int .u16 (wsum (l.take k)).2) (fun _ _ i => l.length - (intOf i).toNat)
    case atStart => exact ⟨0, Nat.zero_le _, rfl, rfl, rfl⟩
    case round =>
      obtain ⟨k, hk, rfl, rfl, rfl⟩ := hrel
      by_cases hlt : k < l.length
      · have hcell := hc k hlt
        go_wp2
        go_round
        case rel =>
          refine ⟨k + 1, by omega, by go_num, ?_, ?_⟩
          · rw [take_snoc _ _ hlt, wsum_snoc]; simp only [wstep]
            simp [IntKind.wrap, IntKind.bits, IntKind.signed]
          · rw [take_snoc _ _ hlt, wsum_snoc]; simp only [wstep]
            simp [IntKind.wrap, IntKind.bits, IntKind.signed]
        case measure => simp [intOf]; omega
      · obtain rfl : k = l.length := by omega
        have hw := wsum_lt l
        have ho := or16 (wsum l).1 (wsum l).2 hw.1 hw.2
        clear hw
        have HO := Lib.hid ho
        clear ho
        go_wp2
        go_ret
        exact ⟨ret_u32 HO.out, rfl⟩
set_option maxHeartbeats 400000 in
theorem digest_any (v : Value) (l : List UInt8) (w : World) (h : IsB w v l) :
    Calls Tryz.prog 69 #[v] w fun e w' => e = .returned (.int .u64 (dgOf l)) ∧ w = w' := by
  rcases h.cases with ⟨rfl, rfl⟩ | ⟨b, off, cap, rfl, hlc, hcm, hc⟩
  · go_enter Tryz.func69, Tryz.ntmps69
    go_wp2
    refine wp_loop_rounds 1 ?_
    rw [rounds_succ]
    go_wp2
    go_ret
    exact ⟨by rfl, rfl⟩
  · have hl : l.length ≤ 9223372036854775807 := by unfold maxLen at hcm; omega
    go_enter Tryz.func69, Tryz.ntmps69
    go_wp2
    go_loop [3, 8] (fun x i => ∃ k : Nat, k ≤ l.length ∧ i = .int .i64 k ∧ x = .int .u64 (dgOf (l.take k))) (fun _ i => l.length - (intOf i).toNat)
    case atStart => exact ⟨0, Nat.zero_le _, rfl, by rw [dgOf_take0]⟩
    case round =>
      obtain ⟨k, hk, rfl, rfl⟩ := hrel
      by_cases hlt : k < l.length
      · have hcell := hc k hlt
        go_wp2
        go_round
        case rel =>
          refine ⟨k + 1, by omega, by go_num, ?_⟩
          rw [take_snoc _ _ hlt, dgOf_snoc, dgStep]
        case measure => simp [intOf]; omega
      · obtain rfl : k = l.length := by omega
        go_wp2
        go_ret
        exact ⟨rfl, rfl⟩
set_option maxHeartbeats 400000 in
theorem roll_any (wk n o i : Int) (w : World) (h1 : 0 ≤ wk) (h2 : wk ≤ 4294967295) (h3 : 0 ≤ o) (h4 : o ≤ 255) (h5 : 0 ≤ i) (h6 : i ≤ 255) :
    Calls Tryz.prog 126 #[.int .u32 wk, .int .i64 n, .int .u8 o, .int .u8 i] w fun e w' => e = .returned (.int .u32 (rollOf wk n o i)) ∧ w = w' := by
  go_enter Tryz.func126, Tryz.ntmps126
  go_wp2
  go_ret
  refine ⟨ret_u32 ?_, rfl⟩
  exact roll_bits wk n o i
/-! ### The document's answers -/
set_option maxHeartbeats 400000 in
theorem rdigest_any (s : ByteArray) (w : World) (hs : s.size ≤ maxLen) :
    Calls Tryz.prog 132 #[.string s] w fun e w' => e = .returned (.int .u64 (dgOf s.data.toList)) ∧ w = w' := by
  unfold maxLen at hs
  go_enter Tryz.func132, Tryz.ntmps132
  go_wp2
  go_loop [3, 4] (fun x i => ∃ k : Nat, k ≤ s.size ∧ i = .int .i64 k ∧ x = .int .u64 (dgOf (s.data.toList.take k))) (fun _ i => s.size - (intOf i).toNat)
  case atStart => exact ⟨0, Nat.zero_le _, rfl, by rw [dgOf_take0]⟩
  case round =>
    obtain ⟨k, hk, rfl, rfl⟩ := hrel
    by_cases hlt : k < s.size
    · go_wp2
      go_round
      case rel =>
        refine ⟨k + 1, by omega, by go_num, ?_⟩
        rw [take_snoc _ _ (by simpa using hlt), dgOf_snoc, dgStep, show s.data.toList[k]'(by simpa using hlt) = s[k] from rfl]
      case measure => simp [intOf]; omega
    · obtain rfl : k = s.size := by omega
      go_wp2
      go_ret
      exact ⟨ret_u64 (by rw [List.take_of_length_le (by simp)]), rfl⟩
set_option maxHeartbeats 400000 in
theorem clip_short (s : ByteArray) (n : Nat) (w : World) (h : s.size ≤ n) :
    Calls Tryz.prog 22 #[.string s, .int .i64 n] w fun e w' => e = .returned (.string s) ∧ w = w' := by
  go_enter Tryz.func22, Tryz.ntmps22
  go_wp2
  go_ret
  exact ⟨rfl, rfl⟩
set_option maxHeartbeats 400000 in
theorem clip_long (s : ByteArray) (n : Nat) (w : World) (h : n < s.size) :
    Calls Tryz.prog 22 #[.string s, .int .i64 n] w fun e w' => e = .returned (.string (s.extract 0 n)) ∧ w = w' := by
  go_enter Tryz.func22, Tryz.ntmps22
  go_wp2
  go_ret
  exact ⟨rfl, rfl⟩
/-- What clip gives of a text. -/
def clipOf (s : ByteArray) (n : Nat) : ByteArray := if s.size ≤ n then s else s.extract 0 n
theorem clipOf_size (s : ByteArray) (n : Nat) : (clipOf s n).size ≤ n := by
  unfold clipOf
  split
  · assumption
  · simp; omega
theorem clip_any (s : ByteArray) (c : Int) (n : Nat) (w : World) (hc : c = n) :
    Calls Tryz.prog 22 #[.string s, .int .i64 c] w fun e w' => e = .returned (.string (clipOf s n)) ∧ w = w' := by
  subst hc
  unfold clipOf
  split
  · exact clip_short s n w (by assumption)
  · exact clip_long s n w (by omega)
end Go.Proofs.YtlcdgbhigfgehabGreatDoor
