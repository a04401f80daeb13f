/- delta.Diff of any two files. -/
import Derived.Test.YtlcdgbhigfgehabGreatDoorDiff
import Derived.Test.YtlcdgbhigfgehabGreatDoorOToks
import Derived.Test.YtlcdgbhigfgehabGreatDoorCheck
import Derived.Test.YtlcdgbhigfgehabGreatDoorBlocks
namespace Go.Proofs.YtlcdgbhigfgehabGreatDoor
open Go.RowKit
set_option maxRecDepth 100000

/-- The errors of a block's size and of two files. -/
def sized2 (block : Int) (n m : Nat) : Int := if sized block n = 0 then sized block m else sized block n
theorem diff_bad (v0 v1 : Value) (base data : List UInt8) (block : Int) (w : World) (h0 : IsB w v0 base) (h1 : IsB w v1 data) (hs : sized2 block base.length data.length ≠ 0) :
    Calls Tryz.prog 77 #[v0, v1, .int .i64 block] w fun e w' => e = .returned (.tuple #[.slice none 0 0, kindErr (sized2 block base.length data.length)]) ∧ Fr (fun _ => False) w w' := by
  obtain ⟨a0, c0, rfl, hc0, hm0⟩ := h0.shape
  obtain ⟨a1, c1, rfl, hc1, hm1⟩ := h1.shape
  have hk := check_row block w.heap.size 2 [(a0, base.length, c0), (a1, data.length, c1)] (w.alloc (.cells #[.slice a0 base.length c0, .slice a1 data.length c1] 25))
    (fun i h => by
      have : i = 0 ∨ i = 1 := by simp at h; omega
      rcases this with rfl | rfl <;> simp) (by simp) (by intro x hx; simp at hx; rcases hx with rfl | rfl <;> simp <;> omega)
  rw [show [(a0, base.length, c0), (a1, data.length, c1)].map (·.2.1) = [base.length, data.length] from rfl, checkK_two, show (if sized block base.length = 0 then sized block data.length else sized block base.length) = sized2 block base.length data.length from rfl, kindErr_pos _ hs] at hk
  have HK := Lib.hid hk
  have HS := Lib.hid hs
  clear hk hs h0 h1
  go_enter Tryz.func77, Tryz.ntmps77
  go_wp2_with fail
  refine HK.out.mono ?_
  rintro e w' ⟨rfl, rfl⟩
  go_wp2_with fail
  go_ret2
  exact ⟨by rw [kindErr_pos _ HS.out]; rfl, (Fr.refl _ _).alloc _⟩
/-- What Diff gives. -/
def DiffPost (w : World) (base data : List UInt8) (block : Int) (r : Value → Value) (e : Ending) (w' : World) : Prop :=
  ∃ x l, e = .returned (.tuple #[x, r (.int .i64 (sized2 block base.length data.length))]) ∧ Fr (fun _ => False) w w' ∧ OToks w' w.heap.size x l ∧
    (sized2 block base.length data.length ≠ 0 → x = .slice none 0 0 ∧ l = []) ∧ (sized2 block base.length data.length = 0 → l.map (·.1) = diffOf base data block.toNat)
def kErr (v : Value) : Value := match v with | .int _ k => kindErr k | _ => v
theorem diff_any (v0 v1 : Value) (base data : List UInt8) (block : Int) (w : World) (h0 : IsB w v0 base) (h1 : IsB w v1 data) :
    Calls Tryz.prog 77 #[v0, v1, .int .i64 block] w (DiffPost w base data block kErr) := by
  by_cases hs : sized2 block base.length data.length = 0
  · have hs0 : sized block base.length = 0 := by
      unfold sized2 at hs
      split at hs
      · assumption
      · exact hs
    have hs1 : sized block data.length = 0 := by
      unfold sized2 at hs
      rw [if_pos hs0] at hs
      exact hs
    have hblk : 1 ≤ block := by
      unfold sized at hs0
      split at hs0 <;> omega
    obtain ⟨blk, rfl⟩ := Int.eq_ofNat_of_zero_le (a := block) (by omega)
    refine (diff_good v0 v1 base data blk w h0 h1 hs0 hs1).mono ?_
    rintro e w' ⟨lv, l, rfl, h2, h3, h4⟩
    exact ⟨lv, l, by rw [hs]; rfl, h4, h2, fun h => absurd hs h, fun _ => h3⟩
  · refine (diff_bad v0 v1 base data block w h0 h1 hs).mono ?_
    rintro e w' ⟨rfl, h⟩
    exact ⟨_, [], rfl, h, OToks.nil _ _, fun _ => ⟨rfl, rfl⟩, fun h => absurd h hs⟩
end Go.Proofs.YtlcdgbhigfgehabGreatDoor
