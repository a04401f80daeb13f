/- The fronts of Apply: mirror.Apply, plain.Apply. -/
import Derived.Test.YtlcdgbhigfgehabGreatDoorApply
import Derived.Test.YtlcdgbhigfgehabGreatDoorTold
namespace Go.Proofs.YtlcdgbhigfgehabGreatDoor
open Go.RowKit
set_option maxRecDepth 100000

theorem told_kindErr (k : Int) (w : World) (hg : ErrType w) :
    Calls Tryz.prog 23 #[kindErr k] w fun e w' => e = .returned (.tuple #[.int .i64 k, .string ByteArray.empty]) ∧ Fr (fun _ => False) w w' := by
  unfold kindErr
  split
  · subst k; exact told_none w
  · exact told_kind k w hg
theorem Applied.keep {w w1 w2 : World} {r : Int ⊕ List UInt8} {v : Value} {k : Int} (h : Applied w w1 r v k) (hf : Fr (fun _ => False) w1 w2) : Applied w w2 r v k := by
  unfold Applied at h ⊢
  cases r with
  | inl e => exact h
  | inr out => exact ⟨h.1, h.2.keep hf (fun _ _ h => h)⟩
theorem apply_any (v0 v1 : Value) (base : List UInt8) (l : List (Tok × Value)) (block : Int) (B : Nat) (w : World) (hb : IsB w v0 base) (ht : Toks w B v1 l) (hd : ∀ p ∈ l, p.1.d.length ≤ 1000) :
    Calls Tryz.prog 68 #[v0, v1, .int .i64 block] w (ApplyPost w (applyK base block (l.map (·.1)))) := by
  by_cases hs : sized block base.length = 0
  · have hblk : 1 ≤ block := by
      unfold sized at hs
      split at hs <;> omega
    obtain ⟨blk, rfl⟩ := Int.eq_ofNat_of_zero_le (a := block) (by omega)
    have : applyK base blk (l.map (·.1)) = applyF base blk (l.map (·.1)) [] := by unfold applyK; rw [if_pos hs, Int.toNat_natCast]
    rw [this]
    exact apply_good v0 v1 base l blk B w hb ht hs hd
  · exact apply_bad v0 v1 base _ block w hb hs
end Go.Proofs.YtlcdgbhigfgehabGreatDoor
