/- The fronts of Apply: mirror.Apply, plain.Apply. -/
import Derived.Test.YtlcdgbhigfgehaaDoorApply
import Derived.Test.YtlcdgbhigfgehaaDoorTold
namespace Go.Proofs.YtlcdgbhigfgehaaDoor
open Go.RowKit
set_option maxRecDepth 100000

theorem told_kindErr (k : Int) (w : World) (hg : ErrType w) :
    Calls Tryd.prog 39 #[kindErr k] w fun e w' => e = .returned (.tuple #[.int .i64 k, .string ByteArray.empty]) ∧ Fr (fun _ => False) w w' := by
  unfold kindErr
  split
  · subst k; exact told_none w
  · exact told_kind k w hg
theorem Applied.keep {w w1 w2 : World} {r : Int ⊕ List UInt8} {v : Value} {k : Int} (h : Applied w w1 r v k) (hf : Fr (fun _ => False) w1 w2) : Applied w w2 r v k := by
  unfold Applied at h ⊢
  cases r with
  | inl e => exact h
  | inr out => exact ⟨h.1, h.2.keep hf (fun _ _ h => h)⟩
theorem apply_any (v0 v1 : Value) (base : List UInt8) (l : List (Tok × Value)) (block : Int) (B : Nat) (w : World) (hb : IsB w v0 base) (ht : Toks w B v1 l) (hd : ∀ p ∈ l, p.1.d.length ≤ 1000) :
    Calls Tryd.prog 55 #[v0, v1, .int .i64 block] w (ApplyPost w (applyK base block (l.map (·.1)))) := by
  by_cases hs : sized block base.length = 0
  · have hblk : 1 ≤ block := by
      unfold sized at hs
      split at hs <;> omega
    obtain ⟨blk, rfl⟩ := Int.eq_ofNat_of_zero_le (a := block) (by omega)
    have : applyK base blk (l.map (·.1)) = applyF base blk (l.map (·.1)) [] := by unfold applyK; rw [if_pos hs, Int.toNat_natCast]
    rw [this]
    exact apply_good v0 v1 base l blk B w hb ht hs hd
  · exact apply_bad v0 v1 base _ block w hb hs
set_option maxHeartbeats 1000000 in
theorem mapply_any (v0 v1 : Value) (base : List UInt8) (l : List (Tok × Value)) (block : Int) (B : Nat) (w : World) (hb : IsB w v0 base) (ht : Toks w B v1 l) (hd : ∀ p ∈ l, p.1.d.length ≤ 1000) :
    Calls Tryd.prog 38 #[v0, v1, .int .i64 block] w (ApplyPost w (applyK base block (l.map (·.1)))) := by
  have H := Lib.hid (apply_any v0 v1 base l block B w hb ht hd)
  clear hb ht hd
  go_enter Tryd.func38, Tryd.ntmps38
  go_wp2_with fail
  refine H.out.mono ?_
  rintro e w' ⟨v, k, rfl, h1, h2⟩
  have H1 := Lib.hid h1
  clear h1
  go_wp2_with fail
  go_ret2
  exact ⟨v, k, rfl, H1.out, h2⟩
set_option maxHeartbeats 1000000 in
theorem papply_any (v0 v1 : Value) (base : List UInt8) (l : List (Tok × Value)) (block : Int) (B : Nat) (w : World) (hg : ErrType w) (hb : IsB w v0 base) (ht : Toks w B v1 l) (hd : ∀ p ∈ l, p.1.d.length ≤ 1000) :
    Calls Tryd.prog 14 #[v0, v1, .int .i64 block] w fun e w' => ∃ v k, e = .returned (.tuple #[v, .int .i64 k]) ∧ Applied w w' (applyK base block (l.map (·.1))) v k ∧ Fr (fun _ => False) w w' := by
  have H := Lib.hid (mapply_any v0 v1 base l block B w hb ht hd)
  clear hb ht hd
  go_enter Tryd.func14, Tryd.ntmps14
  go_wp2_with fail
  refine H.out.mono ?_
  rintro e w1 ⟨v, k, rfl, h1, h2⟩
  have H1 := Lib.hid h1
  clear h1
  go_wp2_with fail
  refine (told_kindErr k w1 (hg.keep h2 id)).mono ?_
  rintro e w2 ⟨rfl, h3⟩
  go_wp2_with fail
  go_ret2
  exact ⟨v, k, rfl, H1.out.keep h3, h2.step h3 (fun _ h _ => h)⟩
end Go.Proofs.YtlcdgbhigfgehaaDoor
