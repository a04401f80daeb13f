/- The law Names: each constant has its number; errors are taken apart as they were made. A closed statement. -/
import Derived.Test.YtlcdgbhigfgehaaDoorTold
namespace Go.Proofs.YtlcdgbhigfgehaaDoor
open Go.RowKit

set_option maxHeartbeats 1000000 in
theorem law_told0 (w : World) :
    Calls Tryd.prog 11 #[.int .i64 0, .int .i64 0, .string ByteArray.empty] w fun e w' => e = .returned (.bool true) ∧ Fr (fun _ => False) w w' := by
  go_enter Tryd.func11, Tryd.ntmps11
  go_wp2_with (first | (go_at_call 39; refine (told_none _).mono ?_; rintro e w' ⟨rfl, hf⟩) | go_in)
  go_ret
  exact ⟨rfl, hf⟩
set_option maxHeartbeats 1000000 in
theorem law_told1 (w : World) (hg : ErrType w) :
    Calls Tryd.prog 11 #[.int .i64 1, .int .i64 7, .string ByteArray.empty] w fun e w' => e = .returned (.bool true) ∧ Fr (fun _ => False) w w' := by
  go_enter Tryd.func11, Tryd.ntmps11
  go_wp2_with (first | (go_at_call 39; refine (told_kind _ _ hg).mono ?_; rintro e w' ⟨rfl, hf⟩) | go_in)
  go_ret
  exact ⟨rfl, hf⟩
set_option maxHeartbeats 1000000 in
theorem law_told2 (w : World) (hg : ErrType w) :
    Calls Tryd.prog 11 #[.int .i64 2, .int .i64 9, .string ⟨#[97]⟩] w fun e w' => e = .returned (.bool true) ∧ Fr (fun _ => False) w w' := by
  have hF : Fr (fun _ => False) w (w.alloc (.cells #[.string ⟨#[97]⟩, .int .i64 9] 118)) := (Fr.refl _ _).alloc _
  have ho : Own (w.alloc (.cells #[.string ⟨#[97]⟩, .int .i64 9] 118)) w.heap.size 118 [.string ⟨#[97]⟩, .int .i64 9] := Own.alloc _ _ _
  go_enter Tryd.func11, Tryd.ntmps11
  go_wp2_with (first | (go_at_call 39; refine (told_file _ _ _ _ (hg.keep hF id) ho).mono ?_; rintro e w' ⟨rfl, hf⟩) | go_in)
  go_ret
  exact ⟨rfl, hF.step hf (fun _ h _ => h)⟩
set_option maxHeartbeats 1000000 in
theorem names_walk (w : World) (hg : ErrType w) :
    Calls Tryd.prog 3 #[] w fun e w' => e = .returned (.bool true) ∧ Fr (fun _ => False) w w' := by
  go_enter Tryd.func3, Tryd.ntmps3
  go_wp2_with fail
  refine (law_told0 _).mono ?_
  rintro e w1 ⟨rfl, h1⟩
  have g1 := hg.keep h1 id
  go_wp2_with fail
  refine (law_told1 _ g1).mono ?_
  rintro e w2 ⟨rfl, h2⟩
  have g2 := g1.keep h2 id
  go_wp2_with fail
  refine (law_told2 _ g2).mono ?_
  rintro e w3 ⟨rfl, h3⟩
  go_wp2_with fail
  go_ret
  exact ⟨rfl, (h1.step h2 (fun _ h _ => h)).step h3 (fun _ h _ => h)⟩
end Go.Proofs.YtlcdgbhigfgehaaDoor
