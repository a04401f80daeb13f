/- The fronts of Record: mirror.Record, plain.Record. -/
import Derived.Test.YtlcdgbhigfgehaaDoorBRecord
import Derived.Test.YtlcdgbhigfgehaaDoorTold
namespace Go.Proofs.YtlcdgbhigfgehaaDoor
open Go.RowKit
set_option maxRecDepth 100000

/-- What Record gives. -/
structure RecX (w : World) (src ref : List Fil) (block : Int) (x : Value) (w' : World) : Prop where
  good : recErr block src ref = .none → Vec w' w.heap.size 5 1 x (recOf src ref block.toNat).length (bcells (recOf src ref block.toNat))
  bad : recErr block src ref ≠ .none → x = .slice none 0 0
theorem RecX.keep {w w1 w2 : World} {src ref : List Fil} {block : Int} {x : Value} (h : RecX w src ref block x w1) (k : Fr (fun _ => False) w1 w2) : RecX w src ref block x w2 :=
  ⟨fun e => (h.good e).keep k (fun _ _ h => h), h.bad⟩
def Small (l : List (Fil × Value)) : Prop := ∀ p ∈ l, p.1.name.length ≤ 1000000 ∧ p.1.data.length ≤ 1000000
theorem brecord_any (v0 v1 : Value) (src ref : List (Fil × Value)) (B : Nat) (block : Int) (w : World) (h0 : Fils w B v0 src) (h1 : Fils w B v1 ref) (hs0 : Small src) (hs1 : Small ref) :
    Calls Tryd.prog 66 #[v0, v1, .int .i64 block] w fun e w' => ∃ x y, e = .returned (.tuple #[x, y]) ∧ IsErr w' y (recErr block (src.map (·.1)) (ref.map (·.1))) ∧ Fr (fun _ => False) w w' ∧ RecX w (src.map (·.1)) (ref.map (·.1)) block x w' := by
  by_cases hb : block < 1 ∨ 64 < block
  · have he : recErr block (src.map (·.1)) (ref.map (·.1)) = .kind 1 := by unfold recErr; rw [if_pos hb]
    refine (brecord_block v0 v1 src ref B block w h0 h1 hb).mono ?_
    rintro e w' ⟨rfl, hf⟩
    refine ⟨_, _, rfl, by rw [he]; rfl, hf, ⟨fun h => (by rw [he] at h; cases h), fun _ => rfl⟩⟩
  · obtain ⟨blk, rfl⟩ := Int.eq_ofNat_of_zero_le (a := block) (by omega)
    have key : ∀ n, (treeErr (src.map (·.1)) = some n ∨ treeErr (src.map (·.1)) = none ∧ treeErr (ref.map (·.1)) = some n) → Calls Tryd.prog 66 #[v0, v1, .int .i64 blk] w fun e w' => ∃ x y, e = .returned (.tuple #[x, y]) ∧ IsErr w' y (recErr blk (src.map (·.1)) (ref.map (·.1))) ∧ Fr (fun _ => False) w w' ∧ RecX w (src.map (·.1)) (ref.map (·.1)) blk x w' := fun n hn => by
      have he : recErr blk (src.map (·.1)) (ref.map (·.1)) = .file ⟨n.toArray⟩ 4 := by
        unfold recErr
        rw [if_neg hb]
        rcases hn with h | ⟨h, h2⟩
        · rw [h]; rfl
        · rw [h, h2]; rfl
      refine (brecord_tree v0 v1 src ref B blk w h0 h1 hb (fun p hp => (hs0 p hp).1) (fun p hp => (hs0 p hp).2) (fun p hp => (hs1 p hp).1) (fun p hp => (hs1 p hp).2) n hn).mono ?_
      rintro e w' ⟨x, rfl, hx, hf⟩
      exact ⟨_, _, rfl, by rw [he]; exact hx, hf, ⟨fun h => (by rw [he] at h; cases h), fun _ => rfl⟩⟩
    cases hts : treeErr (src.map (·.1)) with
    | some n => exact key n (.inl hts)
    | none =>
      cases htr : treeErr (ref.map (·.1)) with
      | some n => exact key n (.inr ⟨hts, htr⟩)
      | none =>
        have he : recErr blk (src.map (·.1)) (ref.map (·.1)) = .none := by
          unfold recErr
          rw [if_neg hb, hts, htr]; rfl
        refine (brecord_good v0 v1 src ref B blk w h0 h1 (by omega) (by omega) ((treeErr_none _).1 hts) ((treeErr_none _).1 htr)).mono ?_
        rintro e w' ⟨x, rfl, hv, hf⟩
        exact ⟨x, _, rfl, by rw [he]; rfl, hf, ⟨fun _ => by rw [Int.toNat_natCast]; exact hv, fun h => absurd he h⟩⟩
set_option maxHeartbeats 1000000 in
theorem mrecord_any (v0 v1 : Value) (src ref : List (Fil × Value)) (B : Nat) (block : Int) (w : World) (h0 : Fils w B v0 src) (h1 : Fils w B v1 ref) (hs0 : Small src) (hs1 : Small ref) :
    Calls Tryd.prog 53 #[v0, v1, .int .i64 block] w fun e w' => ∃ x y, e = .returned (.tuple #[x, y]) ∧ IsErr w' y (recErr block (src.map (·.1)) (ref.map (·.1))) ∧ Fr (fun _ => False) w w' ∧ RecX w (src.map (·.1)) (ref.map (·.1)) block x w' := by
  have H := Lib.hid (brecord_any v0 v1 src ref B block w h0 h1 hs0 hs1)
  obtain ⟨E, hE⟩ : ∃ E, recErr block (src.map (·.1)) (ref.map (·.1)) = E := ⟨_, rfl⟩
  rw [hE] at H ⊢
  clear h0 h1 hs0 hs1 hE
  go_enter Tryd.func53, Tryd.ntmps53
  go_wp2_with fail
  refine H.out.mono ?_
  rintro e w' ⟨x, y, rfl, h1, h2, h3⟩
  have H1 := Lib.hid h1
  have H2 := Lib.hid h2
  have H3 := Lib.hid h3
  clear h1 h2 h3
  go_wp2_with fail
  go_ret2
  exact ⟨x, y, rfl, H1.out, H2.out, H3.out⟩
set_option maxHeartbeats 1000000 in
theorem precord_any (v0 v1 : Value) (src ref : List (Fil × Value)) (B : Nat) (block : Int) (w : World) (hg : ErrType w) (h0 : Fils w B v0 src) (h1 : Fils w B v1 ref) (hs0 : Small src) (hs1 : Small ref) :
    Calls Tryd.prog 35 #[v0, v1, .int .i64 block] w fun e w' => ∃ x, e = .returned (.tuple #[x, .int .i64 (recErr block (src.map (·.1)) (ref.map (·.1))).k, .string (recErr block (src.map (·.1)) (ref.map (·.1))).name]) ∧ Fr (fun _ => False) w w' ∧ RecX w (src.map (·.1)) (ref.map (·.1)) block x w' := by
  have H := Lib.hid (mrecord_any v0 v1 src ref B block w h0 h1 hs0 hs1)
  obtain ⟨E, hE⟩ : ∃ E, recErr block (src.map (·.1)) (ref.map (·.1)) = E := ⟨_, rfl⟩
  rw [hE] at H ⊢
  clear h0 h1 hs0 hs1 hE
  go_enter Tryd.func35, Tryd.ntmps35
  go_wp2_with fail
  refine H.out.mono ?_
  rintro e w1 ⟨x, y, rfl, h1, h2, h3⟩
  have HT := Lib.hid (told_any y E w1 (hg.keep h2 id) h1)
  have H2 := Lib.hid h2
  have H3 := Lib.hid h3
  clear h1 h2 h3
  go_wp2_with fail
  refine HT.out.mono ?_
  rintro e w2 ⟨rfl, hf⟩
  go_wp2_with fail
  go_ret3
  exact ⟨x, rfl, H2.out.step hf (fun _ h _ => h), H3.out.keep hf⟩
end Go.Proofs.YtlcdgbhigfgehaaDoor
