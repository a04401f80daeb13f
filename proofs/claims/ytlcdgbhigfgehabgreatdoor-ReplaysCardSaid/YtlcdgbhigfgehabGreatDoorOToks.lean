/- Tokens whose data is each in a row of its own; bytes.Clone and bytes.Equal; the law's 'written'. -/
import Derived.Test.YtlcdgbhigfgehabGreatDoorAlike
import Derived.Test.YtlcdgbhigfgehabGreatDoorSumsWalk
namespace Go.Proofs.YtlcdgbhigfgehabGreatDoor
open Go.RowKit
set_option maxRecDepth 100000

/-- Tokens in memory, each with data in a row of its own, no two in one row; all from block B on. -/
structure OToks (w : World) (B : Nat) (v : Value) (l : List (Tok × Value)) : Prop where
  vec : Vec w B 171 3 v l.length (tokCells l)
  data : ∀ p ∈ l, Vec w B 5 1 p.2 p.1.d.length (bcells p.1.d)
  two : l.Pairwise fun p q => ∀ k, p.2.ownBlock = some k → q.2.ownBlock ≠ some k
section
variable {w w1 : World} {S : Nat → Prop} {B : Nat} {v : Value} {l : List (Tok × Value)}
theorem OToks.nil (w : World) (B : Nat) : OToks w B (.slice none 0 0) [] := ⟨Vec.nil _ _ _ _, fun _ h => by simp at h, List.Pairwise.nil⟩
theorem OToks.toks (h : OToks w B v l) : Toks w B v l := ⟨h.vec, fun p hp => (h.data p hp).isB, fun p hp k hk => ((h.data p hp).lt k hk).1⟩
theorem OToks.keep (h : OToks w B v l) (k : Fr S w w1) (hv : ∀ b, v.ownBlock = some b → ¬ S b) (hd : ∀ p ∈ l, ∀ b, p.2.ownBlock = some b → ¬ S b) : OToks w1 B v l :=
  ⟨h.vec.keep k hv, fun p hp => (h.data p hp).keep k (hd p hp), h.two⟩
theorem OToks.keep0 (h : OToks w B v l) (k : Fr (fun _ => False) w w1) : OToks w1 B v l := h.keep k (fun _ _ h => h) (fun _ _ _ _ h => h)
theorem OToks.below (h : OToks w B v l) (k : Fr S w w1) (hS : ∀ b, S b → b < B) : OToks w1 B v l :=
  h.keep k (fun b hb hs => by have := (h.vec.lt b hb).1; have := hS b hs; omega) (fun p hp b hb hs => by have := ((h.data p hp).lt b hb).1; have := hS b hs; omega)
theorem OToks.lift {B' : Nat} (h : OToks w B v l) (hB : B' ≤ B) : OToks w B' v l := ⟨h.vec.mono hB, fun p hp => (h.data p hp).mono hB, h.two⟩
theorem OToks.snoc {v' : Value} {t : Tok} {dv : Value} (h : OToks w B v l) (hv : Vec w1 B 171 3 v' (l.length + 1) (tokCells l ++ [.int .i64 t.b, .int .i64 t.c, dv])) (k : Fr (fun k => v.ownBlock = some k) w w1)
    (hd : Vec w1 B 5 1 dv t.d.length (bcells t.d)) (hB : ∀ p ∈ l, ∀ k, p.2.ownBlock = some k → dv.ownBlock ≠ some k) : OToks w1 B v' (l ++ [(t, dv)]) := by
  refine ⟨?_, ?_, ?_⟩
  · rw [List.length_append, tokCells_append]; exact hv
  · intro p hp
    rcases List.mem_append.1 hp with hp | hp
    · exact (h.data p hp).keep k (fun b hb hs => h.toks.apart p hp b hb hs)
    · simp at hp; subst hp; exact hd
  · rw [List.pairwise_append]
    exact ⟨h.two, List.pairwise_singleton _ _, fun p hp q hq => by simp at hq; subst hq; exact hB p hp⟩
theorem OToks.lt (h : OToks w B v l) : ∀ p ∈ l, ∀ b, p.2.ownBlock = some b → B ≤ b ∧ b < w.heap.size := fun p hp b hb => (h.data p hp).lt b hb
end

set_option maxHeartbeats 1000000 in
theorem clone_any (v : Value) (l : List UInt8) (w : World) (h : IsB w v l) (hl : l.length ≤ 1000000) :
    Calls Tryz.prog 71 #[v] w fun e w' => ∃ v', e = .returned v' ∧ Vec w' w.heap.size 5 1 v' l.length (bcells l) ∧ Fr (fun _ => False) w w' := by
  have hnil := fun (W : World) (a : Option Addr) (m c : Nat) => Lib.run_eql_slice_nil (P := Tryz.prog) W 25 5 a m c 0 0 Tryz.underlying25
  have H := Lib.hid h
  rcases h.cases with ⟨rfl, rfl⟩ | ⟨b, off, cap, rfl, -⟩
  · clear h
    go_enter Tryz.func71, Tryz.ntmps71
    go_wp2_with fail
    go_ret
    exact ⟨_, rfl, Vec.nil _ _ _ _, Fr.refl _ _⟩
  · clear h
    have hr := Reads.ofB (H.out.keep0 ((Fr.refl (fun _ => False) w).alloc (.cells #[] 5)))
    have HR := Lib.hid hr
    clear hr
    go_enter Tryz.func71, Tryz.ntmps71
    go_wp2_with (at_builtin; refine wpList_append_vec rfl _ _ _ rfl w.heap.size 5 1 1 elt_u8 (v := .slice (some ⟨w.heap.size, 0, none⟩) 0 0) (n := 0) (xs := []) ⟨rfl, .inr ⟨_, 0, [], rfl, Nat.le_refl _, Own.alloc _ _ _, rfl, Nat.le_refl _, Nat.zero_le _⟩⟩ rfl (m := l.length) HR.out rfl (by simp) (bcells_one _) (by unfold maxLen; omega) (by omega) (by simp) ?_; intro v' w1 hv1 hf1 hd1 hn1)
    go_ret
    rw [Nat.zero_add] at hv1
    exact ⟨v', rfl, by simpa using hv1, ((Fr.refl (fun _ => False) w).alloc _).step hf1 (fun k hk hl => by simp [Value.ownBlock] at hk; omega)⟩
theorem equal_any (v1 v2 : Value) (l1 l2 : List UInt8) (w : World) (h1 : IsB w v1 l1) (h2 : IsB w v2 l2) :
    Calls Tryz.prog 149 #[v1, v2] w fun e w' => e = .returned (.bool (decide (l1 = l2))) ∧ w = w' := by
  have u1 := run_string_of (P := Tryz.prog) w 25 9 5 _ _ Tryz.underlying25 Tryz.underlying5 Tryz.underlying9 h1
  have u2 := run_string_of (P := Tryz.prog) w 25 9 5 _ _ Tryz.underlying25 Tryz.underlying5 Tryz.underlying9 h2
  clear h1 h2
  go_enter Tryz.func149, Tryz.ntmps149
  go_wp2
  go_ret
  refine ⟨?_, rfl⟩
  by_cases h : l1 = l2 <;> simp [h]

end Go.Proofs.YtlcdgbhigfgehabGreatDoor
