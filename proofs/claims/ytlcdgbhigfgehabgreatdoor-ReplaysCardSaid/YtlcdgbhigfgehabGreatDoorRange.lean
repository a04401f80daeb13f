/- Glue for a range over a function: what lies in memory abides the loop's own book-keeping. Over any program. -/
import Derived.RangeFuncNested
import Derived.RangeFuncBox
import Derived.Test.YtlcdgbhigfgehabGreatDoorVec
namespace Go.Proofs.YtlcdgbhigfgehabGreatDoor
open Go.RowKit

section
variable {W W' w : World} {row : Option Nat} {B : Nat} {S : Nat → Prop}
theorem fr_grown (h : W.grownBy W' row) : Fr (fun k => row = some k) W W' :=
  ⟨h.os, h.tape, h.output, h.size, fun k hk hr => h.block k hk (fun e => hr e.symm)⟩
/-- The row that is turned holds no cells and lies at or beyond B. -/
def Off (B : Nat) (W : World) (row : Option Nat) : Prop := ∀ r, row = some r → B ≤ r ∧ ∃ o : Obj, W.heap[r]? = some o ∧ o.isCells = false
theorem Own.off {g : Nat} {T : TypeId} {xs : List Value} (h : Own W g T xs) (hr : Off B W row) : ¬ row = some g := by
  intro e
  obtain ⟨_, o, ho, hc⟩ := hr g e
  obtain ⟨fr, h, _⟩ := h
  rw [h] at ho
  cases ho
  simp [Obj.isCells] at hc
theorem Own.cells {g : Nat} {T : TypeId} {xs : List Value} (h : Own W g T xs) : ∀ o, W.heap[g]? = some o → o.isCells = true := by
  intro o ho
  obtain ⟨fr, h, _⟩ := h
  rw [h] at ho
  cases ho
  rfl
theorem Own.grown {g : Nat} {T : TypeId} {xs : List Value} (h : Own W g T xs) (hg : W.grownBy W' row) (hr : Off B W row) : Own W' g T xs := h.keep (fr_grown hg) (h.off hr)
theorem Vec.cells {b : Nat} {T : TypeId} {sz n : Nat} {v : Value} {xs : List Value} (h : Vec W B T sz v n xs) (hb : v.ownBlock = some b) : ∀ o, W.heap[b]? = some o → o.isCells = true := by
  rcases h.2 with ⟨rfl, _⟩ | ⟨g, cap, rest, rfl, _, ho, _⟩
  · simp [Value.ownBlock] at hb
  · simp [Value.ownBlock] at hb
    subst hb
    exact ho.cells
theorem Vec.grown {B' : Nat} {T : TypeId} {sz n : Nat} {v : Value} {xs : List Value} (h : Vec W B' T sz v n xs) (hg : W.grownBy W' row) (hr : Off B W row) : Vec W' B' T sz v n xs :=
  h.keep (fr_grown hg) (fun b hb e => by
    obtain ⟨_, o, ho, hc⟩ := hr b e
    rw [h.cells hb o ho] at hc
    cases hc)
theorem Fr.grown (h : Fr S w W) (hg : W.grownBy W' row) (hr : Off B W row) (hB : w.heap.size ≤ B) : Fr S w W' :=
  h.step (fr_grown hg) (fun k hk hl => by have := (hr k hk).1; omega)
theorem fr_putObj (W : World) (D : Nat) (o : Obj) : Fr (fun k => k = D) W (W.putObj D o) :=
  (fr_grown (grownBy_putObj' W D o)).mono (fun k hk _ => by cases hk; rfl)
theorem Fr.putObj (h : Fr S w W) {D : Nat} (hD : w.heap.size ≤ D) (o : Obj) : Fr S w (W.putObj D o) :=
  h.step (fr_putObj W D o) (fun k hk hl => by omega)
theorem Own.putObj {g D : Nat} {T : TypeId} {xs : List Value} {o' : Obj} (h : Own W g T xs) (hK : W.heap[D]? = some o') (ho : o'.isCells = false) (o : Obj) : Own (W.putObj D o) g T xs :=
  h.keep (fr_putObj W D o) (fun e => by subst e; rw [h.cells _ hK] at ho; cases ho)
theorem Vec.putObj {D B' : Nat} {T : TypeId} {sz n : Nat} {v : Value} {xs : List Value} {o' : Obj} (h : Vec W B' T sz v n xs) (hK : W.heap[D]? = some o') (ho : o'.isCells = false) (o : Obj) : Vec (W.putObj D o) B' T sz v n xs :=
  h.keep (fr_putObj W D o) (fun b hb e => by subst e; rw [h.cells hb _ hK] at ho; cases ho)
theorem IsB.lt0 {v : Value} {l : List UInt8} (h : IsB w v l) : ∀ b, v.ownBlock = some b → b < w.heap.size := by
  intro k hk
  rcases h with ⟨rfl, _⟩ | ⟨b, off, cap, cur, fr, rfl, h1, h2, h3, h4⟩
  · simp [Value.ownBlock] at hk
  · simp [Value.ownBlock] at hk
    subst hk
    exact (Array.getElem?_eq_some_iff.1 h3).1
/-- A step that turns cells alone, or what lies below B. -/
theorem KeepsFrom.of_fr (h : Fr S W W') (hS : ∀ k, S k → B ≤ k → ∀ o, W.heap[k]? = some o → o.isCells = true) : KeepsFrom B W W' :=
  ⟨h.size, fun k o hB hk ho => (h.block k (Array.getElem?_eq_some_iff.1 hk).1 (fun hs => by rw [hS k hs hB o hk] at ho; cases ho)).trans hk⟩
end
end Go.Proofs.YtlcdgbhigfgehabGreatDoor
