/- A map in memory as a function from keys to values, whatever its elements are. Over any program. -/
import Derived.Maps.OwnOps
import Derived.Maps.Views
import Derived.Maps.OwnSet
import Derived.Test.YtlcdgbhigfgehabGreatDoorRange
namespace Go.Proofs.YtlcdgbhigfgehabGreatDoor
open Go.RowKit Go.ChangeMaps Go.WideElems Go.Maps

/-- An element reads as itself. -/
def asIs (v : Value) : Option (DataW Value × List MemPlace) := some (.held v, [])
/-- Block b is a map of at most n entries; f tells what is there at each key. -/
def VMap (w : World) (P : Program) (k : TypeId) (b n : Nat) (f : Value → Option Value) : Prop :=
  ∃ D : DataW Value, w.ownsMap P k asIs b n D ∧ ∀ key kl, keyOf P k key = some kl → ∀ z, D.atKey kl (.held z) = .held ((f key).getD z)
/-- One entry more. -/
noncomputable def putAt (f : Value → Option Value) (key v : Value) : Value → Option Value := open Classical in fun x => if x = key then some v else f x
theorem putAt_same (f : Value → Option Value) (key v : Value) : putAt f key v key = some v := by simp [putAt]
theorem putAt_other (f : Value → Option Value) {key x : Value} (v : Value) (h : x ≠ key) : putAt f key v x = f x := by simp [putAt, h]

section
variable {P : Program} {k : TypeId} {w w1 : World} {b n : Nat} {f : Value → Option Value} {S : Nat → Prop}
theorem VMap.made (w : World) (P : Program) (k : TypeId) : VMap (w.alloc (.map #[] 0)) P k w.heap.size 0 (fun _ => none) :=
  ⟨_, World.ownsMap_made w P k asIs, fun _ _ _ _ => rfl⟩
theorem VMap.lt (h : VMap w P k b n f) : b < w.heap.size := by obtain ⟨D, h, _⟩ := h; exact h.lt
theorem VMap.mono {n' : Nat} (h : VMap w P k b n f) (hn : n ≤ n') : VMap w P k b n' f := by obtain ⟨D, h, h'⟩ := h; exact ⟨D, h.mono hn, h'⟩
theorem VMap.keep (h : VMap w P k b n f) (hf : Fr S w w1) (hb : ¬ S b) : VMap w1 P k b n f := by
  have hl := h.lt
  obtain ⟨D, ⟨es, clock, h1, h2⟩, h'⟩ := h
  exact ⟨D, ⟨es, clock, (hf.block b hl hb).trans h1, h2⟩, h'⟩
/-- It is no row of cells. -/
theorem VMap.noCells (h : VMap w P k b n f) : ∃ o : Obj, w.heap[b]? = some o ∧ o.isCells = false := by
  obtain ⟨D, ⟨es, clock, h1, h2⟩, h'⟩ := h
  exact ⟨_, h1, rfl⟩
theorem VMap.apart {g T : Nat} {xs : List Value} (h : VMap w P k b n f) (ho : Own w g T xs) : g ≠ b := by
  rintro rfl
  obtain ⟨o, h1, h2⟩ := h.noCells
  obtain ⟨fr, ho, _⟩ := ho
  rw [h1] at ho
  cases ho
  simp [Obj.isCells] at h2
theorem VMap.look {t e : TypeId} (h : VMap w P k b n f) (K : Keyed P k) (ht : P.underlying t = some (.map k e)) {z : Value} (hz : (zeroValue e).run P w = .ok z w) {key : Value} {kl : Lit} (hkey : keyOf P k key = some kl) :
    (Instr.lookup t (.map (some b)) key false).run P w = .ok ((f key).getD z) w := by
  obtain ⟨D, h1, h2⟩ := h
  obtain ⟨v, ps, hr, hv⟩ := h1.lookup K ht hz (zd := .held z) (zp := []) rfl hkey
  rw [h2 key kl hkey z] at hv
  simp only [asIs, Option.some.injEq, Prod.mk.injEq, DataW.held.injEq] at hv
  rw [hr, hv.1]
theorem VMap.put {t e : TypeId} (h : VMap w P k b n f) (K : Keyed P k) (ht : P.underlying t = some (.map k e)) (hn : n < maxLen) {key : Value} {kl : Lit} (hkey : keyOf P k key = some kl) (val : Value) :
    ∃ w', (Instr.mapUpdate t (.map (some b)) key val).run P w = .ok () w' ∧ VMap w' P k b (n + 1) (putAt f key val) ∧ Fr (fun k => k = b) w w' := by
  obtain ⟨D, h1, h2⟩ := h
  obtain ⟨w', hr, h3, h4⟩ := h1.update K ht hn hkey (val := val) (d := .held val) (ps := []) rfl
  refine ⟨w', hr, ⟨_, h3, fun x xl hx z => ?_⟩, ?_⟩
  · by_cases hxk : x = key
    · subst hxk
      rw [hkey] at hx
      cases hx
      rw [putAt_same, Maps.atKey_put_same h1.isMap (K.key hkey)]
      rfl
    · have hne : xl ≠ kl := fun e => by subst e; exact hxk (K.inj hx hkey)
      rw [putAt_other _ _ hxk, Maps.atKey_put_other hne]
      exact h2 x xl hx z
  · exact ⟨h4.os, h4.tape, h4.output, h4.size, fun i hi hs => h4.block i hi (fun e => hs (by cases e; rfl))⟩
end

/-- m[key] at the operation. -/
theorem wpList_look {P : Program} {w : World} {ops : Array Oper} {rest : List Oper} {o : Oper} {a : Act} {Q : Exit → Act → World → Prop}
    (hg : o.guard = none) (m x : Operand) (t : TypeId) (hop : o.op = Op.lookup t m x false)
    (k e : TypeId) (K : Keyed P k) (ht : P.underlying t = some (.map k e)) {z : Value} (hz : (zeroValue e).run P w = .ok z w) {b n : Nat} {f : Value → Option Value}
    (hm : a.eval m = .map (some b)) (h : VMap w P k b n f) (key : Value) {kl : Lit} (hx : a.eval x = key) (hkey : keyOf P k key = some kl)
    (hK : wpList P ops Q rest (a.put o.dst ((f key).getD z)) w) : wpList P ops Q (o :: rest) a w := by
  refine wpList_plain hg fun K' hK' => ?_
  have hrun := h.look K ht hz hkey
  unfold Oper.wp
  simp [execOp, hop, hm, hx, hrun, Result.andThen]
  exact hK' _ _ hK
/-- m[key] = v at the operation. -/
theorem wpList_put {P : Program} {w : World} {ops : Array Oper} {rest : List Oper} {o : Oper} {a : Act} {Q : Exit → Act → World → Prop}
    (hg : o.guard = none) (m x v : Operand) (t : TypeId) (hop : o.op = Op.mapUpdate t m x v)
    (k e : TypeId) (K : Keyed P k) (ht : P.underlying t = some (.map k e)) {b n : Nat} {f : Value → Option Value}
    (hm : a.eval m = .map (some b)) (h : VMap w P k b n f) (hn : n < maxLen) (key val : Value) {kl : Lit} (hx : a.eval x = key) (hv : a.eval v = val) (hkey : keyOf P k key = some kl)
    (hK : ∀ w', VMap w' P k b (n + 1) (putAt f key val) → Fr (fun k => k = b) w w' → wpList P ops Q rest (a.put o.dst undef) w') : wpList P ops Q (o :: rest) a w := by
  refine wpList_plain hg fun K' hK' => ?_
  obtain ⟨w', hrun, r1, r2⟩ := h.put K ht hn hkey val
  unfold Oper.wp
  simp [execOp, hop, hm, hx, hv, hrun, Result.andThen]
  exact hK' _ _ (hK w' r1 r2)
end Go.Proofs.YtlcdgbhigfgehabGreatDoor
