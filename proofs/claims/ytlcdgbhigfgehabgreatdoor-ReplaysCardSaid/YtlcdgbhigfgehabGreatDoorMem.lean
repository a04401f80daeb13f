/- Memory: what a block holds, what a call leaves alone, what append, make and copy do to it. Over any program. -/
import Derived.WalkKit
import Derived.Laws.CopyOwn
import Derived.Lib.Hide
import Derived.Deep.QuietTactic
import Derived.BigQuiet
import Derived.Laws.BytesArg
import Derived.Laws.IdiomStrings
namespace Go.Proofs.YtlcdgbhigfgehabGreatDoor
open Go.RowKit

/-- Block g is a row of these cells, none of them frozen. -/
def Own (w : World) (g : Nat) (T : TypeId) (xs : List Value) : Prop :=
  ∃ fr : Nat × Nat, w.heap[g]? = some (.cells xs.toArray T fr) ∧ (xs.length ≤ fr.1 ∨ fr.2 = 0)

/-- All blocks that were there are as they were, but for those of S; the streams are as they were. -/
structure Fr (S : Nat → Prop) (w w' : World) : Prop where
  os : w'.os = w.os
  tape : w'.tape = w.tape
  output : w'.output = w.output
  size : w.heap.size ≤ w'.heap.size
  block : ∀ k, k < w.heap.size → ¬ S k → w'.heap[k]? = w.heap[k]?

section
variable {w w' w1 w2 : World} {S S' : Nat → Prop} {g : Nat} {T : TypeId} {xs : List Value}

theorem Own.lt (h : Own w g T xs) : g < w.heap.size := by
  obtain ⟨fr, h, _⟩ := h
  exact (Array.getElem?_eq_some_iff.1 h).1
theorem Own.cell? (h : Own w g T xs) (i : Nat) : w.cell? ⟨g, i, none⟩ = xs[i]? := by
  obtain ⟨fr, h, _⟩ := h
  simp [World.cell?, h]
theorem Own.cell (h : Own w g T xs) {i : Nat} {v : Value} (hi : xs[i]? = some v) : w.cell? ⟨g, i, none⟩ = some v := (h.cell? i).trans hi
theorem Own.free (h : Own w g T xs) (i : Nat) (hi : i < xs.length) : w.frozen? ⟨g, i, none⟩ = false := by
  obtain ⟨fr, h, h'⟩ := h
  simp only [World.frozen?, h]
  rcases h' with h' | h'
  · simp; intro; omega
  · simp [h']
theorem Own.of_heap (h : w.heap[g]? = some (.cells xs.toArray T (0, 0))) : Own w g T xs := ⟨_, h, .inr rfl⟩
theorem Own.alloc (w : World) (a : Array Value) (T : TypeId) : Own (w.alloc (.cells a T)) w.heap.size T a.toList :=
  ⟨(0, 0), by simpa using heap_alloc_new w (.cells a T), .inr rfl⟩
theorem Own.set (h : Own w g T xs) (i : Nat) (v : Value) : Own (w.setCell ⟨g, i, none⟩ v) g T (xs.set i v) := by
  obtain ⟨fr, h, h'⟩ := h
  refine ⟨fr, ?_, by simpa using h'⟩
  simp only [World.setCell, Array.getElem?_modify, if_pos, h]
  simp
theorem Own.eq {ys : List Value} {T' : TypeId} (h : Own w g T xs) (h' : Own w g T' ys) : xs = ys := by
  obtain ⟨fr, h, _⟩ := h
  obtain ⟨fr', h', _⟩ := h'
  rw [h] at h'
  simp at h'
  exact h'.1
theorem Own.frozenBlock (h : Own w g T xs) : ∃ fr : Nat × Nat, w.heap[g]? = some (.cells xs.toArray T fr) := ⟨h.choose, h.choose_spec.1⟩

theorem Fr.refl (S : Nat → Prop) (w : World) : Fr S w w := ⟨rfl, rfl, rfl, Nat.le_refl _, fun _ _ _ => rfl⟩
theorem Fr.step (h : Fr S w w1) (k : Fr S' w1 w2) (hS : ∀ k, S' k → k < w.heap.size → S k) : Fr S w w2 :=
  ⟨k.os.trans h.os, k.tape.trans h.tape, k.output.trans h.output, Nat.le_trans h.size k.size,
   fun i hi hn => (k.block i (Nat.lt_of_lt_of_le hi h.size) (fun h' => hn (hS i h' hi))).trans (h.block i hi hn)⟩
theorem Fr.mono (h : Fr S w w1) (hS : ∀ k, S k → k < w.heap.size → S' k) : Fr S' w w1 :=
  ⟨h.os, h.tape, h.output, h.size, fun i hi hn => h.block i hi (fun h' => hn (hS i h' hi))⟩
theorem Fr.drew (h : Fr S w w1) : Fr S w w1.drew := ⟨h.os, h.tape, h.output, h.size, h.block⟩
theorem Fr.drewN (h : Fr S w w1) (n : Nat) : Fr S w (w1.drewN n) := ⟨h.os, h.tape, h.output, h.size, h.block⟩
theorem Fr.alloc (h : Fr S w w1) (o : Obj) : Fr S w (w1.alloc o) :=
  h.step (S' := fun _ => False) ⟨rfl, rfl, rfl, by simp, fun k hk _ => Below.heap_alloc w1 o k hk⟩ (fun _ h => h.elim)
theorem Fr.setCell (h : Fr S w w1) (a : Addr) (v : Value) (ha : a.block < w.heap.size → S a.block) : Fr S w (w1.setCell a v) :=
  h.step (S' := fun k => k = a.block) ⟨rfl, rfl, rfl, by simp, fun k _ hk => Below.heap_setCell w1 a v k hk⟩ (fun _ h hl => by subst h; exact ha hl)
theorem Fr.below (h : Fr S w w1) {B : Nat} (hB : B ≤ w.heap.size) (hS : ∀ k, S k → B ≤ k) : Below B w w1 :=
  ⟨h.os, h.tape, h.output, h.size, fun k hk => h.block k (by omega) (fun h' => by have := hS k h'; omega)⟩
theorem Fr.of_below {B : Nat} (h : Below B w w1) : Fr (fun k => B ≤ k) w w1 := ⟨h.os, h.tape, h.output, h.size, fun k _ hk => h.block k (by omega)⟩
theorem Fr.none_below (h : Fr (fun _ => False) w w1) : Below w.heap.size w w1 := h.below (Nat.le_refl _) (fun _ h => h.elim)
theorem Fr.of_none (h : Below w.heap.size w w1) : Fr (fun _ => False) w w1 := ⟨h.os, h.tape, h.output, h.size, fun k hk _ => h.block k hk⟩
theorem Own.keep (h : Own w g T xs) (k : Fr S w w1) (hg : ¬ S g) : Own w1 g T xs := by
  obtain ⟨fr, hh, h'⟩ := h
  exact ⟨fr, (k.block g (Array.getElem?_eq_some_iff.1 hh).1 hg).trans hh, h'⟩
theorem Fr.cell (h : Fr S w w1) {a : Addr} {v : Value} (hv : w.cell? a = some v) (hg : ¬ S a.block) : w1.cell? a = some v := by
  rw [World.cell?_of_block (h.block a.block (World.block_lt_of_cell? w a hv) hg)]; exact hv
end

/-! ### Bytes -/
/-- The cells of bytes. -/
def bcells (l : List UInt8) : List Value := l.map fun c => .int .u8 c.toNat
@[simp] theorem length_bcells (l : List UInt8) : (bcells l).length = l.length := by simp [bcells]
theorem bcells_append (l m : List UInt8) : bcells (l ++ m) = bcells l ++ bcells m := by simp [bcells]
theorem bcells_get (l : List UInt8) (i : Nat) (h : i < l.length) : (bcells l)[i]? = some (.int .u8 (l[i]).toNat) := by simp [bcells, h]
theorem bcells_one (l : List UInt8) : ∀ v ∈ bcells l, v.oneCell' = true := by
  intro v hv
  simp only [bcells, List.mem_map] at hv
  obtain ⟨b, _, rfl⟩ := hv
  rfl
theorem bcells_inj {l m : List UInt8} (h : bcells l = bcells m) : l = m := by
  have hi : ∀ (l m : List UInt8), bcells l = bcells m → l = m := by
    intro l
    induction l with
    | nil => intro m h; cases m <;> simp_all [bcells]
    | cons c l ih =>
      intro m h
      cases m with
      | nil => simp [bcells] at h
      | cons d m =>
        simp only [bcells, List.map_cons, List.cons.injEq, Value.int.injEq, true_and] at h
        have h1 : c = d := UInt8.toNat_inj.1 (by omega)
        rw [h1, ih m h.2]
  exact hi l m h

/-- A slice of bytes that reads as l; its block is a row of bytes. -/
def IsB (w : World) (v : Value) (l : List UInt8) : Prop :=
  (v = .slice none 0 0 ∧ l = []) ∨ ∃ b off cap cur, ∃ fr : Nat × Nat, v = .slice (some ⟨b, off, none⟩) l.length cap ∧ l.length ≤ cap ∧ cap ≤ maxLen ∧
    w.heap[b]? = some (.cells cur 5 fr) ∧ ∀ i, i < l.length → cur[off + i]? = some (.int .u8 (l.getD i 0).toNat)
section
variable {w w1 : World} {S : Nat → Prop} {v : Value} {l : List UInt8}
theorem IsB.keep (h : IsB w v l) (k : Fr S w w1) (hg : ∀ b, v.ownBlock = some b → ¬ S b) : IsB w1 v l := by
  rcases h with h | ⟨b, off, cap, cur, fr, rfl, h1, h2, h3, h4⟩
  · exact .inl h
  · exact .inr ⟨b, off, cap, cur, fr, rfl, h1, h2, (k.block b (Array.getElem?_eq_some_iff.1 h3).1 (hg b rfl)).trans h3, h4⟩
theorem IsB.keep0 (h : IsB w v l) (k : Fr (fun _ => False) w w1) : IsB w1 v l := h.keep k (fun _ _ h => h)
/-- Its block is no row of another type. -/
theorem IsB.apart {g T : Nat} {xs : List Value} (h : IsB w v l) (ho : Own w g T xs) (hT : T ≠ 5) : v.ownBlock ≠ some g := by
  rcases h with ⟨rfl, _⟩ | ⟨b, off, cap, cur, fr, rfl, h1, h2, h3, h4⟩
  · simp [Value.ownBlock]
  · intro hb
    simp [Value.ownBlock] at hb
    subst hb
    obtain ⟨fr', ho, _⟩ := ho
    rw [h3] at ho
    simp at ho
    exact hT ho.2.1.symm
/-- The walk's own facts: nil, or cells. -/
theorem IsB.cases (h : IsB w v l) : (v = .slice none 0 0 ∧ l = []) ∨ ∃ b off cap, v = .slice (some ⟨b, off, none⟩) l.length cap ∧ l.length ≤ cap ∧ cap ≤ maxLen ∧
    ∀ i, i < l.length → w.cell? ⟨b, off + i, none⟩ = some (.int .u8 (l.getD i 0).toNat) := by
  rcases h with h | ⟨b, off, cap, cur, fr, rfl, h1, h2, h3, h4⟩
  · exact .inl h
  · exact .inr ⟨b, off, cap, rfl, h1, h2, fun i hi => by simp only [World.cell?, h3]; simpa using h4 i hi⟩
theorem IsB.shape (h : IsB w v l) : ∃ a cap, v = .slice a l.length cap ∧ l.length ≤ cap ∧ cap ≤ maxLen := by
  rcases h with ⟨rfl, rfl⟩ | ⟨b, off, cap, cur, fr, rfl, h1, h2, _⟩
  · exact ⟨_, _, rfl, Nat.le_refl _, Nat.zero_le _⟩
  · exact ⟨_, _, rfl, h1, h2⟩
theorem IsB.len (h : IsB w v l) : l.length ≤ maxLen := by obtain ⟨_, _, _, h1, h2⟩ := h.shape; omega
/-- A part of it: x[i:j]. -/
theorem IsB.part {b off cap : Nat} (h : IsB w (.slice (some ⟨b, off, none⟩) l.length cap) l) (i j c : Nat) (hij : i ≤ j) (hj : j ≤ l.length) (hc : j - i ≤ c) (hm : c ≤ maxLen) :
    IsB w (.slice (some ⟨b, off + i, none⟩) (j - i) c) ((l.drop i).take (j - i)) := by
  rcases h with ⟨h, _⟩ | ⟨b', off', cap', cur, fr, h0, h1, h2, h3, h4⟩
  · simp at h
  · simp at h0
    obtain ⟨⟨rfl, rfl⟩, rfl⟩ := h0
    have hl : ((l.drop i).take (j - i)).length = j - i := by simp; omega
    refine .inr ⟨b, off + i, c, cur, fr, by rw [hl], by rw [hl]; exact hc, hm, h3, fun k hk => ?_⟩
    rw [hl] at hk
    rw [Nat.add_assoc, h4 (i + k) (by omega)]
    simp only [List.getD_eq_getElem?_getD, List.getElem?_take, List.getElem?_drop]
    rw [if_pos hk]
theorem IsB.ofOwn {g : Nat} {xs rest : List Value} {pre : List UInt8} {cap : Nat} (h : Own w g 5 xs) (hx : xs = bcells pre ++ bcells l ++ rest) (hc : l.length ≤ cap) (hm : cap ≤ maxLen) :
    IsB w (.slice (some ⟨g, pre.length, none⟩) l.length cap) l := by
  obtain ⟨fr, h, _⟩ := h
  refine .inr ⟨g, pre.length, cap, _, fr, rfl, hc, hm, h, fun i hi => ?_⟩
  rw [List.getElem?_toArray, hx, List.append_assoc, List.getElem?_append_right (by simp), List.getElem?_append_left (by simp; omega)]
  simp only [length_bcells, Nat.add_sub_cancel_left]
  rw [bcells_get l i hi, List.getD_eq_getElem?_getD, List.getElem?_eq_getElem hi]
  rfl
theorem IsB.ofOwn0 {g : Nat} {xs rest : List Value} {cap : Nat} (h : Own w g 5 xs) (hx : xs = bcells l ++ rest) (hc : l.length ≤ cap) (hm : cap ≤ maxLen) :
    IsB w (.slice (some ⟨g, 0, none⟩) l.length cap) l := by
  have := IsB.ofOwn (pre := []) (l := l) (rest := rest) h (by simpa [bcells] using hx) hc hm
  simpa using this
end

section laws
variable {P : Program}
/-- Cells stored into a row. -/
theorem run_storeCells_own (g o : Nat) (t : TypeId) : ∀ (vs : List Value) (i : Nat) (xs : List Value) (w : World), Own w g t xs → o + i + vs.length ≤ xs.length → (∀ v ∈ vs, v.oneCell' = true) →
    ∃ w', (storeCells ⟨g, o, none⟩ vs i).run P w = .ok () w' ∧ Own w' g t (xs.take (o + i) ++ vs ++ xs.drop (o + i + vs.length)) ∧ Fr (fun k => k = g) w w' ∧ w'.heap.size = w.heap.size ∧ w'.drawn = w.drawn
  | [], i, xs, w, hg, _, _ => ⟨w, rfl, by simpa using hg, Fr.refl _ _, rfl, rfl⟩
  | v :: rest, i, xs, w, hg, hl, h1 => by
    simp only [List.length_cons] at hl
    have hi : o + i < xs.length := by omega
    have hadd : (⟨g, o, none⟩ : Addr).add i = ⟨g, o + i, none⟩ := by unfold Addr.add; split <;> simp_all
    have hst : (store ((⟨g, o, none⟩ : Addr).add i) v).run P w = .ok () (w.setCell ⟨g, o + i, none⟩ v) := by
      rw [hadd, run_store P w _ v _ (h1 v (by simp)), hg.cell? (o + i), List.getElem?_eq_getElem hi]
      simp [hg.free _ hi]
    obtain ⟨w', r1, r2, r3, r4, r5⟩ := run_storeCells_own g o t rest (i + 1) _ _ (hg.set (o + i) v) (by simp; omega) (fun x hx => h1 x (by simp [hx]))
    refine ⟨w', ?_, ?_, ?_, ?_, ?_⟩
    · simp only [storeCells, Sem.run_bind, hst, Result.andThen_ok, r1]
    · have e := list_seg_step xs (o + i) v rest (by omega)
      rw [show o + (i + 1) = o + i + 1 from rfl, e] at r2
      simpa [Nat.add_assoc] using r2
    · exact (Fr.setCell (Fr.refl (fun k => k = g) w) ⟨g, o + i, none⟩ v (fun _ => rfl)).step r3 (fun k hk _ => hk)
    · rw [r4]; simp
    · rw [r5]; simp

/-- copy(dst, text), the text fits. -/
theorem run_copy_text (w : World) (dT sT ty elem : TypeId) (g o dLen dCap : Nat) (s : ByteArray) (xs : List Value) (t : TypeId)
    (hu : P.underlying dT = some (.slice elem)) (hs : (P.info? elem).map (·.size) = some 1) (hg : Own w g t xs) (hle : s.size ≤ dLen) (hfit : o + s.size ≤ xs.length) :
    ∃ w', (Builtin.copy_ #[dT, sT] ty #[.slice (some ⟨g, o, none⟩) dLen dCap, .string s]).run P w = .ok (goInt s.size) w' ∧
      Own w' g t (xs.take o ++ bcells s.data.toList ++ xs.drop (o + s.size)) ∧ Fr (fun k => k = g) w w' ∧ w'.heap.size = w.heap.size ∧ w'.drawn = w.drawn := by
  have hlen : (bcells s.data.toList).length = s.size := by simp
  obtain ⟨w', r1, r2, r3, r4, r5⟩ := run_storeCells_own (P := P) g o t (bcells s.data.toList) 0 xs w hg (by rw [hlen]; simpa using hfit) (bcells_one _)
  rw [hlen] at r2
  have hmin : Nat.min s.size dLen = s.size := Nat.min_eq_left hle
  have htk : List.take s.size (List.map (fun b : UInt8 => Value.int IntKind.u8 (b.toNat : Int)) s.data.toList) = bcells s.data.toList := by
    rw [List.take_of_length_le (by simp)]
    rfl
  refine ⟨w', ?_, by simpa using r2, r3, r4, r5⟩
  cases hq : P.info? elem with
  | none => simp [hq] at hs
  | some i =>
    simp [Builtin.copy_, run_underlying hu, Builtin.lenOf, Builtin.firstCells, sizeOf, typeInfo, hq, hmin]
    rw [htk, r1]
    simp [Result.andThen]

theorem ba_eq (s : ByteArray) : (⟨s.data.toList.toArray⟩ : ByteArray) = s := by cases s; simp
/-- string(b). -/
theorem run_string_of (w : World) (src dst e : TypeId) (v : Value) (l : List UInt8) (hs : P.underlying src = some (.slice e)) (he : P.underlying e = some (.int .u8)) (hd : P.underlying dst = some .string)
    (h : IsB w v l) : (convert src dst v).run P w = .ok (.string ⟨l.toArray⟩) w := by
  rcases h.cases with ⟨rfl, rfl⟩ | ⟨b, off, cap, rfl, h1, h2, h3⟩
  · exact run_convert_bytes_nil w src e hs he 0 0 dst hd
  · refine run_convert_bytes_back w src dst e _ cap l hs he hd (fun j hj => ?_)
    have hplain : (⟨b, off, none⟩ : Addr).add j = ⟨b, off + j, none⟩ := by unfold Addr.add; split <;> simp_all
    rw [hplain, h3 j hj, List.getD_eq_getElem?_getD, List.getElem?_eq_getElem hj]
    rfl
/-- []byte(s): a new block, the text's bytes ahead. -/
theorem run_bytes_from (w : World) (src dst e : TypeId) (s : ByteArray) (hs : P.underlying src = some .string) (hd : P.underlying dst = some (.slice e)) (he : P.underlying e = some (.int .u8)) (hm : s.size ≤ 140737488355328) :
    ∃ cap rest w', (convert src dst (.string s)).run P w = .ok (.slice (some ⟨w.heap.size, 0, none⟩) s.size cap) w' ∧ s.size ≤ cap ∧ cap ≤ maxLen ∧
      Own w' w.heap.size e (bcells s.data.toList ++ rest) ∧ s.size + rest.length = cap ∧ Fr (fun _ => False) w w' ∧ w'.heap.size = w.heap.size + 1 ∧ (∀ v ∈ rest, v = Value.int .u8 0) := by
  refine ⟨grownCap w s.size 0 e, List.replicate (grownCap w s.size 0 e - s.size) (Value.int .u8 0), _, run_bytes_of_string w src dst e s hs hd he, grownCap_ge .., grownCap_le_maxLen _ _ _ _ (by simp only [maxLen]; omega), ?_, ?_, ?_, ?_, ?_⟩
  · have hb : bytesRow s (grownCap w s.size 0 e) = (bcells s.data.toList ++ List.replicate (grownCap w s.size 0 e - s.size) (Value.int .u8 0)).toArray := by
      simp [bytesRow, bcells]
    rw [hb]
    exact ⟨((bcells s.data.toList ++ List.replicate (grownCap w s.size 0 e - s.size) (Value.int .u8 0)).toArray.size, _), heap_alloc_new w.drew _, .inl (by simp)⟩
  · have := grownCap_ge w s.size 0 e
    simp; omega
  · exact Fr.alloc (Fr.drew (Fr.refl _ w)) _
  · simp
  · intro v hv; exact (List.mem_replicate.1 hv).2
theorem run_string_ofN (w : World) (src dst e : TypeId) (v : Value) (l : List UInt8) (hs : P.underlying src = some (.slice e)) (he : P.underlying e = some (.int .u8)) (hd : P.underlying dst = some .string)
    (h : IsB w v l) : ∀ nq, (convert src dst v).run P (w.drewN nq) = .ok (.string ⟨l.toArray⟩) (w.drewN nq) :=
  fun nq => run_string_of _ src dst e v l hs he hd (h.keep0 (Fr.drewN (Fr.refl _ w) nq))
end laws
end Go.Proofs.YtlcdgbhigfgehabGreatDoor
