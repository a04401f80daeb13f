/- A slice that a call owns: nil, or at the head of a row of its own; and what append does to it. Over any program. -/
import Derived.Test.YtlcdgbhigfgehabGreatDoorMem
namespace Go.Proofs.YtlcdgbhigfgehabGreatDoor
open Go.RowKit

/-- v has n elements of type T (sz cells each), the cells xs, and owns its row (a block from B on). -/
def Vec (w : World) (B : Nat) (T : TypeId) (sz : Nat) (v : Value) (n : Nat) (xs : List Value) : Prop :=
  xs.length = n * sz ∧ ((v = .slice none 0 0 ∧ n = 0) ∨
    ∃ g cap rest, v = .slice (some ⟨g, 0, none⟩) n cap ∧ B ≤ g ∧ Own w g T (xs ++ rest) ∧ (xs ++ rest).length = cap * sz ∧ n ≤ cap ∧ cap ≤ maxLen)

section
variable {w w' : World} {S : Nat → Prop} {B : Nat} {T : TypeId} {sz : Nat} {v : Value} {n : Nat} {xs : List Value}
theorem Vec.nil (w : World) (B : Nat) (T : TypeId) (sz : Nat) : Vec w B T sz (.slice none 0 0) 0 [] := ⟨by simp, .inl ⟨rfl, rfl⟩⟩
theorem Vec.keep (h : Vec w B T sz v n xs) (k : Fr S w w') (hg : ∀ b, v.ownBlock = some b → ¬ S b) : Vec w' B T sz v n xs := by
  refine ⟨h.1, ?_⟩
  rcases h.2 with h | ⟨g, cap, rest, rfl, h1, h2, h3⟩
  · exact .inl h
  · exact .inr ⟨g, cap, rest, rfl, h1, h2.keep k (hg g rfl), h3⟩
theorem Vec.mono {B' : Nat} (h : Vec w B T sz v n xs) (hB : B' ≤ B) : Vec w B' T sz v n xs := by
  refine ⟨h.1, ?_⟩
  rcases h.2 with h | ⟨g, cap, rest, rfl, h1, h2⟩
  · exact .inl h
  · exact .inr ⟨g, cap, rest, rfl, by omega, h2⟩
theorem Vec.lt (h : Vec w B T sz v n xs) : ∀ b, v.ownBlock = some b → B ≤ b ∧ b < w.heap.size := by
  intro b hb
  rcases h.2 with ⟨rfl, _⟩ | ⟨g, cap, rest, rfl, h1, h2, _⟩
  · simp [Value.ownBlock] at hb
  · simp [Value.ownBlock] at hb
    subst hb
    exact ⟨h1, h2.lt⟩
/-- The value is a slice of this length. -/
theorem Vec.shape (h : Vec w B T sz v n xs) : ∃ a cap, v = .slice a n cap ∧ n ≤ cap ∧ cap ≤ maxLen ∧ (a = none → n = 0 ∧ cap = 0) := by
  rcases h.2 with ⟨rfl, rfl⟩ | ⟨g, cap, rest, rfl, _, _, _, h4, h5⟩
  · exact ⟨none, 0, rfl, Nat.le_refl _, Nat.zero_le _, fun _ => ⟨rfl, rfl⟩⟩
  · exact ⟨_, cap, rfl, h4, h5, fun h => by cases h⟩
theorem Vec.len (h : Vec w B T sz v n xs) : n ≤ maxLen := by obtain ⟨a, cap, _, h1, h2, _⟩ := h.shape; omega
/-- nil, or a row. -/
theorem Vec.cases (h : Vec w B T sz v n xs) : (v = .slice none 0 0 ∧ n = 0 ∧ xs = []) ∨ ∃ g cap rest, v = .slice (some ⟨g, 0, none⟩) n cap ∧ B ≤ g ∧ Own w g T (xs ++ rest) ∧ (xs ++ rest).length = cap * sz ∧ n ≤ cap ∧ cap ≤ maxLen := by
  rcases h.2 with ⟨rfl, rfl⟩ | h2
  · exact .inl ⟨rfl, rfl, List.eq_nil_of_length_eq_zero (by simpa using h.1)⟩
  · exact .inr h2
/-- Where there is an element: the row. -/
theorem Vec.row (h : Vec w B T sz v n xs) (hn : 0 < n) : ∃ g cap rest, v = .slice (some ⟨g, 0, none⟩) n cap ∧ B ≤ g ∧ Own w g T (xs ++ rest) ∧ (xs ++ rest).length = cap * sz ∧ n ≤ cap ∧ cap ≤ maxLen := by
  rcases h.2 with ⟨rfl, rfl⟩ | h
  · omega
  · exact h
theorem Vec.isB {l : List UInt8} (h : Vec w B 5 1 v l.length (bcells l)) : IsB w v l := by
  rcases h.2 with ⟨rfl, h0⟩ | ⟨g, cap, rest, rfl, _, h2, _, h4, h5⟩
  · exact .inl ⟨rfl, List.length_eq_zero_iff.1 h0⟩
  · exact IsB.ofOwn0 h2 rfl h4 h5
end

/-- The cells of a slice that is handed to append: nil and no cells, or cells that lie there. -/
def Reads (w : World) (x : Value) (m : Nat) (news : List Value) : Prop :=
  (x = .slice none 0 0 ∧ m = 0 ∧ news = []) ∨ ∃ b off c, x = .slice (some ⟨b, off, none⟩) m c ∧ ∀ j u, news[j]? = some u → w.cell? ⟨b, off + j, none⟩ = some u
theorem Reads.ofB {w : World} {x : Value} {l : List UInt8} (h : IsB w x l) : Reads w x l.length (bcells l) := by
  rcases h.cases with ⟨rfl, rfl⟩ | ⟨b, off, cap, rfl, _, _, h3⟩
  · exact .inl ⟨rfl, rfl, rfl⟩
  · refine .inr ⟨b, off, cap, rfl, fun j u hu => ?_⟩
    have hj : j < l.length := by have := (List.getElem?_eq_some_iff.1 hu).1; simpa using this
    rw [bcells_get l j hj] at hu
    rw [h3 j hj, ← hu, List.getD_eq_getElem?_getD, List.getElem?_eq_getElem hj]
    rfl
theorem Reads.ofOwn {w : World} {g : Nat} {T : TypeId} {xs : List Value} (h : Own w g T xs) (m c : Nat) : Reads w (.slice (some ⟨g, 0, none⟩) m c) m xs :=
  .inr ⟨g, 0, c, rfl, fun j u hu => by rw [Nat.zero_add]; exact h.cell hu⟩
theorem Reads.new (w : World) (a : Array Value) (T : TypeId) (g : Nat) (hg : g = w.heap.size) (m c : Nat) : Reads (w.alloc (.cells a T)) (.slice (some ⟨g, 0, none⟩) m c) m a.toList := by
  subst hg
  exact Reads.ofOwn (Own.alloc w a T) m c

section
variable {P : Program}
theorem addr_add (b off j : Nat) : (⟨b, off, none⟩ : Addr).add j = ⟨b, off + j, none⟩ := by unfold Addr.add; split <;> simp_all
/-- append(v, x..): what comes out owns v's cells and x's; nothing else has turned but v's own row. -/
theorem run_append_vec (w : World) (B : Nat) (t ty e : TypeId) (i : TypeInfo) (z : Value) (size bytes : Nat) (ht : P.underlying t = some (.slice e)) (hi : P.info? e = some i) (hz : i.zero = some z)
    (hsize : i.size = size) (hby : i.bytes = bytes) (hzs : z.cells.size = size)
    (v : Value) (n : Nat) (xs : List Value) (hown : Vec w B e size v n xs)
    (x : Value) (m : Nat) (news : List Value) (hx : Reads w x m news) (hl : news.length = m * size) (h1 : ∀ u ∈ news, u.oneCell' = true)
    (h63 : n + m ≤ maxLen) (hbytes : (n + m) * bytes ≤ 140737488355328) (hB : B ≤ w.heap.size) :
    ∃ v' w', (Builtin.append_ #[t, t] ty #[v, x]).run P w = .ok v' w' ∧ Vec w' B e size v' (n + m) (xs ++ news) ∧ Fr (fun k => v.ownBlock = some k) w w' ∧
      (v'.ownBlock = v.ownBlock ∨ ∃ g, v'.ownBlock = some g ∧ w.heap.size ≤ g) ∧ (v' = .slice none 0 0 ↔ v = .slice none 0 0 ∧ m = 0) := by
  subst hsize
  subst hby
  have hsmall : n + m ≤ 9223372036854775807 := by simp only [maxLen] at h63; omega
  have hlen : (xs ++ news).length = (n + m) * i.size := by rw [List.length_append, hown.1, hl, Nat.add_mul]
  have grown : ∀ (old : Nat), old < n + m →
      Vec (w.drew.alloc (.cells (xs.toArray ++ news.toArray ++ Builtin.zeroCells z.cells (grownCap w (n + m) old e - (n + m))) e)) B e i.size
        (.slice (some ⟨w.heap.size, 0, none⟩) (n + m) (grownCap w (n + m) old e)) (n + m) (xs ++ news) ∧
      Fr (fun k => v.ownBlock = some k) w (w.drew.alloc (.cells (xs.toArray ++ news.toArray ++ Builtin.zeroCells z.cells (grownCap w (n + m) old e - (n + m))) e)) := by
    intro old ho
    have hge := grownCap_ge w (n + m) old e
    have hcm : grownCap w (n + m) old e ≤ maxLen := grownCap_le_maxLen w (n + m) old e h63
    have hz0 : (xs ++ news ++ (Builtin.zeroCells z.cells (grownCap w (n + m) old e - (n + m))).toList).length = grownCap w (n + m) old e * i.size := by
      rw [List.length_append, hlen, Array.length_toList, size_zeroCells, hzs, ← Nat.add_mul]
      congr 1
      omega
    refine ⟨⟨hlen, .inr ⟨w.heap.size, grownCap w (n + m) old e, (Builtin.zeroCells z.cells (grownCap w (n + m) old e - (n + m))).toList, rfl, hB, ?_, hz0, hge, hcm⟩⟩, ?_⟩
    · have := Own.alloc w.drew (xs.toArray ++ news.toArray ++ Builtin.zeroCells z.cells (grownCap w (n + m) old e - (n + m))) e
      simpa using this
    · exact Fr.alloc (Fr.drew (Fr.refl _ w)) _
  by_cases hm0 : m = 0
  · subst hm0
    have hn0 : news = [] := List.eq_nil_of_length_eq_zero (by simpa using hl)
    subst hn0
    refine ⟨v, w, ?_, by simpa using hown, Fr.refl _ _, .inl rfl, by simp⟩
    obtain ⟨a, cap, rfl, hc1, -, hc3⟩ := hown.shape
    have hs0 : ∀ (p : Addr), (storeCells p [] 0).run P w = .ok () w := fun p => rfl
    rcases hx with ⟨rfl, -, -⟩ | ⟨b, off, c, rfl, -⟩
    · cases a with
      | none => simp [Builtin.append_, run_underlying ht, sizeOf, typeInfo, hi, Builtin.lenOf, hc1, Builtin.firstCells]
      | some a => simp [Builtin.append_, run_underlying ht, sizeOf, typeInfo, hi, Builtin.lenOf, hc1, Builtin.firstCells, hs0]
    · have hf := run_firstCells_some (P := P) w i.size 0 ⟨b, off, none⟩ 0 c [] (by simp) (by simp)
      cases a with
      | none => simp [Builtin.append_, run_underlying ht, sizeOf, typeInfo, hi, Builtin.lenOf, hc1, hf]
      | some a => simp [Builtin.append_, run_underlying ht, sizeOf, typeInfo, hi, Builtin.lenOf, hc1, hf, hs0]
  rcases hx with ⟨_, h0, _⟩ | ⟨b, off, c, rfl, hnews0⟩
  · exact absurd h0 hm0
  have hnews : ∀ j u, news[j]? = some u → w.cell? ((⟨b, off, none⟩ : Addr).add j) = some u := fun j u hu => by rw [addr_add]; exact hnews0 j u hu
  rcases hown.2 with ⟨rfl, rfl⟩ | ⟨g, cap, rest, rfl, hbg, hg, hcs, hnc, hcm⟩
  · have hxe : xs = [] := List.eq_nil_of_length_eq_zero (by simpa using hown.1)
    subst hxe
    have hr := run_append_nil (P := P) w t ty e i z ht hi hz ⟨b, off, none⟩ m c news hl hnews (by omega) (by omega) (by have hb := hbytes; simp only [Nat.zero_add] at hb; omega)
    have hgr := grown 0 (by omega)
    simp only [Nat.zero_add, List.nil_append] at hgr ⊢
    refine ⟨_, _, hr, ?_, ?_, .inr ⟨w.heap.size, rfl, Nat.le_refl _⟩, by simp [hm0]⟩
    · simpa using hgr.1
    · simpa using hgr.2
  · by_cases hroom : n + m ≤ cap
    · have hfit : n * i.size + news.length ≤ (xs ++ rest).length := by rw [hl, hcs, ← Nat.add_mul]; exact Nat.mul_le_mul_right _ hroom
      obtain ⟨w', r1, r2, r3, r4, r5⟩ := run_storeCells_own (P := P) g (n * i.size) e news 0 (xs ++ rest) w hg (by simpa using hfit) h1
      have hf := run_firstCells_some (P := P) w i.size m ⟨b, off, none⟩ m c news hl hnews
      refine ⟨.slice (some ⟨g, 0, none⟩) (n + m) cap, w', ?_, ⟨hlen, .inr ⟨g, cap, rest.drop news.length, rfl, hbg, ?_, ?_, hroom, hcm⟩⟩, ?_, .inl rfl, by simp⟩
      · simp [Builtin.append_, run_underlying ht, sizeOf, typeInfo, hi, Builtin.lenOf, hroom, hf, Addr.add_lit, r1]
      · have e1 : (xs ++ rest).take (n * i.size + 0) = xs := by rw [Nat.add_zero, ← hown.1]; exact List.take_left
        have e2 : (xs ++ rest).drop (n * i.size + 0 + news.length) = rest.drop news.length := by
          rw [Nat.add_zero, ← hown.1, List.drop_append]
          simp [List.drop_eq_nil_of_le]
        rw [e1, e2] at r2
        exact r2
      · rw [List.length_append] at hcs hfit
        rw [List.length_append, List.length_append, List.length_drop, ← hcs, hown.1]
        rw [hown.1] at hfit
        omega
      · exact r3.mono fun k hk _ => by simp [Value.ownBlock, hk]
    · have hxs : ∀ j u, xs[j]? = some u → w.cell? ((⟨g, 0, none⟩ : Addr).add j) = some u := fun j u hu => by
        rw [addr_add, Nat.zero_add]
        exact hg.cell (by rw [List.getElem?_append_left ((List.getElem?_eq_some_iff.1 hu).1)]; exact hu)
      have hr := run_append_grow (P := P) w t ty e i z ht hi hz ⟨g, 0, none⟩ n cap xs hown.1 hxs ⟨b, off, none⟩ m c news hl hnews (by omega) (by omega) (growslice_fits (by omega) hbytes)
      have hgr := grown cap (by omega)
      exact ⟨_, _, hr, hgr.1, hgr.2, .inr ⟨w.heap.size, rfl, Nat.le_refl _⟩, by simp⟩

/-- What is to be known of a slice type t of elements e: its row of the table. -/
def Elt (P : Program) (t e : TypeId) (size bytes : Nat) : Prop :=
  ∃ i z, P.underlying t = some (.slice e) ∧ P.info? e = some i ∧ i.zero = some z ∧ i.size = size ∧ i.bytes = bytes ∧ z.cells.size = size
theorem Elt.mk {t e : TypeId} {z : Value} {size bytes : Nat} (ht : P.underlying t = some (.slice e)) (h : (P.info? e).map (fun i => (i.zero, i.size, i.bytes)) = some (some z, size, bytes)) (hz : z.cells.size = size) : Elt P t e size bytes := by
  obtain ⟨i, h1, h2, h3, h4⟩ := info_parts h
  exact ⟨i, z, ht, h1, h2, h3, h4, hz⟩
theorem wpList_append_vec {ops : Array Oper} {rest : List Oper} {o : Oper} {a : Act} {w : World} {Q : Exit → Act → World → Prop} (hgd : o.guard = none) (s x : Operand) (t : TypeId)
    (ho : o.op = .call { callee := .builtin .append, args := #[s, x], argTypes := #[t, t] })
    (B : Nat) (e : TypeId) (size bytes : Nat) (helt : Elt P t e size bytes)
    {v : Value} {n : Nat} {xs : List Value} (hown : Vec w B e size v n xs) (hs : a.eval s = v)
    {xv : Value} {m : Nat} {news : List Value} (hx : Reads w xv m news) (hxv : a.eval x = xv) (hl : news.length = m * size) (h1 : ∀ u ∈ news, u.oneCell' = true)
    (h63 : n + m ≤ maxLen) (hbytes : (n + m) * bytes ≤ 140737488355328) (hB : B ≤ w.heap.size)
    (h : ∀ v' w', Vec w' B e size v' (n + m) (xs ++ news) → Fr (fun k => v.ownBlock = some k) w w' →
      (v'.ownBlock = v.ownBlock ∨ ∃ g, v'.ownBlock = some g ∧ w.heap.size ≤ g) → (v' = .slice none 0 0 ↔ v = .slice none 0 0 ∧ m = 0) → wpList P ops Q rest (a.put o.dst v') w') : wpList P ops Q (o :: rest) a w := by
  refine wpList_plain hgd fun K hK => ?_
  obtain ⟨i, z, e1, e2, e3, e4, e5, e6⟩ := helt
  obtain ⟨v', w', hr, h2, h3, h4, h5⟩ := run_append_vec (P := P) w B t o.type e i z size bytes e1 e2 e3 e4 e5 e6 v n xs hown xv m news hx hl h1 h63 hbytes hB
  unfold Oper.wp execOp
  simp only [ho, resolve, invoke, builtin, Sem.run_bind, Sem.run_pure, Result.andThen_ok, List.map_toArray, List.map_cons, List.map_nil, hs, hxv, hr]
  exact hK _ _ (h v' w' h2 h3 h4 h5)
end
end Go.Proofs.YtlcdgbhigfgehabGreatDoor
