/- append of a text's bytes to an owned row of bytes. -/
import Derived.Test.YtlcdgbhigfgehabGreatDoorPut
import Derived.Lib.AppendStr
namespace Go.Proofs.YtlcdgbhigfgehabGreatDoor
open Go.RowKit Go.Lib
set_option maxRecDepth 100000

theorem strCells_b (s : ByteArray) : strCells s = bcells s.data.toList := by
  unfold strCells bcells
  simp
section
variable {P : Program}
theorem run_append_text (w : World) (B : Nat) (t u ty e : TypeId) (i : TypeInfo) (z : Value) (ht : P.underlying t = some (.slice e)) (hu : P.underlying u = some .string) (hi : P.info? e = some i) (hz : i.zero = some z)
    (hsize : i.size = 1) (hby : i.bytes = 1) (hzs : z.cells.size = 1)
    (v : Value) (n : Nat) (xs : List Value) (hown : Vec w B e 1 v n xs) (s : ByteArray) (h63 : n + s.size ≤ maxLen) (hbytes : n + s.size ≤ 140737488355328) (hB : B ≤ w.heap.size) :
    ∃ v' w', (Builtin.append_ #[t, u] ty #[v, .string s]).run P w = .ok v' w' ∧ Vec w' B e 1 v' (n + s.size) (xs ++ bcells s.data.toList) ∧ Fr (fun k => v.ownBlock = some k) w w' ∧
      (v'.ownBlock = v.ownBlock ∨ ∃ g, v'.ownBlock = some g ∧ w.heap.size ≤ g) := by
  have hsmall : n + s.size ≤ 9223372036854775807 := by simp only [maxLen] at h63; omega
  have hsl : (bcells s.data.toList).length = s.size := by simp
  have hlen : (xs ++ bcells s.data.toList).length = (n + s.size) * 1 := by rw [List.length_append, hown.1, hsl]; omega
  have hf0 := fun (W : World) => run_firstCells_string (P := P) (w := W) i.size s
  have grown : ∀ (old : Nat), old < n + s.size →
      Vec (w.drew.alloc (.cells (xs.toArray ++ (bcells s.data.toList).toArray ++ Builtin.zeroCells z.cells (grownCap w (n + s.size) old e - (n + s.size))) e)) B e 1
        (.slice (some ⟨w.heap.size, 0, none⟩) (n + s.size) (grownCap w (n + s.size) old e)) (n + s.size) (xs ++ bcells s.data.toList) ∧
      Fr (fun k => v.ownBlock = some k) w (w.drew.alloc (.cells (xs.toArray ++ (bcells s.data.toList).toArray ++ Builtin.zeroCells z.cells (grownCap w (n + s.size) old e - (n + s.size))) e)) := by
    intro old ho
    have hge := grownCap_ge w (n + s.size) old e
    have hcm : grownCap w (n + s.size) old e ≤ maxLen := grownCap_le_maxLen w (n + s.size) old e h63
    have hz0 : (xs ++ bcells s.data.toList ++ (Builtin.zeroCells z.cells (grownCap w (n + s.size) old e - (n + s.size))).toList).length = grownCap w (n + s.size) old e * 1 := by
      rw [List.length_append, hlen, Array.length_toList, size_zeroCells, hzs, ← Nat.add_mul]
      congr 1
      omega
    refine ⟨⟨hlen, .inr ⟨w.heap.size, grownCap w (n + s.size) old e, (Builtin.zeroCells z.cells (grownCap w (n + s.size) old e - (n + s.size))).toList, rfl, hB, ?_, hz0, hge, hcm⟩⟩, ?_⟩
    · have := Own.alloc w.drew (xs.toArray ++ (bcells s.data.toList).toArray ++ Builtin.zeroCells z.cells (grownCap w (n + s.size) old e - (n + s.size))) e
      simpa using this
    · exact Fr.alloc (Fr.drew (Fr.refl _ w)) _
  rcases hown.2 with ⟨rfl, rfl⟩ | ⟨g, cap, rest, rfl, hbg, hg, hcs, hnc, hcm⟩
  · have hxe : xs = [] := List.eq_nil_of_length_eq_zero (by simpa using hown.1)
    subst hxe
    by_cases h0 : s.size = 0
    · have hb0 : bcells s.data.toList = [] := List.eq_nil_of_length_eq_zero (by rw [hsl]; exact h0)
      refine ⟨.slice none 0 0, w, ?_, ?_, Fr.refl _ _, .inl rfl⟩
      · have hf := run_firstCells_string (P := P) (w := w) i.size s
        rw [h0] at hf
        simp [Builtin.append_, run_underlying ht, run_underlying hu, sizeOf, typeInfo, hi, Builtin.lenOf, h0, hf]
      · rw [h0, hb0]; simpa using hown
    · have hr := run_append_nil_string (P := P) (w := w) t u ty e i z ht hu hi hz s (by omega) (by omega) (by rw [hby]; omega)
      have hgr := grown 0 (by omega)
      simp only [Nat.zero_add, List.nil_append] at hgr ⊢
      have hda : s.data.map (fun b => Value.int .u8 b.toNat) = (bcells s.data.toList).toArray := by
        apply Array.ext'; simp [bcells]
      rw [hda] at hr
      refine ⟨_, _, hr, ?_, ?_, .inr ⟨w.heap.size, rfl, Nat.le_refl _⟩⟩
      · simpa using hgr.1
      · simpa using hgr.2
  · by_cases hroom : n + s.size ≤ cap
    · have hfit : n * 1 + (bcells s.data.toList).length ≤ (xs ++ rest).length := by rw [hsl, hcs]; omega
      obtain ⟨w', r1, r2, r3, r4, r5⟩ := run_storeCells_own (P := P) g (n * 1) e (bcells s.data.toList) 0 (xs ++ rest) w hg (by simpa using hfit) (bcells_one _)
      have hf := hf0 w
      rw [strCells_b, hsize] at hf
      refine ⟨.slice (some ⟨g, 0, none⟩) (n + s.size) cap, w', ?_, ⟨hlen, .inr ⟨g, cap, rest.drop (bcells s.data.toList).length, rfl, hbg, ?_, ?_, hroom, hcm⟩⟩, ?_, .inl rfl⟩
      · simp [Builtin.append_, run_underlying ht, run_underlying hu, sizeOf, typeInfo, hi, hsize, Builtin.lenOf, hroom, hf, Addr.add_lit]
        simp at r1
        rw [r1]
        rfl
      · have e1 : (xs ++ rest).take (n * 1 + 0) = xs := by rw [Nat.add_zero, ← hown.1]; exact List.take_left
        have e2 : (xs ++ rest).drop (n * 1 + 0 + (bcells s.data.toList).length) = rest.drop (bcells s.data.toList).length := by
          rw [Nat.add_zero, ← hown.1, List.drop_append]
          simp [List.drop_eq_nil_of_le]
        rw [e1, e2] at r2
        exact r2
      · rw [List.length_append] at hcs hfit
        rw [List.length_append, List.length_append, List.length_drop, ← hcs, hown.1]
        rw [hown.1] at hfit
        omega
      · exact r3.mono fun k hk _ => by simp [Value.ownBlock, hk]
    · have hxs : ∀ j u, xs[j]? = some u → w.cell? ((⟨g, 0, none⟩ : Addr).add j) = some u := fun j u hu => by
        rw [addr_add, Nat.zero_add]
        exact hg.cell (by rw [List.getElem?_append_left ((List.getElem?_eq_some_iff.1 hu).1)]; exact hu)
      have hr := run_append_grow_string (P := P) (w := w) t u ty e i z ht hu hi hz ⟨g, 0, none⟩ n cap xs (by rw [hsize]; exact hown.1) hxs s (by omega) (by omega) (growslice_fits (by omega) (by rw [hby]; omega))
      rw [strCells_b] at hr
      have hgr := grown cap (by omega)
      exact ⟨_, _, hr, hgr.1, hgr.2, .inr ⟨w.heap.size, rfl, Nat.le_refl _⟩⟩
theorem wpList_append_text {ops : Array Oper} {rest : List Oper} {o : Oper} {a : Act} {w : World} {Q : Exit → Act → World → Prop} (hgd : o.guard = none) (s x : Operand) (t u : TypeId)
    (ho : o.op = .call { callee := .builtin .append, args := #[s, x], argTypes := #[t, u] })
    (B : Nat) (e : TypeId) (helt : Elt P t e 1 1) (hu : P.underlying u = some .string)
    {v : Value} {n : Nat} {xs : List Value} (hown : Vec w B e 1 v n xs) (hs : a.eval s = v)
    {tx : ByteArray} (hxv : a.eval x = .string tx) (h63 : n + tx.size ≤ maxLen) (hbytes : n + tx.size ≤ 140737488355328) (hB : B ≤ w.heap.size)
    (h : ∀ v' w', Vec w' B e 1 v' (n + tx.size) (xs ++ bcells tx.data.toList) → Grew w v v' w' → wpList P ops Q rest (a.put o.dst v') w') : wpList P ops Q (o :: rest) a w := by
  refine wpList_plain hgd fun K hK => ?_
  obtain ⟨i, z, e1, e2, e3, e4, e5, e6⟩ := helt
  obtain ⟨v', w', hr, h2, h3, h4⟩ := run_append_text (P := P) w B t u o.type e i z e1 hu e2 e3 e4 e5 e6 v n xs hown tx h63 hbytes hB
  unfold Oper.wp execOp
  simp only [ho, resolve, invoke, builtin, Sem.run_bind, Sem.run_pure, Result.andThen_ok, List.map_toArray, List.map_cons, List.map_nil, hs, hxv, hr]
  exact hK _ _ (h v' w' h2 ⟨h3, h4⟩)
end
end Go.Proofs.YtlcdgbhigfgehabGreatDoor
