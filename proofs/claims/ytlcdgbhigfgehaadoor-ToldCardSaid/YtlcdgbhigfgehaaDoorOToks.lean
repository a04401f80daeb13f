/- Tokens whose data is each in a row of its own; bytes.Clone and bytes.Equal; the law's 'written'. -/
import Derived.Test.YtlcdgbhigfgehaaDoorAlike
import Derived.Test.YtlcdgbhigfgehaaDoorSumsWalk
namespace Go.Proofs.YtlcdgbhigfgehaaDoor
open Go.RowKit
set_option maxRecDepth 100000

/-- Tokens in memory, each with data in a row of its own, no two in one row; all from block B on. -/
structure OToks (w : World) (B : Nat) (v : Value) (l : List (Tok × Value)) : Prop where
  vec : Vec w B 30 3 v l.length (tokCells l)
  data : ∀ p ∈ l, Vec w B 5 1 p.2 p.1.d.length (bcells p.1.d)
  two : l.Pairwise fun p q => ∀ k, p.2.ownBlock = some k → q.2.ownBlock ≠ some k
section
variable {w w1 : World} {S : Nat → Prop} {B : Nat} {v : Value} {l : List (Tok × Value)}
theorem OToks.nil (w : World) (B : Nat) : OToks w B (.slice none 0 0) [] := ⟨Vec.nil _ _ _ _, fun _ h => by simp at h, List.Pairwise.nil⟩
theorem OToks.toks (h : OToks w B v l) : Toks w B v l := ⟨h.vec, fun p hp => (h.data p hp).isB, fun p hp k hk => ((h.data p hp).lt k hk).1⟩
theorem OToks.keep (h : OToks w B v l) (k : Fr S w w1) (hv : ∀ b, v.ownBlock = some b → ¬ S b) (hd : ∀ p ∈ l, ∀ b, p.2.ownBlock = some b → ¬ S b) : OToks w1 B v l :=
  ⟨h.vec.keep k hv, fun p hp => (h.data p hp).keep k (hd p hp), h.two⟩
theorem OToks.keep0 (h : OToks w B v l) (k : Fr (fun _ => False) w w1) : OToks w1 B v l := h.keep k (fun _ _ h => h) (fun _ _ _ _ h => h)
theorem OToks.below (h : OToks w B v l) (k : Fr S w w1) (hS : ∀ b, S b → b < B) : OToks w1 B v l :=
  h.keep k (fun b hb hs => by have := (h.vec.lt b hb).1; have := hS b hs; omega) (fun p hp b hb hs => by have := ((h.data p hp).lt b hb).1; have := hS b hs; omega)
theorem OToks.lift {B' : Nat} (h : OToks w B v l) (hB : B' ≤ B) : OToks w B' v l := ⟨h.vec.mono hB, fun p hp => (h.data p hp).mono hB, h.two⟩
theorem OToks.snoc {v' : Value} {t : Tok} {dv : Value} (h : OToks w B v l) (hv : Vec w1 B 30 3 v' (l.length + 1) (tokCells l ++ [.int .i64 t.b, .int .i64 t.c, dv])) (k : Fr (fun k => v.ownBlock = some k) w w1)
    (hd : Vec w1 B 5 1 dv t.d.length (bcells t.d)) (hB : ∀ p ∈ l, ∀ k, p.2.ownBlock = some k → dv.ownBlock ≠ some k) : OToks w1 B v' (l ++ [(t, dv)]) := by
  refine ⟨?_, ?_, ?_⟩
  · rw [List.length_append, tokCells_append]; exact hv
  · intro p hp
    rcases List.mem_append.1 hp with hp | hp
    · exact (h.data p hp).keep k (fun b hb hs => h.toks.apart p hp b hb hs)
    · simp at hp; subst hp; exact hd
  · rw [List.pairwise_append]
    exact ⟨h.two, List.pairwise_singleton _ _, fun p hp q hq => by simp at hq; subst hq; exact hB p hp⟩
theorem OToks.lt (h : OToks w B v l) : ∀ p ∈ l, ∀ b, p.2.ownBlock = some b → B ≤ b ∧ b < w.heap.size := fun p hp b hb => (h.data p hp).lt b hb
end

set_option maxHeartbeats 1000000 in
theorem clone_any (v : Value) (l : List UInt8) (w : World) (h : IsB w v l) (hl : l.length ≤ 1000000) :
    Calls Tryd.prog 94 #[v] w fun e w' => ∃ v', e = .returned v' ∧ Vec w' w.heap.size 5 1 v' l.length (bcells l) ∧ Fr (fun _ => False) w w' := by
  have hnil := fun (W : World) (a : Option Addr) (m c : Nat) => Lib.run_eql_slice_nil (P := Tryd.prog) W 25 5 a m c 0 0 Tryd.underlying25
  have H := Lib.hid h
  rcases h.cases with ⟨rfl, rfl⟩ | ⟨b, off, cap, rfl, -⟩
  · clear h
    go_enter Tryd.func94, Tryd.ntmps94
    go_wp2_with fail
    go_ret
    exact ⟨_, rfl, Vec.nil _ _ _ _, Fr.refl _ _⟩
  · clear h
    have hr := Reads.ofB (H.out.keep0 ((Fr.refl (fun _ => False) w).alloc (.cells #[] 5)))
    have HR := Lib.hid hr
    clear hr
    go_enter Tryd.func94, Tryd.ntmps94
    go_wp2_with (at_builtin; refine wpList_append_vec rfl _ _ _ rfl w.heap.size 5 1 1 elt_u8 (v := .slice (some ⟨w.heap.size, 0, none⟩) 0 0) (n := 0) (xs := []) ⟨rfl, .inr ⟨_, 0, [], rfl, Nat.le_refl _, Own.alloc _ _ _, rfl, Nat.le_refl _, Nat.zero_le _⟩⟩ rfl (m := l.length) HR.out rfl (by simp) (bcells_one _) (by unfold maxLen; omega) (by omega) (by simp) ?_; intro v' w1 hv1 hf1 hd1 hn1)
    go_ret
    rw [Nat.zero_add] at hv1
    exact ⟨v', rfl, by simpa using hv1, ((Fr.refl (fun _ => False) w).alloc _).step hf1 (fun k hk hl => by simp [Value.ownBlock] at hk; omega)⟩
theorem equal_any (v1 v2 : Value) (l1 l2 : List UInt8) (w : World) (h1 : IsB w v1 l1) (h2 : IsB w v2 l2) :
    Calls Tryd.prog 93 #[v1, v2] w fun e w' => e = .returned (.bool (decide (l1 = l2))) ∧ w = w' := by
  have u1 := run_string_of (P := Tryd.prog) w 25 9 5 _ _ Tryd.underlying25 Tryd.underlying5 Tryd.underlying9 h1
  have u2 := run_string_of (P := Tryd.prog) w 25 9 5 _ _ Tryd.underlying25 Tryd.underlying5 Tryd.underlying9 h2
  clear h1 h2
  go_enter Tryd.func93, Tryd.ntmps93
  go_wp2
  go_ret
  refine ⟨?_, rfl⟩
  by_cases h : l1 = l2 <;> simp [h]

/-- A row that is filled with one number. -/
def FilledW (w : World) (v : Value) (c : Int) : Prop := v = .slice none 0 0 ∨ ∃ g n cap, v = .slice (some ⟨g, 0, none⟩) n cap ∧ n ≤ cap ∧ cap ≤ maxLen ∧ ∃ xs : List Value, Own w g 5 xs ∧ xs.length = cap ∧ ∀ j, j < cap → xs[j]? = some (.int .u8 c)
def RowW (w : World) (v : Value) : Prop := v = .slice none 0 0 ∨ ∃ g n cap, v = .slice (some ⟨g, 0, none⟩) n cap ∧ n ≤ cap ∧ cap ≤ maxLen ∧ ∃ xs : List Value, Own w g 5 xs ∧ xs.length = cap
theorem RowW.keep {w w1 : World} {S : Nat → Prop} {v : Value} (h : RowW w v) (k : Fr S w w1) (hv : ∀ b, v.ownBlock = some b → ¬ S b) : RowW w1 v := by
  rcases h with h | ⟨g, n, cap, rfl, h1, h2, xs, h3, h4⟩
  · exact .inl h
  · exact .inr ⟨g, n, cap, rfl, h1, h2, xs, h3.keep k (hv g rfl), h4⟩
theorem FilledW.keep {w w1 : World} {S : Nat → Prop} {v : Value} {c : Int} (h : FilledW w v c) (k : Fr S w w1) (hv : ∀ b, v.ownBlock = some b → ¬ S b) : FilledW w1 v c := by
  rcases h with h | ⟨g, n, cap, rfl, h1, h2, xs, h3, h4⟩
  · exact .inl h
  · exact .inr ⟨g, n, cap, rfl, h1, h2, xs, h3.keep k (hv g rfl), h4⟩
theorem Vec.rowW {w : World} {B n : Nat} {v : Value} {xs : List Value} (h : Vec w B 5 1 v n xs) : RowW w v := by
  rcases h.2 with ⟨rfl, _⟩ | ⟨g, cap, rest, rfl, h1, h2, h3, h4, h5⟩
  · exact .inl rfl
  · exact .inr ⟨g, n, cap, rfl, h4, h5, _, h2, by omega⟩
/-- The blocks of the tokens' data. -/
def dataOf (l : List (Tok × Value)) (k : Nat) : Prop := ∃ p ∈ l, p.2.ownBlock = some k
theorem pair_ne {l : List (Tok × Value)} (h : l.Pairwise fun p q => ∀ k, p.2.ownBlock = some k → q.2.ownBlock ≠ some k) {i j : Nat} (hi : i < l.length) (hj : j < l.length) (hne : i ≠ j) {k : Nat} (hk : l[i].2.ownBlock = some k) : l[j].2.ownBlock ≠ some k := by
  rw [List.pairwise_iff_getElem] at h
  rcases Nat.lt_or_gt_of_ne hne with h1 | h1
  · exact h i j hi hj h1 k hk
  · intro h2
    exact h j i hj hi h1 k h2 hk
set_option maxHeartbeats 4000000 in
theorem written_any (v : Value) (l : List (Tok × Value)) (B : Nat) (w : World) (ho : OToks w B v l) (hL : l.length ≤ 1000000) :
    Calls Tryd.prog 26 #[v] w fun e w' => e = .returned (.bool true) ∧ Fr (dataOf l) w w' := by
  rcases ho.vec.cases with ⟨rfl, h0, -⟩ | ⟨g1, c1, r1, rfl, -⟩
  · clear ho
    go_enter Tryd.func26, Tryd.ntmps26
    go_wp2_with fail
    refine wp_loop_rounds 1 ?_
    rw [rounds_succ]
    go_wp2_with fail
    refine wp_loop_rounds 1 ?_
    rw [rounds_succ]
    go_wp2_with fail
    go_ret
    exact ⟨rfl, Fr.refl _ _⟩
  · have HO := Lib.hid ho
    generalize hn : l.length = n at hL ⊢
    have HN := Lib.hid hn
    clear ho hn
    have hcells : ∀ (W : World), Fr (dataOf l) w W → ∀ k (h : k < l.length), W.cell? ⟨g1, k * 3 + 2, none⟩ = some l[k].2 := by
      intro W hF k h
      have hs : ∀ b, (Value.slice (some ⟨g1, 0, none⟩) n c1).ownBlock = some b → ¬ dataOf l b := by
        rintro b hb ⟨p, hp, hk⟩
        rw [← HN.out] at hb
        exact HO.out.toks.apart p hp b hk hb
      have hv := HO.out.vec
      rw [HN.out] at hv
      have hv := hv.keep hF hs
      obtain ⟨g, cap, rest, hq, -, hown, -⟩ := hv.row (by rw [← HN.out]; omega)
      simp only [Value.slice.injEq, Option.some.injEq, Addr.mk.injEq, and_true, true_and] at hq
      obtain ⟨rfl, rfl⟩ := hq
      refine hown.cell ?_
      rw [List.getElem?_append_left (by rw [length_tokCells]; omega)]
      exact (tokCells_get l k h).2.2
    have HC := Lib.hid hcells
    clear hcells
    go_enter Tryd.func26, Tryd.ntmps26
    go_wp2_with fail
    go_loopw [3] (fun i wr => ∃ k : Nat, k ≤ n ∧ i = .int .i64 k ∧ Fr (dataOf l) w wr ∧ (∀ j (h : j < l.length), j < k → FilledW wr l[j].2 ((j % 256 : Nat) : Int)) ∧ (∀ j (h : j < l.length), k ≤ j → RowW wr l[j].2)) (fun i _ => n - (intOf i).toNat)
    case atStart => exact ⟨0, Nat.zero_le _, rfl, Fr.refl _ _, fun j _ h => by omega, fun j h _ => (HO.out.data l[j] (List.getElem_mem h)).rowW⟩
    case round =>
      obtain ⟨k, hk, rfl, hfr, hfil, hrow⟩ := hrel
      have HFI := Lib.hid hfil
      have HRO := Lib.hid hrow
      have HF := Lib.hid hfr
      clear hfil hrow hfr
      by_cases hlt : k < n
      · have hkl : k < l.length := by rw [HN.out]; exact hlt
        have hc := HC.out wr HF.out k hkl
        have hr := HRO.out k hkl (Nat.le_refl _)
        have hmem : ∀ b, l[k].2.ownBlock = some b → dataOf l b := fun b hb => ⟨l[k], List.getElem_mem hkl, hb⟩
        have hothers : ∀ j (h : j < l.length), j ≠ k → ∀ b, l[j].2.ownBlock = some b → ¬ l[k].2.ownBlock = some b := fun j h hne b hb hb2 => pair_ne HO.out.two h hkl hne hb hb2
        have HM := Lib.hid hmem
        have HOT := Lib.hid hothers
        clear hmem hothers
        have fin : ∀ W, Fr (fun b => l[k].2.ownBlock = some b) wr W → FilledW W l[k].2 ((k % 256 : Nat) : Int) →
            Fr (dataOf l) w W ∧ (∀ j (h : j < l.length), j < k + 1 → FilledW W l[j].2 ((j % 256 : Nat) : Int)) ∧ (∀ j (h : j < l.length), k + 1 ≤ j → RowW W l[j].2) := by
          intro W h1 h2
          refine ⟨HF.out.step h1 (fun b hb _ => HM.out b hb), fun j h hj => ?_, fun j h hj => ?_⟩
          · by_cases hjk : j = k
            · subst hjk; exact h2
            · exact (HFI.out j h (by omega)).keep h1 (fun b hb => HOT.out j h hjk b hb)
          · exact (HRO.out j h (by omega)).keep h1 (fun b hb => HOT.out j h (by omega) b hb)
        have FIN := Lib.hid fin
        clear fin
        generalize hdv : l[k].2 = dv at *
        clear hdv
        rcases hr with rfl | ⟨gd, m, cap, rfl, h1, h2, xs, h3, h4⟩
        · go_wp2_with fail
          go_quiet (fail)
          go_wp2_with fail
          refine wp_loop_rounds 1 ?_
          rw [rounds_succ]
          go_wp2_with fail
          obtain ⟨q1, q2, q3⟩ := FIN.out _ ((Fr.refl _ wr).drewN _) (.inl rfl)
          exact ⟨⟨k + 1, by omega, by go_num, q1, q2, q3⟩, by simp [intOf]; omega⟩
        · have H3 := Lib.hid h3
          have H4 := Lib.hid h4
          clear h3 h4
          unfold maxLen at h2
          go_wp2_with fail
          go_quiet (fail)
          go_wp2_with fail
          go_loopw [5] (fun i ws => ∃ (q : Nat) (ys : List Value), q ≤ cap ∧ i = .int .i64 q ∧ Own ws gd 5 ys ∧ ys.length = cap ∧ (∀ j, j < q → ys[j]? = some (.int .u8 ((k % 256 : Nat) : Int))) ∧ Fr (fun b => (Value.slice (some ⟨gd, 0, none⟩) m cap).ownBlock = some b) wr ws) (fun i _ => cap - (intOf i).toNat)
          case atStart => exact ⟨0, xs, Nat.zero_le _, rfl, H3.out.keep ((Fr.refl (fun _ => False) wr).drewN _) id, H4.out, fun j hj => by omega, (Fr.refl _ wr).drewN _⟩
          case round =>
            obtain ⟨q, ys, hq, rfl, hy, hyl, hya, hyf⟩ := hrel
            have HY := Lib.hid hy
            have HYL := Lib.hid hyl
            have HYA := Lib.hid hya
            have HYF := Lib.hid hyf
            by_cases hq2 : q < cap
            · have c1 := hy.cell (i := q) (List.getElem?_eq_getElem (by omega))
              have f1 := hy.free q (by omega)
              clear hy hya hyf
              go_wp2_with fail
              have e : ((k % 256 : Nat) : Int) = (k : Int) % 256 := by omega
              refine ⟨⟨q + 1, ys.set q (.int .u8 ((k : Int) % 256)), by omega, by go_num, HY.out.set q _, by simpa using HYL.out, fun j hj => ?_, HYF.out.setCell _ _ (fun _ => rfl)⟩, by simp [intOf]; omega⟩
              by_cases hjk : j = q
              · subst hjk; rw [List.getElem?_set_self (by rw [HYL.out]; omega), e]
              · rw [List.getElem?_set_ne (fun h => hjk h.symm)]; exact HYA.out j (by omega)
            · obtain rfl : q = cap := by omega
              clear hy hyl hya hyf
              go_wp2_with fail
              obtain ⟨q1, q2, q3⟩ := FIN.out _ HYF.out (.inr ⟨gd, m, q, rfl, h1, by unfold maxLen; omega, ys, HY.out, HYL.out, HYA.out⟩)
              exact ⟨⟨k + 1, by omega, by go_num, q1, q2, q3⟩, by simp [intOf]; omega⟩
      · obtain rfl : k = n := by omega
        go_wp2_with fail
        go_loopw [6] (fun i ws => ∃ k' : Nat, k' ≤ k ∧ i = .int .i64 k' ∧ Fr (fun _ => False) wr ws) (fun i _ => k - (intOf i).toNat)
        case atStart => exact ⟨0, Nat.zero_le _, rfl, Fr.refl _ _⟩
        case round =>
          rename_i ws
          obtain ⟨k', hk', rfl, hfs⟩ := hrel
          have HFS := Lib.hid hfs
          clear hfs
          by_cases hlt' : k' < k
          · have hkl : k' < l.length := by rw [HN.out]; exact hlt'
            have hc := HC.out _ (HF.out.step HFS.out (fun _ h _ => h.elim)) k' hkl
            have hr := (HFI.out k' hkl hlt').keep HFS.out (fun _ _ h => h)
            generalize l[k'].2 = dv at *
            rcases hr with rfl | ⟨gd, m, cap, rfl, h1, h2, xs, h3, h4, h5⟩
            · go_wp2_with fail
              go_quiet (fail)
              go_wp2_with fail
              refine wp_loop_rounds 1 ?_
              rw [rounds_succ]
              go_wp2_with fail
              exact ⟨⟨k' + 1, by omega, by go_num, HFS.out.drewN _⟩, by simp [intOf]; omega⟩
            · have H5 := Lib.hid h5
              have H3 := Lib.hid h3
              clear h5 h3 h4
              unfold maxLen at h2
              go_wp2_with fail
              go_quiet (fail)
              go_wp2_with fail
              rename_i nq
              go_loop [8] (fun i => ∃ q : Nat, q ≤ cap ∧ i = .int .i64 q) (fun i => cap - (intOf i).toNat)
              case atStart => exact ⟨0, Nat.zero_le _, rfl⟩
              case round =>
                obtain ⟨q, hq, rfl⟩ := hrel
                by_cases hq2 : q < cap
                · have c1 := H3.out.cell (H5.out q hq2)
                  have e : ((k' % 256 : Nat) : Int) = (k' : Int) % 256 := by omega
                  rw [e] at c1
                  go_wp2_with fail
                  exact ⟨⟨q + 1, by omega, by go_num⟩, by simp [intOf]; omega⟩
                · obtain rfl : q = cap := by omega
                  go_wp2_with fail
                  exact ⟨⟨k' + 1, by omega, by go_num, HFS.out.drewN _⟩, by simp [intOf]; omega⟩
          · obtain rfl : k' = k := by omega
            go_wp2_with fail
            go_ret
            exact ⟨rfl, HF.out.step HFS.out (fun _ h _ => h.elim)⟩
end Go.Proofs.YtlcdgbhigfgehaaDoor
