/- delta's tokens: block. -/
import Derived.Test.YtlcdgbhigfgehabGreatDoorUpTo
namespace Go.Proofs.YtlcdgbhigfgehabGreatDoor
open Go.RowKit
set_option maxRecDepth 100000

theorem set_count (l0 : List (Tok × Value)) (t : Tok) (tv : Value) (rest : List Value) (m : Nat) (hm : l0.length = m) (x : Int) :
    (tokCells (l0 ++ [(t, tv)]) ++ rest).set (m * 3 + 1) (.int .i64 x) = tokCells (l0 ++ [(⟨t.b, x, t.d⟩, tv)]) ++ rest := by
  subst hm
  rw [tokCells_append, tokCells_append, List.append_assoc, List.append_assoc, List.set_append, if_neg (by simp)]
  simp [tokCells]
theorem addBlock_snoc (L : List Tok) (t : Tok) (k : Nat) : addBlock (L ++ [t]) k = if 0 < t.c ∧ t.c < 255 ∧ t.b + t.c = k then L ++ [⟨t.b, t.c + 1, t.d⟩] else L ++ [t] ++ [⟨k, 1, []⟩] := by
  unfold addBlock
  simp
theorem OToks.count {w : World} {B : Nat} {g m cap : Nat} {l0 : List (Tok × Value)} {t : Tok} {tv : Value} (h : OToks w B (.slice (some ⟨g, 0, none⟩) (m + 1) cap) (l0 ++ [(t, tv)])) (hm : l0.length = m) (x : Int) :
    OToks (w.setCell ⟨g, m * 3 + 1, none⟩ (.int .i64 x)) B (.slice (some ⟨g, 0, none⟩) (m + 1) cap) (l0 ++ [(⟨t.b, x, t.d⟩, tv)]) := by
  have hs : Fr (fun k => k = g) w (w.setCell ⟨g, m * 3 + 1, none⟩ (.int .i64 x)) := (Fr.refl _ _).setCell _ _ (fun _ => rfl)
  have hd : ∀ p ∈ l0 ++ [(t, tv)], Vec (w.setCell ⟨g, m * 3 + 1, none⟩ (.int .i64 x)) B 5 1 p.2 p.1.d.length (bcells p.1.d) := fun p hp => (h.data p hp).keep hs (fun b hb hbg => by
    subst hbg; exact h.toks.apart p hp b hb rfl)
  refine ⟨?_, ?_, ?_⟩
  · obtain ⟨g', cap', rest, hq, h1, h2, h3, h4, h5⟩ := h.vec.row (by simp)
    simp only [Value.slice.injEq, Option.some.injEq, Addr.mk.injEq, and_true, true_and] at hq
    obtain ⟨rfl, hlen, rfl⟩ := hq
    refine ⟨by simp, .inr ⟨g, cap, rest, by simp [hm], h1, ?_, ?_, by simpa using h4, h5⟩⟩
    · have := h2.set (m * 3 + 1) (.int .i64 x)
      rwa [set_count l0 t tv rest m hm] at this
    · simpa using h3
  · intro p hp
    rcases List.mem_append.1 hp with hp | hp
    · exact hd p (List.mem_append.2 (.inl hp))
    · simp at hp; subst hp
      exact hd (t, tv) (by simp)
  · have := h.two
    rw [List.pairwise_append] at this ⊢
    exact ⟨this.1, List.pairwise_singleton _ _, fun a ha b hb => by simp at hb; subst hb; exact this.2.2 a ha (t, tv) (by simp)⟩

set_option maxHeartbeats 2000000 in
theorem tblock_any (w : World) (B tb : Nat) (dv : Value) (f : Nat) (L : List Tok) (hg : Gath w B tb dv f L) (hB : B ≤ w.heap.size) (hL : L.length ≤ 2000) (k : Nat) (hk : k ≤ 100000) (hb : ∀ t ∈ L, Shaped t ∧ t.b ≤ 100000) :
    Calls Tryz.prog 125 #[.pointer (some ⟨tb, 0, none⟩), .int .i64 k] w fun e w' => e = .returned (.tuple #[]) ∧
      Gath w' B tb dv f (addBlock L k) ∧ Fr (GS w B tb) w w' := by
  obtain ⟨lv, l, ho, hot, hl⟩ := hg.mem
  have htb := ho.lt
  obtain ⟨la, lc, hlv, -⟩ := hot.vec.shape
  subst hlv
  have hll : l.length ≤ 2000 := by rw [← hl] at hL; simpa using hL
  -- the way that adds a token
  have push : ∀ (w1 : World) (v4 : Value), Vec w1 B 171 3 v4 (l.length + 1) (tokCells l ++ [.int .i64 k, .int .i64 1, .slice none 0 0]) → Fr (fun k => (Value.slice la l.length lc).ownBlock = some k) w w1 →
      Gath (w1.setCell ⟨tb, 1, none⟩ v4) B tb dv f (L ++ [⟨k, 1, []⟩]) ∧ Fr (GS w B tb) w (w1.setCell ⟨tb, 1, none⟩ v4) := by
    intro w1 v4 h1 h2
    obtain ⟨q1, q2⟩ := gath_push (t := ⟨k, 1, []⟩) ho hot h2 h1 (Vec.nil _ _ _ _) (fun k hk => by simp [Value.ownBlock] at hk)
    rw [hl] at q1
    refine ⟨q1, q2.mono ?_⟩
    rintro k (hk | hk) hlk
    · exact .inl hk
    · exact .inr ⟨(hot.vec.lt k hk).1, hlk⟩
  have PUSH := Lib.hid push
  have HO := Lib.hid ho
  have HOT := Lib.hid hot
  have x1 := ho.cell (i := 1) rfl
  have xf := ho.free 1 (by simp)
  rcases List.eq_nil_or_concat l with rfl | ⟨l0, ⟨t, tv⟩, rfl⟩
  · have hL0 : L = [] := by rw [← hl]; rfl
    subst hL0
    clear push ho hot hg hl
    simp only [List.length_nil] at x1
    go_enter Tryz.func125, Tryz.ntmps125
    go_wp2_with (at_builtin; refine wpList_append_vec rfl (.tmp 56) (.tmp 59) _ rfl B 171 3 40 elt_tok (HOT.out.vec.keep ((Fr.refl (fun _ => False) _).alloc _) (fun _ _ h => h)) rfl (m := 1) (Reads.new _ _ _ _ (by simp) _ _) rfl rfl (tok_one _ _ _ _ _) (by unfold maxLen; simp) (by simp) (by simp; omega) ?_; intro v4 w4 hv4 hf4 hd4 hn4; obtain ⟨a4, c4, hsh, -⟩ := hv4.shape; subst hsh; have z := (HO.out.keep ((Fr.refl (fun _ => False) _).alloc _) id).keep hf4 (HOT.out.vec.apartT HO.out (by decide)); have z1 := z.cell (i := 1) rfl; have zf := z.free 1 (by simp); have HV4 := Lib.hid hv4; have HF4 := Lib.hid hf4; clear z hv4 hf4 hd4 hn4)
    go_end0
    obtain ⟨q1, q2⟩ := PUSH.out w4 (.slice a4 1 c4) HV4.out (((Fr.refl (fun _ => False) _).alloc _).mono (fun _ h _ => h.elim) |>.step HF4.out (fun k hk _ => hk))
    exact ⟨rfl, q1, q2⟩
  · rw [List.concat_eq_append] at *
    obtain ⟨m, hm⟩ : ∃ m, l0.length = m := ⟨_, rfl⟩
    have hlen : (l0 ++ [(t, tv)]).length = m + 1 := by simp [hm]
    have hLe : L = l0.map (·.1) ++ [t] := by rw [← hl]; simp
    obtain ⟨g, cap, rest, hq, h1, h2, h3, h4, h5⟩ := hot.vec.row (by simp)
    simp only [Value.slice.injEq, true_and] at hq
    obtain ⟨rfl, rfl⟩ := hq
    have hcell : ∀ i v, (tokCells [(t, tv)])[i]? = some v → w.cell? ⟨g, m * 3 + i, none⟩ = some v := by
      intro i v hi
      refine h2.cell ?_
      rw [tokCells_append, List.append_assoc, List.getElem?_append_right (by simp; omega), List.getElem?_append_left (by have := (List.getElem?_eq_some_iff.1 hi).1; simp [hm] at this ⊢; omega)]
      simpa [hm] using hi
    have y0 := hcell 0 _ rfl
    rw [Nat.add_zero] at y0
    have y1 := hcell 1 _ rfl
    have yf := h2.free (m * 3 + 1) (by simp [hm]; omega)
    have hve := hot.vec
    rw [hlen] at x1 hll h4 HO HOT PUSH hve
    have HVE := Lib.hid hve
    clear hve
    have hsh := hb t (by rw [hLe]; simp)
    have hAB := addBlock_snoc (l0.map (·.1)) t k
    rw [← hLe] at hAB
    have HAB := Lib.hid hAB
    have HM := Lib.hid hm
    have HLE := Lib.hid hLe
    have hbb : 0 ≤ t.b ∧ t.b ≤ 100000 ∧ 0 ≤ t.c ∧ t.c ≤ 255 := by
      rcases hsh.1 with h | h <;> omega
    clear hcell h2 h3 hAB hsh hb hlen hLe hm push ho hot hg hl hL
    obtain ⟨tbb, tcc, td⟩ := t
    simp only at y0 y1 hbb HAB
    have hsum : IntKind.i64.wrap (tbb + tcc) = tbb + tcc := IntWalk.i64_in _ (by omega)
    by_cases hc0 : 0 < tcc
    · by_cases hc1 : tcc < 255
      · by_cases hk2 : tbb + tcc = k
        · have hkk : (tbb + tcc == (k : Int)) = true := by simpa using hk2
          have hc0' : decide (0 < tcc) = true := by simpa using hc0
          have hc1' : decide (tcc < 255) = true := by simpa using hc1
          have HC := Lib.hid hk2
          clear hk2
          go_enter Tryz.func125, Tryz.ntmps125
          go_wp2_with fail
          go_quiet (fail)
          go_wp2_with fail
          refine bodyPost_ret (results_none rfl _ _ _) rfl ?_
          have hot2 := (HOT.out.keep0 ((Fr.refl (fun _ => False) w).drewN nq)).count HM.out (tcc + 1)
          have hgt : tb ≠ g := fun e => by subst e; exact HVE.out.apartT HO.out (by decide) rfl
          have hs : Fr (fun k => k = g) w ((w.drewN nq).setCell ⟨g, m * 3 + 1, none⟩ (.int .i64 (tcc + 1))) := ((Fr.refl _ _).drewN nq).setCell _ _ (fun _ => rfl)
          refine ⟨rfl, ⟨_, _, HO.out.keep hs hgt, hot2, ?_⟩, hs.mono ?_⟩
          · rw [HAB.out, if_pos ⟨hc0, hc1, HC.out⟩]
            simp
          · rintro b rfl hb
            exact .inr ⟨(HVE.out.lt b rfl).1, hb⟩
        · have hkk : (tbb + tcc == (k : Int)) = false := by simpa using hk2
          have hc0' : decide (0 < tcc) = true := by simpa using hc0
          have hc1' : decide (tcc < 255) = true := by simpa using hc1
          have hno : addBlock L k = L ++ [⟨k, 1, []⟩] := by rw [HAB.out, if_neg (fun h => hk2 h.2.2), HLE.out]
          have HNO := Lib.hid hno
          clear hno hk2
          go_enter Tryz.func125, Tryz.ntmps125
          go_wp2_with fail
          go_quiet (fail)
          go_wp2_with (at_builtin; refine wpList_append_vec rfl (.tmp 56) (.tmp 59) _ rfl B 171 3 40 elt_tok (HVE.out.keep (((Fr.refl (fun _ => False) w).drewN _).alloc _) (fun _ _ h => h)) rfl (m := 1) (Reads.new _ _ _ _ (by simp) _ _) rfl rfl (tok_one _ _ _ _ _) (by unfold maxLen; omega) (by omega) (by simp; omega) ?_; intro v4 w4 hv4 hf4 hd4 hn4; obtain ⟨a4, c4, hsh, -⟩ := hv4.shape; subst hsh; have z := (HO.out.keep (((Fr.refl (fun _ => False) w).drewN _).alloc _) id).keep hf4 (HVE.out.apartT HO.out (by decide)); have z1 := z.cell (i := 1) rfl; have zf := z.free 1 (by simp); have HV4 := Lib.hid hv4; have HF4 := Lib.hid hf4; clear z hv4 hf4 hd4 hn4)
          go_end0
          obtain ⟨q1, q2⟩ := PUSH.out w4 (.slice a4 (m + 1 + 1) c4) HV4.out ((((Fr.refl (fun _ => False) w).drewN _).alloc _).mono (fun _ h _ => h.elim) |>.step HF4.out (fun k hk _ => hk))
          exact ⟨rfl, HNO.out ▸ q1, q2⟩
      · have hc0' : decide (0 < tcc) = true := by simpa using hc0
        have hc1' : decide (tcc < 255) = false := by simpa using hc1
        have hno : addBlock L k = L ++ [⟨k, 1, []⟩] := by rw [HAB.out, if_neg (fun h => hc1 h.2.1), HLE.out]
        have HNO := Lib.hid hno
        clear hno
        go_enter Tryz.func125, Tryz.ntmps125
        go_wp2_with fail
        go_quiet (fail)
        go_wp2_with (at_builtin; refine wpList_append_vec rfl (.tmp 56) (.tmp 59) _ rfl B 171 3 40 elt_tok (HVE.out.keep (((Fr.refl (fun _ => False) w).drewN _).alloc _) (fun _ _ h => h)) rfl (m := 1) (Reads.new _ _ _ _ (by simp) _ _) rfl rfl (tok_one _ _ _ _ _) (by unfold maxLen; omega) (by omega) (by simp; omega) ?_; intro v4 w4 hv4 hf4 hd4 hn4; obtain ⟨a4, c4, hsh, -⟩ := hv4.shape; subst hsh; have z := (HO.out.keep (((Fr.refl (fun _ => False) w).drewN _).alloc _) id).keep hf4 (HVE.out.apartT HO.out (by decide)); have z1 := z.cell (i := 1) rfl; have zf := z.free 1 (by simp); have HV4 := Lib.hid hv4; have HF4 := Lib.hid hf4; clear z hv4 hf4 hd4 hn4)
        go_end0
        obtain ⟨q1, q2⟩ := PUSH.out w4 (.slice a4 (m + 1 + 1) c4) HV4.out ((((Fr.refl (fun _ => False) w).drewN _).alloc _).mono (fun _ h _ => h.elim) |>.step HF4.out (fun k hk _ => hk))
        exact ⟨rfl, HNO.out ▸ q1, q2⟩
    · have hc0' : decide (0 < tcc) = false := by simpa using hc0
      have hno : addBlock L k = L ++ [⟨k, 1, []⟩] := by rw [HAB.out, if_neg (fun h => hc0 h.1), HLE.out]
      have HNO := Lib.hid hno
      clear hno
      go_enter Tryz.func125, Tryz.ntmps125
      go_wp2_with fail
      go_quiet (fail)
      go_wp2_with (at_builtin; refine wpList_append_vec rfl (.tmp 56) (.tmp 59) _ rfl B 171 3 40 elt_tok (HVE.out.keep (((Fr.refl (fun _ => False) w).drewN _).alloc _) (fun _ _ h => h)) rfl (m := 1) (Reads.new _ _ _ _ (by simp) _ _) rfl rfl (tok_one _ _ _ _ _) (by unfold maxLen; omega) (by omega) (by simp; omega) ?_; intro v4 w4 hv4 hf4 hd4 hn4; obtain ⟨a4, c4, hsh, -⟩ := hv4.shape; subst hsh; have z := (HO.out.keep (((Fr.refl (fun _ => False) w).drewN _).alloc _) id).keep hf4 (HVE.out.apartT HO.out (by decide)); have z1 := z.cell (i := 1) rfl; have zf := z.free 1 (by simp); have HV4 := Lib.hid hv4; have HF4 := Lib.hid hf4; clear z hv4 hf4 hd4 hn4)
      go_end0
      obtain ⟨q1, q2⟩ := PUSH.out w4 (.slice a4 (m + 1 + 1) c4) HV4.out ((((Fr.refl (fun _ => False) w).drewN _).alloc _).mono (fun _ h _ => h.elim) |>.step HF4.out (fun k hk _ => hk))
      exact ⟨rfl, HNO.out ▸ q1, q2⟩
end Go.Proofs.YtlcdgbhigfgehabGreatDoor
