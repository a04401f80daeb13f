/- delta's tokens: upTo, block. -/
import Derived.Test.YtlcdgbhigfgehabGreatDoorOToks
import Derived.Test.YtlcdgbhigfgehabGreatDoorDiffPure
import Derived.Deep.RegionHeld3
namespace Go.Proofs.YtlcdgbhigfgehabGreatDoor
open Go.RowKit
set_option maxRecDepth 100000

theorem Vec.apartT {w : World} {B sz n g : Nat} {T T' : TypeId} {v : Value} {xs ys : List Value} (h : Vec w B T sz v n xs) (ho : Own w g T' ys) (hT : T ≠ T') : v.ownBlock ≠ some g := by
  rcases h.2 with ⟨rfl, _⟩ | ⟨g', cap, rest, rfl, _, h2, _⟩
  · simp [Value.ownBlock]
  · intro hb
    simp [Value.ownBlock] at hb
    subst hb
    obtain ⟨fr, h2, _⟩ := h2
    obtain ⟨fr', ho, _⟩ := ho
    rw [h2] at ho
    simp at ho
    exact hT ho.2.1
/-- append at an operation of a region that draws its order. -/
theorem wp_append_vec {P : Program} {o : Oper} {a : Act} {w : World} {K : Act → World → Prop} {Q : Exit → Act → World → Prop} (s x : Operand) (t : TypeId)
    (ho : o.op = .call { callee := .builtin .append, args := #[s, x], argTypes := #[t, t] })
    (B : Nat) (e : TypeId) (size bytes : Nat) (helt : Elt P t e size bytes)
    {v : Value} {n : Nat} {xs : List Value} (hown : Vec w B e size v n xs) (hs : a.eval s = v)
    {xv : Value} {m : Nat} {news : List Value} (hx : Reads w xv m news) (hxv : a.eval x = xv) (hl : news.length = m * size) (h1 : ∀ u ∈ news, u.oneCell' = true)
    (h63 : n + m ≤ maxLen) (hbytes : (n + m) * bytes ≤ 140737488355328) (hB : B ≤ w.heap.size)
    (h : ∀ v' w', Vec w' B e size v' (n + m) (xs ++ news) → Fr (fun k => v.ownBlock = some k) w w' →
      (v'.ownBlock = v.ownBlock ∨ ∃ g, v'.ownBlock = some g ∧ w.heap.size ≤ g) → K (a.put o.dst v') w') : Oper.wp P o a w K Q := by
  obtain ⟨i, z, e1, e2, e3, e4, e5, e6⟩ := helt
  obtain ⟨v', w', hr, h2, h3, h4, h5⟩ := run_append_vec (P := P) w B t o.type e i z size bytes e1 e2 e3 e4 e5 e6 v n xs hown xv m news hx hl h1 h63 hbytes hB
  unfold Oper.wp execOp
  simp only [ho, resolve, invoke, builtin, Sem.run_bind, Sem.run_pure, Result.andThen_ok, List.map_toArray, List.map_cons, List.map_nil, hs, hxv, hr]
  exact h v' w' h2 h3 h4
/-- tokens that are being gathered: the struct at tb. -/
structure Gath (w : World) (B tb : Nat) (dv : Value) (from_ : Nat) (L : List Tok) : Prop where
  mem : ∃ lv l, Own w tb 235 [dv, lv, .int .i64 from_] ∧ OToks w B lv l ∧ l.map (·.1) = L
theorem Gath.keep0 {w w1 : World} {B tb : Nat} {dv : Value} {f : Nat} {L : List Tok} (h : Gath w B tb dv f L) (k : Fr (fun _ => False) w w1) : Gath w1 B tb dv f L := by
  obtain ⟨lv, l, h1, h2, h3⟩ := h.mem
  exact ⟨⟨lv, l, h1.keep k id, h2.keep0 k, h3⟩⟩
/-- What a step of gathering may turn: the struct, the row of tokens. -/
def GS (w : World) (B tb : Nat) (k : Nat) : Prop := k = tb ∨ (B ≤ k ∧ k < w.heap.size)

theorem gath_push {wr w4 : World} {B tb f : Nat} {dv lv v4 tv : Value} {l : List (Tok × Value)} {t : Tok} (ho : Own wr tb 235 [dv, lv, .int .i64 f]) (hot : OToks wr B lv l) (hk : Fr (fun k => lv.ownBlock = some k) wr w4)
    (hv4 : Vec w4 B 171 3 v4 (l.length + 1) (tokCells l ++ [.int .i64 t.b, .int .i64 t.c, tv])) (hd : Vec w4 B 5 1 tv t.d.length (bcells t.d)) (hnew : ∀ k, tv.ownBlock = some k → wr.heap.size ≤ k) :
    Gath (w4.setCell ⟨tb, 1, none⟩ v4) B tb dv f (l.map (·.1) ++ [t]) ∧ Fr (fun k => k = tb ∨ lv.ownBlock = some k) wr (w4.setCell ⟨tb, 1, none⟩ v4) := by
  have ho4 := ho.keep hk (hot.vec.apartT ho (by decide))
  have hs : Fr (fun k => k = tb) w4 (w4.setCell ⟨tb, 1, none⟩ v4) := (Fr.refl _ _).setCell _ _ (fun _ => rfl)
  have ht := hot.snoc hv4 hk hd (fun p hp k hk' hk2 => by have := (hot.lt p hp k hk').2; have := hnew k hk2; omega)
  refine ⟨⟨v4, l ++ [(t, tv)], ho4.set 1 v4, ht.keep hs (fun b hb hbt => ?_) (fun p hp b hb hbt => ?_), by simp⟩, (hk.mono (fun k h _ => .inr h)).step hs (fun k h _ => .inl h)⟩
  · subst hbt; exact ht.vec.apartT ho4 (by decide) hb
  · subst hbt; exact (ht.data p hp).apartT ho4 (by decide) hb
theorem Gath.from_ {w : World} {B tb f : Nat} {dv : Value} {L : List Tok} (h : Gath w B tb dv f L) (m : Nat) (x : Int) (hx : x = m) : Gath (w.setCell ⟨tb, 2, none⟩ (.int .i64 x)) B tb dv m L ∧ Fr (fun k => k = tb) w (w.setCell ⟨tb, 2, none⟩ (.int .i64 x)) := by
  subst hx
  obtain ⟨lv, l, h1, h2, h3⟩ := h.mem
  have hs : Fr (fun k => k = tb) w (w.setCell ⟨tb, 2, none⟩ (.int .i64 m)) := (Fr.refl _ _).setCell _ _ (fun _ => rfl)
  refine ⟨⟨lv, l, h1.set 2 _, h2.keep hs (fun b hb hbt => ?_) (fun p hp b hb hbt => ?_), h3⟩, hs⟩
  · subst hbt; exact h2.vec.apartT h1 (by decide) hb
  · subst hbt; exact (h2.data p hp).apartT h1 (by decide) hb
theorem Gath.from_cell {w : World} {B tb f : Nat} {dv : Value} {L : List Tok} (h : Gath w B tb dv f L) : w.cell? ⟨tb, 2, none⟩ = some (.int .i64 f) := by
  obtain ⟨lv, l, h1, h2, h3⟩ := h.mem
  exact h1.cell (i := 2) rfl

theorem chunk_step (data : List UInt8) (f i : Nat) (h : f < i) (hi : i ≤ data.length) :
    chunks ((data.drop f).take (i - f)) = ⟨0, 0, (data.drop f).take (min i (f + 255) - f)⟩ :: chunks ((data.drop (min i (f + 255))).take (i - min i (f + 255))) := by
  have hne : (data.drop f).take (i - f) ≠ [] := by
    intro h0
    have := congrArg List.length h0
    simp at this; omega
  rw [chunks_cons _ hne, List.take_take, List.drop_take, List.drop_drop]
  have e1 : min 255 (i - f) = min i (f + 255) - f := by omega
  rw [e1]
  by_cases hc : i ≤ f + 255
  · have e2 : min i (f + 255) = i := by omega
    rw [e2, show i - f - 255 = 0 by omega, Nat.sub_self]
    simp
  · have e2 : min i (f + 255) = f + 255 := by omega
    rw [e2, Nat.sub_sub]

set_option maxHeartbeats 2000000 in
theorem upTo_any (w : World) (B tb : Nat) (dv : Value) (data : List UInt8) (f i : Nat) (L : List Tok) (hg : Gath w B tb dv f L) (hB : B ≤ w.heap.size) (hfi : f ≤ i) (hi : i ≤ data.length) (hd : data.length ≤ 300) (hL : L.length ≤ 1000) (hv : IsB w dv data) (hdB : ∀ b, dv.ownBlock = some b → b < B) (c : Int) (hc : c = i) :
    Calls Tryz.prog 124 #[.pointer (some ⟨tb, 0, none⟩), .int .i64 c] w fun e w' => e = .returned (.tuple #[]) ∧
      Gath w' B tb dv i (L ++ chunks ((data.drop f).take (i - f))) ∧ Fr (GS w B tb) w w' := by
  subst hc
  have HV := Lib.hid hv
  have HG := Lib.hid hg
  have htb : tb < w.heap.size := by obtain ⟨lv, l, h1, -, -⟩ := hg.mem; exact h1.lt
  clear hg hv
  go_enter Tryz.func124, Tryz.ntmps124
  go_wp2_with fail
  go_loopw [4] (fun _ wr => ∃ (f' : Nat) (L' : List Tok), f ≤ f' ∧ f' ≤ i ∧ Gath wr B tb dv f' L' ∧ L'.length ≤ L.length + f' ∧ L' ++ chunks ((data.drop f').take (i - f')) = L ++ chunks ((data.drop f).take (i - f)) ∧ Fr (GS w B tb) w wr)
    (fun _ wr => i - (intOf ((wr.cell? ⟨tb, 2, none⟩).getD undef)).toNat)
  case atStart => exact ⟨f, L, Nat.le_refl _, hfi, HG.out, by omega, rfl, Fr.refl _ _⟩
  case round =>
    obtain ⟨f', L', h1, h2, hG, hLl, hch, hF⟩ := hrel
    obtain ⟨lv, l, ho, hot, hl⟩ := hG.mem
    obtain ⟨la, lc, hlv, -⟩ := hot.vec.shape
    subst hlv
    have x0 := ho.cell (i := 0) rfl
    have x1 := ho.cell (i := 1) rfl
    have x2 := ho.cell (i := 2) rfl
    have hfz := ho.free 1 (by simp)
    have hfz2 := ho.free 2 (by simp)
    have HF := Lib.hid hF
    have HO := Lib.hid ho
    have HOT := Lib.hid hot
    have HLL := Lib.hid hl
    have hLl0 := congrArg List.length hl
    rw [List.length_map] at hLl0
    have HCH := Lib.hid hch
    have hwz := hF.size
    by_cases hlt : f' < i
    · have hV' := HV.out.keep hF (fun b hb hs => by
        rcases hs with rfl | ⟨h8, -⟩
        · obtain ⟨lv0, l0, o0, -⟩ := HG.out.mem
          exact HV.out.apart o0 (by decide) hb
        · have := hdB b hb; omega)
      rcases hV'.cases with ⟨-, rfl⟩ | ⟨db, dof, dcap, rfl, hdl, hdm, -⟩
      · simp at hi; omega
      have hpart := hV'.part f' (min i (f' + 255)) (min i (f' + 255) - f') (by omega) (by omega) (by omega) (by unfold maxLen; omega)
      have HP := Lib.hid hpart
      clear hF ho hot hl hch hV' hG hpart
      by_cases hmin : i ≤ f' + 255
      · have hm' : (i : Int) ≤ (f' : Int) + 255 := by omega
        rw [show min i (f' + 255) = i by omega] at HP
        have hplen : ((data.drop f').take (i - f')).length = i - f' := by simp; omega
        have hll : l.length ≤ L.length + f' := by rw [hLl0]; exact hLl
        clear hLl0
        have hcs := chunk_step data f' i hlt hi
        rw [show min i (f' + 255) = i by omega] at hcs
        have HCS := Lib.hid hcs
        clear hcs
        generalize hX : (data.drop f').take (i - f') = X at *
        have hbw : tb < wr.heap.size := by omega
        clear hX
        have HPL := Lib.hid hplen
        have hXle : X.length ≤ 300 := by omega
        clear hplen
        go_wp2_with fail
        have hne : ¬ (i = f') := by omega
        have i1 : (0 : Int) ≤ (f' : Int) := by omega
        have i2 : (f' : Int) ≤ (i : Int) := by omega
        have i3 : (i : Int) ≤ (data.length : Int) := by omega
        have i4 : (i : Int) ≤ (dcap : Int) := by omega
        go_region_law
          (first
            | (go_simp; go_at_call 71; refine (clone_any _ X _ (HP.out.keep0 (Fr.drew (Fr.refl _ _))) (by omega)).mono ?_; rintro e w1 ⟨v1, rfl, hv1, hf1⟩; obtain ⟨a1, c1, hsh, -⟩ := hv1.shape; subst hsh; have y := (HO.out.keep (Fr.drew (Fr.refl (fun _ => False) _)) id).keep hf1 id; have y0 := y.cell (i := 0) rfl; have y1 := y.cell (i := 1) rfl; have y2 := y.cell (i := 2) rfl; have yf := y.free 1 (by simp); have yl : tb < w1.heap.size := y.lt; have HY := Lib.hid y; have HV1 := Lib.hid hv1; have HF1 := Lib.hid hf1; clear y hv1 hf1)
            | (rw [if_pos (by rfl)]; refine wp_append_vec (.tmp 22) (.tmp 36) 153 rfl B 171 3 40 elt_tok (v := .slice la l.length lc) (n := l.length) (xs := tokCells l) (((HOT.out.vec.keep (Fr.drew (Fr.refl (fun _ => False) _)) (fun _ _ h => h)).keep HF1.out (fun _ _ h => h)).keep ((Fr.refl (fun _ => False) _).alloc _) (fun _ _ h => h)) rfl (m := 1) (Reads.new _ _ _ _ (by simp) _ _) rfl rfl (tok_one _ _ _ _ _) (by unfold maxLen; omega) (by omega) (by have := HF1.out.size; simp at this ⊢; omega) ?_; intro v4 w4 hv4 hf4 hd4; obtain ⟨a4, c4, hsh, -⟩ := hv4.shape; subst hsh; have z := (HY.out.keep ((Fr.refl (fun _ => False) _).alloc _) id).keep hf4 (HOT.out.vec.apartT HO.out (by decide)); have z0 := z.cell (i := 0) rfl; have z1 := z.cell (i := 1) rfl; have z2 := z.cell (i := 2) rfl; have zf := z.free 1 (by simp); have zf2 := z.free 2 (by simp); have zl : tb < w4.heap.size := z.lt; have zs0 := fun v => (World.cell?_setCell_other w4 ⟨tb, 1, none⟩ ⟨tb, 0, none⟩ v (by simp)).trans z0; have zs2 := fun v => (World.cell?_setCell_other w4 ⟨tb, 1, none⟩ ⟨tb, 2, none⟩ v (by simp)).trans z2; have HZ := Lib.hid z; have HV4 := Lib.hid hv4; have HF4 := Lib.hid hf4; have HD4 := Lib.hid hd4; clear z hv4 hf4 hd4))
        all_goals
          go_wp2_with fail
          have hA : Fr (fun k => (Value.slice la l.length lc).ownBlock = some k) wr w4 := (((Fr.drew (Fr.refl (fun _ => False) wr)).step HF1.out (fun _ h _ => h)).alloc _ |>.mono (fun _ h _ => h.elim)).step HF4.out (fun k hk _ => hk)
          have hnew : ∀ k, (Value.slice a1 X.length c1).ownBlock = some k → wr.heap.size ≤ k := fun k hk => by have := (HV1.out.lt k hk).1; simpa using this
          have hd := (HV1.out.keep ((Fr.refl (fun _ => False) _).alloc (.cells #[.int .i64 0, .int .i64 0, .slice a1 X.length c1] 171)) (fun _ _ h => h)).keep HF4.out (fun b hb hs => by
            have := hnew b hb
            have := (HOT.out.vec.lt b hs).2
            omega)
          obtain ⟨q1, q2⟩ := gath_push (t := ⟨0, 0, X⟩) HO.out HOT.out hA HV4.out (hd.mono (by simp; omega)) hnew
          obtain ⟨q3, q4⟩ := q1.from_ i i (by omega)
          rw [HLL.out] at q3
          have hmeas := q3.from_cell
          refine ⟨⟨i, L' ++ [⟨0, 0, X⟩], by omega, by omega, q3, by simp; omega, ?_, HF.out.step (q2.step q4 (fun k hk _ => .inl hk)) ?_⟩, ?_⟩
          · rw [← HCH.out, HCS.out, List.append_assoc]; rfl
          · rintro k (hk | hk) hl
            · exact .inl hk
            · exact .inr ⟨(HOT.out.vec.lt k hk).1, hl⟩
          · rw [hmeas, x2]; simp [intOf]; omega
      · have hm' : (f' : Int) + 255 < (i : Int) := by omega
        rw [show min i (f' + 255) = f' + 255 by omega, show f' + 255 - f' = 255 by omega] at HP
        have hplen : ((data.drop f').take 255).length = 255 := by simp; omega
        have hll : l.length ≤ L.length + f' := by rw [hLl0]; exact hLl
        clear hLl0
        have hcs := chunk_step data f' i hlt hi
        rw [show min i (f' + 255) = f' + 255 by omega, show f' + 255 - f' = 255 by omega] at hcs
        have HCS := Lib.hid hcs
        clear hcs
        generalize hX : (data.drop f').take 255 = X at *
        have hbw : tb < wr.heap.size := by omega
        clear hX
        have HPL := Lib.hid hplen
        have hXle : X.length ≤ 300 := by omega
        clear hplen
        go_wp2_with fail
        have hne : ¬ (f' + 255 = f') := by omega
        have hnat : ((f' : Int) + 255).toNat = f' + 255 := by omega
        have hsub : f' + 255 - f' = 255 := by omega
        have i1 : (0 : Int) ≤ (f' : Int) := by omega
        have i2 : (f' : Int) ≤ (f' : Int) + 255 := by omega
        have i3 : (f' : Int) + 255 ≤ (data.length : Int) := by omega
        have i4 : (f' : Int) + 255 ≤ (dcap : Int) := by omega
        go_region_law
          (first
            | (go_simp; go_at_call 71; refine (clone_any _ X _ (HP.out.keep0 (Fr.drew (Fr.refl _ _))) (by omega)).mono ?_; rintro e w1 ⟨v1, rfl, hv1, hf1⟩; obtain ⟨a1, c1, hsh, -⟩ := hv1.shape; subst hsh; have y := (HO.out.keep (Fr.drew (Fr.refl (fun _ => False) _)) id).keep hf1 id; have y0 := y.cell (i := 0) rfl; have y1 := y.cell (i := 1) rfl; have y2 := y.cell (i := 2) rfl; have yf := y.free 1 (by simp); have yl : tb < w1.heap.size := y.lt; have HY := Lib.hid y; have HV1 := Lib.hid hv1; have HF1 := Lib.hid hf1; clear y hv1 hf1)
            | (rw [if_pos (by rfl)]; refine wp_append_vec (.tmp 22) (.tmp 36) 153 rfl B 171 3 40 elt_tok (v := .slice la l.length lc) (n := l.length) (xs := tokCells l) (((HOT.out.vec.keep (Fr.drew (Fr.refl (fun _ => False) _)) (fun _ _ h => h)).keep HF1.out (fun _ _ h => h)).keep ((Fr.refl (fun _ => False) _).alloc _) (fun _ _ h => h)) rfl (m := 1) (Reads.new _ _ _ _ (by simp) _ _) rfl rfl (tok_one _ _ _ _ _) (by unfold maxLen; omega) (by omega) (by have := HF1.out.size; simp at this ⊢; omega) ?_; intro v4 w4 hv4 hf4 hd4; obtain ⟨a4, c4, hsh, -⟩ := hv4.shape; subst hsh; have z := (HY.out.keep ((Fr.refl (fun _ => False) _).alloc _) id).keep hf4 (HOT.out.vec.apartT HO.out (by decide)); have z0 := z.cell (i := 0) rfl; have z1 := z.cell (i := 1) rfl; have z2 := z.cell (i := 2) rfl; have zf := z.free 1 (by simp); have zf2 := z.free 2 (by simp); have zl : tb < w4.heap.size := z.lt; have zs0 := fun v => (World.cell?_setCell_other w4 ⟨tb, 1, none⟩ ⟨tb, 0, none⟩ v (by simp)).trans z0; have zs2 := fun v => (World.cell?_setCell_other w4 ⟨tb, 1, none⟩ ⟨tb, 2, none⟩ v (by simp)).trans z2; have HZ := Lib.hid z; have HV4 := Lib.hid hv4; have HF4 := Lib.hid hf4; have HD4 := Lib.hid hd4; clear z hv4 hf4 hd4))
        all_goals
          go_wp2_with fail
          have hA : Fr (fun k => (Value.slice la l.length lc).ownBlock = some k) wr w4 := (((Fr.drew (Fr.refl (fun _ => False) wr)).step HF1.out (fun _ h _ => h)).alloc _ |>.mono (fun _ h _ => h.elim)).step HF4.out (fun k hk _ => hk)
          have hnew : ∀ k, (Value.slice a1 X.length c1).ownBlock = some k → wr.heap.size ≤ k := fun k hk => by have := (HV1.out.lt k hk).1; simpa using this
          have hd := (HV1.out.keep ((Fr.refl (fun _ => False) _).alloc (.cells #[.int .i64 0, .int .i64 0, .slice a1 X.length c1] 171)) (fun _ _ h => h)).keep HF4.out (fun b hb hs => by
            have := hnew b hb
            have := (HOT.out.vec.lt b hs).2
            omega)
          obtain ⟨q1, q2⟩ := gath_push (t := ⟨0, 0, X⟩) HO.out HOT.out hA HV4.out (hd.mono (by simp; omega)) hnew
          obtain ⟨q3, q4⟩ := q1.from_ (f' + 255) ((f' : Int) + 255) (by omega)
          rw [HLL.out] at q3
          have hmeas := q3.from_cell
          refine ⟨⟨f' + 255, L' ++ [⟨0, 0, X⟩], by omega, by omega, q3, by simp; omega, ?_, HF.out.step (q2.step q4 (fun k hk _ => .inl hk)) ?_⟩, ?_⟩
          · rw [← HCH.out, HCS.out, List.append_assoc]; rfl
          · rintro k (hk | hk) hl
            · exact .inl hk
            · exact .inr ⟨(HOT.out.vec.lt k hk).1, hl⟩
          · rw [hmeas, x2]; simp [intOf]; omega
    · obtain rfl : f' = i := by omega
      have HG2 := Lib.hid hG
      have hch2 : L' = L ++ chunks ((data.drop f).take (f' - f)) := by rw [← HCH.out, Nat.sub_self, List.take_zero, chunks_nil, List.append_nil]
      have HCH2 := Lib.hid hch2
      clear hF ho hot hl hch hG hch2
      go_wp2_with fail
      go_end0
      exact ⟨rfl, HCH2.out ▸ HG2.out, HF.out⟩
end Go.Proofs.YtlcdgbhigfgehabGreatDoor
