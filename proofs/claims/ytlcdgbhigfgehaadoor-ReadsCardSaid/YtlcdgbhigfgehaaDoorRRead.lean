/- The walk of the document's Read. -/
import Derived.Test.YtlcdgbhigfgehaaDoorRRTokens
import Derived.Test.YtlcdgbhigfgehaaDoorBRead
import Derived.Test.YtlcdgbhigfgehaaDoorSumsWalk
import Derived.Deep.CutBlock
namespace Go.Proofs.YtlcdgbhigfgehaaDoor
open Go.RowKit
set_option maxRecDepth 100000

/-- Between two steps of the document's Read: x lies at xb. -/
structure QI (w W : World) (xb : Nat) (s : ByteArray) (blk : Int) (bv tv : Value) (q : Nat) (ok : Bool) : Prop where
  x : Own W xb 55 [.int .i64 blk, bv, tv]
  g : Own W w.heap.size 55 [.int .i64 0, .slice none 0 0, .slice none 0 0]
  r : RR W (w.heap.size + 1) s q ok
  fr : Fr (fun _ => False) w W
  lo : w.heap.size + 2 ≤ xb
section
variable {w W W' : World} {xb : Nat} {s : ByteArray} {bv tv : Value} {blk : Int} {q q' : Nat} {ok ok' : Bool}
theorem QI.step (h : QI w W xb s blk bv tv q ok) (hf : Fr (fun k => k = w.heap.size + 1) W W') (hr : RR W' (w.heap.size + 1) s q' ok') : QI w W' xb s blk bv tv q' ok' :=
  ⟨h.x.keep hf (by have := h.lo; omega), h.g.keep hf (by omega), hr, h.fr.step hf (fun k hk hl => by omega), h.lo⟩
theorem QI.keep {S : Nat → Prop} (h : QI w W xb s blk bv tv q ok) (hf : Fr S W W') (hS : ∀ k, S k → xb < k) : QI w W' xb s blk bv tv q ok :=
  ⟨h.x.keep hf (fun hs => by have := hS _ hs; omega), h.g.keep hf (fun hs => by have := hS _ hs; have := h.lo; omega), h.r.keep hf (fun hs => by have := hS _ hs; have := h.lo; omega), h.fr.step hf (fun k hk hl => by have := hS k hk; have := h.lo; omega), h.lo⟩
theorem QI.set (h : QI w W xb s blk bv tv q ok) (i : Nat) (v : Value) (blk' : Int) (bv' tv' : Value) (he : ([.int .i64 blk, bv, tv] : List Value).set i v = [.int .i64 blk', bv', tv']) : QI w (W.setCell ⟨xb, i, none⟩ v) xb s blk' bv' tv' q ok := by
  have hs : Fr (fun k => k = xb) W (W.setCell ⟨xb, i, none⟩ v) := (Fr.refl _ _).setCell _ _ (fun _ => rfl)
  exact ⟨he ▸ h.x.set i v, h.g.keep hs (by have := h.lo; omega), h.r.keep hs (by have := h.lo; omega), h.fr.step hs (fun k hk hl => by have := h.lo; omega), h.lo⟩
end
/-- What the head of a batch comes to. -/
theorem head_rel {s : ByteArray} {hd : List UInt8} {p1 p3 p5 bk n : Nat} {ok1 ok2 ok3 ok4 ok5 ok6 B : Bool} (h1 : TxtRel true s 0 3 hd p1 ok1) (h2 : (ok1 && (hd == [66, 65, 84])) = ok2) (h3 : NumRel ok2 s p1 1 bk p3 ok3) (hB : B = decide (1 ≤ bk ∧ bk ≤ 64)) (h4 : (ok3 && B) = ok4) (h5 : NumRel ok4 s p3 1 n p5 ok5) (h6 : (ok5 && decide ((n : Int) ≤ 8)) = ok6) :
    (ok6 = true ∧ 1 ≤ bk ∧ bk ≤ 64 ∧ n ≤ 8 ∧ bodyN s.data.toList = (match entsF n [] (s.data.toList.drop p5) with | none => none | some (basis, r) => body4 bk basis r)) ∨ (ok6 = false ∧ bodyN s.data.toList = none) := by
  unfold bodyN
  rcases h1 with ⟨rfl, -, e1⟩ | ⟨rfl, e1⟩
  · rw [List.drop_zero] at e1
    rw [e1]; simp only
    by_cases hm : hd = [66, 65, 84]
    · rw [if_neg (fun h => h hm)]
      rw [Bool.true_and, beq_iff_eq.2 hm] at h2
      subst h2
      rcases h3 with ⟨rfl, -, e3⟩ | ⟨rfl, -, e3⟩
      · rw [e3]; simp only
        by_cases hb : 1 ≤ bk ∧ bk ≤ 64
        · rw [if_neg (by omega)]
          rw [hB, decide_eq_true hb] at h4
          simp at h4; subst h4
          rcases h5 with ⟨rfl, -, e5⟩ | ⟨rfl, -, e5⟩
          · rw [e5]; simp only
            by_cases hn : 8 < n
            · rw [if_pos hn]
              rw [decide_eq_false (by omega)] at h6
              exact .inr ⟨by simpa using h6.symm, rfl⟩
            · rw [if_neg hn]
              rw [decide_eq_true (by omega)] at h6
              exact .inl ⟨by simpa using h6.symm, hb.1, hb.2, by omega, rfl⟩
          · rw [e5 rfl]
            exact .inr ⟨by simpa using h6.symm, rfl⟩
        · rw [if_pos (by omega)]
          rw [hB, decide_eq_false hb] at h4
          simp at h4; subst h4
          have := h5.dead; subst this
          exact .inr ⟨by simpa using h6.symm, rfl⟩
      · rw [e3 rfl]
        simp at h4; subst h4
        have := h5.dead; subst this
        exact .inr ⟨by simpa using h6.symm, rfl⟩
    · rw [if_pos hm]
      rw [Bool.true_and, beq_eq_false_iff_ne.2 hm] at h2
      subst h2
      have := h3.dead; subst this
      simp at h4; subst h4
      have := h5.dead; subst this
      exact .inr ⟨by simpa using h6.symm, rfl⟩
  · have e1' := e1 rfl
    rw [List.drop_zero] at e1'
    rw [e1']
    simp at h2; subst h2
    have := h3.dead; subst this
    simp at h4; subst h4
    have := h5.dead; subst this
    exact .inr ⟨by simpa using h6.symm, rfl⟩
theorem entsF_sizes : ∀ (n : Nat) (acc : List Ent) (r r' : List UInt8) (E : List Ent), entsF n acc r = some (E, r') → (∀ e ∈ acc, e.size ≤ 300) → ∀ e ∈ E, e.size ≤ 300 := by
  intro n
  induction n with
  | zero => intro acc r r' E h ha; simp [entsF] at h; obtain ⟨rfl, rfl⟩ := h; exact ha
  | succ n ih =>
    intro acc r r' E h ha
    unfold entsF at h
    split at h
    · cases h
    · rename_i e r2 he
      refine ih _ _ _ _ h (fun x hx => ?_)
      rcases List.mem_append.1 hx with hx | hx
      · exact ha x hx
      · simp at hx; subst hx
        unfold entN at he
        repeat' (split at he)
        all_goals first | cases he | skip
        all_goals (dsimp only; omega)
theorem tail_rel {s : ByteArray} {bk q m p9 : Nat} {E : List Ent} {okc ok9 ok10 : Bool} (h9 : NumRel okc s q 1 m p9 ok9) (h10 : (ok9 && decide ((m : Int) ≤ 8)) = ok10) :
    (ok10 = true ∧ okc = true ∧ m ≤ 8 ∧ body4 bk E (s.data.toList.drop q) = (match targsF bk E m [] (s.data.toList.drop p9) with | none => none | some (ts, r) => some (⟨bk, E, ts⟩, r))) ∨ (ok10 = false ∧ (okc = true → body4 bk E (s.data.toList.drop q) = none)) := by
  unfold body4
  rcases h9 with ⟨rfl, rfl, e⟩ | ⟨rfl, -, e⟩
  · rw [e]; simp only
    by_cases hm : 8 < m
    · rw [decide_eq_false (by omega)] at h10
      exact .inr ⟨by simpa using h10.symm, fun _ => by rw [if_pos hm]⟩
    · rw [decide_eq_true (by omega)] at h10
      exact .inl ⟨by simpa using h10.symm, trivial, by omega, by rw [if_neg hm]; rfl⟩
  · exact .inr ⟨by simpa using h10.symm, fun h => by rw [e h]⟩
theorem end_rel {s : ByteArray} {x : Bat} {q p' v : Nat} {okv : Bool} (hq : q ≤ s.size) (hb : bodyN s.data.toList = some (x, s.data.toList.drop q)) (h : NumRel true s q 8 v p' okv) (hp : p' ≤ s.size) :
    readOf s.data.toList = if okv = true ∧ (v : Int) = dgOf (s.data.toList.take q) ∧ p' = s.size then some x else none := by
  have hsl : s.data.toList.length = s.size := by simp
  unfold readOf
  rw [hb]; simp only
  have hl : s.data.toList.length - (s.data.toList.drop q).length = q := by rw [List.length_drop]; omega
  rw [hl]
  rcases h with ⟨rfl, -, e⟩ | ⟨rfl, -, e⟩
  · unfold numN at e
    split at e
    · cases e
    · rename_i h8
      simp only [Option.some.injEq, Prod.mk.injEq] at e
      obtain ⟨rfl, e2⟩ := e
      have hl2 := congrArg List.length e2
      rw [List.length_drop, List.length_drop, List.length_drop, hsl] at hl2
      rw [List.length_drop, hsl] at h8 ⊢
      by_cases hp' : p' = s.size
      · have h8' : s.size - q = 8 := by omega
        rw [List.take_of_length_le (l := s.data.toList.drop q) (i := 8) (by rw [List.length_drop]; omega)]
        simp only [true_and, hp', and_true, h8']
      · rw [if_neg (by omega), if_neg (by omega)]
  · have h8 : (s.data.toList.drop q).length < 8 := by
      have := e rfl
      unfold numN at this
      split at this
      · assumption
      · cases this
    rw [if_neg (by omega), if_neg (by simp)]
theorem tks_rel (s : ByteArray) (p blk basis size : Nat) : tksN blk basis size (s.data.toList.drop p) = (match RTksO true s p blk basis with | none => none | some ((l, k), r) => if k = size then some (l, r) else none) := by
  unfold tksN RTksO
  rw [if_pos rfl]
  cases numN 2 (s.data.toList.drop p) with
  | none => rfl
  | some y => rfl
/-- What the document's Read gives. -/
def RRdPost (w : World) (s : List UInt8) (e : Ending) (w' : World) : Prop :=
  ∃ b0 b1 b2 ok, e = .returned (.tuple #[.agg #[b0, b1, b2], .bool ok]) ∧ (∃ n a1 m1 c1 a2 m2 c2, b0 = .int .i64 n ∧ b1 = .slice a1 m1 c1 ∧ b2 = .slice a2 m2 c2) ∧ Fr (fun _ => False) w w' ∧ match readOf s with
    | none => ok = false
    | some x => ok = true ∧ ∃ mt, b0 = .int .i64 x.block ∧ Vec w' w.heap.size 61 3 b1 x.basis.length (entCells x.basis) ∧ Targs w' w.heap.size b2 mt ∧ mt.map (·.t) = x.targs
theorem rread_results (t : Array Value) (g : Nat) (w : World) (b0 b1 b2 : Value) (h2 : t.getD 2 undef = .pointer (some ⟨g, 0, none⟩)) (hx : Own w g 55 [b0, b1, b2]) :
    (results Tryd.f25 t).run Tryd.prog w = .ok (.tuple #[.agg #[b0, b1, b2], t.getD 3 undef]) w := by
  have x0 := hx.cell (i := 0) rfl
  have x1 := hx.cell (i := 1) rfl
  have x2 := hx.cell (i := 2) rfl
  have h2' : t[2]?.getD undef = .pointer (some ⟨g, 0, none⟩) := by simpa using h2
  simp [results, h2', asAddr, x0, x1, x2, go_sem]
theorem readOf_noBody {s : List UInt8} (h : bodyN s = none) : readOf s = none := by unfold readOf; rw [h]
theorem take_extract (s : ByteArray) (q : Nat) : (s.extract 0 q).data.toList = s.data.toList.take q := by
  rw [ByteArray.data_extract, Array.toList_extract]
  simp [List.extract_eq_take_drop]
theorem set3 {w W : World} {xb : Nat} {s : ByteArray} {blk : Int} {bv tv : Value} {q : Nat} {ok : Bool} (hQ : QI w W xb s blk bv tv q ok) (v0 v1 v2 : Value) :
    Own (((W.setCell ⟨w.heap.size, 0, none⟩ v0).setCell ⟨w.heap.size, 1, none⟩ v1).setCell ⟨w.heap.size, 2, none⟩ v2) w.heap.size 55 [v0, v1, v2] ∧ Fr (fun k => k = w.heap.size) W (((W.setCell ⟨w.heap.size, 0, none⟩ v0).setCell ⟨w.heap.size, 1, none⟩ v1).setCell ⟨w.heap.size, 2, none⟩ v2) :=
  ⟨((hQ.g.set 0 v0).set 1 v1).set 2 v2, (((Fr.refl (fun k => k = w.heap.size) W).setCell ⟨w.heap.size, 0, none⟩ v0 (fun _ => rfl)).setCell ⟨w.heap.size, 1, none⟩ v1 (fun _ => rfl)).setCell ⟨w.heap.size, 2, none⟩ v2 (fun _ => rfl)⟩
theorem rrd_none {w W : World} {xb : Nat} {s : ByteArray} {blk : Int} {bv tv : Value} {q : Nat} {ok : Bool} (hQ : QI w W xb s blk bv tv q ok) (hn : readOf s.data.toList = none) (t : Array Value) (h2 : t.getD 2 undef = .pointer (some ⟨w.heap.size, 0, none⟩)) (h3 : t.getD 3 undef = .bool false) :
    bodyPost Tryd.prog Tryd.f25 (RRdPost w s.data.toList) Exit.ret ⟨t, []⟩ (((W.setCell ⟨w.heap.size, 0, none⟩ (.int .i64 0)).setCell ⟨w.heap.size, 1, none⟩ (.slice none 0 0)).setCell ⟨w.heap.size, 2, none⟩ (.slice none 0 0)) := by
  have h := set3 hQ (.int .i64 0) (.slice none 0 0) (.slice none 0 0)
  refine bodyPost_ret (rread_results t w.heap.size _ _ _ _ h2 h.1) rfl ?_
  rw [h3]
  refine ⟨_, _, _, false, rfl, ⟨_, _, _, _, _, _, _, rfl, rfl, rfl⟩, hQ.fr.step h.2 (fun k hk hl => by omega), ?_⟩
  rw [hn]
theorem rrd_some {w W : World} {xb : Nat} {s : ByteArray} {q bk : Nat} {ok : Bool} {a1 a2 : Option Addr} {m1 c1 m2 c2 : Nat} {E : List Ent} {mt : List MT} (hQ : QI w W xb s bk (.slice a1 m1 c1) (.slice a2 m2 c2) q ok)
    (hV : Vec W (xb + 1) 61 3 (.slice a1 m1 c1) E.length (entCells E)) (hT : Targs W (xb + 1) (.slice a2 m2 c2) mt) (hn : readOf s.data.toList = some ⟨bk, E, mt.map (·.t)⟩) (t : Array Value) (h2 : t.getD 2 undef = .pointer (some ⟨w.heap.size, 0, none⟩)) (h3 : t.getD 3 undef = .bool true) :
    bodyPost Tryd.prog Tryd.f25 (RRdPost w s.data.toList) Exit.ret ⟨t, []⟩ (((W.setCell ⟨w.heap.size, 0, none⟩ (.int .i64 bk)).setCell ⟨w.heap.size, 1, none⟩ (.slice a1 m1 c1)).setCell ⟨w.heap.size, 2, none⟩ (.slice a2 m2 c2)) := by
  have h := set3 hQ (.int .i64 bk) (.slice a1 m1 c1) (.slice a2 m2 c2)
  have hlo := hQ.lo
  refine bodyPost_ret (rread_results t w.heap.size _ _ _ _ h2 h.1) rfl ?_
  rw [h3]
  refine ⟨_, _, _, true, rfl, ⟨_, _, _, _, _, _, _, rfl, rfl, rfl⟩, hQ.fr.step h.2 (fun k hk hl => by omega), ?_⟩
  rw [hn]
  exact ⟨rfl, mt, rfl, (hV.keep h.2 (fun b hb hs => by have := (hV.lt b hb).1; omega)).mono (by omega), (hT.below h.2 (fun b hb => by omega)).lift (by omega), rfl⟩
set_option maxHeartbeats 1500000 in
theorem rread_any (s : ByteArray) (w : World) (hs : s.size ≤ 1000000) :
    Calls Tryd.prog 25 #[.string s] w (RRdPost w s.data.toList) := by
  have hsl : s.data.toList.length = s.size := by simp
  have HSL := Lib.hid hsl
  clear hsl
  have hg0 := (Own.alloc w #[.int .i64 0, .slice none 0 0, .slice none 0 0] 55).keep ((Fr.refl (fun _ => False) _).alloc (.cells #[.string s, .int .i64 0, .bool true] 98)) id
  have hr0 : RR ((w.alloc (.cells #[.int .i64 0, .slice none 0 0, .slice none 0 0] 55)).alloc (.cells #[.string s, .int .i64 0, .bool true] 98)) (w.heap.size + 1) s 0 true := by
    have := Own.alloc (w.alloc (.cells #[.int .i64 0, .slice none 0 0, .slice none 0 0] 55)) #[.string s, .int .i64 0, .bool true] 98
    exact ⟨by simpa using this, Nat.zero_le _⟩
  have hf0 : Fr (fun _ => False) w ((w.alloc (.cells #[.int .i64 0, .slice none 0 0, .slice none 0 0] 55)).alloc (.cells #[.string s, .int .i64 0, .bool true] 98)) := ((Fr.refl _ _).alloc _).alloc _
  have HG0 := Lib.hid hg0
  have HR0 := Lib.hid hr0
  have HF0 := Lib.hid hf0
  clear hg0 hr0 hf0
  go_enter Tryd.func25, Tryd.ntmps25
  go_wp2_with fail
  go_at_call 42; refine (rtext_any _ _ s 0 3 _ rfl true HR0.out hs (by omega)).mono ?_
  rintro e w1 ⟨hd, p1, ok1, rfl, hr1, hf1, hdl, hn1⟩
  have HN1 := Lib.hid hn1
  have HR1 := Lib.hid hr1
  have HG1 := Lib.hid (HG0.out.keep hf1 (by omega))
  have HF1 := Lib.hid (HF0.out.step hf1 (fun k hk hl => by omega))
  clear hn1 hr1 hf1
  go_wp2_with fail
  go_at_call 43; refine (rmust_any _ _ s p1 ok1 (hd == [66, 65, 84]) HR1.out).mono ?_
  rintro e w2 ⟨rfl, hr2, hf2⟩
  obtain ⟨ok2, hok2⟩ : ∃ b, (ok1 && (hd == [66, 65, 84])) = b := ⟨_, rfl⟩
  rw [hok2] at hr2
  have HK2 := Lib.hid hok2
  have hG2 := HG1.out.keep hf2 (by omega)
  have hF2 := HF1.out.step hf2 (fun k hk hl => by omega)
  have hz2 := hr2.own.lt
  have hq3 : QI w (w2.alloc (.cells #[.int .i64 0, .slice none 0 0, .slice none 0 0] 55)) w2.heap.size s 0 (.slice none 0 0) (.slice none 0 0) p1 ok2 :=
    ⟨Own.alloc w2 #[.int .i64 0, .slice none 0 0, .slice none 0 0] 55, hG2.keep ((Fr.refl (fun _ => False) _).alloc _) id, hr2.keep ((Fr.refl (fun _ => False) _).alloc _) id, hF2.alloc _, by omega⟩
  obtain ⟨xb, hxb⟩ : ∃ xb, w2.heap.size = xb := ⟨_, rfl⟩
  rw [hxb] at hq3
  have HQ3 := Lib.hid hq3
  clear hok2 hr2 hf2 hG2 hF2 hq3
  go_wp2_with fail
  go_at_call 44; refine (rnum_any _ _ s p1 1 _ rfl ok2 HQ3.out.r hs (by omega)).mono ?_
  rintro e w4 ⟨bk, p3, ok3, rfl, hr4, hf4, hbk, hn4⟩
  have hbk' : bk < 256 := hbk
  have HN4 := Lib.hid hn4
  have HQ4 := Lib.hid (HQ3.out.step hf4 hr4)
  have hcb : IntKind.i64.wrap (bk : Int) = (bk : Int) := IntWalk.i64_in _ (by omega)
  clear hr4 hf4 hbk hn4
  go_upto_region 6 with fail
  go_cut [4] from 20 (fun s4 wx => s4 = .pointer (some ⟨w.heap.size + 1, 0, none⟩) ∧ ∃ ok4, (ok3 && decide (1 ≤ bk ∧ bk ≤ 64)) = ok4 ∧ QI w wx xb s 0 (.slice none 0 0) (.slice none 0 0) p3 ok4)
  case first =>
    by_cases hb1 : (1 : Int) ≤ (bk : Int)
    · go_wp2_with fail
      go_at_call 43; refine (rmust_any _ _ s p3 ok3 (decide ((bk : Int) ≤ 64)) HQ4.out.r).mono ?_
      rintro e w5 ⟨rfl, hr5, hf5⟩
      go_wp2_with fail
      go_meet
      case rel => exact ⟨rfl, _, rfl, by
        have e : decide ((bk : Int) ≤ 64) = decide (1 ≤ bk ∧ bk ≤ 64) := decide_eq_decide.2 (by omega)
        rw [e] at hr5
        exact HQ4.out.step hf5 hr5⟩
    · go_wp2_with fail
      go_at_call 43; refine (rmust_any _ _ s p3 ok3 false HQ4.out.r).mono ?_
      rintro e w5 ⟨rfl, hr5, hf5⟩
      go_wp2_with fail
      go_meet
      case rel => exact ⟨rfl, _, rfl, by
        have e : decide (1 ≤ bk ∧ bk ≤ 64) = false := decide_eq_false (by omega)
        rw [e]
        exact HQ4.out.step hf5 hr5⟩
  case rest =>
  obtain ⟨rfl, ok4, hok4, hQ5⟩ := hcut
  clear HR1 HG1 HF1 HQ3 HQ4 HG0 HR0 HF0 hcb
  have hcb : IntKind.i64.wrap (bk : Int) = (bk : Int) := IntWalk.i64_in _ (by omega)
  have x0 := hQ5.x.cell (i := 0) rfl
  have xf := hQ5.x.free 0 (by simp)
  have HK4 := Lib.hid hok4
  have HQ6 := Lib.hid (hQ5.set 0 (.int .i64 bk) bk _ _ rfl)
  clear hok4 hQ5
  go_wp2_with fail
  clear x0 xf
  generalize wc.setCell ⟨xb, 0, none⟩ (.int .i64 bk) = w6 at *
  go_at_call 44; refine (rnum_any _ _ s p3 1 _ rfl ok4 HQ6.out.r hs (by omega)).mono ?_
  rintro e w7 ⟨n, p5, ok5, rfl, hr7, hf7, hnl, hn7⟩
  have hnl' : n < 256 := hnl
  have HN7 := Lib.hid hn7
  have HQ7 := Lib.hid (HQ6.out.step hf7 hr7)
  clear hr7 hf7 hnl hn7
  go_wp2_with fail
  go_at_call 43; refine (rmust_any _ _ s p5 ok5 (decide ((n : Int) ≤ 8)) HQ7.out.r).mono ?_
  rintro e w8 ⟨rfl, hr8, hf8⟩
  obtain ⟨ok6, hok6⟩ : ∃ b, (ok5 && decide ((n : Int) ≤ 8)) = b := ⟨_, rfl⟩
  rw [hok6] at hr8
  have HHD := Lib.hid (head_rel HN1.out HK2.out HN4.out rfl HK4.out HN7.out hok6)
  have HQ8 := Lib.hid (HQ7.out.step hf8 hr8)
  clear hok6 hr8 hf8 HN1 HK2 HN4 HK4 HN7 HQ6 HQ7
  obtain ⟨R1, hR1⟩ : ∃ R1, (if ok6 = true then entsF n [] (s.data.toList.drop p5) else none) = R1 := ⟨_, rfl⟩
  have hxl : xb < w8.heap.size := HQ8.out.x.lt
  have hgh0 : (ok6 = true ∧ R1 = entsF (n - 0) [] (s.data.toList.drop p5)) ∨ (ok6 = false ∧ R1 = none) := by
    rw [← hR1]
    cases ok6 with
    | true => exact .inl ⟨rfl, rfl⟩
    | false => exact .inr ⟨rfl, rfl⟩
  have HGH0 := Lib.hid hgh0
  have HR1' := Lib.hid hR1
  clear hR1 hgh0
  go_upto_block 0 with fail
  go_cut [9] from 20 (fun lv wx => ∃ (q : Nat) (okc : Bool) (E : List Ent) (bv : Value), lv = .string ⟨(lastName E).toArray⟩ ∧ QI w wx xb s bk bv (.slice none 0 0) q okc ∧ Vec wx (xb + 1) 61 3 bv E.length (entCells E) ∧ E.length ≤ 256 ∧ (okc = true → ok6 = true) ∧ ((okc = true ∧ R1 = some (E, s.data.toList.drop q)) ∨ (okc = false ∧ R1 = none)))
  case first =>
    go_wp2_with fail
    go_loopw [9, 10] (fun lv iv wr => ∃ (i q : Nat) (okc : Bool) (E : List Ent) (bv : Value), lv = .string ⟨(lastName E).toArray⟩ ∧ iv = .int .u64 i ∧ i ≤ n ∧ QI w wr xb s bk bv (.slice none 0 0) q okc ∧ Vec wr (xb + 1) 61 3 bv E.length (entCells E) ∧ E.length = i ∧ (okc = true → ok6 = true) ∧
      ((okc = true ∧ R1 = entsF (n - i) E (s.data.toList.drop q)) ∨ (okc = false ∧ R1 = none))) (fun _ iv _ => n - (intOf iv).toNat)
    case atStart => exact ⟨0, p5, ok6, [], _, rfl, rfl, Nat.zero_le _, HQ8.out, Vec.nil _ _ _ _, rfl, id, HGH0.out⟩
    case round =>
      obtain ⟨i, q, okc, E, bv, rfl, rfl, hi, hq, hv, hE, hok, hgh⟩ := hrel
      obtain ⟨ba, bc, hbv, -⟩ := hv.shape
      subst hbv
      have y2 := hq.r.own.cell (i := 2) rfl
      have HQ := Lib.hid hq
      have HV := Lib.hid hv
      have HGH := Lib.hid hgh
      have HE := Lib.hid hE
      have HOK := Lib.hid hok
      have hel : E.length ≤ 256 := by omega
      clear hq hv hgh hE hok
      by_cases hlt : i < n
      · cases okc with
        | false =>
          go_wp2_with fail
          go_meet
          case rel => exact ⟨q, false, E, _, rfl, HQ.out, HV.out, by omega, by simp, .inr ⟨rfl, by
            rcases HGH.out with ⟨h, _⟩ | ⟨_, h⟩
            · cases h
            · exact h⟩⟩
        | true =>
          have hfi : ((i : Int) == 0) = E.isEmpty := by
            have hE := HE.out
            cases E with
            | nil =>
              have : i = 0 := by simpa using hE.symm
              subst this; rfl
            | cons a l =>
              have : i ≠ 0 := by simp at hE; omega
              show _ = false
              rw [beq_eq_false_iff_ne]; omega
          have hen := rentry_any wr (w.heap.size + 1) s q true HQ.out.r hs ⟨(lastName E).toArray⟩ E.isEmpty
          rw [show (⟨(lastName E).toArray⟩ : ByteArray).data.toList = lastName E from by simp, if_pos rfl] at hen
          have HEN := Lib.hid hen
          have hui : IntKind.u64.wrap ((i : Int) + 1) = (i : Int) + 1 := by rw [show ∀ n : Int, IntKind.u64.wrap n = n % 18446744073709551616 from fun n => by simp [IntKind.wrap, IntKind.bits, IntKind.signed]]; omega
          clear hen
          go_wp2_with fail
          go_at_call 45; refine HEN.out.mono ?_
          rintro e w9 ⟨hf9, x, q', ok9, rfl, hx1, hx2, hx3, hr9, hm⟩
          have hsz9 := hf9.size
          have HM := Lib.hid hm
          have hQ9 := (HQ.out.step hf9 hr9).keep ((Fr.refl (fun _ => False) w9).alloc (.cells #[.string ⟨x.name.toArray⟩, .int .i64 x.size, .int .u64 x.dig] 61)) (fun _ h => h.elim)
          have hV9 := (HV.out.keep hf9 (fun b hb hs => by have := (HV.out.lt b hb).1; have := HQ.out.lo; omega)).keep ((Fr.refl (fun _ => False) w9).alloc (.cells #[.string ⟨x.name.toArray⟩, .int .i64 x.size, .int .u64 x.dig] 61)) (fun _ _ h => h)
          have hO9 := Own.alloc w9 #[.string ⟨x.name.toArray⟩, .int .i64 x.size, .int .u64 x.dig] 61
          have g0 := hO9.cell (i := 0) rfl
          have g1 := hO9.cell (i := 1) rfl
          have g2 := hO9.cell (i := 2) rfl
          have x1 := hQ9.x.cell (i := 1) rfl
          have hxl9 := hQ9.x.lt
          have HQ9 := Lib.hid hQ9
          have HV9 := Lib.hid hV9
          have HO9 := Lib.hid hO9
          clear hf9 hr9 hm hQ9 hV9 hO9
          have hz9 : wr.heap.size ≤ w9.heap.size := hsz9
          have hbw : ∀ b, (Value.slice ba E.length bc).ownBlock = some b → b < w9.heap.size := fun b hb => Nat.lt_of_lt_of_le (HV.out.lt b hb).2 hz9
          have HBW := Lib.hid hbw
          have hxe : ¬ xb = w9.heap.size := by have := HQ.out.x.lt; omega
          have hxe2 : ¬ w9.heap.size = xb := fun h => hxe h.symm
          clear hbw
          go_wp2_with (at_builtin; refine wpList_append_vec rfl (.tmp 66) (.tmp 68) _ rfl (xb + 1) 61 3 32 elt_ent (HV9.out.keep ((Fr.refl (fun _ => False) _).alloc _) (fun _ _ h => h)) rfl (m := 1) (Reads.new _ _ _ _ (by simp) _ _) rfl rfl (ent_one x) (by unfold maxLen; omega) (by omega) (by simp at hxl9 ⊢; omega) ?_; intro v10 w10 hv10 hf10 hd10 hn10; obtain ⟨a10, c10, hsh10, -⟩ := hv10.shape; subst hsh10; have HQ10 := Lib.hid ((HQ9.out.keep ((Fr.refl (fun _ => False) _).alloc _) (fun _ h => h.elim)).keep hf10 (fun k hk => by have := (HV9.out.lt k hk).1; omega)); have HO10 := Lib.hid ((HO9.out.keep ((Fr.refl (fun _ => False) _).alloc _) id).keep hf10 (fun hb => Nat.lt_irrefl _ (HBW.out _ hb))); have z1 := HQ10.out.x.cell (i := 1) rfl; have zf := HQ10.out.x.free 1 (by simp); have k0 := HO10.out.cell (i := 0) rfl; have HV10 := Lib.hid hv10; clear hv10 hf10 hd10 hn10)
          have hs11 : Fr (fun k => k = xb) w10 (w10.setCell ⟨xb, 1, none⟩ (.slice a10 (E.length + 1) c10)) := (Fr.refl _ _).setCell _ _ (fun _ => rfl)
          refine ⟨⟨i + 1, q', ok9, E ++ [x], .slice a10 (E.length + 1) c10, by rw [lastName_snoc], congrArg (Value.int .u64) (by omega), by omega, HQ10.out.set 1 _ _ _ _ rfl, by rw [List.length_append, entCells_snoc]; exact HV10.out.keep hs11 (fun b hb hs => by have := (HV10.out.lt b hb).1; omega), by simp [HE.out], fun _ => HOK.out trivial, ?_⟩, by simp [intOf]; omega⟩
          have hR : R1 = entsF (n - i) E (s.data.toList.drop q) := by
            rcases HGH.out with ⟨_, h⟩ | ⟨h, _⟩
            · exact h
            · cases h
          have hM := HM.out
          rw [hR, show n - i = (n - (i + 1)) + 1 by omega]
          have hst : entsF (n - (i + 1) + 1) E (s.data.toList.drop q) = (match entN (lastName E) E.isEmpty (s.data.toList.drop q) with | none => none | some (e, r) => entsF (n - (i + 1)) (E ++ [e]) r) := rfl
          rw [hst]
          cases hT : entN (lastName E) E.isEmpty (s.data.toList.drop q) with
          | none => rw [hT] at hM; exact .inr ⟨hM, rfl⟩
          | some y =>
            obtain ⟨y, r⟩ := y
            rw [hT] at hM
            obtain ⟨h1, rfl, rfl⟩ := hM
            exact .inl ⟨h1, rfl⟩
      · go_wp2_with fail
        go_meet
        case rel => exact ⟨q, okc, E, _, rfl, HQ.out, HV.out, by omega, HOK.out, by
          obtain rfl : i = n := by omega
          rcases HGH.out with ⟨h, e⟩ | ⟨h, e⟩
          · exact .inl ⟨h, by rw [e, Nat.sub_self]; rfl⟩
          · exact .inr ⟨h, e⟩⟩
  case rest =>
  obtain ⟨q, okc, E, bv, rfl, hq, hv, hel, hok, hgh⟩ := hcut
  rename_i w9
  have HQ := Lib.hid hq
  have HV := Lib.hid hv
  have HOK := Lib.hid hok
  have HGH := Lib.hid hgh
  clear hq hv hok hgh HQ8 HGH0
  go_wp2_with fail
  go_at_call 44; refine (rnum_any _ _ s q 1 _ rfl okc HQ.out.r hs (by omega)).mono ?_
  rintro e w9 ⟨m, p9, ok9, rfl, hr9, hf9, hml, hn9⟩
  have hml' : m < 256 := hml
  have HN9 := Lib.hid hn9
  have HQ9 := Lib.hid (HQ.out.step hf9 hr9)
  have HV9 := Lib.hid (HV.out.keep hf9 (fun b hb hs => by have := (HV.out.lt b hb).1; have := HQ.out.lo; omega))
  clear hr9 hf9 hml hn9
  go_wp2_with fail
  go_at_call 43; refine (rmust_any _ _ s p9 ok9 (decide ((m : Int) ≤ 8)) HQ9.out.r).mono ?_
  rintro e w10 ⟨rfl, hr10, hf10⟩
  obtain ⟨ok10, hok10⟩ : ∃ b, (ok9 && decide ((m : Int) ≤ 8)) = b := ⟨_, rfl⟩
  rw [hok10] at hr10
  have HTL := Lib.hid (tail_rel (bk := bk) (E := E) HN9.out hok10)
  have HQ10 := Lib.hid (HQ9.out.step hf10 hr10)
  have HV10 := Lib.hid (HV9.out.keep hf10 (fun b hb hs => by have := (HV9.out.lt b hb).1; have := HQ.out.lo; omega))
  clear hok10 hr10 hf10 HN9 HQ9 HV9 HQ HV
  -- what all comes to so far
  have HS1 : Hid ((ok10 = true ∧ 1 ≤ bk ∧ bk ≤ 64 ∧ (∀ e ∈ E, e.size ≤ 300) ∧ bodyN s.data.toList = (match targsF bk E m [] (s.data.toList.drop p9) with | none => none | some (ts, r) => some (⟨bk, E, ts⟩, r))) ∨ (ok10 = false ∧ bodyN s.data.toList = none)) := by
    show _ ∨ _
    rcases HTL.out with ⟨h1, h2, h3, h4⟩ | ⟨h1, h2⟩
    · left
      rcases HGH.out with ⟨-, g⟩ | ⟨g, -⟩
      · have h6 := HOK.out h2
        rcases HHD.out with ⟨-, k2, k3, -, k5⟩ | ⟨k1, -⟩
        · have hR := HR1'.out
          rw [if_pos h6, g] at hR
          refine ⟨h1, k2, k3, entsF_sizes _ _ _ _ _ hR (fun _ h => by simp at h), ?_⟩
          rw [k5, hR]; simp only; rw [h4]
        · rw [h6] at k1; cases k1
      · rw [h2] at g; cases g
    · right
      refine ⟨h1, ?_⟩
      rcases HHD.out with ⟨k1, k2, k3, -, k5⟩ | ⟨-, k1⟩
      · have hR := HR1'.out
        rw [if_pos k1] at hR
        rw [k5, hR]
        rcases HGH.out with ⟨g0, g⟩ | ⟨g0, g⟩
        · rw [g]; simp only; exact h2 g0
        · rw [g]
      · exact k1
  clear HTL HGH HOK HHD HR1'
  obtain ⟨R2, hR2⟩ : ∃ R2, (if ok10 = true then targsF bk E m [] (s.data.toList.drop p9) else none) = R2 := ⟨_, rfl⟩
  have hgh0 : (ok10 = true ∧ R2 = targsF bk E (m - 0) [] (s.data.toList.drop p9)) ∨ (ok10 = false ∧ R2 = none) := by
    rw [← hR2]
    cases ok10 with
    | true => exact .inl ⟨rfl, rfl⟩
    | false => exact .inr ⟨rfl, rfl⟩
  have HGH0 := Lib.hid hgh0
  have HR2' := Lib.hid hR2
  clear hR2 hgh0
  obtain ⟨ba, bc, hbv, -⟩ := HV10.out.shape
  subst hbv
  go_upto_block 2 with fail
  go_cut [4] from 20 (fun s4 wx => s4 = .pointer (some ⟨w.heap.size + 1, 0, none⟩) ∧ ∃ (q : Nat) (okc : Bool) (mt : List MT) (tv : Value), QI w wx xb s bk (.slice ba E.length bc) tv q okc ∧ Vec wx (xb + 1) 61 3 (.slice ba E.length bc) E.length (entCells E) ∧ Targs wx (xb + 1) tv mt ∧ ((okc = true ∧ R2 = some (mt.map (·.t), s.data.toList.drop q)) ∨ (okc = false ∧ R2 = none)))
  case first =>
    have hxl : xb < w10.heap.size := HQ10.out.x.lt
    have hbase : ok10 = true → 1 ≤ bk ∧ bk ≤ 64 ∧ ∀ e ∈ E, e.size ≤ 300 := fun h => by
      rcases HS1.out with ⟨-, h1, h2, h3, -⟩ | ⟨h1, -⟩
      · exact ⟨h1, h2, h3⟩
      · rw [h] at h1; cases h1
    have HBASE := Lib.hid hbase
    clear hbase
    go_wp2_with fail
    go_loopw [9, 12] (fun lv iv wr => ∃ (i q : Nat) (okc : Bool) (mt : List MT) (tv : Value), lv = .string ⟨(lastT E (mt.map (·.t))).toArray⟩ ∧ iv = .int .u64 i ∧ i ≤ m ∧ QI w wr xb s bk (.slice ba E.length bc) tv q okc ∧ Vec wr (xb + 1) 61 3 (.slice ba E.length bc) E.length (entCells E) ∧ Targs wr (xb + 1) tv mt ∧ mt.length = i ∧ (okc = true → ok10 = true) ∧
      ((okc = true ∧ R2 = targsF bk E (m - i) (mt.map (·.t)) (s.data.toList.drop q)) ∨ (okc = false ∧ R2 = none))) (fun _ iv _ => m - (intOf iv).toNat)
    case atStart => exact ⟨0, p9, ok10, [], _, rfl, rfl, Nat.zero_le _, HQ10.out, HV10.out, Targs.nil _ _, rfl, id, HGH0.out⟩
    case round =>
      obtain ⟨i, q, okc, mt, tv, rfl, rfl, hi, hq, hv, ht, hE, hok, hgh⟩ := hrel
      obtain ⟨ta, tc, htv, -⟩ := ht.vec.shape
      subst htv
      have y2 := hq.r.own.cell (i := 2) rfl
      have HQ := Lib.hid hq
      have HV := Lib.hid hv
      have HT := Lib.hid ht
      have HGH := Lib.hid hgh
      have HE := Lib.hid hE
      have HOK := Lib.hid hok
      have hml2 : mt.length ≤ 256 := by omega
      have hlo := hq.lo
      clear hq hv ht hgh hE hok
      by_cases hlt : i < m
      · cases okc with
        | false =>
          go_wp2_with fail
          go_meet
          case rel => exact ⟨rfl, q, false, mt, _, HQ.out, HV.out, HT.out, .inr ⟨rfl, by
            rcases HGH.out with ⟨h, _⟩ | ⟨_, h⟩
            · cases h
            · exact h⟩⟩
        | true =>
          have hb := HBASE.out (HOK.out rfl)
          have hb1 := hb.1
          have hb2 := hb.2.1
          have HB3 := Lib.hid hb.2.2
          clear hb
          have hfi : ((i : Int) == 0) = mt.isEmpty := by
            have hE := HE.out
            cases mt with
            | nil =>
              have : i = 0 := by simpa using hE.symm
              subst this; rfl
            | cons a l =>
              have : i ≠ 0 := by simp at hE; omega
              show _ = false
              rw [beq_eq_false_iff_ne]; omega
          have hen := rentry_any wr (w.heap.size + 1) s q true HQ.out.r hs ⟨(lastT E (mt.map (·.t))).toArray⟩ mt.isEmpty
          rw [show (⟨(lastT E (mt.map (·.t))).toArray⟩ : ByteArray).data.toList = lastT E (mt.map (·.t)) from by simp, if_pos rfl] at hen
          have HEN := Lib.hid hen
          have hui : IntKind.u64.wrap ((i : Int) + 1) = (i : Int) + 1 := by rw [show ∀ n : Int, IntKind.u64.wrap n = n % 18446744073709551616 from fun n => by simp [IntKind.wrap, IntKind.bits, IntKind.signed]]; omega
          clear hen
          go_wp2_with fail
          go_at_call 45; refine HEN.out.mono ?_
          rintro e w11 ⟨hf11, x, q', ok11, rfl, hx1, hx2, hx3, hr11, hm⟩
          have hsz11 := hf11.size
          have HM := Lib.hid hm
          have hA : Fr (fun _ => False) w11 (w11.alloc (.cells #[.string ⟨x.name.toArray⟩, .int .i64 x.size, .int .u64 x.dig] 61)) := (Fr.refl (fun _ => False) w11).alloc _
          have HQ11 := Lib.hid ((HQ.out.step hf11 hr11).keep hA (fun _ h => h.elim))
          have HV11 := Lib.hid ((HV.out.keep hf11 (fun b hb hs => by have := (HV.out.lt b hb).1; omega)).keep hA (fun _ _ h => h))
          have HT11 := Lib.hid ((HT.out.below hf11 (fun b hb => by omega)).below hA (fun _ h => h.elim))
          have hO11 := Own.alloc w11 #[.string ⟨x.name.toArray⟩, .int .i64 x.size, .int .u64 x.dig] 61
          have g0 := hO11.cell (i := 0) rfl
          have g1 := hO11.cell (i := 1) rfl
          have HO11 := Lib.hid hO11
          have hxl11 : xb < w11.heap.size := by have := HQ.out.x.lt; omega
          have x1 := HQ11.out.x.cell (i := 1) rfl
          clear hf11 hr11 hm hA hO11
          obtain ⟨eb, heb⟩ : ∃ eb, w11.heap.size = eb := ⟨_, rfl⟩
          have hebx : xb < eb := by omega
          rw [heb] at HO11 g0 g1
          go_wp2_with fail
          generalize w11.alloc (.cells #[.string ⟨x.name.toArray⟩, .int .i64 x.size, .int .u64 x.dig] 61) = w12 at *
          clear y2 g0 g1 x1 heb hsz11
          go_loopw [14, 15] (fun sv kv wi => ∃ k : Nat, k ≤ E.length ∧ sv = .int .i64 (sizeIn (E.take k) x.name) ∧ kv = .int .i64 k ∧ Fr (fun _ => False) w12 wi) (fun _ kv _ => E.length - (intOf kv).toNat)
          case atStart => exact ⟨0, Nat.zero_le _, rfl, rfl, Fr.refl _ _⟩
          case round =>
            rename_i wi _
            obtain ⟨k, hk, rfl, rfl, hfr⟩ := hrel
            have hQi := HQ11.out.keep hfr (fun _ h => h.elim)
            have x1 := hQi.x.cell (i := 1) rfl
            have g0 := (HO11.out.keep hfr id).cell (i := 0) rfl
            have HFR := Lib.hid hfr
            by_cases hlk : k < E.length
            · obtain ⟨gE, cE, rE, hqE, -, hoE, -⟩ := (HV11.out.keep hfr (fun _ _ h => h)).row (by omega)
              simp only [Value.slice.injEq, true_and] at hqE
              obtain ⟨rfl, rfl⟩ := hqE
              have hge := entCells_get E k hlk
              have e0 := hoE.cell (i := k * 3) (by rw [List.getElem?_append_left (by simp; omega)]; exact hge.1)
              have e1 := hoE.cell (i := k * 3 + 1) (by rw [List.getElem?_append_left (by simp; omega)]; exact hge.2.1)
              have hsu : sizeIn (E.take (k + 1)) x.name = if E[k].name = x.name then E[k].size else sizeIn (E.take k) x.name := by
                rw [List.take_succ_eq_append_getElem hlk, sizeIn_snoc]
              have HSU := Lib.hid hsu
              clear hoE hge hsu hQi hfr
              generalize E[k] = ek at *
              by_cases hnm : ek.name = x.name
              · have hne : (ek.name == x.name) = true := by simpa using hnm
                have HNM := Lib.hid hnm
                clear hnm
                go_wp2_with fail
                go_quiet (fail)
                go_wp2_with fail
                exact ⟨⟨k + 1, by omega, by rw [HSU.out, if_pos HNM.out], by go_num, HFR.out.drewN _⟩, by simp [intOf]; omega⟩
              · have hne : (ek.name == x.name) = false := by simpa using hnm
                have HNM := Lib.hid hnm
                clear hnm
                go_wp2_with fail
                go_quiet (fail)
                go_wp2_with fail
                exact ⟨⟨k + 1, by omega, by rw [HSU.out, if_neg HNM.out], by go_num, HFR.out.drewN _⟩, by simp [intOf]; omega⟩
            · obtain rfl : k = E.length := by omega
              rw [List.take_length]
              clear hQi hfr
              have HQ13 := Lib.hid (HQ11.out.keep HFR.out (fun _ h => h.elim))
              have HV13 := Lib.hid (HV11.out.keep HFR.out (fun _ _ h => h))
              have HT13 := Lib.hid (HT11.out.below HFR.out (fun _ h => h.elim))
              have HO13 := Lib.hid (HO11.out.keep HFR.out id)
              have x0 := HQ13.out.x.cell (i := 0) rfl
              have hsl := sizeIn_le E x.name HB3.out
              obtain ⟨SZ, hSZ⟩ : ∃ SZ, sizeIn E x.name = SZ := ⟨_, rfl⟩
              rw [hSZ] at hsl ⊢
              have HSZ := Lib.hid hSZ
              clear hSZ g0 HQ11 HV11 HT11 HO11
              go_wp2_with fail
              go_at_call 46; refine (rrtokens_any wr (w.heap.size + 1) s q' ok11 HQ13.out.r hs SZ bk hb1 hb2 hsl).mono ?_
              rintro e w14 ⟨hf14, lv, ll, all, q3, ok14, rfl, hot, hall, hr14, hm14⟩
              obtain ⟨la, lc, hlv, -⟩ := hot.vec.shape
              subst hlv
              have hz14 := hf14.size
              have HM14 := Lib.hid hm14
              have HOT := Lib.hid hot
              have HQ14 := Lib.hid (HQ13.out.step hf14 hr14)
              have HV14 := Lib.hid (HV13.out.keep hf14 (fun b hb hs => by have := (HV13.out.lt b hb).1; omega))
              have HO14 := Lib.hid (HO13.out.keep hf14 (by omega))
              have HF14 := Lib.hid hf14
              have g1 := HO14.out.cell (i := 1) rfl
              clear hf14 hr14 hm14 hot x0 x1
              go_wp2_with fail
              go_at_call 43; refine (rmust_any _ _ s q3 ok14 ((all : Int) == (x.size : Int)) HQ14.out.r).mono ?_
              rintro e w15 ⟨rfl, hr15, hf15⟩
              obtain ⟨ok15, hok15⟩ : ∃ b, (ok14 && ((all : Int) == (x.size : Int))) = b := ⟨_, rfl⟩
              rw [hok15] at hr15
              have HK15 := Lib.hid hok15
              have hz15 := hf15.size
              have HQ15 := Lib.hid (HQ14.out.step hf15 hr15)
              have HV15 := Lib.hid (HV14.out.keep hf15 (fun b hb hs => by have := (HV14.out.lt b hb).1; omega))
              have HO15 := Lib.hid (HO14.out.keep hf15 (by omega))
              have HOT15 := Lib.hid (HOT.out.below hf15 (fun b hb => by have := HQ13.out.lo; have := HQ13.out.x.lt; omega))
              have HF15 := Lib.hid ((HF14.out.mono (fun b hb _ => by have hb' : b < xb + 1 := by omega
                                                                     exact hb')).step hf15 (fun b hb hl => by omega) : Fr (fun b => b < xb + 1) wr w15)
              have hT15 := HT13.out.below HF15.out (fun b hb => hb)
              have HT15 := Lib.hid hT15
              have g0 := HO15.out.cell (i := 0) rfl
              have g1 := HO15.out.cell (i := 1) rfl
              have g2 := HO15.out.cell (i := 2) rfl
              have x2 := HQ15.out.x.cell (i := 2) rfl
              have hxr : xb < wr.heap.size := HQ13.out.x.lt
              clear hok15 hr15 hf15 hT15 HQ14 HV14 HO14 HOT HF14
              go_wp2_with (at_builtin; refine wpList_append_vec rfl (.tmp 134) (.tmp 138) _ rfl (xb + 1) 63 4 56 elt_targ (HT15.out.vec.keep ((Fr.refl (fun _ => False) _).alloc _) (fun _ _ h => h)) rfl (m := 1) (Reads.new _ _ _ _ (by simp) _ _) rfl rfl (targ_one ⟨⟨x, ll.map (·.1)⟩, .slice la ll.length lc, ll⟩ la _ lc rfl) (by unfold maxLen; omega) (by omega) (by simp; omega) ?_; intro v16 w16 hv16 hf16 hd16 hn16; obtain ⟨a16, c16, hsh16, -⟩ := hv16.shape; subst hsh16; have HQ16 := Lib.hid ((HQ15.out.keep ((Fr.refl (fun _ => False) _).alloc _) (fun _ h => h.elim)).keep hf16 (fun k hk => by have := (HT15.out.vec.lt k hk).1; omega)); have z1 := HQ16.out.x.cell (i := 2) rfl; have zf := HQ16.out.x.free 2 (by simp); have HV16 := Lib.hid hv16; have HF16 := Lib.hid hf16; clear hv16 hf16 hd16 hn16)
              have hA15 : Fr (fun _ => False) w15 (w15.alloc (.cells #[.string ⟨x.name.toArray⟩, .int .i64 x.size, .int .u64 x.dig, .slice la ll.length lc] 63)) := (Fr.refl (fun _ => False) w15).alloc _
              have hs17 : Fr (fun k => k = xb) w16 (w16.setCell ⟨xb, 2, none⟩ (.slice a16 (mt.length + 1) c16)) := (Fr.refl _ _).setCell _ _ (fun _ => rfl)
              have hsn := Targs.snoc (x := ⟨⟨x, ll.map (·.1)⟩, .slice la ll.length lc, ll⟩) HT13.out (HF15.out.step hA15 (fun _ h _ => h.elim)) (HOT15.out.keep0 hA15) rfl (by omega) HV16.out HF16.out
              have hvb := HV15.out.keep hA15 (fun _ _ h => h)
              have hta := HT15.out.vec.keep hA15 (fun _ _ h => h)
              have hvb2 := hvb.keep HF16.out (fun b hb => hvb.apartV hta (by decide) b hb)
              refine ⟨⟨i + 1, q3, ok15, mt ++ [⟨⟨x, ll.map (·.1)⟩, .slice la ll.length lc, ll⟩], .slice a16 (mt.length + 1) c16, by rw [List.map_append, List.map_singleton, lastT_snoc], congrArg (Value.int .u64) (by omega), by omega, HQ16.out.set 2 _ _ _ _ rfl, hvb2.keep hs17 (fun b hb hs => by have := (hvb2.lt b hb).1; omega), hsn.below hs17 (fun b hb => by omega), by simp [HE.out], fun _ => HOK.out trivial, ?_⟩, by simp [intOf]; omega⟩
              have hR : R2 = targsF bk E (m - i) (mt.map (·.t)) (s.data.toList.drop q) := by
                rcases HGH.out with ⟨_, h⟩ | ⟨h, _⟩
                · exact h
                · cases h
              have hM := HM.out
              have hM14 := HM14.out
              have hK := HK15.out
              have hstep : targsF bk E (m - i) (mt.map (·.t)) (s.data.toList.drop q) = (match entN (lastT E (mt.map (·.t))) mt.isEmpty (s.data.toList.drop q) with
                | none => none
                | some (e, r) => match tksN bk (sizeIn E e.name) e.size r with | none => none | some (l, r) => targsF bk E (m - (i + 1)) (mt.map (·.t) ++ [⟨e, l⟩]) r) := by
                rw [show m - i = (m - (i + 1)) + 1 by omega, show mt.isEmpty = (mt.map (·.t)).isEmpty by simp]; rfl
              rw [hR, hstep, List.map_append, List.map_singleton]
              cases hT : entN (lastT E (mt.map (·.t))) mt.isEmpty (s.data.toList.drop q) with
              | none =>
                rw [hT] at hM
                have hM : ok11 = false := hM
                subst hM
                have hM14 : ok14 = false := hM14
                subst hM14
                exact .inr ⟨by simpa using hK.symm, rfl⟩
              | some y =>
                obtain ⟨y, r⟩ := y
                rw [hT] at hM
                obtain ⟨h1, rfl, rfl⟩ := hM
                subst h1
                simp only
                rw [tks_rel, HSZ.out]
                cases hO : RTksO true s q' bk SZ with
                | none =>
                  rw [hO] at hM14
                  have hM14 : ok14 = false := hM14
                  subst hM14
                  exact .inr ⟨by simpa using hK.symm, rfl⟩
                | some z =>
                  obtain ⟨⟨l, k⟩, r⟩ := z
                  rw [hO] at hM14
                  obtain ⟨h1, rfl, rfl, rfl⟩ := hM14
                  subst h1
                  simp only
                  by_cases hal : all = x.size
                  · rw [if_pos hal]
                    left
                    refine ⟨?_, rfl⟩
                    rw [← hK]; simp [hal]
                  · rw [if_neg hal]
                    right
                    refine ⟨?_, rfl⟩
                    rw [← hK]; simp; omega
      · go_wp2_with fail
        go_meet
        case rel => exact ⟨rfl, q, okc, mt, _, HQ.out, HV.out, HT.out, by
          obtain rfl : i = m := by omega
          rcases HGH.out with ⟨h, e⟩ | ⟨h, e⟩
          · exact .inl ⟨h, by rw [e, Nat.sub_self]; rfl⟩
          · exact .inr ⟨h, e⟩⟩
  case rest =>
  obtain ⟨rfl, q2, okd, mt, tv, hq, hv, ht, hgh⟩ := hcut
  have HQ := Lib.hid hq
  have HV := Lib.hid hv
  have HT := Lib.hid ht
  have HGH := Lib.hid hgh
  clear hq hv ht hgh HQ10 HV10 HGH0
  have HBD : Hid ((okd = true ∧ bodyN s.data.toList = some (⟨bk, E, mt.map (·.t)⟩, s.data.toList.drop q2)) ∨ (okd = false ∧ bodyN s.data.toList = none)) := by
    show _ ∨ _
    have hR := HR2'.out
    rcases HS1.out with ⟨h1, -, -, -, h5⟩ | ⟨h1, h2⟩
    · rw [if_pos h1] at hR
      rw [h5, hR]
      rcases HGH.out with ⟨g0, g⟩ | ⟨g0, g⟩
      · exact .inl ⟨g0, by rw [g]⟩
      · exact .inr ⟨g0, by rw [g]⟩
    · rw [if_neg (by rw [h1]; decide)] at hR
      rcases HGH.out with ⟨g0, g⟩ | ⟨g0, g⟩
      · rw [← hR] at g; cases g
      · exact .inr ⟨g0, h2⟩
  clear HS1 HR2' HGH
  have g0 := HQ.out.g.cell (i := 0) rfl
  have g1 := HQ.out.g.cell (i := 1) rfl
  have g2 := HQ.out.g.cell (i := 2) rfl
  have f0 := HQ.out.g.free 0 (by simp)
  have f1 := HQ.out.g.free 1 (by simp)
  have f2 := HQ.out.g.free 2 (by simp)
  have y0 := HQ.out.r.own.cell (i := 0) rfl
  have y1 := HQ.out.r.own.cell (i := 1) rfl
  have y2 := HQ.out.r.own.cell (i := 2) rfl
  obtain ⟨ta, tc, htv, -⟩ := HT.out.vec.shape
  subst htv
  cases okd with
  | false =>
    have hnone : readOf s.data.toList = none := by
      rcases HBD.out with ⟨h, -⟩ | ⟨-, h⟩
      · cases h
      · exact readOf_noBody h
    have HNO := Lib.hid hnone
    clear hnone
    go_wp2_with fail
    exact rrd_none HQ.out HNO.out _ rfl rfl
  | true =>
    have hbody : bodyN s.data.toList = some (⟨bk, E, mt.map (·.t)⟩, s.data.toList.drop q2) := by
      rcases HBD.out with ⟨-, h⟩ | ⟨h, -⟩
      · exact h
      · cases h
    have HBO := Lib.hid hbody
    have hq2 := HQ.out.r.le
    clear hbody
    go_wp2_with fail
    go_at_call 23; refine (rdigest_any (s.extract 0 q2) wc (by unfold maxLen; simp; omega)).mono ?_
    rintro e w' ⟨rfl, rfl⟩
    rw [take_extract]
    obtain ⟨D, hD⟩ : ∃ D, dgOf (s.data.toList.take q2) = D := ⟨_, rfl⟩
    rw [hD]
    have HD := Lib.hid hD
    clear hD
    go_wp2_with fail
    go_at_call 44; refine (rnum_any _ _ s q2 8 _ rfl true HQ.out.r hs (by omega)).mono ?_
    rintro e w11 ⟨v, p', okv, rfl, hr11, hf11, hvl, hn11⟩
    have hp' := hr11.le
    have her := end_rel hq2 HBO.out hn11 hp'
    rw [HD.out] at her
    have HER := Lib.hid her
    have HQ11 := Lib.hid (HQ.out.step hf11 hr11)
    have hlo := HQ.out.lo
    have HV11 := Lib.hid (HV.out.keep hf11 (fun b hb hs => by have := (HV.out.lt b hb).1; omega))
    have HT11 := Lib.hid (HT.out.below hf11 (fun b hb => by omega))
    clear g0 g1 g2 f0 f1 f2 y0 y1 y2 her hn11 hr11 hf11 hvl
    have g0 := HQ11.out.g.cell (i := 0) rfl
    have g1 := HQ11.out.g.cell (i := 1) rfl
    have g2 := HQ11.out.g.cell (i := 2) rfl
    have f0 := HQ11.out.g.free 0 (by simp)
    have f1 := HQ11.out.g.free 1 (by simp)
    have f2 := HQ11.out.g.free 2 (by simp)
    have x0 := HQ11.out.x.cell (i := 0) rfl
    have x1 := HQ11.out.x.cell (i := 1) rfl
    have x2 := HQ11.out.x.cell (i := 2) rfl
    have y0 := HQ11.out.r.own.cell (i := 0) rfl
    have y1 := HQ11.out.r.own.cell (i := 1) rfl
    have y2 := HQ11.out.r.own.cell (i := 2) rfl
    cases okv with
    | false =>
      have hno : readOf s.data.toList = none := by rw [HER.out, if_neg (by simp)]
      have HNO := Lib.hid hno
      clear hno
      go_wp2_with fail
      exact rrd_none HQ11.out HNO.out _ rfl rfl
    | true =>
      by_cases hvD : (v : Int) = D
      · have hvn : ((v : Int) != D) = false := by simp [hvD]
        have HVD := Lib.hid hvD
        clear hvD
        by_cases hpS : p' = s.size
        · have hpn : ((p' : Int) != (s.size : Int)) = false := by simp [hpS]
          have HPS := Lib.hid hpS
          have hso : readOf s.data.toList = some ⟨bk, E, mt.map (·.t)⟩ := by rw [HER.out, if_pos ⟨rfl, HVD.out, HPS.out⟩]
          have HSO := Lib.hid hso
          clear hso hpS
          go_wp2_with fail
          exact rrd_some HQ11.out HV11.out HT11.out HSO.out _ rfl rfl
        · have hpn : ((p' : Int) != (s.size : Int)) = true := by simp; omega
          have hno : readOf s.data.toList = none := by rw [HER.out, if_neg (fun h => hpS h.2.2)]
          have HNO := Lib.hid hno
          clear hno hpS
          go_wp2_with fail
          exact rrd_none HQ11.out HNO.out _ rfl rfl
      · have hvn : ((v : Int) != D) = true := by simpa using hvD
        have hno : readOf s.data.toList = none := by rw [HER.out, if_neg (fun h => hvD h.2.1)]
        have HNO := Lib.hid hno
        clear hno hvD
        go_wp2_with fail
        exact rrd_none HQ11.out HNO.out _ rfl rfl
end Go.Proofs.YtlcdgbhigfgehaaDoor
