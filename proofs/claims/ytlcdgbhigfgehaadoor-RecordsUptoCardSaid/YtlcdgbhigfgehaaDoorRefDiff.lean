/- The walk of the document's Diff. -/
import Derived.Test.YtlcdgbhigfgehaaDoorDiff
import Derived.Test.YtlcdgbhigfgehaaDoorCheck
namespace Go.Proofs.YtlcdgbhigfgehaaDoor
open Go.RowKit
set_option maxRecDepth 100000

/-- The first of bs that is t. -/
def placeI (bs : List (List UInt8)) (t : List UInt8) : Option Nat := (List.range bs.length).find? fun i => bs.getD i [] == t
theorem placeI_blocks (base : List UInt8) (blk : Nat) (rest : List UInt8) (h : blk ≤ rest.length) : placeI (blocksOf base blk) (rest.take blk) = placeOf base blk rest := by
  unfold placeI placeOf
  rw [if_neg (by omega), length_blocksOf]
  have : ∀ (l : List Nat), (∀ i ∈ l, i < nBlocks base.length blk) → l.find? (fun i => (blocksOf base blk).getD i [] == rest.take blk) = l.find? (fun i => (base.drop (i * blk)).take blk == rest.take blk) := by
    intro l
    induction l with
    | nil => intro _; rfl
    | cons i l ih =>
      intro hl
      have hi := hl i (by simp)
      have e : (blocksOf base blk).getD i [] = (base.drop (i * blk)).take blk := by
        rw [List.getD_eq_getElem?_getD, List.getElem?_eq_getElem (by rw [length_blocksOf]; exact hi)]
        exact blocksOf_get _ _ _ hi
      rw [List.find?_cons, List.find?_cons, e, ih (fun j hj => hl j (by simp [hj]))]
  exact this _ (fun i hi => by simpa using hi)
def placeInt (o : Option Nat) : Int := match o with | some k => k | none => -1

set_option maxHeartbeats 1000000 in
theorem place_any (v : Value) (bs : List (List UInt8)) (B : Nat) (s : ByteArray) (w : World) (hv : Vec w B 9 1 v bs.length (bs.map fun l => .string ⟨l.toArray⟩)) (hn : bs.length ≤ 100000) :
    Calls Tryd.prog 48 #[v, .string s] w fun e w' => e = .returned (.int .i64 (placeInt (placeI bs s.data.toList))) ∧ w = w' := by
  obtain ⟨a, c, rfl, -⟩ := hv.shape
  have HV := Lib.hid hv
  generalize hN : bs.length = N at *
  have HN := Lib.hid hN
  clear hv hN
  go_enter Tryd.func48, Tryd.ntmps48
  go_wp2_with fail
  go_loop [5] (fun i => ∃ k : Nat, k ≤ N ∧ i = .int .i64 k ∧ ∀ j, j < k → (bs.getD j [] == s.data.toList) = false) (fun i => N - (intOf i).toNat)
  case atStart => exact ⟨0, Nat.zero_le _, rfl, fun j h => by omega⟩
  case round =>
    obtain ⟨k, hk, rfl, hno⟩ := hrel
    have HNO := Lib.hid hno
    clear hno
    by_cases hlt : k < N
    · obtain ⟨g, cap, rest, hq, -, ho, -⟩ := HV.out.row (by omega)
      simp only [Value.slice.injEq, true_and] at hq
      obtain ⟨rfl, rfl⟩ := hq
      have hkl : k < bs.length := by rw [HN.out]; exact hlt
      have y0 := ho.cell (i := k) (v := .string ⟨(bs.getD k []).toArray⟩) (by rw [List.getElem?_append_left (by simpa using hkl), List.getElem?_map, List.getElem?_eq_getElem hkl, List.getD_eq_getElem?_getD, List.getElem?_eq_getElem hkl]; rfl)
      clear ho
      have HG : Hid (∀ x, bs.getD k [] = x → (x == s.data.toList) = true → placeI bs s.data.toList = some k) := fun x hx he => by
        unfold placeI
        rw [List.find?_range_eq_some]
        exact ⟨by rw [hx]; exact he, by simpa using hkl, fun j hj => by simpa using HNO.out j hj⟩
      have HG2 : Hid (∀ x, bs.getD k [] = x → (x == s.data.toList) = false → ∀ j, j < k + 1 → (bs.getD j [] == s.data.toList) = false) := fun x hx he j hj => by
        by_cases hjk : j = k
        · subst hjk; rw [hx]; exact he
        · exact HNO.out j (by omega)
      generalize hx : bs.getD k [] = x at *
      have hsl : s.toList = s.data.toList := ByteArray.toList_eq s
      cases he : (x == s.data.toList) with
      | true =>
        have hd : (x == s.toList) = true := by rw [hsl]; exact he
        have HR := Lib.hid (HG.out x rfl he)
        clear he hsl
        go_wp2_with fail
        go_ret
        exact ⟨by rw [HR.out]; rfl, rfl⟩
      | false =>
        have hd : (x == s.toList) = false := by rw [hsl]; exact he
        have HR := Lib.hid (HG2.out x rfl he)
        clear he hsl
        go_wp2_with fail
        exact ⟨⟨k + 1, by omega, by go_num, HR.out⟩, by simp [intOf]; omega⟩
    · obtain rfl : k = N := by omega
      have hr : placeI bs s.data.toList = none := by
        unfold placeI
        rw [List.find?_range_eq_none]
        intro j hj
        simpa using HNO.out j (by rw [← HN.out]; simpa using hj)
      have HR := Lib.hid hr
      clear hr
      go_wp2_with fail
      go_ret
      exact ⟨by rw [HR.out]; rfl, rfl⟩
theorem set_data (l0 : List (Tok × Value)) (t : Tok) (tv tv' : Value) (rest : List Value) (m : Nat) (hm : l0.length = m) (d : List UInt8) :
    (tokCells (l0 ++ [(t, tv)]) ++ rest).set (m * 3 + 2) tv' = tokCells (l0 ++ [(⟨t.b, t.c, d⟩, tv')]) ++ rest := by
  subst hm
  rw [tokCells_append, tokCells_append, List.append_assoc, List.append_assoc, List.set_append, if_neg (by simp)]
  simp [tokCells]
/-- The last token's data is another row now. -/
theorem OToks.grow {w w1 : World} {B : Nat} {g m cap : Nat} {l0 : List (Tok × Value)} {t : Tok} {tv tv' : Value} {d : List UInt8} (h : OToks w B (.slice (some ⟨g, 0, none⟩) (m + 1) cap) (l0 ++ [(t, tv)])) (hm : l0.length = m)
    (hk : Fr (fun k => tv.ownBlock = some k) w w1) (hd : Vec w1 B 5 1 tv' d.length (bcells d)) (hloc : tv'.ownBlock = tv.ownBlock ∨ ∃ k, tv'.ownBlock = some k ∧ w.heap.size ≤ k) :
    OToks (w1.setCell ⟨g, m * 3 + 2, none⟩ tv') B (.slice (some ⟨g, 0, none⟩) (m + 1) cap) (l0 ++ [(⟨t.b, t.c, d⟩, tv')]) := by
  have hs : Fr (fun k => k = g) w1 (w1.setCell ⟨g, m * 3 + 2, none⟩ tv') := (Fr.refl _ _).setCell _ _ (fun _ => rfl)
  have hvec := h.vec
  obtain ⟨g', cap', rest, hq, h1, h2, h3, h4, h5⟩ := hvec.row (by simp)
  simp only [Value.slice.injEq, Option.some.injEq, Addr.mk.injEq, and_true, true_and] at hq
  obtain ⟨rfl, hlen, rfl⟩ := hq
  have hgt : tv.ownBlock ≠ some g := (h.data (t, tv) (by simp)).apartT h2 (by decide)
  have h2' := h2.keep hk hgt
  have htwo := h.two
  rw [List.pairwise_append] at htwo
  refine ⟨⟨by simp, .inr ⟨g, cap, rest, by simp [hm], h1, ?_, ?_, by simpa using h4, h5⟩⟩, ?_, ?_⟩
  · have := h2'.set (m * 3 + 2) tv'
    rwa [set_data l0 t tv tv' rest m hm d] at this
  · simpa using h3
  · intro p hp
    rcases List.mem_append.1 hp with hp | hp
    · have hpd := h.data p (List.mem_append.2 (.inl hp))
      exact (hpd.keep hk (fun b hb hbt => htwo.2.2 p hp (t, tv) (by simp) b hb hbt)).keep hs (fun b hb hbg => by subst hbg; exact hpd.apartT h2 (by decide) hb)
    · simp at hp; subst hp
      exact hd.keep hs (fun b hb hbg => by subst hbg; exact hd.apartT h2' (by decide) hb)
  · rw [List.pairwise_append]
    refine ⟨htwo.1, List.pairwise_singleton _ _, fun a ha b hb k hk' hk2 => ?_⟩
    simp at hb; subst hb
    simp only at hk2
    rcases hloc with h6 | ⟨k', h6, h7⟩
    · exact htwo.2.2 a ha (t, tv) (by simp) k hk' (h6 ▸ hk2)
    · rw [h6] at hk2
      cases hk2
      have := ((h.data a (List.mem_append.2 (.inl ha))).lt k hk').2
      omega
theorem addByte_snoc (L : List Tok) (t : Tok) (c : UInt8) : addByte (L ++ [t]) c = if t.c = 0 ∧ t.d.length < 255 then L ++ [⟨t.b, t.c, t.d ++ [c]⟩] else L ++ [t] ++ [⟨0, 0, [c]⟩] := by
  unfold addByte
  simp
theorem addByte_b (n : Int) (hn : 0 ≤ n) (L : List Tok) (c : UInt8) (h : ∀ t ∈ L, t.b ≤ n) : ∀ t ∈ addByte L c, t.b ≤ n := by
  intro t ht
  unfold addByte at ht
  split at ht
  · rename_i t0 h0
    have hm : t0 ∈ L := List.mem_of_getLast? h0
    split at ht
    · rcases List.mem_append.1 ht with ht | ht
      · exact h t (mem_dropLast ht)
      · simp at ht; subst ht; exact h t0 hm
    · rcases List.mem_append.1 ht with ht | ht
      · exact h t ht
      · simp at ht; subst ht; exact hn
  · simp at ht; subst ht; exact hn
theorem addByte_len (L : List Tok) (c : UInt8) : (addByte L c).length ≤ L.length + 1 := by
  unfold addByte
  split
  · split
    · simp
      try omega
    · simp
  · simp
/-- Between two rounds of the document's Diff: r is what is left. -/
structure RI (w wr : World) (v : Value) (base data : List UInt8) (blk : Nat) (L : List Tok) (r : List UInt8) : Prop where
  mem : ∃ l, OToks wr w.heap.size v l ∧ l.map (·.1) = L
  at_ : diffOf base data blk = diffF base blk L r
  shaped : ∀ t ∈ L, Shaped t ∧ t.b ≤ 300
  len : L.length + r.length ≤ 300
  fr : Fr (fun _ => False) w wr
theorem RI.byte {w wr w1 : World} {v v' : Value} {base data : List UInt8} {blk : Nat} {L : List Tok} {c : UInt8} {r : List UInt8} (h : RI w wr v base data blk L (c :: r)) (hp : placeOf base blk (c :: r) = none)
    (hm : ∃ l, OToks w1 w.heap.size v' l ∧ l.map (·.1) = addByte L c) (hf : Fr (fun _ => False) w w1) : RI w w1 v' base data blk (addByte L c) r := by
  refine ⟨hm, ?_, fun t ht => ⟨addByte_shaped L c (fun t ht => (h.shaped t ht).1) t ht, addByte_b 300 (by omega) L c (fun t ht => (h.shaped t ht).2) t ht⟩, ?_, hf⟩
  · rw [h.at_, diffF_cons, hp]
  · have := h.len
    have := addByte_len L c
    simp at *
    omega
theorem RI.block {w wr w1 : World} {v v' : Value} {base data : List UInt8} {blk k : Nat} {L : List Tok} {r : List UInt8} (h : RI w wr v base data blk L r) (hb : 0 < blk) (hr : 0 < r.length) (hl : base.length ≤ 300) (hp : placeOf base blk r = some k)
    (hm : ∃ l, OToks w1 w.heap.size v' l ∧ l.map (·.1) = addBlock L k) (hf : Fr (fun _ => False) w w1) : RI w w1 v' base data blk (addBlock L k) (r.drop blk) := by
  have hk := (placeOf_some base blk hb _ k hp).2.1
  have hbl := (placeOf_some base blk hb _ k hp).1
  have hk3 : k ≤ 300 := by
    have : (k + 1) * 1 ≤ (k + 1) * blk := Nat.mul_le_mul_left _ hb
    omega
  refine ⟨hm, ?_, fun t ht => ⟨addBlock_shaped L k (fun t ht => (h.shaped t ht).1) t ht, addBlock_b 300 L k (by omega) (fun t ht => (h.shaped t ht).2) t ht⟩, ?_, hf⟩
  · have := diffF_some base blk hb L r 0 k hr (by simpa using hp)
    rw [h.at_]
    simpa using this
  · have := h.len
    have := addBlock_len L k
    simp
    omega

set_option maxHeartbeats 8000000 in
theorem rdiff_any (s t : ByteArray) (blk : Nat) (w : World) (hs0 : sized blk s.size = 0) (hs1 : sized blk t.size = 0) :
    Calls Tryd.prog 28 #[.string s, .string t, .int .i64 blk] w fun e w' => ∃ v l, e = .returned v ∧ OToks w' w.heap.size v l ∧ l.map (·.1) = diffOf s.data.toList t.data.toList blk ∧ Fr (fun _ => False) w w' := by
  have hblk : 1 ≤ blk ∧ blk ≤ 64 ∧ s.size ≤ 300 := by
    unfold sized at hs0
    split at hs0
    · omega
    · split at hs0 <;> omega
  have hdl : t.size ≤ 300 := by
    unfold sized at hs1
    split at hs1
    · omega
    · split at hs1 <;> omega
  clear hs0 hs1
  have hsl : s.data.toList.length = s.size := by simp
  have HSL := Lib.hid hsl
  have hNL : (blocksOf s.data.toList blk).length = nBlocks s.size blk := by rw [length_blocksOf, hsl]
  have HNL := Lib.hid hNL
  clear hsl hNL
  go_enter Tryd.func28, Tryd.ntmps28
  go_wp2_with fail
  refine (blocks_any s blk blk _ rfl (by omega) (by omega) (by omega)).mono ?_
  rintro e w2 ⟨bv, rfl, hbv, hf2⟩
  rw [← HNL.out] at hbv
  have hNle : (blocksOf s.data.toList blk).length ≤ 300 := by rw [HNL.out]; have := (nBlocks_mul s.size blk (by omega)).2.2; omega
  have HBV := Lib.hid hbv
  have HF2 := Lib.hid hf2
  have hst : RI w2 w2 (.slice none 0 0) s.data.toList t.data.toList blk [] t.data.toList := ⟨⟨[], OToks.nil _ _, rfl⟩, rfl, fun _ h => by simp at h, by simpa using hdl, Fr.refl _ _⟩
  have HST := Lib.hid hst
  clear hbv hf2 hst
  go_wp2_with fail
  go_loopw [1, 8] (fun x v wr => ∃ (r : ByteArray) (L : List Tok), x = .string r ∧ RI w2 wr v s.data.toList t.data.toList blk L r.data.toList) (fun x _ _ => match x with | .string r => r.size | _ => 0)
  case atStart => exact ⟨t, [], rfl, HST.out⟩
  case round =>
    obtain ⟨r, L, rfl, hri⟩ := hrel
    have HRI := Lib.hid hri
    obtain ⟨l, hot, hL⟩ := hri.mem
    have hsh := hri.shaped
    have hlen := hri.len
    have hwz := hri.fr.size
    have hrl : r.data.toList.length = r.size := by simp
    rw [hrl] at hlen
    have HRL := Lib.hid hrl
    clear hri hrl
    obtain ⟨la, lc, hlv, -⟩ := hot.vec.shape
    subst hlv
    have hLl : L.length = l.length := by rw [← hL]; simp
    rw [hLl] at hlen
    have HLE := Lib.hid hL
    have HSH := Lib.hid hsh
    clear hsh hLl
    have HOT := Lib.hid hot
    by_cases h0 : r.size = 0
    · have h0' : ¬ 0 < r.size := by omega
      have hd : L = diffOf s.data.toList t.data.toList blk := by
        rw [HRI.out.at_, show r.data.toList = [] from List.length_eq_zero_iff.1 (by rw [HRL.out]; exact h0), diffF_nil]
      have HD := Lib.hid hd
      clear hd hot hL
      go_wp2_with fail
      go_ret
      exact ⟨_, l, rfl, HOT.out.lift HF2.out.size, by rw [HLE.out, HD.out], HF2.out.step HRI.out.fr (fun _ h _ => h)⟩
    · have h0' : 0 < r.size := by omega
      have hhd : ∃ c rr, r.data.toList = c :: rr := by
        cases hr : r.data.toList with
        | nil => have := HRL.out; rw [hr] at this; simp at this; omega
        | cons c rr => exact ⟨c, rr, rfl⟩
      obtain ⟨c, rr, hcr⟩ := hhd
      have hc0 : r[0] = c := by
        have : r.data.toList[0]'(by rw [HRL.out]; exact h0') = c := by simp [hcr]
        exact this
      have hrr : (r.extract 1 r.size).data.toList = rr := by
        have : (r.extract 1 r.size).data.toList = r.data.toList.drop 1 := by simp; rw [List.take_of_length_le (by simp)]
        rw [this, hcr]; rfl
      have hrz : (r.extract 1 r.size).size = r.size - 1 := by simp
      have hrb : (r.extract blk r.size).data.toList = r.data.toList.drop blk := by simp; rw [List.take_of_length_le (by simp)]
      have HRB := Lib.hid hrb
      have HRR := Lib.hid hrr
      have HCR := Lib.hid hcr
      have hc255 := c.toNat_lt
      have push : ∀ (w1 : World) (v4 dv : Value) (tk : Tok), Vec w1 w2.heap.size 30 3 v4 (l.length + 1) (tokCells l ++ [.int .i64 tk.b, .int .i64 tk.c, dv]) → Fr (fun k => (Value.slice la l.length lc).ownBlock = some k) wr w1 →
          Vec w1 w2.heap.size 5 1 dv tk.d.length (bcells tk.d) → (∀ k, dv.ownBlock = some k → wr.heap.size ≤ k) → (∃ l', OToks w1 w2.heap.size v4 l' ∧ l'.map (·.1) = L ++ [tk]) ∧ Fr (fun _ => False) w2 w1 := by
        intro w1 v4 dv tk h1 h2 h3 h4
        refine ⟨⟨l ++ [(tk, dv)], hot.snoc h1 h2 h3 (fun p hp k hk hk2 => ?_), by rw [← hL]; simp⟩, HRI.out.fr.step h2 (fun k hk hlt => ?_)⟩
        · have h5 := (hot.lt p hp k hk).2
          have h6 := h4 k hk2
          omega
        · have h5 := (hot.vec.lt k hk).1
          omega
      have PUSH := Lib.hid push
      have endB : ∀ (w1 : World) (v' : Value), placeOf s.data.toList blk (c :: rr) = none → (∃ l', OToks w1 w2.heap.size v' l' ∧ l'.map (·.1) = addByte L c) → Fr (fun _ => False) w2 w1 → RI w2 w1 v' s.data.toList t.data.toList blk (addByte L c) rr := by
        intro w1 v' hp hm hf
        have := HRI.out
        rw [HCR.out] at this
        exact this.byte hp hm hf
      have ENDB := Lib.hid endB
      have endK : ∀ (w1 : World) (v' : Value) (k : Nat), placeOf s.data.toList blk (c :: rr) = some k → (∃ l', OToks w1 w2.heap.size v' l' ∧ l'.map (·.1) = addBlock L k) → Fr (fun _ => False) w2 w1 → RI w2 w1 v' s.data.toList t.data.toList blk (addBlock L k) (r.extract blk r.size).data.toList := by
        intro w1 v' k hp hm hf
        rw [HRB.out]
        exact HRI.out.block (by omega) (by rw [HRL.out]; exact h0') (by rw [HSL.out]; omega) (by rw [HCR.out]; exact hp) hm hf
      have ENDK := Lib.hid endK
      have hone : ∀ (w1 : World) (W : World), W.heap.size = wr.heap.size → Fr (fun k => (Value.slice la l.length lc).ownBlock = some k) ((W.alloc (.cells #[.int .u8 c.toNat] 5)).alloc (.cells #[.int .i64 0, .int .i64 0, .slice (some ⟨wr.heap.size, 0, none⟩) 1 1] 30)) w1 →
          Vec w1 w2.heap.size 5 1 (.slice (some ⟨wr.heap.size, 0, none⟩) 1 1) 1 (bcells [c]) := by
        intro w1 W hW h1
        have o : Own (W.alloc (.cells #[.int .u8 c.toNat] 5)) W.heap.size 5 [.int .u8 c.toNat] := Own.alloc _ _ _
        have o2 := (o.keep ((Fr.refl (fun _ => False) _).alloc _) id).keep h1 (fun hk => by
          have h5 := (hot.vec.lt _ hk).2
          omega)
        rw [hW] at o2
        exact ⟨rfl, .inr ⟨wr.heap.size, 1, [], rfl, hwz, o2, rfl, Nat.le_refl _, by unfold maxLen; omega⟩⟩
      have HONE := Lib.hid hone
      clear hone endB endK push hcr hrr hrb hL
      by_cases hge : blk ≤ r.size
      · have hge' : (blk : Int) ≤ (r.size : Int) := by omega
        have hpi : placeInt (placeI (blocksOf s.data.toList blk) (r.extract 0 blk).data.toList) = placeInt (placeOf s.data.toList blk (c :: rr)) := by
          rw [show (r.extract 0 blk).data.toList = r.data.toList.take blk from by simp, placeI_blocks _ _ _ (by rw [HRL.out]; exact hge), HCR.out]
        have hpa := place_any bv (blocksOf s.data.toList blk) w.heap.size (r.extract 0 blk) wr (HBV.out.keep HRI.out.fr (fun _ _ h => h)) (by omega)
        rw [hpi] at hpa
        cases hpl : placeOf s.data.toList blk (c :: rr) with
        | none =>
          rw [hpl] at hpa
          simp only [placeInt] at hpa
          have HPL := Lib.hid hpl
          have CALL := Lib.hid hpa
          clear hpl hpi hpa
          rcases List.eq_nil_or_concat l with rfl | ⟨l0, ⟨tk, tv⟩, rfl⟩
          · have hvec := hot.vec
            have HVE := Lib.hid hvec
            have hL0 : L = [] := by rw [← HLE.out]; rfl
            have HADD : Hid (L ++ [⟨0, 0, [c]⟩] = addByte L c) := Lib.hid (by rw [hL0]; rfl)
            clear hvec hot hL0
            simp only [List.length_nil] at HVE HRI HOT HLE PUSH HONE ⊢
            go_wp2_with (first | (go_at_call 48; refine CALL.out.mono ?_; rintro e w9 ⟨rfl, rfl⟩) | (at_builtin; refine wpList_append_vec rfl (.tmp 66) (.tmp 71) _ rfl w2.heap.size 30 3 40 elt_tok (HVE.out.keep (((Fr.refl (fun _ => False) _).alloc _).alloc _) (fun _ _ h => h)) rfl (m := 1) (Reads.new _ _ _ _ (by simp) _ _) rfl rfl (tok_one _ _ _ _ _) (by unfold maxLen; omega) (by omega) (by simp; omega) ?_; intro v4 w4 hv4 hf4 hd4 hn4; obtain ⟨a4, c4, hsh4, -⟩ := hv4.shape; subst hsh4; have HV4 := Lib.hid hv4; have HF4 := Lib.hid hf4; clear hv4 hf4 hd4 hn4))
            obtain ⟨q1, q2⟩ := PUSH.out w4 (.slice a4 _ c4) (.slice (some ⟨wr.heap.size, 0, none⟩) 1 1) ⟨0, 0, [c]⟩ HV4.out (((((Fr.refl (fun _ => False) wr).alloc _).alloc _).mono (fun _ h _ => h.elim)).step HF4.out (fun k hk _ => hk)) (HONE.out w4 wr rfl HF4.out) (fun k hk => by simp [Value.ownBlock] at hk; omega)
            exact ⟨⟨r.extract 1 r.size, addByte L c, rfl, by rw [HRR.out]; exact ENDB.out _ _ HPL.out (HADD.out ▸ q1) q2⟩, by show (r.extract 1 r.size).size < r.size; omega⟩
          · rw [List.concat_eq_append] at *
            obtain ⟨m, hm⟩ : ∃ m, l0.length = m := ⟨_, rfl⟩
            have HM := Lib.hid hm
            have hlen2 : (l0 ++ [(tk, tv)]).length = m + 1 := by simp [hm]
            have hLT : L = l0.map (·.1) ++ [tk] := by rw [← HLE.out]; simp
            have HLT := Lib.hid hLT
            obtain ⟨g, cap, rest, hq, hg1, hg2, -, -, -⟩ := hot.vec.row (by simp)
            simp only [Value.slice.injEq, true_and] at hq
            obtain ⟨rfl, rfl⟩ := hq
            have hcl : ∀ i v, (tokCells [(tk, tv)])[i]? = some v → (tokCells (l0 ++ [(tk, tv)]) ++ rest)[m * 3 + i]? = some v := by
              intro i v hi
              rw [tokCells_append, List.append_assoc, List.getElem?_append_right (by simp; omega), List.getElem?_append_left (by have := (List.getElem?_eq_some_iff.1 hi).1; simp [hm] at this ⊢; omega)]
              simpa [hm] using hi
            have hcell := fun i v hi => hg2.cell (hcl i v hi)
            have hc2 := hcl 2 tv rfl
            have HC2 := Lib.hid hc2
            have y0 := hcell 0 _ rfl
            rw [Nat.add_zero] at y0
            have y1 := hcell 1 _ rfl
            have y2 := hcell 2 _ rfl
            have yf1 := hg2.free (m * 3 + 1) (by simp [hm]; omega)
            have yf2 := hg2.free (m * 3 + 2) (by simp [hm]; omega)
            have hvec := hot.vec
            have HVE := Lib.hid hvec
            have HG2 := Lib.hid hg2
            rw [hlen2] at hlen HVE HOT HRI PUSH HONE ⊢
            have hll : m + 1 ≤ 300 := by omega
            clear hcell hcl hc2 hg2 hvec hot hLT hm hlen2
            have hAB := addByte_snoc (l0.map (·.1)) tk c
            rw [← HLT.out] at hAB
            have hdm : tk.c = 0 → tk.d.length ≤ 255 := fun h => by
              rcases (HSH.out tk (by rw [HLT.out]; simp)).1 with h2 | h2 <;> omega
            have hDV := HOT.out.data (tk, tv) (by simp)
            obtain ⟨da, dc, hdv, hdcl, hdcm⟩ := hDV.shape
            simp only at hdv
            subst hdv
            have HDV := Lib.hid hDV
            obtain ⟨tb, tc, td⟩ := tk
            simp only at hAB hdm y1 y2 HDV hdcl hdcm
            clear hDV
            by_cases hc : tc = 0
            · by_cases hd : td.length < 255
              · have hc1 : (tc == (0 : Int)) = true := by simpa using hc
                have hd1 : (td.length : Int) < 255 := by omega
                have hadd : addByte L c = l0.map (·.1) ++ [⟨tb, tc, td ++ [c]⟩] := by rw [hAB, if_pos ⟨hc, hd⟩]
                have HADD := Lib.hid hadd
                clear hAB hadd hdm
                go_wp2_with (first | (go_at_call 48; refine CALL.out.mono ?_; rintro e w9 ⟨rfl, rfl⟩) | fail)
                have i1 : (0 : Int) ≤ (m : Int) := by omega
                have i2 : (m : Int) < (m : Int) + 1 := by omega
                have i4 : (m : Int) ≤ 300 := by omega
                have i5 : (m : Int) + 1 ≤ 300 := by omega
                have i6 : IntKind.i64.wrap ((m : Int) + 1 - 1) = (m : Int) := by rw [IntWalk.i64_in _ (by omega)]; omega
                have i7 : IntKind.i64.wrap (m : Int) = (m : Int) := IntWalk.i64_in _ (by omega)
                have i3 : (0 : Int) < (r.size : Int) := by omega
                have e2 := (HG2.out.keep ((Fr.refl (fun _ => False) wr).alloc (.cells #[.int .u8 c.toNat] 5)).drew id).cell HC2.out
                go_region_law
                  (first | (rw [if_pos (by rfl)]; refine wp_append_vec (.tmp 59) (.tmp 62) 25 rfl w2.heap.size 5 1 1 elt_u8 (v := .slice da td.length dc) (n := td.length) (xs := bcells td) (HDV.out.keep ((Fr.refl (fun _ => False) _).drew.alloc _) (fun _ _ h => h)) rfl (m := 1) (Reads.new _ _ _ _ (by simp) _ _) rfl rfl (bcells_one [c]) (by unfold maxLen; omega) (by omega) (by simp; omega) ?_; intro v4 w4 hv4 hf4 hd4; obtain ⟨a4, c4, hsh4, -⟩ := hv4.shape; subst hsh4; have z := (HG2.out.keep ((Fr.refl (fun _ => False) _).drew.alloc _) id).keep hf4 (HDV.out.apartT HG2.out (by decide)); have z1 := z.cell HC2.out; have z2 := z.free (m * 3 + 2) (by simp [HM.out]; omega); have HV4 := Lib.hid hv4; have HF4 := Lib.hid hf4; have HD4 := Lib.hid hd4; clear z hv4 hf4 hd4))
                all_goals
                  go_wp2_with fail
                  have hF9 : Fr (fun k => (Value.slice da td.length dc).ownBlock = some k) wr w4 := (((Fr.refl (fun _ => False) wr).alloc (.cells #[.int .u8 c.toNat] 5)).drew.mono (fun _ h _ => h.elim)).step HF4.out (fun k hk _ => hk)
                  have hv9 : Vec w4 w2.heap.size 5 1 (.slice a4 (td.length + 1) c4) (td ++ [c]).length (bcells (td ++ [c])) := by
                    have := HV4.out
                    rw [List.length_append, bcells_append]
                    exact this
                  have q := HOT.out.grow HM.out hF9 hv9 (by
                    rcases HD4.out with h | ⟨g9, h, h9⟩
                    · exact .inl h
                    · exact .inr ⟨g9, h, by simp at h9; omega⟩)
                  have hgb := (HVE.out.lt g rfl).1
                  have hdb : ∀ k, (Value.slice da td.length dc).ownBlock = some k → w2.heap.size ≤ k := fun k hk => (HDV.out.lt k hk).1
                  exact ⟨⟨r.extract 1 r.size, addByte L c, rfl, by rw [HRR.out]; exact ENDB.out _ _ HPL.out ⟨_, q, by rw [HADD.out]; simp⟩ ((HRI.out.fr.step hF9 (fun k hk hl => by have := hdb k hk; omega)).setCell _ _ (fun h => by simp at h; omega))⟩, by show (r.extract 1 r.size).size < r.size; omega⟩
              · have hc1 : (tc == (0 : Int)) = true := by simpa using hc
                have hd1 : ¬ ((td.length : Int) < 255) := by omega
                have HADD : Hid (L ++ [⟨0, 0, [c]⟩] = addByte L c) := Lib.hid (by rw [hAB, if_neg (fun h => hd h.2)])
                clear hAB hdm
                go_wp2_with (first | (go_at_call 48; refine CALL.out.mono ?_; rintro e w9 ⟨rfl, rfl⟩) | (at_builtin; refine wpList_append_vec rfl (.tmp 66) (.tmp 71) _ rfl w2.heap.size 30 3 40 elt_tok (HVE.out.keep (((Fr.refl (fun _ => False) _).alloc _).alloc _) (fun _ _ h => h)) rfl (m := 1) (Reads.new _ _ _ _ (by simp) _ _) rfl rfl (tok_one _ _ _ _ _) (by unfold maxLen; omega) (by omega) (by simp; omega) ?_; intro v4 w4 hv4 hf4 hd4 hn4; obtain ⟨a4, c4, hsh4, -⟩ := hv4.shape; subst hsh4; have HV4 := Lib.hid hv4; have HF4 := Lib.hid hf4; clear hv4 hf4 hd4 hn4))
                obtain ⟨q1, q2⟩ := PUSH.out w4 (.slice a4 _ c4) (.slice (some ⟨wr.heap.size, 0, none⟩) 1 1) ⟨0, 0, [c]⟩ HV4.out (((((Fr.refl (fun _ => False) wr).alloc _).alloc _).mono (fun _ h _ => h.elim)).step HF4.out (fun k hk _ => hk)) (HONE.out w4 wr rfl HF4.out) (fun k hk => by simp [Value.ownBlock] at hk; omega)
                exact ⟨⟨r.extract 1 r.size, addByte L c, rfl, by rw [HRR.out]; exact ENDB.out _ _ HPL.out (HADD.out ▸ q1) q2⟩, by show (r.extract 1 r.size).size < r.size; omega⟩
            · have hc1 : (tc == (0 : Int)) = false := by simpa using hc
              have HADD : Hid (L ++ [⟨0, 0, [c]⟩] = addByte L c) := Lib.hid (by rw [hAB, if_neg (fun h => hc h.1)])
              clear hAB hdm
              go_wp2_with (first | (go_at_call 48; refine CALL.out.mono ?_; rintro e w9 ⟨rfl, rfl⟩) | (at_builtin; refine wpList_append_vec rfl (.tmp 66) (.tmp 71) _ rfl w2.heap.size 30 3 40 elt_tok (HVE.out.keep (((Fr.refl (fun _ => False) _).alloc _).alloc _) (fun _ _ h => h)) rfl (m := 1) (Reads.new _ _ _ _ (by simp) _ _) rfl rfl (tok_one _ _ _ _ _) (by unfold maxLen; omega) (by omega) (by simp; omega) ?_; intro v4 w4 hv4 hf4 hd4 hn4; obtain ⟨a4, c4, hsh4, -⟩ := hv4.shape; subst hsh4; have HV4 := Lib.hid hv4; have HF4 := Lib.hid hf4; clear hv4 hf4 hd4 hn4))
              obtain ⟨q1, q2⟩ := PUSH.out w4 (.slice a4 _ c4) (.slice (some ⟨wr.heap.size, 0, none⟩) 1 1) ⟨0, 0, [c]⟩ HV4.out (((((Fr.refl (fun _ => False) wr).alloc _).alloc _).mono (fun _ h _ => h.elim)).step HF4.out (fun k hk _ => hk)) (HONE.out w4 wr rfl HF4.out) (fun k hk => by simp [Value.ownBlock] at hk; omega)
              exact ⟨⟨r.extract 1 r.size, addByte L c, rfl, by rw [HRR.out]; exact ENDB.out _ _ HPL.out (HADD.out ▸ q1) q2⟩, by show (r.extract 1 r.size).size < r.size; omega⟩
        | some k =>
          rw [hpl] at hpa
          simp only [placeInt] at hpa
          have HPL := Lib.hid hpl
          have hk3 : k ≤ 300 := by
            have := (placeOf_some _ blk (by omega) _ k hpl).2.1
            have h2 : (k + 1) * 1 ≤ (k + 1) * blk := Nat.mul_le_mul_left _ (by omega)
            rw [HSL.out] at this
            omega
          have CALL := Lib.hid hpa
          clear hpl hpi hpa
          rcases List.eq_nil_or_concat l with rfl | ⟨l0, ⟨tk, tv⟩, rfl⟩
          · have hvec := hot.vec
            have HVE := Lib.hid hvec
            have hL0 : L = [] := by rw [← HLE.out]; rfl
            have HADD : Hid (L ++ [⟨k, 1, []⟩] = addBlock L k) := Lib.hid (by rw [hL0]; rfl)
            clear hvec hot hL0
            simp only [List.length_nil] at HVE HRI HOT HLE PUSH HONE ⊢
            go_wp2_with (first | (go_at_call 48; refine CALL.out.mono ?_; rintro e w9 ⟨rfl, rfl⟩))
            go_quiet (fail)
            go_wp2_with (at_builtin; refine wpList_append_vec rfl (.tmp 121) (.tmp 124) _ rfl w2.heap.size 30 3 40 elt_tok (HVE.out.keep (((Fr.refl (fun _ => False) _).drewN _).alloc _) (fun _ _ h => h)) rfl (m := 1) (Reads.new _ _ _ _ (by simp) _ _) rfl rfl (tok_one _ _ _ _ _) (by unfold maxLen; omega) (by omega) (by simp; omega) ?_; intro v4 w4 hv4 hf4 hd4 hn4; obtain ⟨a4, c4, hsh4, -⟩ := hv4.shape; subst hsh4; have HV4 := Lib.hid hv4; have HF4 := Lib.hid hf4; clear hv4 hf4 hd4 hn4)
            obtain ⟨q1, q2⟩ := PUSH.out w4 (.slice a4 _ c4) (.slice none 0 0) ⟨k, 1, []⟩ HV4.out (((((Fr.refl (fun _ => False) wr).drewN _).alloc _).mono (fun _ h _ => h.elim)).step HF4.out (fun k hk _ => hk)) (Vec.nil _ _ _ _) (fun k hk => by simp [Value.ownBlock] at hk)
            exact ⟨⟨r.extract blk r.size, addBlock L k, rfl, ENDK.out _ _ k HPL.out (HADD.out ▸ q1) q2⟩, by show (r.extract blk r.size).size < r.size; simp; omega⟩
          · rw [List.concat_eq_append] at *
            obtain ⟨m, hm⟩ : ∃ m, l0.length = m := ⟨_, rfl⟩
            have HM := Lib.hid hm
            have hlen2 : (l0 ++ [(tk, tv)]).length = m + 1 := by simp [hm]
            have hLT : L = l0.map (·.1) ++ [tk] := by rw [← HLE.out]; simp
            have HLT := Lib.hid hLT
            obtain ⟨g, cap, rest, hq, hg1, hg2, -, -, -⟩ := hot.vec.row (by simp)
            simp only [Value.slice.injEq, true_and] at hq
            obtain ⟨rfl, rfl⟩ := hq
            have hcl : ∀ i v, (tokCells [(tk, tv)])[i]? = some v → (tokCells (l0 ++ [(tk, tv)]) ++ rest)[m * 3 + i]? = some v := by
              intro i v hi
              rw [tokCells_append, List.append_assoc, List.getElem?_append_right (by simp; omega), List.getElem?_append_left (by have := (List.getElem?_eq_some_iff.1 hi).1; simp [hm] at this ⊢; omega)]
              simpa [hm] using hi
            have hcell := fun i v hi => hg2.cell (hcl i v hi)
            have hc2 := hcl 2 tv rfl
            have HC2 := Lib.hid hc2
            have y0 := hcell 0 _ rfl
            rw [Nat.add_zero] at y0
            have y1 := hcell 1 _ rfl
            have y2 := hcell 2 _ rfl
            have yf1 := hg2.free (m * 3 + 1) (by simp [hm]; omega)
            have yf2 := hg2.free (m * 3 + 2) (by simp [hm]; omega)
            have hvec := hot.vec
            have HVE := Lib.hid hvec
            have HG2 := Lib.hid hg2
            rw [hlen2] at hlen HVE HOT HRI PUSH HONE ⊢
            have hll : m + 1 ≤ 300 := by omega
            clear hcell hcl hc2 hg2 hvec hot hLT hm hlen2
            have hAB := addBlock_snoc (l0.map (·.1)) tk k
            rw [← HLT.out] at hAB
            have hbb : 0 ≤ tk.b ∧ tk.b ≤ 100000 ∧ 0 ≤ tk.c ∧ tk.c ≤ 255 := by
              have h9 := HSH.out tk (by rw [HLT.out]; simp)
              rcases h9.1 with h | h <;> omega
            obtain ⟨tb, tc, td⟩ := tk
            simp only at hAB hbb y0 y1
            have hsum : IntKind.i64.wrap (tb + tc) = tb + tc := IntWalk.i64_in _ (by omega)
            by_cases hc0 : 0 < tc
            · have hc0' : decide (0 < tc) = true := by simpa using hc0
              by_cases hc1 : tc < 255
              · have hc1' : decide (tc < 255) = true := by simpa using hc1
                by_cases hk2 : tb + tc = k
                · have hkk : (tb + tc == (k : Int)) = true := by simpa using hk2
                  have hadd : addBlock L k = l0.map (·.1) ++ [⟨tb, tc + 1, td⟩] := by rw [hAB, if_pos ⟨hc0, hc1, hk2⟩]
                  have HADD := Lib.hid hadd
                  clear hAB hadd hk2
                  go_wp2_with (first | (go_at_call 48; refine CALL.out.mono ?_; rintro e w9 ⟨rfl, rfl⟩))
                  go_quiet (fail)
                  go_wp2_with fail
                  have q2 := (HOT.out.keep0 ((Fr.refl (fun _ => False) wr).drewN nq)).count HM.out (tc + 1)
                  have hs : Fr (fun k => k = g) wr ((wr.drewN nq).setCell ⟨g, m * 3 + 1, none⟩ (.int .i64 (tc + 1))) := ((Fr.refl _ _).drewN nq).setCell _ _ (fun _ => rfl)
                  have hgb := (HVE.out.lt g rfl).1
                  exact ⟨⟨r.extract blk r.size, addBlock L k, rfl, ENDK.out _ _ k HPL.out ⟨_, q2, by rw [HADD.out]; simp⟩ (HRI.out.fr.step hs (fun b hb hl => by subst hb; omega))⟩, by show (r.extract blk r.size).size < r.size; simp; omega⟩
                · have hkk : (tb + tc == (k : Int)) = false := by simpa using hk2
                  have HADD : Hid (L ++ [⟨k, 1, []⟩] = addBlock L k) := Lib.hid (by rw [hAB, if_neg (fun h => hk2 h.2.2)])
                  clear hk2
                  clear hAB hbb
                  go_wp2_with (first | (go_at_call 48; refine CALL.out.mono ?_; rintro e w9 ⟨rfl, rfl⟩))
                  go_quiet (fail)
                  go_wp2_with (at_builtin; refine wpList_append_vec rfl (.tmp 121) (.tmp 124) _ rfl w2.heap.size 30 3 40 elt_tok (HVE.out.keep (((Fr.refl (fun _ => False) _).drewN _).alloc _) (fun _ _ h => h)) rfl (m := 1) (Reads.new _ _ _ _ (by simp) _ _) rfl rfl (tok_one _ _ _ _ _) (by unfold maxLen; omega) (by omega) (by simp; omega) ?_; intro v4 w4 hv4 hf4 hd4 hn4; obtain ⟨a4, c4, hsh4, -⟩ := hv4.shape; subst hsh4; have HV4 := Lib.hid hv4; have HF4 := Lib.hid hf4; clear hv4 hf4 hd4 hn4)
                  obtain ⟨q1, q2⟩ := PUSH.out w4 (.slice a4 _ c4) (.slice none 0 0) ⟨k, 1, []⟩ HV4.out (((((Fr.refl (fun _ => False) wr).drewN _).alloc _).mono (fun _ h _ => h.elim)).step HF4.out (fun k hk _ => hk)) (Vec.nil _ _ _ _) (fun k hk => by simp [Value.ownBlock] at hk)
                  exact ⟨⟨r.extract blk r.size, addBlock L k, rfl, ENDK.out _ _ k HPL.out (HADD.out ▸ q1) q2⟩, by show (r.extract blk r.size).size < r.size; simp; omega⟩
              · have hc1' : decide (tc < 255) = false := by simpa using hc1
                have HADD : Hid (L ++ [⟨k, 1, []⟩] = addBlock L k) := Lib.hid (by rw [hAB, if_neg (fun h => hc1 h.2.1)])
                clear hAB hbb
                go_wp2_with (first | (go_at_call 48; refine CALL.out.mono ?_; rintro e w9 ⟨rfl, rfl⟩))
                go_quiet (fail)
                go_wp2_with (at_builtin; refine wpList_append_vec rfl (.tmp 121) (.tmp 124) _ rfl w2.heap.size 30 3 40 elt_tok (HVE.out.keep (((Fr.refl (fun _ => False) _).drewN _).alloc _) (fun _ _ h => h)) rfl (m := 1) (Reads.new _ _ _ _ (by simp) _ _) rfl rfl (tok_one _ _ _ _ _) (by unfold maxLen; omega) (by omega) (by simp; omega) ?_; intro v4 w4 hv4 hf4 hd4 hn4; obtain ⟨a4, c4, hsh4, -⟩ := hv4.shape; subst hsh4; have HV4 := Lib.hid hv4; have HF4 := Lib.hid hf4; clear hv4 hf4 hd4 hn4)
                obtain ⟨q1, q2⟩ := PUSH.out w4 (.slice a4 _ c4) (.slice none 0 0) ⟨k, 1, []⟩ HV4.out (((((Fr.refl (fun _ => False) wr).drewN _).alloc _).mono (fun _ h _ => h.elim)).step HF4.out (fun k hk _ => hk)) (Vec.nil _ _ _ _) (fun k hk => by simp [Value.ownBlock] at hk)
                exact ⟨⟨r.extract blk r.size, addBlock L k, rfl, ENDK.out _ _ k HPL.out (HADD.out ▸ q1) q2⟩, by show (r.extract blk r.size).size < r.size; simp; omega⟩
            · have hc0' : decide (0 < tc) = false := by simpa using hc0
              have HADD : Hid (L ++ [⟨k, 1, []⟩] = addBlock L k) := Lib.hid (by rw [hAB, if_neg (fun h => hc0 h.1)])
              clear hAB hbb
              go_wp2_with (first | (go_at_call 48; refine CALL.out.mono ?_; rintro e w9 ⟨rfl, rfl⟩))
              go_quiet (fail)
              go_wp2_with (at_builtin; refine wpList_append_vec rfl (.tmp 121) (.tmp 124) _ rfl w2.heap.size 30 3 40 elt_tok (HVE.out.keep (((Fr.refl (fun _ => False) _).drewN _).alloc _) (fun _ _ h => h)) rfl (m := 1) (Reads.new _ _ _ _ (by simp) _ _) rfl rfl (tok_one _ _ _ _ _) (by unfold maxLen; omega) (by omega) (by simp; omega) ?_; intro v4 w4 hv4 hf4 hd4 hn4; obtain ⟨a4, c4, hsh4, -⟩ := hv4.shape; subst hsh4; have HV4 := Lib.hid hv4; have HF4 := Lib.hid hf4; clear hv4 hf4 hd4 hn4)
              obtain ⟨q1, q2⟩ := PUSH.out w4 (.slice a4 _ c4) (.slice none 0 0) ⟨k, 1, []⟩ HV4.out (((((Fr.refl (fun _ => False) wr).drewN _).alloc _).mono (fun _ h _ => h.elim)).step HF4.out (fun k hk _ => hk)) (Vec.nil _ _ _ _) (fun k hk => by simp [Value.ownBlock] at hk)
              exact ⟨⟨r.extract blk r.size, addBlock L k, rfl, ENDK.out _ _ k HPL.out (HADD.out ▸ q1) q2⟩, by show (r.extract blk r.size).size < r.size; simp; omega⟩
      · have hge' : ¬ ((blk : Int) ≤ (r.size : Int)) := by omega
        have hpl : placeOf s.data.toList blk (c :: rr) = none := placeOf_short _ _ _ (by rw [← HCR.out, HRL.out]; omega)
        have HPL := Lib.hid hpl
        clear hpl hge
        rcases List.eq_nil_or_concat l with rfl | ⟨l0, ⟨tk, tv⟩, rfl⟩
        · have hvec := hot.vec
          have HVE := Lib.hid hvec
          have hL0 : L = [] := by rw [← HLE.out]; rfl
          have HADD : Hid (L ++ [⟨0, 0, [c]⟩] = addByte L c) := Lib.hid (by rw [hL0]; rfl)
          clear hvec hot hL0
          simp only [List.length_nil] at HVE HRI HOT HLE PUSH HONE ⊢
          go_wp2_with (first | (at_builtin; refine wpList_append_vec rfl (.tmp 66) (.tmp 71) _ rfl w2.heap.size 30 3 40 elt_tok (HVE.out.keep (((Fr.refl (fun _ => False) _).alloc _).alloc _) (fun _ _ h => h)) rfl (m := 1) (Reads.new _ _ _ _ (by simp) _ _) rfl rfl (tok_one _ _ _ _ _) (by unfold maxLen; omega) (by omega) (by simp; omega) ?_; intro v4 w4 hv4 hf4 hd4 hn4; obtain ⟨a4, c4, hsh4, -⟩ := hv4.shape; subst hsh4; have HV4 := Lib.hid hv4; have HF4 := Lib.hid hf4; clear hv4 hf4 hd4 hn4))
          obtain ⟨q1, q2⟩ := PUSH.out w4 (.slice a4 _ c4) (.slice (some ⟨wr.heap.size, 0, none⟩) 1 1) ⟨0, 0, [c]⟩ HV4.out (((((Fr.refl (fun _ => False) wr).alloc _).alloc _).mono (fun _ h _ => h.elim)).step HF4.out (fun k hk _ => hk)) (HONE.out w4 wr rfl HF4.out) (fun k hk => by simp [Value.ownBlock] at hk; omega)
          exact ⟨⟨r.extract 1 r.size, addByte L c, rfl, by rw [HRR.out]; exact ENDB.out _ _ HPL.out (HADD.out ▸ q1) q2⟩, by show (r.extract 1 r.size).size < r.size; omega⟩
        · rw [List.concat_eq_append] at *
          obtain ⟨m, hm⟩ : ∃ m, l0.length = m := ⟨_, rfl⟩
          have HM := Lib.hid hm
          have hlen2 : (l0 ++ [(tk, tv)]).length = m + 1 := by simp [hm]
          have hLT : L = l0.map (·.1) ++ [tk] := by rw [← HLE.out]; simp
          have HLT := Lib.hid hLT
          obtain ⟨g, cap, rest, hq, hg1, hg2, -, -, -⟩ := hot.vec.row (by simp)
          simp only [Value.slice.injEq, true_and] at hq
          obtain ⟨rfl, rfl⟩ := hq
          have hcl : ∀ i v, (tokCells [(tk, tv)])[i]? = some v → (tokCells (l0 ++ [(tk, tv)]) ++ rest)[m * 3 + i]? = some v := by
            intro i v hi
            rw [tokCells_append, List.append_assoc, List.getElem?_append_right (by simp; omega), List.getElem?_append_left (by have := (List.getElem?_eq_some_iff.1 hi).1; simp [hm] at this ⊢; omega)]
            simpa [hm] using hi
          have hcell := fun i v hi => hg2.cell (hcl i v hi)
          have hc2 := hcl 2 tv rfl
          have HC2 := Lib.hid hc2
          have y0 := hcell 0 _ rfl
          rw [Nat.add_zero] at y0
          have y1 := hcell 1 _ rfl
          have y2 := hcell 2 _ rfl
          have yf1 := hg2.free (m * 3 + 1) (by simp [hm]; omega)
          have yf2 := hg2.free (m * 3 + 2) (by simp [hm]; omega)
          have hvec := hot.vec
          have HVE := Lib.hid hvec
          have HG2 := Lib.hid hg2
          rw [hlen2] at hlen HVE HOT HRI PUSH HONE ⊢
          have hll : m + 1 ≤ 300 := by omega
          clear hcell hcl hc2 hg2 hvec hot hLT hm hlen2
          have hAB := addByte_snoc (l0.map (·.1)) tk c
          rw [← HLT.out] at hAB
          have hdm : tk.c = 0 → tk.d.length ≤ 255 := fun h => by
            rcases (HSH.out tk (by rw [HLT.out]; simp)).1 with h2 | h2 <;> omega
          have hDV := HOT.out.data (tk, tv) (by simp)
          obtain ⟨da, dc, hdv, hdcl, hdcm⟩ := hDV.shape
          simp only at hdv
          subst hdv
          have HDV := Lib.hid hDV
          obtain ⟨tb, tc, td⟩ := tk
          simp only at hAB hdm y1 y2 HDV hdcl hdcm
          clear hDV
          by_cases hc : tc = 0
          · by_cases hd : td.length < 255
            · have hc1 : (tc == (0 : Int)) = true := by simpa using hc
              have hd1 : (td.length : Int) < 255 := by omega
              have hadd : addByte L c = l0.map (·.1) ++ [⟨tb, tc, td ++ [c]⟩] := by rw [hAB, if_pos ⟨hc, hd⟩]
              have HADD := Lib.hid hadd
              clear hAB hadd hdm
              go_wp2_with (first | fail)
              have i1 : (0 : Int) ≤ (m : Int) := by omega
              have i2 : (m : Int) < (m : Int) + 1 := by omega
              have i4 : (m : Int) ≤ 300 := by omega
              have i5 : (m : Int) + 1 ≤ 300 := by omega
              have i6 : IntKind.i64.wrap ((m : Int) + 1 - 1) = (m : Int) := by rw [IntWalk.i64_in _ (by omega)]; omega
              have i7 : IntKind.i64.wrap (m : Int) = (m : Int) := IntWalk.i64_in _ (by omega)
              have i3 : (0 : Int) < (r.size : Int) := by omega
              have e2 := (HG2.out.keep ((Fr.refl (fun _ => False) wr).alloc (.cells #[.int .u8 c.toNat] 5)).drew id).cell HC2.out
              go_region_law
                (first | (rw [if_pos (by rfl)]; refine wp_append_vec (.tmp 59) (.tmp 62) 25 rfl w2.heap.size 5 1 1 elt_u8 (v := .slice da td.length dc) (n := td.length) (xs := bcells td) (HDV.out.keep ((Fr.refl (fun _ => False) _).drew.alloc _) (fun _ _ h => h)) rfl (m := 1) (Reads.new _ _ _ _ (by simp) _ _) rfl rfl (bcells_one [c]) (by unfold maxLen; omega) (by omega) (by simp; omega) ?_; intro v4 w4 hv4 hf4 hd4; obtain ⟨a4, c4, hsh4, -⟩ := hv4.shape; subst hsh4; have z := (HG2.out.keep ((Fr.refl (fun _ => False) _).drew.alloc _) id).keep hf4 (HDV.out.apartT HG2.out (by decide)); have z1 := z.cell HC2.out; have z2 := z.free (m * 3 + 2) (by simp [HM.out]; omega); have HV4 := Lib.hid hv4; have HF4 := Lib.hid hf4; have HD4 := Lib.hid hd4; clear z hv4 hf4 hd4))
              all_goals
                go_wp2_with fail
                have hF9 : Fr (fun k => (Value.slice da td.length dc).ownBlock = some k) wr w4 := (((Fr.refl (fun _ => False) wr).alloc (.cells #[.int .u8 c.toNat] 5)).drew.mono (fun _ h _ => h.elim)).step HF4.out (fun k hk _ => hk)
                have hv9 : Vec w4 w2.heap.size 5 1 (.slice a4 (td.length + 1) c4) (td ++ [c]).length (bcells (td ++ [c])) := by
                  have := HV4.out
                  rw [List.length_append, bcells_append]
                  exact this
                have q := HOT.out.grow HM.out hF9 hv9 (by
                  rcases HD4.out with h | ⟨g9, h, h9⟩
                  · exact .inl h
                  · exact .inr ⟨g9, h, by simp at h9; omega⟩)
                have hgb := (HVE.out.lt g rfl).1
                have hdb : ∀ k, (Value.slice da td.length dc).ownBlock = some k → w2.heap.size ≤ k := fun k hk => (HDV.out.lt k hk).1
                exact ⟨⟨r.extract 1 r.size, addByte L c, rfl, by rw [HRR.out]; exact ENDB.out _ _ HPL.out ⟨_, q, by rw [HADD.out]; simp⟩ ((HRI.out.fr.step hF9 (fun k hk hl => by have := hdb k hk; omega)).setCell _ _ (fun h => by simp at h; omega))⟩, by show (r.extract 1 r.size).size < r.size; omega⟩
            · have hc1 : (tc == (0 : Int)) = true := by simpa using hc
              have hd1 : ¬ ((td.length : Int) < 255) := by omega
              have HADD : Hid (L ++ [⟨0, 0, [c]⟩] = addByte L c) := Lib.hid (by rw [hAB, if_neg (fun h => hd h.2)])
              clear hAB hdm
              go_wp2_with (first | (at_builtin; refine wpList_append_vec rfl (.tmp 66) (.tmp 71) _ rfl w2.heap.size 30 3 40 elt_tok (HVE.out.keep (((Fr.refl (fun _ => False) _).alloc _).alloc _) (fun _ _ h => h)) rfl (m := 1) (Reads.new _ _ _ _ (by simp) _ _) rfl rfl (tok_one _ _ _ _ _) (by unfold maxLen; omega) (by omega) (by simp; omega) ?_; intro v4 w4 hv4 hf4 hd4 hn4; obtain ⟨a4, c4, hsh4, -⟩ := hv4.shape; subst hsh4; have HV4 := Lib.hid hv4; have HF4 := Lib.hid hf4; clear hv4 hf4 hd4 hn4))
              obtain ⟨q1, q2⟩ := PUSH.out w4 (.slice a4 _ c4) (.slice (some ⟨wr.heap.size, 0, none⟩) 1 1) ⟨0, 0, [c]⟩ HV4.out (((((Fr.refl (fun _ => False) wr).alloc _).alloc _).mono (fun _ h _ => h.elim)).step HF4.out (fun k hk _ => hk)) (HONE.out w4 wr rfl HF4.out) (fun k hk => by simp [Value.ownBlock] at hk; omega)
              exact ⟨⟨r.extract 1 r.size, addByte L c, rfl, by rw [HRR.out]; exact ENDB.out _ _ HPL.out (HADD.out ▸ q1) q2⟩, by show (r.extract 1 r.size).size < r.size; omega⟩
          · have hc1 : (tc == (0 : Int)) = false := by simpa using hc
            have HADD : Hid (L ++ [⟨0, 0, [c]⟩] = addByte L c) := Lib.hid (by rw [hAB, if_neg (fun h => hc h.1)])
            clear hAB hdm
            go_wp2_with (first | (at_builtin; refine wpList_append_vec rfl (.tmp 66) (.tmp 71) _ rfl w2.heap.size 30 3 40 elt_tok (HVE.out.keep (((Fr.refl (fun _ => False) _).alloc _).alloc _) (fun _ _ h => h)) rfl (m := 1) (Reads.new _ _ _ _ (by simp) _ _) rfl rfl (tok_one _ _ _ _ _) (by unfold maxLen; omega) (by omega) (by simp; omega) ?_; intro v4 w4 hv4 hf4 hd4 hn4; obtain ⟨a4, c4, hsh4, -⟩ := hv4.shape; subst hsh4; have HV4 := Lib.hid hv4; have HF4 := Lib.hid hf4; clear hv4 hf4 hd4 hn4))
            obtain ⟨q1, q2⟩ := PUSH.out w4 (.slice a4 _ c4) (.slice (some ⟨wr.heap.size, 0, none⟩) 1 1) ⟨0, 0, [c]⟩ HV4.out (((((Fr.refl (fun _ => False) wr).alloc _).alloc _).mono (fun _ h _ => h.elim)).step HF4.out (fun k hk _ => hk)) (HONE.out w4 wr rfl HF4.out) (fun k hk => by simp [Value.ownBlock] at hk; omega)
            exact ⟨⟨r.extract 1 r.size, addByte L c, rfl, by rw [HRR.out]; exact ENDB.out _ _ HPL.out (HADD.out ▸ q1) q2⟩, by show (r.extract 1 r.size).size < r.size; omega⟩
end Go.Proofs.YtlcdgbhigfgehaaDoor
