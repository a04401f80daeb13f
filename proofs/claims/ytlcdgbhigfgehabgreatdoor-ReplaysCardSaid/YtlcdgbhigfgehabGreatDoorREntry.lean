/- The document's reader of batches: what is told of a file. -/
import Derived.Test.YtlcdgbhigfgehabGreatDoorRReader
import Derived.Laws.Rows
namespace Go.Proofs.YtlcdgbhigfgehabGreatDoor
open Go.RowKit
set_option maxRecDepth 100000

/-- What a number is, as long as all is well. -/
def NumRel (ok : Bool) (s : ByteArray) (p n v p' : Nat) (ok' : Bool) : Prop := (ok' = true ∧ ok = true ∧ numN n (s.data.toList.drop p) = some (v, s.data.toList.drop p')) ∨ (ok' = false ∧ v = 0 ∧ (ok = true → numN n (s.data.toList.drop p) = none))
def TxtRel (ok : Bool) (s : ByteArray) (p n : Nat) (t : List UInt8) (p' : Nat) (ok' : Bool) : Prop := (ok' = true ∧ ok = true ∧ takeN n (s.data.toList.drop p) = some (t, s.data.toList.drop p')) ∨ (ok' = false ∧ (ok = true → takeN n (s.data.toList.drop p) = none))
theorem rnum_any (w : World) (rb : Nat) (s : ByteArray) (p n : Nat) (c : Int) (hc : c = n) (ok : Bool) (h : RR w rb s p ok) (hs : s.size ≤ 1000000) (hn : n ≤ 8) :
    Calls Tryz.prog 154 #[.pointer (some ⟨rb, 0, none⟩), .int .i64 c] w fun e w' => ∃ (v p' : Nat) (ok' : Bool), e = .returned (.int .u64 v) ∧ RR w' rb s p' ok' ∧ Fr (fun k => k = rb) w w' ∧ v < 256 ^ n ∧ NumRel ok s p n v p' ok' := by
  have hsl : s.data.toList.length = s.size := by simp
  have hle := h.le
  by_cases hg : ok = true ∧ p + n ≤ s.size
  · obtain ⟨rfl, hg⟩ := hg
    refine (rnum_ok w rb s p n c hc h hs hn hg).mono ?_
    rintro e w' ⟨rfl, h1, h2⟩
    have hl : ((s.data.toList.drop p).take n).length = n := by simp; omega
    refine ⟨_, _, _, rfl, h1, h2, by have := numOf_lt ((s.data.toList.drop p).take n); rwa [hl] at this, .inl ⟨rfl, rfl, ?_⟩⟩
    unfold numN
    rw [if_neg (by simp; omega), List.drop_drop]
  · refine (rnum_bad w rb s p n c hc ok h hs (by omega) ?_).mono ?_
    · cases ok with
      | false => exact .inl rfl
      | true => exact .inr (by have : ¬ (p + n ≤ s.size) := fun h => hg ⟨rfl, h⟩; omega)
    · rintro e w' ⟨rfl, h1, h2⟩
      refine ⟨0, _, _, rfl, h1, h2, Nat.pow_pos (by omega), .inr ⟨rfl, rfl, fun hok => ?_⟩⟩
      unfold numN
      rw [if_pos]
      have : ¬ (p + n ≤ s.size) := fun h => hg ⟨hok, h⟩
      rw [List.length_drop, hsl]; omega
theorem rtext_any (w : World) (rb : Nat) (s : ByteArray) (p n : Nat) (c : Int) (hc : c = n) (ok : Bool) (h : RR w rb s p ok) (hs : s.size ≤ 1000000) (hn : n ≤ 1000000) :
    Calls Tryz.prog 152 #[.pointer (some ⟨rb, 0, none⟩), .int .i64 c] w fun e w' => ∃ (t : List UInt8) (p' : Nat) (ok' : Bool), e = .returned (.string ⟨t.toArray⟩) ∧ RR w' rb s p' ok' ∧ Fr (fun k => k = rb) w w' ∧ t.length ≤ n ∧ TxtRel ok s p n t p' ok' := by
  have hsl : s.data.toList.length = s.size := by simp
  have hle := h.le
  by_cases hg : ok = true ∧ p + n ≤ s.size
  · obtain ⟨rfl, hg⟩ := hg
    refine (rtext_ok w rb s p n c hc h hs hg).mono ?_
    rintro e w' ⟨rfl, h1, h2⟩
    refine ⟨_, _, _, rfl, h1, h2, by simp; omega, .inl ⟨rfl, rfl, ?_⟩⟩
    unfold takeN
    rw [if_neg (by simp; omega), List.drop_drop]
  · refine (rtext_bad w rb s p n c hc ok h hs hn ?_).mono ?_
    · cases ok with
      | false => exact .inl rfl
      | true => exact .inr (by have : ¬ (p + n ≤ s.size) := fun h => hg ⟨rfl, h⟩; omega)
    · rintro e w' ⟨rfl, h1, h2⟩
      refine ⟨[], _, _, rfl, h1, h2, Nat.zero_le _, .inr ⟨rfl, fun hok => ?_⟩⟩
      unfold takeN
      rw [if_pos]
      have : ¬ (p + n ≤ s.size) := fun h => hg ⟨hok, h⟩
      rw [List.length_drop, hsl]; omega

set_option maxHeartbeats 4000000 in
theorem rnamed_any (s : ByteArray) (w : World) (hs : s.size ≤ 1000000) :
    Calls Tryz.prog 133 #[.string s] w fun e w' => e = .returned (.bool (isName s.data.toList)) ∧ w = w' := by
  have hsl : s.data.toList.length = s.size := by simp
  have HSL := Lib.hid hsl
  clear hsl
  go_enter Tryz.func133, Tryz.ntmps133
  go_wp2_with fail
  go_loop [3] (fun i => ∃ k : Nat, k ≤ s.size ∧ i = .int .i64 k ∧ ∀ j, j < k → nameByte (s.data.toList.getD j 0) = true) (fun i => s.size - (intOf i).toNat)
  case atStart => exact ⟨0, Nat.zero_le _, rfl, fun j h => by omega⟩
  case round =>
    obtain ⟨k, hk, rfl, hall⟩ := hrel
    have HALL := Lib.hid hall
    clear hall
    by_cases hlt : k < s.size
    · obtain ⟨c, hc⟩ : ∃ c, s[k] = c := ⟨_, rfl⟩
      have hcd : s.data.toList.getD k 0 = c := by
        rw [← hc, List.getD_eq_getElem?_getD, List.getElem?_eq_getElem (by rw [HSL.out]; exact hlt)]; rfl
      have hgood : nameByte c = true → ∀ j, j < k + 1 → nameByte (s.data.toList.getD j 0) = true := fun h j hj => by
        by_cases hjk : j = k
        · subst hjk; rw [hcd]; exact h
        · exact HALL.out j (by omega)
      have hbad : nameByte c = false → isName s.data.toList = false := fun h => by
        have : s.data.toList.all nameByte = false := by
          rw [List.all_eq_false]
          exact ⟨s.data.toList.getD k 0, by rw [List.getD_eq_getElem?_getD, List.getElem?_eq_getElem (by rw [HSL.out]; exact hlt)]; exact List.getElem_mem _, by rw [hcd, h]; simp⟩
        unfold isName
        rw [this]; simp
      have HGOOD := Lib.hid hgood
      have HBAD := Lib.hid hbad
      have hcl := c.toNat_lt
      clear hgood hbad hcd
      have hcase : c.toNat < 46 ∨ c.toNat = 46 ∨ c.toNat = 47 ∨ (48 ≤ c.toNat ∧ c.toNat ≤ 57) ∨ (57 < c.toNat ∧ c.toNat < 97) ∨ (97 ≤ c.toNat ∧ c.toNat ≤ 122) ∨ 122 < c.toNat := by omega
      rcases hcase with hx | hx | hx | hx | hx | hx | hx
      · have d0 : (c.toNat : Int) < 97 := by omega
        have d1 : (c.toNat : Int) < 48 := by omega
        have d2 : ((c.toNat : Int) != 46) = true := by rw [bne_iff_ne]; omega
        have d3 : ((c.toNat : Int) != 47) = true := by rw [bne_iff_ne]; omega
        have HB := Lib.hid (HBAD.out (by simp [nameByte]; omega))
        clear hx
        go_wp2_with fail
        go_ret
        exact ⟨by rw [HB.out]; rfl, rfl⟩
      · have d0 : (c.toNat : Int) < 97 := by omega
        have d1 : (c.toNat : Int) < 48 := by omega
        have d2 : ((c.toNat : Int) != 46) = false := by rw [bne_eq_false_iff_eq]; omega
        have HG := Lib.hid (HGOOD.out (by simp [nameByte]; omega))
        clear hx
        go_wp2_with fail
        exact ⟨⟨k + 1, by omega, by go_num, HG.out⟩, by simp [intOf]; omega⟩
      · have d0 : (c.toNat : Int) < 97 := by omega
        have d1 : (c.toNat : Int) < 48 := by omega
        have d2 : ((c.toNat : Int) != 46) = true := by rw [bne_iff_ne]; omega
        have d3 : ((c.toNat : Int) != 47) = false := by rw [bne_eq_false_iff_eq]; omega
        have HG := Lib.hid (HGOOD.out (by simp [nameByte]; omega))
        clear hx
        go_wp2_with fail
        exact ⟨⟨k + 1, by omega, by go_num, HG.out⟩, by simp [intOf]; omega⟩
      · have d0 : (c.toNat : Int) < 97 := by omega
        have d1 : ¬ (c.toNat : Int) < 48 := by omega
        have d2 : ¬ 57 < (c.toNat : Int) := by omega
        have HG := Lib.hid (HGOOD.out (by simp [nameByte]; omega))
        clear hx
        go_wp2_with fail
        exact ⟨⟨k + 1, by omega, by go_num, HG.out⟩, by simp [intOf]; omega⟩
      · have d0 : (c.toNat : Int) < 97 := by omega
        have d1 : ¬ (c.toNat : Int) < 48 := by omega
        have d2 : 57 < (c.toNat : Int) := by omega
        have d3 : ((c.toNat : Int) != 46) = true := by rw [bne_iff_ne]; omega
        have d4 : ((c.toNat : Int) != 47) = true := by rw [bne_iff_ne]; omega
        have HB := Lib.hid (HBAD.out (by simp [nameByte]; omega))
        clear hx
        go_wp2_with fail
        go_ret
        exact ⟨by rw [HB.out]; rfl, rfl⟩
      · have d0 : ¬ (c.toNat : Int) < 97 := by omega
        have d1 : ¬ 122 < (c.toNat : Int) := by omega
        have HG := Lib.hid (HGOOD.out (by simp [nameByte]; omega))
        clear hx
        go_wp2_with fail
        exact ⟨⟨k + 1, by omega, by go_num, HG.out⟩, by simp [intOf]; omega⟩
      · have d0 : ¬ (c.toNat : Int) < 97 := by omega
        have d1 : 122 < (c.toNat : Int) := by omega
        have d2 : ¬ (c.toNat : Int) < 48 := by omega
        have d3 : 57 < (c.toNat : Int) := by omega
        have d4 : ((c.toNat : Int) != 46) = true := by rw [bne_iff_ne]; omega
        have d5 : ((c.toNat : Int) != 47) = true := by rw [bne_iff_ne]; omega
        have HB := Lib.hid (HBAD.out (by simp [nameByte]; omega))
        clear hx
        go_wp2_with fail
        go_ret
        exact ⟨by rw [HB.out]; rfl, rfl⟩
    · obtain rfl : k = s.size := by omega
      have hall : s.data.toList.all nameByte = true := by
        rw [List.all_eq_true]
        intro x hx
        obtain ⟨j, hj, rfl⟩ := List.getElem_of_mem hx
        have := HALL.out j (by rw [← HSL.out]; exact hj)
        rwa [List.getD_eq_getElem?_getD, List.getElem?_eq_getElem hj] at this
      have hn : isName s.data.toList = (decide (1 ≤ s.size) && decide (s.size ≤ 12)) := by
        unfold isName
        rw [hall, HSL.out]; simp
      have HN := Lib.hid hn
      clear hn hall
      by_cases h1 : (1 : Int) ≤ (s.size : Int)
      · go_wp2_with fail
        go_ret
        refine ⟨?_, rfl⟩
        rw [HN.out, decide_eq_true (show 1 ≤ s.size by omega), Bool.true_and]
        by_cases h12 : s.size ≤ 12 <;> simp [h12] <;> omega
      · go_wp2_with fail
        go_ret
        refine ⟨?_, rfl⟩
        rw [HN.out, decide_eq_false (show ¬ 1 ≤ s.size by omega), Bool.false_and]
        rfl
set_option maxHeartbeats 400000 in
theorem rcount_any (size blk : Nat) (w : World) (h1 : size ≤ 1000000) (h2 : 1 ≤ blk) (h3 : blk ≤ 1000) :
    Calls Tryz.prog 158 #[.int .i64 size, .int .i64 blk] w fun e w' => e = .returned (.int .i64 (nBlocks size blk : Nat)) ∧ w = w' := by
  have hw1 : IntKind.i64.wrap ((size : Int) + blk) = (size : Int) + blk := IntWalk.i64_in _ (by omega)
  have hw2 : IntKind.i64.wrap ((size : Int) + blk - 1) = (size : Int) + blk - 1 := IntWalk.i64_in _ (by omega)
  have hq : ((size : Int) + blk - 1).tdiv blk = (nBlocks size blk : Nat) := by
    unfold nBlocks
    rw [show (size : Int) + blk - 1 = ((size + blk - 1 : Nat) : Int) by omega]
    rfl
  have hnb := (nBlocks_mul size blk (by omega)).2.2
  have hne : ¬ ((blk : Int) = 0) := by omega
  go_enter Tryz.func158, Tryz.ntmps158
  go_wp2_with fail
  go_ret
  exact ⟨rfl, rfl⟩
theorem run_behind2 (a b : ByteArray) (w : World) (t : TypeId) : (binOp .gtr t (.string a) (.string b)).run Tryz.prog w = .ok (.bool (behind a.data.toList b.data.toList)) w := by
  simp [binOp, Op.stringOp, behind, ByteArray.toList_eq]
theorem NumRel.dead {s : ByteArray} {p n v p' : Nat} {ok' : Bool} (h : NumRel false s p n v p' ok') : ok' = false := by
  rcases h with ⟨_, h, _⟩ | ⟨h, _⟩
  · cases h
  · exact h
theorem TxtRel.dead {s : ByteArray} {p n : Nat} {t : List UInt8} {p' : Nat} {ok' : Bool} (h : TxtRel false s p n t p' ok') : ok' = false := by
  rcases h with ⟨_, h, _⟩ | ⟨h, _⟩
  · cases h
  · exact h
theorem ent_rel {s : ByteArray} {last nm : List UInt8} {first ok ok1 ok2 ok3 ok4 ok5 ok6 B : Bool} {p p1 p2 p4 p6 k sz dg : Nat} (h1 : NumRel ok s p 1 k p1 ok1) (h2 : TxtRel ok1 s p1 k nm p2 ok2) (hB : B = (isName nm && (first || behind nm last))) (h3 : (ok2 && B) = ok3)
    (h4 : NumRel ok3 s p2 2 sz p4 ok4) (h5 : (ok4 && decide ((sz : Int) ≤ 300)) = ok5) (h6 : NumRel ok5 s p4 8 dg p6 ok6) :
    match (if ok = true then entN last first (s.data.toList.drop p) else none) with
    | none => ok6 = false
    | some (y, r) => ok6 = true ∧ (⟨nm, sz, dg⟩ : Ent) = y ∧ r = s.data.toList.drop p6 := by
  cases ok with
  | false =>
    have := h1.dead; subst this
    have := h2.dead; subst this
    simp at h3; subst h3
    have := h4.dead; subst this
    simp at h5; subst h5
    exact h6.dead
  | true =>
    rw [if_pos rfl]
    unfold entN
    rcases h1 with ⟨rfl, -, e1⟩ | ⟨rfl, -, e1⟩
    · rw [e1]; simp only
      rcases h2 with ⟨rfl, -, e2⟩ | ⟨rfl, e2⟩
      · rw [e2]; simp only
        rw [← hB]
        cases B with
        | false =>
          rw [if_pos rfl]
          simp at h3; subst h3
          have := h4.dead; subst this
          simp at h5; subst h5
          exact h6.dead
        | true =>
          rw [if_neg (by simp)]
          simp at h3; subst h3
          rcases h4 with ⟨rfl, -, e4⟩ | ⟨rfl, -, e4⟩
          · rw [e4]; simp only
            by_cases hz : 300 < sz
            · rw [if_pos hz]
              rw [decide_eq_false (by omega)] at h5
              simp at h5; subst h5
              exact h6.dead
            · rw [if_neg hz]
              rw [decide_eq_true (by omega)] at h5
              simp at h5; subst h5
              rcases h6 with ⟨rfl, -, e6⟩ | ⟨rfl, -, e6⟩
              · rw [e6]; exact ⟨rfl, rfl, rfl⟩
              · rw [e6 rfl]
          · rw [e4 rfl]
            simp at h5; subst h5
            exact h6.dead
      · rw [e2 rfl]
        simp at h3; subst h3
        have := h4.dead; subst this
        simp at h5; subst h5
        exact h6.dead
    · rw [e1 rfl]
      have := h2.dead; subst this
      simp at h3; subst h3
      have := h4.dead; subst this
      simp at h5; subst h5
      exact h6.dead
/-- What the document's reading of a file's entry gives. -/
def REntPost (w : World) (rb : Nat) (s : ByteArray) (o : Option (Ent × List UInt8)) (e : Ending) (w' : World) : Prop :=
  Fr (fun k => k = rb) w w' ∧ ∃ (x : Ent) (p' : Nat) (ok' : Bool), e = .returned (.agg #[.string ⟨x.name.toArray⟩, .int .i64 x.size, .int .u64 x.dig]) ∧ x.name.length ≤ 255 ∧ x.size < 65536 ∧ x.dig < 18446744073709551616 ∧ RR w' rb s p' ok' ∧
    match o with
    | none => ok' = false
    | some (y, r) => ok' = true ∧ x = y ∧ r = s.data.toList.drop p'
set_option maxHeartbeats 3000000 in
theorem rentry_any (w : World) (rb : Nat) (s : ByteArray) (p : Nat) (ok : Bool) (h : RR w rb s p ok) (hs : s.size ≤ 1000000) (last : ByteArray) (first : Bool) :
    Calls Tryz.prog 155 #[.pointer (some ⟨rb, 0, none⟩), .string last, .bool first] w (REntPost w rb s (if ok = true then entN last.data.toList first (s.data.toList.drop p) else none)) := by
  have hrb := h.own.lt
  obtain ⟨O, hO⟩ : ∃ O, (if ok = true then entN last.data.toList first (s.data.toList.drop p) else none) = O := ⟨_, rfl⟩
  have HOO := Lib.hid hO
  rw [hO]
  clear hO
  have hA : Fr (fun _ => False) w (w.alloc (.cells #[.string ⟨#[]⟩, .int .i64 0, .int .u64 0] 152)) := (Fr.refl _ _).alloc _
  have HA := Lib.hid hA
  have HO := Lib.hid (Own.alloc w #[.string ⟨#[]⟩, .int .i64 0, .int .u64 0] 152)
  have HR := Lib.hid h
  clear h hA
  go_enter Tryz.func155, Tryz.ntmps155
  go_wp2_with fail
  go_at_call 154; refine (rnum_any _ rb s p 1 _ rfl ok (HR.out.keep HA.out id) hs (by omega)).mono ?_
  rintro e w1 ⟨k, p1, ok1, rfl, hr1, hf1, hk, hn1⟩
  have hk' : k < 256 := hk
  have hcv1 : IntKind.i64.wrap (k : Int) = (k : Int) := IntWalk.i64_in _ (by omega)
  have HN1 := Lib.hid hn1
  have HF1 := Lib.hid (HA.out.mono (fun _ h _ => h.elim) |>.step hf1 (fun _ h _ => h))
  have HO1 := Lib.hid (HO.out.keep hf1 (by omega))
  clear hn1 hf1 hk
  go_wp2_with fail
  go_at_call 152; refine (rtext_any _ rb s p1 k _ rfl ok1 hr1 hs (by omega)).mono ?_
  rintro e w2 ⟨nm, p2, ok2, rfl, hr2, hf2, hnl, hn2⟩
  have HN2 := Lib.hid hn2
  have HF2 := Lib.hid (HF1.out.step hf2 (fun _ h _ => h))
  have HO2 := Lib.hid (HO1.out.keep hf2 (by omega))
  have HR2 := Lib.hid hr2
  obtain ⟨nb, hnb⟩ : ∃ nb : ByteArray, nb = ⟨nm.toArray⟩ := ⟨_, rfl⟩
  have hnbl : nb.data.toList = nm := by rw [hnb]
  have hnbs : nb.size ≤ 255 := by
    have : nb.data.toList.length = nb.size := by simp
    rw [hnbl] at this; omega
  rw [← hnb]
  have HNB := Lib.hid hnb
  have HNBL := Lib.hid hnbl
  clear hn2 hf2 hr1 hr2 hnb hnbl
  go_wp2_with fail
  go_at_call 133; refine (rnamed_any nb _ (by omega)).mono ?_
  rintro e w' ⟨rfl, rfl⟩
  rw [HNBL.out]
  cases hN : isName nm with
  | false =>
    go_wp2_with fail
    go_at_call 153; refine (rmust_any _ rb s p2 ok2 _ HR2.out).mono ?_
    rintro e w3 ⟨rfl, hr3, hf3⟩
    have HF3 := Lib.hid (HF2.out.step hf3 (fun _ h _ => h))
    have HO3 := Lib.hid (HO2.out.keep hf3 (by omega))
    obtain ⟨ok3, hok3⟩ : ∃ b, (ok2 && false) = b := ⟨_, rfl⟩
    rw [hok3] at hr3
    have HK3 := Lib.hid hok3
    clear hf3 hok3
    go_wp2_with fail
    go_at_call 154; refine (rnum_any _ rb s p2 2 _ rfl ok3 hr3 hs (by omega)).mono ?_
    rintro e w4 ⟨sz, p4, ok4, rfl, hr4, hf4, hsz, hn4⟩
    have hsz' : sz < 65536 := hsz
    have HN4 := Lib.hid hn4
    have HF4 := Lib.hid (HF3.out.step hf4 (fun _ h _ => h))
    have HO4 := Lib.hid (HO3.out.keep hf4 (by omega))
    have HR4 := Lib.hid hr4
    have hcv4 : IntKind.i64.wrap (sz : Int) = (sz : Int) := IntWalk.i64_in _ (by omega)
    clear hn4 hf4 hr3 hr4 hsz
    go_wp2_with fail
    go_at_call 153; refine (rmust_any _ rb s p4 ok4 (decide ((sz : Int) ≤ 300)) HR4.out).mono ?_
    rintro e w5 ⟨rfl, hr5, hf5⟩
    have HF5 := Lib.hid (HF4.out.step hf5 (fun _ h _ => h))
    have HO5 := Lib.hid (HO4.out.keep hf5 (by omega))
    obtain ⟨ok5, hok5⟩ : ∃ b, (ok4 && decide ((sz : Int) ≤ 300)) = b := ⟨_, rfl⟩
    rw [hok5] at hr5
    have HK5 := Lib.hid hok5
    clear hf5 hok5
    go_wp2_with fail
    go_at_call 154; refine (rnum_any _ rb s p4 8 _ rfl ok5 hr5 hs (by omega)).mono ?_
    rintro e w6 ⟨dg, p6, ok6, rfl, hr6, hf6, hdg, hn6⟩
    have HN6 := Lib.hid hn6
    have HF6 := Lib.hid (HF5.out.step hf6 (fun _ h _ => h))
    have HO6 := Lib.hid (HO5.out.keep hf6 (by omega))
    have HR6 := Lib.hid hr6
    have r0 := HO6.out.cell (i := 0) rfl
    have r1 := HO6.out.cell (i := 1) rfl
    have r2 := HO6.out.cell (i := 2) rfl
    have rf0 := HO6.out.free 0 (by simp)
    have rf1 := HO6.out.free 1 (by simp)
    have rf2 := HO6.out.free 2 (by simp)
    clear hn6 hf6 hr5 hr6
    go_wp2_with fail
    have hq7 : Fr (fun k => k = w.heap.size) w6 (((w6.setCell ⟨w.heap.size, 0, none⟩ (.string nb)).setCell ⟨w.heap.size, 1, none⟩ (.int .i64 sz)).setCell ⟨w.heap.size, 2, none⟩ (.int .u64 dg)) :=
      (((Fr.refl (fun k => k = w.heap.size) w6).setCell ⟨w.heap.size, 0, none⟩ (.string nb) (fun _ => rfl)).setCell ⟨w.heap.size, 1, none⟩ (.int .i64 sz) (fun _ => rfl)).setCell ⟨w.heap.size, 2, none⟩ (.int .u64 dg) (fun _ => rfl)
    have hr7 := ((HO6.out.set 0 (.string nb)).set 1 (.int .i64 sz)).set 2 (.int .u64 dg)
    obtain ⟨fr7, hg7, -⟩ := hr7
    refine bodyPost_ret (results_cell_row (P := Tryz.prog) rfl _ _ w.heap.size _ _ fr7 _ rfl hg7 Tryz.underlying152 rfl (by kernel_rfl)) rfl ?_
    have hrel := ent_rel (last := last.data.toList) (first := first) (B := false) HN1.out HN2.out (by rw [hN]; rfl) HK3.out HN4.out HK5.out HN6.out
    rw [HOO.out] at hrel
    refine ⟨HF6.out.step hq7 (fun k h hl => by omega), ⟨nm, sz, dg⟩, p6, ok6, ?_, by show nm.length ≤ 255; omega, hsz', hdg, HR6.out.keep hq7 (by omega), hrel⟩
    rw [← HNB.out]
    rfl
  | true =>
    cases first with
    | true =>
      go_wp2_with fail
      go_at_call 153; refine (rmust_any _ rb s p2 ok2 _ HR2.out).mono ?_
      rintro e w3 ⟨rfl, hr3, hf3⟩
      have HF3 := Lib.hid (HF2.out.step hf3 (fun _ h _ => h))
      have HO3 := Lib.hid (HO2.out.keep hf3 (by omega))
      obtain ⟨ok3, hok3⟩ : ∃ b, (ok2 && true) = b := ⟨_, rfl⟩
      rw [hok3] at hr3
      have HK3 := Lib.hid hok3
      clear hf3 hok3
      go_wp2_with fail
      go_at_call 154; refine (rnum_any _ rb s p2 2 _ rfl ok3 hr3 hs (by omega)).mono ?_
      rintro e w4 ⟨sz, p4, ok4, rfl, hr4, hf4, hsz, hn4⟩
      have hsz' : sz < 65536 := hsz
      have HN4 := Lib.hid hn4
      have HF4 := Lib.hid (HF3.out.step hf4 (fun _ h _ => h))
      have HO4 := Lib.hid (HO3.out.keep hf4 (by omega))
      have HR4 := Lib.hid hr4
      have hcv4 : IntKind.i64.wrap (sz : Int) = (sz : Int) := IntWalk.i64_in _ (by omega)
      clear hn4 hf4 hr3 hr4 hsz
      go_wp2_with fail
      go_at_call 153; refine (rmust_any _ rb s p4 ok4 (decide ((sz : Int) ≤ 300)) HR4.out).mono ?_
      rintro e w5 ⟨rfl, hr5, hf5⟩
      have HF5 := Lib.hid (HF4.out.step hf5 (fun _ h _ => h))
      have HO5 := Lib.hid (HO4.out.keep hf5 (by omega))
      obtain ⟨ok5, hok5⟩ : ∃ b, (ok4 && decide ((sz : Int) ≤ 300)) = b := ⟨_, rfl⟩
      rw [hok5] at hr5
      have HK5 := Lib.hid hok5
      clear hf5 hok5
      go_wp2_with fail
      go_at_call 154; refine (rnum_any _ rb s p4 8 _ rfl ok5 hr5 hs (by omega)).mono ?_
      rintro e w6 ⟨dg, p6, ok6, rfl, hr6, hf6, hdg, hn6⟩
      have HN6 := Lib.hid hn6
      have HF6 := Lib.hid (HF5.out.step hf6 (fun _ h _ => h))
      have HO6 := Lib.hid (HO5.out.keep hf6 (by omega))
      have HR6 := Lib.hid hr6
      have r0 := HO6.out.cell (i := 0) rfl
      have r1 := HO6.out.cell (i := 1) rfl
      have r2 := HO6.out.cell (i := 2) rfl
      have rf0 := HO6.out.free 0 (by simp)
      have rf1 := HO6.out.free 1 (by simp)
      have rf2 := HO6.out.free 2 (by simp)
      clear hn6 hf6 hr5 hr6
      go_wp2_with fail
      have hq7 : Fr (fun k => k = w.heap.size) w6 (((w6.setCell ⟨w.heap.size, 0, none⟩ (.string nb)).setCell ⟨w.heap.size, 1, none⟩ (.int .i64 sz)).setCell ⟨w.heap.size, 2, none⟩ (.int .u64 dg)) :=
        (((Fr.refl (fun k => k = w.heap.size) w6).setCell ⟨w.heap.size, 0, none⟩ (.string nb) (fun _ => rfl)).setCell ⟨w.heap.size, 1, none⟩ (.int .i64 sz) (fun _ => rfl)).setCell ⟨w.heap.size, 2, none⟩ (.int .u64 dg) (fun _ => rfl)
      have hr7 := ((HO6.out.set 0 (.string nb)).set 1 (.int .i64 sz)).set 2 (.int .u64 dg)
      obtain ⟨fr7, hg7, -⟩ := hr7
      refine bodyPost_ret (results_cell_row (P := Tryz.prog) rfl _ _ w.heap.size _ _ fr7 _ rfl hg7 Tryz.underlying152 rfl (by kernel_rfl)) rfl ?_
      have hrel := ent_rel (last := last.data.toList) (first := true) (B := true) HN1.out HN2.out (by rw [hN]; rfl) HK3.out HN4.out HK5.out HN6.out
      rw [HOO.out] at hrel
      refine ⟨HF6.out.step hq7 (fun k h hl => by omega), ⟨nm, sz, dg⟩, p6, ok6, ?_, by show nm.length ≤ 255; omega, hsz', hdg, HR6.out.keep hq7 (by omega), hrel⟩
      rw [← HNB.out]
      rfl
    | false =>
      have hgt := run_behind2 nb last w2 9
      rw [HNBL.out] at hgt
      cases hB : behind nm last.data.toList with
      | false =>
        rw [hB] at hgt
        go_wp2_with fail
        go_at_call 153; refine (rmust_any _ rb s p2 ok2 _ HR2.out).mono ?_
        rintro e w3 ⟨rfl, hr3, hf3⟩
        have HF3 := Lib.hid (HF2.out.step hf3 (fun _ h _ => h))
        have HO3 := Lib.hid (HO2.out.keep hf3 (by omega))
        obtain ⟨ok3, hok3⟩ : ∃ b, (ok2 && false) = b := ⟨_, rfl⟩
        rw [hok3] at hr3
        have HK3 := Lib.hid hok3
        clear hf3 hok3
        go_wp2_with fail
        go_at_call 154; refine (rnum_any _ rb s p2 2 _ rfl ok3 hr3 hs (by omega)).mono ?_
        rintro e w4 ⟨sz, p4, ok4, rfl, hr4, hf4, hsz, hn4⟩
        have hsz' : sz < 65536 := hsz
        have HN4 := Lib.hid hn4
        have HF4 := Lib.hid (HF3.out.step hf4 (fun _ h _ => h))
        have HO4 := Lib.hid (HO3.out.keep hf4 (by omega))
        have HR4 := Lib.hid hr4
        have hcv4 : IntKind.i64.wrap (sz : Int) = (sz : Int) := IntWalk.i64_in _ (by omega)
        clear hn4 hf4 hr3 hr4 hsz
        go_wp2_with fail
        go_at_call 153; refine (rmust_any _ rb s p4 ok4 (decide ((sz : Int) ≤ 300)) HR4.out).mono ?_
        rintro e w5 ⟨rfl, hr5, hf5⟩
        have HF5 := Lib.hid (HF4.out.step hf5 (fun _ h _ => h))
        have HO5 := Lib.hid (HO4.out.keep hf5 (by omega))
        obtain ⟨ok5, hok5⟩ : ∃ b, (ok4 && decide ((sz : Int) ≤ 300)) = b := ⟨_, rfl⟩
        rw [hok5] at hr5
        have HK5 := Lib.hid hok5
        clear hf5 hok5
        go_wp2_with fail
        go_at_call 154; refine (rnum_any _ rb s p4 8 _ rfl ok5 hr5 hs (by omega)).mono ?_
        rintro e w6 ⟨dg, p6, ok6, rfl, hr6, hf6, hdg, hn6⟩
        have HN6 := Lib.hid hn6
        have HF6 := Lib.hid (HF5.out.step hf6 (fun _ h _ => h))
        have HO6 := Lib.hid (HO5.out.keep hf6 (by omega))
        have HR6 := Lib.hid hr6
        have r0 := HO6.out.cell (i := 0) rfl
        have r1 := HO6.out.cell (i := 1) rfl
        have r2 := HO6.out.cell (i := 2) rfl
        have rf0 := HO6.out.free 0 (by simp)
        have rf1 := HO6.out.free 1 (by simp)
        have rf2 := HO6.out.free 2 (by simp)
        clear hn6 hf6 hr5 hr6
        go_wp2_with fail
        have hq7 : Fr (fun k => k = w.heap.size) w6 (((w6.setCell ⟨w.heap.size, 0, none⟩ (.string nb)).setCell ⟨w.heap.size, 1, none⟩ (.int .i64 sz)).setCell ⟨w.heap.size, 2, none⟩ (.int .u64 dg)) :=
          (((Fr.refl (fun k => k = w.heap.size) w6).setCell ⟨w.heap.size, 0, none⟩ (.string nb) (fun _ => rfl)).setCell ⟨w.heap.size, 1, none⟩ (.int .i64 sz) (fun _ => rfl)).setCell ⟨w.heap.size, 2, none⟩ (.int .u64 dg) (fun _ => rfl)
        have hr7 := ((HO6.out.set 0 (.string nb)).set 1 (.int .i64 sz)).set 2 (.int .u64 dg)
        obtain ⟨fr7, hg7, -⟩ := hr7
        refine bodyPost_ret (results_cell_row (P := Tryz.prog) rfl _ _ w.heap.size _ _ fr7 _ rfl hg7 Tryz.underlying152 rfl (by kernel_rfl)) rfl ?_
        have hrel := ent_rel (last := last.data.toList) (first := false) (B := false) HN1.out HN2.out (by rw [hN, hB]; rfl) HK3.out HN4.out HK5.out HN6.out
        rw [HOO.out] at hrel
        refine ⟨HF6.out.step hq7 (fun k h hl => by omega), ⟨nm, sz, dg⟩, p6, ok6, ?_, by show nm.length ≤ 255; omega, hsz', hdg, HR6.out.keep hq7 (by omega), hrel⟩
        rw [← HNB.out]
        rfl
      | true =>
        rw [hB] at hgt
        go_wp2_with fail
        go_at_call 153; refine (rmust_any _ rb s p2 ok2 _ HR2.out).mono ?_
        rintro e w3 ⟨rfl, hr3, hf3⟩
        have HF3 := Lib.hid (HF2.out.step hf3 (fun _ h _ => h))
        have HO3 := Lib.hid (HO2.out.keep hf3 (by omega))
        obtain ⟨ok3, hok3⟩ : ∃ b, (ok2 && true) = b := ⟨_, rfl⟩
        rw [hok3] at hr3
        have HK3 := Lib.hid hok3
        clear hf3 hok3
        go_wp2_with fail
        go_at_call 154; refine (rnum_any _ rb s p2 2 _ rfl ok3 hr3 hs (by omega)).mono ?_
        rintro e w4 ⟨sz, p4, ok4, rfl, hr4, hf4, hsz, hn4⟩
        have hsz' : sz < 65536 := hsz
        have HN4 := Lib.hid hn4
        have HF4 := Lib.hid (HF3.out.step hf4 (fun _ h _ => h))
        have HO4 := Lib.hid (HO3.out.keep hf4 (by omega))
        have HR4 := Lib.hid hr4
        have hcv4 : IntKind.i64.wrap (sz : Int) = (sz : Int) := IntWalk.i64_in _ (by omega)
        clear hn4 hf4 hr3 hr4 hsz
        go_wp2_with fail
        go_at_call 153; refine (rmust_any _ rb s p4 ok4 (decide ((sz : Int) ≤ 300)) HR4.out).mono ?_
        rintro e w5 ⟨rfl, hr5, hf5⟩
        have HF5 := Lib.hid (HF4.out.step hf5 (fun _ h _ => h))
        have HO5 := Lib.hid (HO4.out.keep hf5 (by omega))
        obtain ⟨ok5, hok5⟩ : ∃ b, (ok4 && decide ((sz : Int) ≤ 300)) = b := ⟨_, rfl⟩
        rw [hok5] at hr5
        have HK5 := Lib.hid hok5
        clear hf5 hok5
        go_wp2_with fail
        go_at_call 154; refine (rnum_any _ rb s p4 8 _ rfl ok5 hr5 hs (by omega)).mono ?_
        rintro e w6 ⟨dg, p6, ok6, rfl, hr6, hf6, hdg, hn6⟩
        have HN6 := Lib.hid hn6
        have HF6 := Lib.hid (HF5.out.step hf6 (fun _ h _ => h))
        have HO6 := Lib.hid (HO5.out.keep hf6 (by omega))
        have HR6 := Lib.hid hr6
        have r0 := HO6.out.cell (i := 0) rfl
        have r1 := HO6.out.cell (i := 1) rfl
        have r2 := HO6.out.cell (i := 2) rfl
        have rf0 := HO6.out.free 0 (by simp)
        have rf1 := HO6.out.free 1 (by simp)
        have rf2 := HO6.out.free 2 (by simp)
        clear hn6 hf6 hr5 hr6
        go_wp2_with fail
        have hq7 : Fr (fun k => k = w.heap.size) w6 (((w6.setCell ⟨w.heap.size, 0, none⟩ (.string nb)).setCell ⟨w.heap.size, 1, none⟩ (.int .i64 sz)).setCell ⟨w.heap.size, 2, none⟩ (.int .u64 dg)) :=
          (((Fr.refl (fun k => k = w.heap.size) w6).setCell ⟨w.heap.size, 0, none⟩ (.string nb) (fun _ => rfl)).setCell ⟨w.heap.size, 1, none⟩ (.int .i64 sz) (fun _ => rfl)).setCell ⟨w.heap.size, 2, none⟩ (.int .u64 dg) (fun _ => rfl)
        have hr7 := ((HO6.out.set 0 (.string nb)).set 1 (.int .i64 sz)).set 2 (.int .u64 dg)
        obtain ⟨fr7, hg7, -⟩ := hr7
        refine bodyPost_ret (results_cell_row (P := Tryz.prog) rfl _ _ w.heap.size _ _ fr7 _ rfl hg7 Tryz.underlying152 rfl (by kernel_rfl)) rfl ?_
        have hrel := ent_rel (last := last.data.toList) (first := false) (B := true) HN1.out HN2.out (by rw [hN, hB]; rfl) HK3.out HN4.out HK5.out HN6.out
        rw [HOO.out] at hrel
        refine ⟨HF6.out.step hq7 (fun k h hl => by omega), ⟨nm, sz, dg⟩, p6, ok6, ?_, by show nm.length ≤ 255; omega, hsz', hdg, HR6.out.keep hq7 (by omega), hrel⟩
        rw [← HNB.out]
        rfl
end Go.Proofs.YtlcdgbhigfgehabGreatDoor
