/- The law Applies: Apply of any tokens (out of a text; one token more of raw numbers) to any file is the document's. -/
import Derived.Test.YtlcdgbhigfgehaaDoorPlainApply
import Derived.Test.YtlcdgbhigfgehaaDoorRefApply
import Derived.Test.YtlcdgbhigfgehaaDoorTokWalk
import Derived.Test.YtlcdgbhigfgehaaDoorAlike
namespace Go.Proofs.YtlcdgbhigfgehaaDoor
open Go.RowKit
set_option maxRecDepth 100000

theorem IsB.lt {w : World} {v : Value} {l : List UInt8} (h : IsB w v l) : ∀ b, v.ownBlock = some b → b < w.heap.size := by
  intro b hb
  rcases h with ⟨rfl, _⟩ | ⟨b', off, cap, cur, fr, rfl, _, _, h3, _⟩
  · simp [Value.ownBlock] at hb
  · simp [Value.ownBlock] at hb
    subst hb
    exact (Array.getElem?_eq_some_iff.1 h3).1
/-- A write into a block that is younger than the tokens leaves them alone. -/
theorem Toks.young {w w1 : World} {S : Nat → Prop} {B : Nat} {v : Value} {l : List (Tok × Value)} (h : Toks w B v l) (k : Fr S w w1) (hS : ∀ b, S b → w.heap.size ≤ b) : Toks w1 B v l :=
  h.keep k (fun b hb hs => by have := (h.vec.lt b hb).2; have := hS b hs; omega) (fun p hp b hb hs => by have := (h.data p hp).lt b hb; have := hS b hs; omega)
/-- One raw token more. -/
theorem Toks.raw {w w1 : World} {B : Nat} {v v' : Value} {l : List (Tok × Value)} (h : Toks w B v l) (f n : Int) (hv : Vec w1 B 30 3 v' (l.length + 1) (tokCells l ++ [.int .i64 f, .int .i64 n, .slice none 0 0])) (k : Fr (fun k => v.ownBlock = some k) w w1) :
    Toks w1 B v' (l ++ [(⟨f, n, []⟩, .slice none 0 0)]) := h.snoc (t := ⟨f, n, []⟩) hv k (.inl ⟨rfl, rfl⟩) (fun k hk => by simp [Value.ownBlock] at hk)

set_option maxHeartbeats 4000000 in
theorem applies_walk (s t : ByteArray) (block f n : Int) (w : World) (hg : ErrType w) (_hs : s.size ≤ maxLen) (_ht : t.size ≤ maxLen) (_b1 : -9223372036854775808 ≤ block) (_b2 : block ≤ 9223372036854775807) (_f1 : -9223372036854775808 ≤ f) (_f2 : f ≤ 9223372036854775807) (_n1 : -9223372036854775808 ≤ n) (_n2 : n ≤ 9223372036854775807) :
    Calls Tryd.prog 4 #[.string s, .string t, .int .i64 block, .int .i64 f, .int .i64 n] w fun e w' => e = .returned (.bool true) ∧ Fr (fun _ => False) w w' := by
  unfold maxLen at _hs _ht
  by_cases hs1 : 65536 < s.size
  · go_enter Tryd.func4, Tryd.ntmps4
    go_wp2_with fail
    go_ret
    exact ⟨rfl, Fr.refl _ _⟩
  by_cases ht1 : 65536 < t.size
  · go_enter Tryd.func4, Tryd.ntmps4
    go_wp2_with fail
    go_ret
    exact ⟨rfl, Fr.refl _ _⟩
  have hnil := fun (W : World) (a : Option Addr) (m c : Nat) => Lib.run_eql_slice_nil (P := Tryd.prog) W 25 5 a m c 0 0 Tryd.underlying25
  clear _hs _ht _b1 _b2 _f1 _f2 _n1 _n2
  have hsl : s.data.toList.length = s.size := by simp
  have HSL := Lib.hid hsl
  clear hsl
  go_enter Tryd.func4, Tryd.ntmps4
  go_wp2_with fail
  refine (roomy_any _ _ (by omega)).mono ?_
  rintro e w1 ⟨gb, rfl, hgb, hro, hf1⟩
  go_wp2_with fail
  refine (tokens_any _ _ (by omega)).mono ?_
  rintro e w2 ⟨v1, l1, rfl, ht1', hm1, hf2⟩
  go_wp2_with fail
  refine (tokens_any _ _ (by omega)).mono ?_
  rintro e w3 ⟨v2, l2, rfl, ht2', hm2, hf3⟩
  have hn1 : l1.length ≤ 25000 := by
    have := congrArg List.length hm1
    have h := tokList_len t.data.toList
    simp at this h; omega
  have hn2 : l2.length ≤ 25000 := by
    have := congrArg List.length hm2
    have h := tokList_len t.data.toList
    simp at this h; omega
  have hd1 : ∀ p ∈ l1, p.1.d.length ≤ 1000 := fun p hp => by
    have := tokList_data t.data.toList p.1 (by rw [← hm1]; exact List.mem_map_of_mem hp)
    omega
  have hd2 : ∀ p ∈ l2, p.1.d.length ≤ 1000 := fun p hp => by
    have := tokList_data t.data.toList p.1 (by rw [← hm2]; exact List.mem_map_of_mem hp)
    omega
  have hmm : l1.map (·.1) = l2.map (·.1) := hm1.trans hm2.symm
  have hrow : ∀ b, v1.ownBlock = some b → b < w2.heap.size := fun b hb => (ht1'.vec.lt b hb).2
  have hdat : ∀ p ∈ l1, ∀ b, p.2.ownBlock = some b → b < w2.heap.size := fun p hp b hb => (ht1'.data p hp).lt b hb
  have HT1 := Lib.hid (ht1'.keep0 hf3)
  have HT2 := Lib.hid ht2'
  have HF3 := Lib.hid ((hf1.step hf2 (fun _ h _ => h)).step hf3 (fun _ h _ => h))
  have HRO := Lib.hid (hro.keep (hf2.step hf3 (fun _ h _ => h)) id)
  have HG := Lib.hid (hg.keep HF3.out id)
  have HGL0 := Lib.hid (Nat.lt_of_lt_of_le hg.lt hf1.size)
  have hz1 : w.heap.size ≤ w1.heap.size := hf1.size
  have hz2 : w1.heap.size ≤ w2.heap.size := hf2.size
  have hz3 : w2.heap.size ≤ w3.heap.size := hf3.size
  have hgl : gb < w1.heap.size := hro.lt
  have HD1 := Lib.hid hd1
  have HD2 := Lib.hid hd2
  have HMM := Lib.hid hmm
  obtain ⟨a1, c1, hv1, -⟩ := ht1'.vec.shape
  obtain ⟨a2, c2, hv2, -⟩ := ht2'.vec.shape
  subst hv1 hv2
  have HROW := Lib.hid hrow
  have HDAT := Lib.hid hdat
  clear hrow hdat hd1 hd2 hmm hm1 hm2 ht1' ht2' hf1 hf2 hf3 hro hg
  by_cases hn : n = 0
  · subst hn
    go_wp2_with fail
    refine (papply_any _ _ s.data.toList l1 block _ _ HG.out (roomy_isB (by omega) HRO.out) HT1.out HD1.out).mono ?_
    rintro e w6 ⟨d, k, rfl, hap, hf6⟩
    have hz6 : w3.heap.size ≤ w6.heap.size := hf6.size
    have HRO6 := Lib.hid (HRO.out.keep hf6 id)
    have HT16 := Lib.hid (HT1.out.keep0 hf6)
    have HT26 := Lib.hid (HT2.out.keep0 hf6)
    have HF6 := Lib.hid (HF3.out.step hf6 (fun _ h _ => h))
    have FR6 := Lib.hid hf6
    clear hf6
    by_cases hsz : sized block s.size = 0
    · have hblk : 1 ≤ block := by unfold sized at hsz; split at hsz <;> omega
      obtain ⟨blk, rfl⟩ := Int.eq_ofNat_of_zero_le (a := block) (by omega)
      have hak : applyK s.data.toList blk (l1.map (·.1)) = applyF s.data.toList blk (l2.map (·.1)) [] := by
        unfold applyK
        rw [HSL.out, if_pos hsz, Int.toNat_natCast, HMM.out]
      rw [hak] at hap
      clear hak
      have HSZ := Lib.hid hsz
      clear hsz
      generalize hr : applyF s.data.toList blk (l2.map (·.1)) [] = r at hap
      have HR := Lib.hid hr
      clear hr
      cases r with
      | inl e =>
        obtain ⟨rfl, rfl⟩ := hap
        have hk0 : k ≠ 0 := by
          have := applyF_err _ _ _ _ _ HR.out
          omega
        have hk0' : (k != 0) = true := by simpa using hk0
        go_wp2_with fail
        refine (still_any _ _ _ (by omega) HRO6.out).mono ?_
        rintro e w' ⟨rfl, rfl⟩
        go_wp2_with fail
        refine (alike_any _ _ _ _ _ _ _ HT16.out HT26.out HMM.out).mono ?_
        rintro e w7 ⟨rfl, hf7⟩
        go_wp2_with fail
        refine (sized_any _ _ s.size _ rfl).mono ?_
        rintro e w' ⟨rfl, rfl⟩
        rw [HSZ.out]
        go_wp2_with fail
        refine (rapply_any s _ _ blk _ _ (HT26.out.keep0 hf7) HSZ.out HD2.out).mono ?_
        rintro e w8 ⟨rs, rk, rfl, hra, hf8⟩
        rw [HR.out] at hra
        obtain ⟨rfl, rfl⟩ := hra
        go_wp2_with fail
        go_ret
        exact ⟨rfl, (HF6.out.step hf7 (fun _ h _ => h)).step hf8 (fun _ h _ => h)⟩
      | inr o =>
        obtain ⟨rfl, hvec⟩ := hap
        obtain ⟨ad, cd, rfl, -⟩ := hvec.shape
        have HVEC := Lib.hid hvec
        clear hvec
        go_wp2_with fail
        refine (still_any _ _ _ (by omega) HRO6.out).mono ?_
        rintro e w' ⟨rfl, rfl⟩
        go_wp2_with fail
        refine (alike_any _ _ _ _ _ _ _ HT16.out HT26.out HMM.out).mono ?_
        rintro e w7 ⟨rfl, hf7⟩
        have HF7 := Lib.hid hf7
        have hz7 : w6.heap.size ≤ w7.heap.size := hf7.size
        clear hf7
        go_wp2_with fail
        refine (sized_any _ _ s.size _ rfl).mono ?_
        rintro e w' ⟨rfl, rfl⟩
        rw [HSZ.out]
        go_wp2_with fail
        refine (rapply_any s _ _ blk _ _ (HT26.out.keep0 HF7.out) HSZ.out HD2.out).mono ?_
        rintro e w8 ⟨rs, rk, rfl, hra, hf8⟩
        rw [HR.out] at hra
        obtain ⟨rfl, hrs⟩ := hra
        have hF8 : Fr (fun _ => False) w6 w8 := HF7.out.step hf8 (fun _ h _ => h)
        have hz8 : w6.heap.size ≤ w8.heap.size := hF8.size
        have hvec8 := HVEC.out.keep hF8 (fun _ _ h => h)
        have hcv := run_string_of (P := Tryd.prog) w8 25 9 5 _ _ Tryd.underlying25 Tryd.underlying5 Tryd.underlying9 hvec8.isB
        rw [show (⟨o.toArray⟩ : ByteArray) = rs by rw [← hrs]] at hcv
        have HF8 := Lib.hid hF8
        have HRS := Lib.hid hrs
        clear hF8 hrs hf8
        have hcase := hvec8.cases
        have HV8 := Lib.hid hvec8
        clear hvec8
        rcases hcase with ⟨hq, hq2, -⟩ | ⟨gd, cd', rest, hq, hq1, hq2, hq3, hq4, hq5⟩
        · simp only [Value.slice.injEq] at hq
          obtain ⟨rfl, -, rfl⟩ := hq
          rw [hq2] at hcv ⊢
          clear hq2
          go_wp2_with fail
          refine (spoilt_nil _).mono ?_
          rintro e w' ⟨rfl, rfl⟩
          go_wp2_with fail
          refine (still_any _ _ _ (by omega) (HRO6.out.keep HF8.out id)).mono ?_
          rintro e w' ⟨rfl, rfl⟩
          go_wp2_with fail
          refine (alike_any _ _ _ _ _ _ _ (HT16.out.keep0 HF8.out) (HT26.out.keep0 HF8.out) HMM.out).mono ?_
          rintro e w9 ⟨rfl, hf9⟩
          go_wp2_with fail
          go_ret
          exact ⟨rfl, (HF6.out.step HF8.out (fun _ h _ => h)).step hf9 (fun _ h _ => h)⟩
        · simp only [Value.slice.injEq, true_and] at hq
          obtain ⟨rfl, rfl⟩ := hq
          have HQ2 := Lib.hid hq2
          have HQ3 := Lib.hid hq3
          clear hq2 hq3
          go_wp2_with fail
          refine (spoilt_row _ _ _ _ _ HQ2.out (by rw [HQ3.out, Nat.mul_one]) hq4 hq5).mono ?_
          rintro e w9 ⟨rfl, -, hf9⟩
          have hro9 := (HRO6.out.keep HF8.out id).keep hf9 (fun h => by omega)
          have ht19 := (HT16.out.keep0 HF8.out)
          have hFF : Hid (Fr (fun b => b = gd) w3 w8) := ((FR6.out.step HF8.out (fun _ h _ => h)).mono (fun _ h _ => h.elim))
          have hold : ∀ (B : Nat) (v : Value) (l : List (Tok × Value)), Toks w3 B v l → Toks w9 B v l := fun B v l h =>
            h.young (hFF.out.step hf9 (fun _ h _ => h)) (fun b hb => by have hb' : b = gd := hb; omega)
          clear ht19
          have HOLD := Lib.hid hold
          have HF9 := Lib.hid hf9
          clear hold hf9
          go_wp2_with fail
          refine (still_any _ _ _ (by omega) hro9).mono ?_
          rintro e w' ⟨rfl, rfl⟩
          go_wp2_with fail
          refine (alike_any _ _ _ _ _ _ _ (HOLD.out _ _ _ HT1.out) (HOLD.out _ _ _ HT2.out) HMM.out).mono ?_
          rintro e w10 ⟨rfl, hf10⟩
          go_wp2_with fail
          go_ret
          exact ⟨rfl, ((HF6.out.step HF8.out (fun _ h _ => h)).step HF9.out (fun b hb hl => by have hb' : b = gd := hb; omega)).step hf10 (fun _ h _ => h)⟩
    · have hak : applyK s.data.toList block (l1.map (·.1)) = .inl (sized block s.size) := by
        unfold applyK
        rw [HSL.out, if_neg hsz]
      rw [hak] at hap
      obtain ⟨rfl, rfl⟩ := hap
      clear hak
      have hsz' : (sized block s.size != 0) = true := by simpa using hsz
      clear hsz
      go_wp2_with fail
      refine (still_any _ _ _ (by omega) HRO6.out).mono ?_
      rintro e w' ⟨rfl, rfl⟩
      go_wp2_with fail
      refine (alike_any _ _ _ _ _ _ _ HT16.out HT26.out HMM.out).mono ?_
      rintro e w7 ⟨rfl, hf7⟩
      go_wp2_with fail
      refine (sized_any _ _ s.size _ rfl).mono ?_
      rintro e w' ⟨rfl, rfl⟩
      go_wp2_with fail
      go_ret
      exact ⟨rfl, HF6.out.step hf7 (fun _ h _ => h)⟩
  · have hn' : (n != 0) = true := by simpa using hn
    go_wp2_with (first | (at_builtin; refine wpList_append_vec rfl (.tmp 36) (.tmp 40) _ rfl w1.heap.size 30 3 40 elt_tok (HT1.out.vec.keep ((Fr.refl (fun _ => False) _).alloc _) (fun _ _ h => h)) rfl (m := 1) (Reads.new _ _ _ _ (by simp) _ _) rfl rfl (tok_one _ _ _ _ _) (by unfold maxLen; omega) (by omega) (by simp; omega) ?_; intro v4 w4 hv4 hf4 hd4 hn4; obtain ⟨a4, c4, hsh, -⟩ := hv4.shape; subst hsh; have HV4 := Lib.hid hv4; have HF4 := Lib.hid hf4; have HD4 := Lib.hid hd4; have HT24 := Lib.hid ((HT2.out.keep0 ((Fr.refl (fun _ => False) w3).alloc _)).below hf4 (fun b hb => HROW.out b hb)); have hz4 : w3.heap.size ≤ w4.heap.size := Nat.le_trans (by simp) hf4.size; clear hv4 hf4 hd4 hn4) | (at_builtin; refine wpList_append_vec rfl (.tmp 42) (.tmp 46) _ rfl w2.heap.size 30 3 40 elt_tok (HT24.out.vec.keep ((Fr.refl (fun _ => False) _).alloc _) (fun _ _ h => h)) rfl (m := 1) (Reads.new _ _ _ _ (by simp) _ _) rfl rfl (tok_one _ _ _ _ _) (by unfold maxLen; omega) (by omega) (by simp; omega) ?_; intro v5 w5 hv5 hf5 hd5 hn5; obtain ⟨a5, c5, hsh, -⟩ := hv5.shape; subst hsh; have HV5 := Lib.hid hv5; have HF5 := Lib.hid hf5; have hz5 : w4.heap.size ≤ w5.heap.size := Nat.le_trans (by simp) hf5.size; clear hv5 hf5 hd5 hn5))
    have hr2 := fun b hb => (HT2.out.vec.lt b hb)
    have h14 : Toks w4 w1.heap.size (.slice a4 (l1.length + 1) c4) (l1 ++ [(⟨f, n, []⟩, .slice none 0 0)]) := (HT1.out.keep0 ((Fr.refl (fun _ => False) w3).alloc _)).raw f n HV4.out HF4.out
    have h15 : Toks w5 w1.heap.size (.slice a4 (l1.length + 1) c4) (l1 ++ [(⟨f, n, []⟩, .slice none 0 0)]) := by
      refine (h14.keep0 ((Fr.refl (fun _ => False) w4).alloc _)).keep HF5.out (fun b hb hs => ?_) (fun p hp b hb hs => ?_)
      · have h2 := hr2 b hs
        rcases HD4.out with h | ⟨g, h, h'⟩
        · have := HROW.out b (h ▸ hb); omega
        · rw [h] at hb
          simp at hb h'
          omega
      · have h2 := hr2 b hs
        rcases List.mem_append.1 hp with hp | hp
        · have := HDAT.out p hp b hb; omega
        · simp at hp; subst hp; simp [Value.ownBlock] at hb
    have h25 : Toks w5 w2.heap.size (.slice a5 (l2.length + 1) c5) (l2 ++ [(⟨f, n, []⟩, .slice none 0 0)]) := (HT24.out.keep0 ((Fr.refl (fun _ => False) w4).alloc _)).raw f n HV5.out HF5.out
    have hf35 : Fr (fun b => w1.heap.size ≤ b) w3 w5 :=
      ((((Fr.refl (fun b => w1.heap.size ≤ b) w3).alloc _).step HF4.out (fun b hb _ => (HT1.out.vec.lt b hb).1)).alloc _).step HF5.out (fun b hb _ => by have := hr2 b hb; omega)
    have HFN := Lib.hid (HF3.out.step hf35 (fun b hb hl => by omega))
    have HRON := Lib.hid (HRO.out.keep hf35 (by omega))
    have HGN := Lib.hid (HG.out.keep hf35 (by have := HG.out.lt; have := hz1; have h0 := HGL0.out; omega))
    have HT1N := Lib.hid h15
    have HT2N := Lib.hid h25
    have HD1N : Hid (∀ p ∈ l1 ++ [((⟨f, n, []⟩ : Tok), Value.slice none 0 0)], p.1.d.length ≤ 1000) := fun p hp => by
      rcases List.mem_append.1 hp with hp | hp
      · exact HD1.out p hp
      · simp at hp; subst hp; simp
    have HD2N : Hid (∀ p ∈ l2 ++ [((⟨f, n, []⟩ : Tok), Value.slice none 0 0)], p.1.d.length ≤ 1000) := fun p hp => by
      rcases List.mem_append.1 hp with hp | hp
      · exact HD2.out p hp
      · simp at hp; subst hp; simp
    have HMMN : Hid ((l1 ++ [((⟨f, n, []⟩ : Tok), Value.slice none 0 0)]).map (·.1) = (l2 ++ [((⟨f, n, []⟩ : Tok), Value.slice none 0 0)]).map (·.1)) := by
      show _ = _
      rw [List.map_append, List.map_append, HMM.out]
    clear h14 h15 h25 hf35 hr2 HV4 HF4 HD4 HT24 HV5 HF5 HROW HDAT HF3 HRO HG HT1 HT2 HD1 HD2 HMM
    refine (papply_any _ _ s.data.toList (l1 ++ [((⟨f, n, []⟩ : Tok), Value.slice none 0 0)]) block _ _ HGN.out (roomy_isB (by omega) HRON.out) HT1N.out HD1N.out).mono ?_
    rintro e w6 ⟨d, k, rfl, hap, hf6⟩
    have hz6 : w5.heap.size ≤ w6.heap.size := hf6.size
    have HRO6 := Lib.hid (HRON.out.keep hf6 id)
    have HT16 := Lib.hid (HT1N.out.keep0 hf6)
    have HT26 := Lib.hid (HT2N.out.keep0 hf6)
    have HF6 := Lib.hid (HFN.out.step hf6 (fun _ h _ => h))
    have FR6 := Lib.hid hf6
    clear hf6
    by_cases hsz : sized block s.size = 0
    · have hblk : 1 ≤ block := by unfold sized at hsz; split at hsz <;> omega
      obtain ⟨blk, rfl⟩ := Int.eq_ofNat_of_zero_le (a := block) (by omega)
      have hak : applyK s.data.toList blk ((l1 ++ [((⟨f, n, []⟩ : Tok), Value.slice none 0 0)]).map (·.1)) = applyF s.data.toList blk ((l2 ++ [((⟨f, n, []⟩ : Tok), Value.slice none 0 0)]).map (·.1)) [] := by
        unfold applyK
        rw [HSL.out, if_pos hsz, Int.toNat_natCast, HMMN.out]
      rw [hak] at hap
      clear hak
      have HSZ := Lib.hid hsz
      clear hsz
      generalize hr : applyF s.data.toList blk ((l2 ++ [((⟨f, n, []⟩ : Tok), Value.slice none 0 0)]).map (·.1)) [] = r at hap
      have HR := Lib.hid hr
      clear hr
      cases r with
      | inl e =>
        obtain ⟨rfl, rfl⟩ := hap
        have hk0 : k ≠ 0 := by
          have := applyF_err _ _ _ _ _ HR.out
          omega
        have hk0' : (k != 0) = true := by simpa using hk0
        go_wp2_with fail
        refine (still_any _ _ _ (by omega) HRO6.out).mono ?_
        rintro e w' ⟨rfl, rfl⟩
        go_wp2_with fail
        refine (alike_any _ _ _ _ _ _ _ HT16.out HT26.out HMMN.out).mono ?_
        rintro e w7 ⟨rfl, hf7⟩
        go_wp2_with fail
        refine (sized_any _ _ s.size _ rfl).mono ?_
        rintro e w' ⟨rfl, rfl⟩
        rw [HSZ.out]
        go_wp2_with fail
        refine (rapply_any s _ _ blk _ _ (HT26.out.keep0 hf7) HSZ.out HD2N.out).mono ?_
        rintro e w8 ⟨rs, rk, rfl, hra, hf8⟩
        rw [HR.out] at hra
        obtain ⟨rfl, rfl⟩ := hra
        go_wp2_with fail
        go_ret
        exact ⟨rfl, (HF6.out.step hf7 (fun _ h _ => h)).step hf8 (fun _ h _ => h)⟩
      | inr o =>
        obtain ⟨rfl, hvec⟩ := hap
        obtain ⟨ad, cd, rfl, -⟩ := hvec.shape
        have HVEC := Lib.hid hvec
        clear hvec
        go_wp2_with fail
        refine (still_any _ _ _ (by omega) HRO6.out).mono ?_
        rintro e w' ⟨rfl, rfl⟩
        go_wp2_with fail
        refine (alike_any _ _ _ _ _ _ _ HT16.out HT26.out HMMN.out).mono ?_
        rintro e w7 ⟨rfl, hf7⟩
        have HF7 := Lib.hid hf7
        have hz7 : w6.heap.size ≤ w7.heap.size := hf7.size
        clear hf7
        go_wp2_with fail
        refine (sized_any _ _ s.size _ rfl).mono ?_
        rintro e w' ⟨rfl, rfl⟩
        rw [HSZ.out]
        go_wp2_with fail
        refine (rapply_any s _ _ blk _ _ (HT26.out.keep0 HF7.out) HSZ.out HD2N.out).mono ?_
        rintro e w8 ⟨rs, rk, rfl, hra, hf8⟩
        rw [HR.out] at hra
        obtain ⟨rfl, hrs⟩ := hra
        have hF8 : Fr (fun _ => False) w6 w8 := HF7.out.step hf8 (fun _ h _ => h)
        have hz8 : w6.heap.size ≤ w8.heap.size := hF8.size
        have hvec8 := HVEC.out.keep hF8 (fun _ _ h => h)
        have hcv := run_string_of (P := Tryd.prog) w8 25 9 5 _ _ Tryd.underlying25 Tryd.underlying5 Tryd.underlying9 hvec8.isB
        rw [show (⟨o.toArray⟩ : ByteArray) = rs by rw [← hrs]] at hcv
        have HF8 := Lib.hid hF8
        have HRS := Lib.hid hrs
        clear hF8 hrs hf8
        have hcase := hvec8.cases
        have HV8 := Lib.hid hvec8
        clear hvec8
        rcases hcase with ⟨hq, hq2, -⟩ | ⟨gd, cd', rest, hq, hq1, hq2, hq3, hq4, hq5⟩
        · simp only [Value.slice.injEq] at hq
          obtain ⟨rfl, -, rfl⟩ := hq
          rw [hq2] at hcv ⊢
          clear hq2
          go_wp2_with fail
          refine (spoilt_nil _).mono ?_
          rintro e w' ⟨rfl, rfl⟩
          go_wp2_with fail
          refine (still_any _ _ _ (by omega) (HRO6.out.keep HF8.out id)).mono ?_
          rintro e w' ⟨rfl, rfl⟩
          go_wp2_with fail
          refine (alike_any _ _ _ _ _ _ _ (HT16.out.keep0 HF8.out) (HT26.out.keep0 HF8.out) HMMN.out).mono ?_
          rintro e w9 ⟨rfl, hf9⟩
          go_wp2_with fail
          go_ret
          exact ⟨rfl, (HF6.out.step HF8.out (fun _ h _ => h)).step hf9 (fun _ h _ => h)⟩
        · simp only [Value.slice.injEq, true_and] at hq
          obtain ⟨rfl, rfl⟩ := hq
          have HQ2 := Lib.hid hq2
          have HQ3 := Lib.hid hq3
          clear hq2 hq3
          go_wp2_with fail
          refine (spoilt_row _ _ _ _ _ HQ2.out (by rw [HQ3.out, Nat.mul_one]) hq4 hq5).mono ?_
          rintro e w9 ⟨rfl, -, hf9⟩
          have hro9 := (HRO6.out.keep HF8.out id).keep hf9 (fun h => by omega)
          have ht19 := (HT16.out.keep0 HF8.out)
          have hFF : Hid (Fr (fun b => b = gd) w5 w8) := ((FR6.out.step HF8.out (fun _ h _ => h)).mono (fun _ h _ => h.elim))
          have hold : ∀ (B : Nat) (v : Value) (l : List (Tok × Value)), Toks w5 B v l → Toks w9 B v l := fun B v l h =>
            h.young (hFF.out.step hf9 (fun _ h _ => h)) (fun b hb => by have hb' : b = gd := hb; omega)
          clear ht19
          have HOLD := Lib.hid hold
          have HF9 := Lib.hid hf9
          clear hold hf9
          go_wp2_with fail
          refine (still_any _ _ _ (by omega) hro9).mono ?_
          rintro e w' ⟨rfl, rfl⟩
          go_wp2_with fail
          refine (alike_any _ _ _ _ _ _ _ (HOLD.out _ _ _ HT1N.out) (HOLD.out _ _ _ HT2N.out) HMMN.out).mono ?_
          rintro e w10 ⟨rfl, hf10⟩
          go_wp2_with fail
          go_ret
          exact ⟨rfl, ((HF6.out.step HF8.out (fun _ h _ => h)).step HF9.out (fun b hb hl => by have hb' : b = gd := hb; omega)).step hf10 (fun _ h _ => h)⟩
    · have hak : applyK s.data.toList block ((l1 ++ [((⟨f, n, []⟩ : Tok), Value.slice none 0 0)]).map (·.1)) = .inl (sized block s.size) := by
        unfold applyK
        rw [HSL.out, if_neg hsz]
      rw [hak] at hap
      obtain ⟨rfl, rfl⟩ := hap
      clear hak
      have hsz' : (sized block s.size != 0) = true := by simpa using hsz
      clear hsz
      go_wp2_with fail
      refine (still_any _ _ _ (by omega) HRO6.out).mono ?_
      rintro e w' ⟨rfl, rfl⟩
      go_wp2_with fail
      refine (alike_any _ _ _ _ _ _ _ HT16.out HT26.out HMMN.out).mono ?_
      rintro e w7 ⟨rfl, hf7⟩
      go_wp2_with fail
      refine (sized_any _ _ s.size _ rfl).mono ?_
      rintro e w' ⟨rfl, rfl⟩
      go_wp2_with fail
      go_ret
      exact ⟨rfl, HF6.out.step hf7 (fun _ h _ => h)⟩
end Go.Proofs.YtlcdgbhigfgehaaDoor
