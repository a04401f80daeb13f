/- The law Reads: Read of any bytes is the document's; the caller may write into what came out. -/
import Derived.Test.YtlcdgbhigfgehaaDoorRRead
import Derived.Test.YtlcdgbhigfgehaaDoorPRead
import Derived.Test.YtlcdgbhigfgehaaDoorOToks
import Derived.Test.YtlcdgbhigfgehaaDoorAlike
import Derived.StillTailTactics
import Derived.Test.YtlcdgbhigfgehaaDoorErrForm
namespace Go.Proofs.YtlcdgbhigfgehaaDoor
open Go.RowKit
set_option maxRecDepth 100000

theorem toksF_length (blk basis : Nat) : ∀ (n : Nat) (acc : List Tok) (s : Nat) (r r' : List UInt8) (l : List Tok) (k : Nat), toksF blk basis n acc s r = some ((l, k), r') → l.length = acc.length + n := by
  intro n
  induction n with
  | zero => intro acc s r r' l k h; simp [toksF] at h; obtain ⟨⟨rfl, rfl⟩, rfl⟩ := h; rfl
  | succ n ih =>
    intro acc s r r' l k h
    unfold toksF at h
    split at h
    · cases h
    · have := ih _ _ _ _ _ _ h
      rw [this]; simp; omega
theorem tksN_length (blk basis size : Nat) (r r' : List UInt8) (l : List Tok) (h : tksN blk basis size r = some (l, r')) : l.length < 65536 := by
  unfold tksN at h
  split at h
  · cases h
  · rename_i n r1 hn
    split at h
    · cases h
    · rename_i l1 s1 r2 ht
      split at h
      · simp only [Option.some.injEq, Prod.mk.injEq] at h
        obtain ⟨rfl, rfl⟩ := h
        have h1 := toksF_length _ _ _ _ _ _ _ _ _ ht
        have h2 : n < 256 ^ 2 := by
          unfold numN at hn
          split at hn
          · cases hn
          · simp only [Option.some.injEq, Prod.mk.injEq] at hn
            rw [← hn.1]
            exact Nat.lt_of_lt_of_le (numOf_lt _) (Nat.pow_le_pow_right (by omega) (List.length_take_le _ _))
        rw [h1]; simpa using h2
      · cases h
theorem targsF_length (blk : Nat) (basis : List Ent) : ∀ (n : Nat) (acc : List Targ) (r r' : List UInt8) (l : List Targ), targsF blk basis n acc r = some (l, r') → (∀ t ∈ acc, t.toks.length < 65536) → l.length = acc.length + n ∧ ∀ t ∈ l, t.toks.length < 65536 := by
  intro n
  induction n with
  | zero => intro acc r r' l h ha; simp [targsF] at h; obtain ⟨rfl, rfl⟩ := h; exact ⟨rfl, ha⟩
  | succ n ih =>
    intro acc r r' l h ha
    unfold targsF at h
    split at h
    · cases h
    · split at h
      · cases h
      · rename_i e r1 _ l1 r2 hl
        obtain ⟨h1, h2⟩ := ih _ _ _ _ h (fun t ht => by
          rcases List.mem_append.1 ht with ht | ht
          · exact ha t ht
          · simp at ht; subst ht; exact tksN_length _ _ _ _ _ _ hl)
        exact ⟨by rw [h1]; simp; omega, h2⟩
theorem entsF_length : ∀ (n : Nat) (acc : List Ent) (r r' : List UInt8) (E : List Ent), entsF n acc r = some (E, r') → E.length = acc.length + n := by
  intro n
  induction n with
  | zero => intro acc r r' E h; simp [entsF] at h; obtain ⟨rfl, rfl⟩ := h; rfl
  | succ n ih =>
    intro acc r r' E h
    unfold entsF at h
    split at h
    · cases h
    · have := ih _ _ _ _ h
      rw [this]; simp; omega
theorem readOf_small {s : List UInt8} {x : Bat} (h : readOf s = some x) : x.basis.length ≤ 8 ∧ x.targs.length ≤ 8 ∧ ∀ t ∈ x.targs, t.toks.length < 65536 := by
  unfold readOf at h
  split at h
  · cases h
  · rename_i y r hb
    split at h
    · simp only [Option.some.injEq] at h
      subst h
      unfold bodyN at hb
      split at hb
      · cases hb
      · split at hb
        · cases hb
        · split at hb
          · cases hb
          · split at hb
            · cases hb
            · split at hb
              · cases hb
              · split at hb
                · cases hb
                · split at hb
                  · cases hb
                  · rename_i h8 _ _ _ he
                    split at hb
                    · cases hb
                    · split at hb
                      · cases hb
                      · rename_i h9
                        split at hb
                        · cases hb
                        · rename_i ht
                          simp only [Option.some.injEq, Prod.mk.injEq] at hb
                          obtain ⟨rfl, rfl⟩ := hb
                          have h1 := entsF_length _ _ _ _ _ he
                          have h2 := targsF_length _ _ _ _ _ _ _ ht (fun _ h => by simp at h)
                          simp only [List.length_nil] at h1 h2
                          exact ⟨by simp only; omega, by simp only; omega, h2.2⟩
    · cases h
theorem flat_length (mt : List MT) (h : ∀ x ∈ mt, x.l.length < 65536) : (mt.flatMap (·.l)).length ≤ mt.length * 65536 := by
  induction mt with
  | nil => simp
  | cons a l ih =>
    rw [List.flatMap_cons, List.length_append, List.length_cons]
    have := ih (fun x hx => h x (by simp [hx]))
    have := h a (by simp)
    omega
theorem Reads.ofVec {w : World} {B sz n : Nat} {T : TypeId} {v : Value} {xs : List Value} (h : Vec w B T sz v n xs) : Reads w v n xs := by
  rcases h with ⟨hl, ⟨rfl, rfl⟩ | ⟨g, cap, rest, rfl, -, ho, -⟩⟩
  · exact .inl ⟨rfl, rfl, List.length_eq_zero_iff.1 (by omega)⟩
  · refine .inr ⟨g, 0, cap, rfl, fun j u hu => ?_⟩
    rw [Nat.zero_add]
    refine ho.cell ?_
    rw [List.getElem?_append_left (List.getElem?_eq_some_iff.1 hu).1]; exact hu
theorem tokCells_one (l : List (Tok × Value)) (h : ∀ p ∈ l, ∃ a n c, p.2 = .slice a n c) : ∀ u ∈ tokCells l, u.oneCell' = true := by
  induction l with
  | nil => intro u hu; simp [tokCells] at hu
  | cons p l ih =>
    intro u hu
    simp only [tokCells, List.mem_cons] at hu
    rcases hu with rfl | rfl | rfl | hu
    · rfl
    · rfl
    · obtain ⟨a, n, c, e⟩ := h p (by simp); rw [e]; rfl
    · exact ih (fun q hq => h q (by simp [hq])) u hu
def flatTo (mt : List MT) (k : Nat) : List (Tok × Value) := (mt.take k).flatMap (·.l)
theorem flatTo_succ (mt : List MT) (k : Nat) (h : k < mt.length) : flatTo mt (k + 1) = flatTo mt k ++ mt[k].l := by
  unfold flatTo
  rw [List.take_succ_eq_append_getElem h, List.flatMap_append, List.flatMap_singleton]
theorem flatTo_length (mt : List MT) (h : ∀ x ∈ mt, x.l.length < 65536) (k : Nat) : (flatTo mt k).length ≤ mt.length * 65536 := by
  refine Nat.le_trans (flat_length _ (fun x hx => h x (List.mem_of_mem_take hx))) (Nat.mul_le_mul_right _ (by simp; omega))
set_option maxHeartbeats 4000000 in
theorem reads_walk (s : ByteArray) (w : World) (hg : ErrType w) (he : ErrForm w) (_hs : s.size ≤ maxLen) :
    Calls Tryd.prog 6 #[.string s] w fun e w' => e = .returned (.bool true) ∧ Fr (fun _ => False) w w' := by
  unfold maxLen at _hs
  by_cases hs1 : 65536 < s.size
  · go_enter Tryd.func6, Tryd.ntmps6
    go_wp2_with fail
    go_ret
    exact ⟨rfl, Fr.refl _ _⟩
  have hnil1 := fun (W : World) (a : Option Addr) (m c : Nat) => Lib.run_eql_slice_nil (P := Tryd.prog) W 52 61 a m c 0 0 Tryd.underlying52
  have hnil2 := fun (W : World) (a : Option Addr) (m c : Nat) => Lib.run_eql_slice_nil (P := Tryd.prog) W 53 63 a m c 0 0 Tryd.underlying53
  have hsl : s.data.toList.length = s.size := by simp
  have HSL := Lib.hid hsl
  have HE := Lib.hid he
  clear hsl _hs he
  go_enter Tryd.func6, Tryd.ntmps6
  go_wp2_with fail
  refine (roomy_any _ _ (by omega)).mono ?_
  rintro e w1 ⟨gb, rfl, hgb, hro, hf1⟩
  have HRO := Lib.hid hro
  have HF1 := Lib.hid hf1
  have hgl := hro.lt
  have hpr : Calls Tryd.prog 24 #[.slice (some ⟨gb, 0, none⟩) s.size (s.size + 2)] w1 (MRdPost w1 s.data.toList (.int .i64 (okK s.data.toList))) := by
    obtain ⟨T, u, hu⟩ := HE.out.keep hf1
    have := pread_any w1 (hg.keep hf1 id) gb 0 (s.size + 2) s.data.toList T u (by rw [HSL.out]; exact roomy_isB (by omega) hro) hu
    rwa [HSL.out] at this
  have HPR := Lib.hid hpr
  clear hro hf1 hpr
  go_wp2_with fail
  refine HPR.out.mono ?_
  rintro e w2 ⟨b0, b1, b2, rfl, ⟨n, a1, m1, c1, a2, m2, c2, rfl, rfl, rfl⟩, hsy, hf2⟩
  have hA2 : Fr (fun _ => False) w2 (w2.alloc (.cells #[.int .i64 n, .slice a1 m1 c1, .slice a2 m2 c2] 55)) := (Fr.refl _ _).alloc _
  have HX := Lib.hid (Own.alloc w2 #[.int .i64 n, .slice a1 m1 c1, .slice a2 m2 c2] 55)
  have HSY := Lib.hid (hsy.keep hA2 (fun _ h => h.elim) (Nat.le_refl _))
  have HRO2 := Lib.hid ((HRO.out.keep hf2 id).keep hA2 id)
  have HF2 := Lib.hid ((HF1.out.step hf2 (fun _ h _ => h)).step hA2 (fun _ h _ => h))
  have hz2 := hf2.size
  have hz3 := hA2.size
  have hz1 := HF1.out.size
  obtain ⟨xb, hxb⟩ : ∃ xb, w2.heap.size = xb := ⟨_, rfl⟩
  clear hsy hf2 hA2 HF1 HRO HPR
  obtain ⟨K, hK⟩ : ∃ K, okK s.data.toList = K := ⟨_, rfl⟩
  have HK := Lib.hid hK
  rw [hK]
  clear hK
  go_wp2_with fail
  rw [hxb] at HX
  generalize w2.alloc (.cells #[.int .i64 n, .slice a1 m1 c1, .slice a2 m2 c2] 55) = w3 at *
  refine (still_any _ _ _ (by omega) HRO2.out).mono ?_
  rintro e w' ⟨rfl, rfl⟩
  go_wp2_with fail
  refine (rread_any s w3 (by omega)).mono ?_
  rintro e w4 ⟨d0, d1, d2, ok, rfl, ⟨n', a1', m1', c1', a2', m2', c2', rfl, rfl, rfl⟩, hf4, hm⟩
  have hz4 := hf4.size
  have HM := Lib.hid hm
  have HX4 := Lib.hid (HX.out.keep hf4 id)
  have HSY4 := Lib.hid (HSY.out.keep hf4 (fun _ h => h.elim) (Nat.le_refl _))
  have HRO4 := Lib.hid (HRO2.out.keep hf4 id)
  have HF4 := Lib.hid (HF2.out.step hf4 (fun _ h _ => h))
  clear hm hf4 HX HSY HRO2 HF2
  cases hR : readOf s.data.toList with
  | none =>
    have hm := HM.out
    rw [hR] at hm
    have hm : ok = false := hm
    subst hm
    have hsy := HSY4.out
    unfold Says at hsy
    rw [hR] at hsy
    simp only [Value.int.injEq, Value.slice.injEq, true_and] at hsy
    obtain ⟨rfl, ⟨rfl, rfl, rfl⟩, rfl, rfl, rfl⟩ := hsy
    have hk : K = 5 := by rw [← HK.out]; unfold okK; rw [hR]; rfl
    subst hk
    clear hR HM HSY4
    have hA4 : Fr (fun _ => False) w4 (w4.alloc (.cells #[.int .i64 n', .slice a1' m1' c1', .slice a2' m2' c2'] 55)) := (Fr.refl _ _).alloc _
    have hX5 := HX4.out.keep hA4 id
    have x0 := hX5.cell (i := 0) rfl
    have x1 := hX5.cell (i := 1) rfl
    have x2 := hX5.cell (i := 2) rfl
    have HF5 := Lib.hid (HF4.out.step hA4 (fun _ h _ => h))
    clear hA4 hX5
    go_wp2_with fail
    go_ret
    exact ⟨rfl, HF5.out⟩
  | some x =>
    have hm := HM.out
    rw [hR] at hm
    obtain ⟨rfl, mt', hb', hv', ht', he'⟩ := hm
    have hsy := HSY4.out
    unfold Says at hsy
    rw [hR] at hsy
    obtain ⟨mt, hb, hv, ht, he⟩ := hsy
    simp only [Value.int.injEq, true_and] at hb hb'
    subst hb
    subst hb'
    have hk : K = 0 := by rw [← HK.out]; unfold okK; rw [hR]; rfl
    subst hk
    have hsm := readOf_small hR
    obtain ⟨E, hE⟩ : ∃ E, x.basis = E := ⟨_, rfl⟩
    rw [hE] at hv hv' hsm
    have hl1 := hv.shape
    obtain ⟨_, _, q1, -⟩ := hv.shape
    obtain ⟨_, _, q2, -⟩ := hv'.shape
    obtain ⟨_, _, q3, -⟩ := ht.vec.shape
    obtain ⟨_, _, q4, -⟩ := ht'.vec.shape
    simp only [Value.slice.injEq] at q1 q2 q3 q4
    obtain ⟨-, rfl, -⟩ := q1
    obtain ⟨-, rfl, -⟩ := q2
    obtain ⟨-, rfl, -⟩ := q3
    obtain ⟨-, rfl, -⟩ := q4
    have hmm : mt.map (·.t) = mt'.map (·.t) := he.trans he'.symm
    have hml : mt.length = mt'.length := by have := congrArg List.length hmm; simpa using this
    have hm8 : mt.length ≤ 8 := by have := congrArg List.length he; rw [List.length_map] at this; omega
    have hmk : ∀ y ∈ mt, y.l.length < 65536 := fun y hy => by
      have h1 := hsm.2.2 y.t (by rw [← he]; exact List.mem_map_of_mem hy)
      rw [← (ht.toks y hy).2, List.length_map] at h1
      exact h1
    have hE8 := hsm.1
    rw [← hml]
    have hA4 : Fr (fun _ => False) w4 (w4.alloc (.cells #[.int .i64 x.block, .slice a1' E.length c1', .slice a2' mt.length c2'] 55)) := (Fr.refl _ _).alloc _
    have hz5 := hA4.size
    have HMM := Lib.hid hmm
    have HML := Lib.hid hml
    have HMK := Lib.hid hmk
    have HV := Lib.hid (hv.keep hA4 (fun _ _ h => h))
    have HV' := Lib.hid (hv'.keep hA4 (fun _ _ h => h))
    have HT := Lib.hid (ht.below hA4 (fun _ h => h.elim))
    have HT' := Lib.hid (ht'.below hA4 (fun _ h => h.elim))
    have HX5 := Lib.hid (HX4.out.keep hA4 id)
    have HY5 := Lib.hid (Own.alloc w4 #[.int .i64 x.block, .slice a1' E.length c1', .slice a2' mt.length c2'] 55)
    have HF5 := Lib.hid (HF4.out.step hA4 (fun _ h _ => h))
    have HRO5 := Lib.hid (HRO4.out.keep hA4 id)
    clear hR HM HSY4 hv hv' ht ht' he he' hmm hml hsm hA4 hmk HK HX4 HF4 HRO4 HE hE
    have x0 := HX5.out.cell (i := 0) rfl
    have x1 := HX5.out.cell (i := 1) rfl
    have x2 := HX5.out.cell (i := 2) rfl
    have y0 := HY5.out.cell (i := 0) rfl
    have y1 := HY5.out.cell (i := 1) rfl
    have y2 := HY5.out.cell (i := 2) rfl
    go_wp2_with fail
    go_loopw [9] (fun iv wr => ∃ k : Nat, k ≤ E.length ∧ iv = .int .i64 k ∧ Fr (fun _ => False) (w4.alloc (.cells #[.int .i64 x.block, .slice a1' E.length c1', .slice a2' mt.length c2'] 55)) wr) (fun iv _ => E.length - (intOf iv).toNat)
    case atStart => exact ⟨0, Nat.zero_le _, rfl, Fr.refl _ _⟩
    case round =>
      obtain ⟨k, hk, rfl, hfr⟩ := hrel
      have HFR := Lib.hid hfr
      clear x0 x1 x2 y0 y1 y2
      have x1 := (HX5.out.keep hfr id).cell (i := 1) rfl
      have y1 := (HY5.out.keep hfr id).cell (i := 1) rfl
      by_cases hlt : k < E.length
      · obtain ⟨gE, cE, rE, hqE, -, hoE, -⟩ := (HV.out.keep hfr (fun _ _ h => h)).row (by omega)
        simp only [Value.slice.injEq, true_and] at hqE
        obtain ⟨rfl, rfl⟩ := hqE
        obtain ⟨gE', cE', rE', hqE', -, hoE', -⟩ := (HV'.out.keep hfr (fun _ _ h => h)).row (by omega)
        simp only [Value.slice.injEq, true_and] at hqE'
        obtain ⟨rfl, rfl⟩ := hqE'
        have hge := entCells_get E k hlt
        have e0 := hoE.cell (i := k * 3) (by rw [List.getElem?_append_left (by simp; omega)]; exact hge.1)
        have e1 := hoE.cell (i := k * 3 + 1) (by rw [List.getElem?_append_left (by simp; omega)]; exact hge.2.1)
        have e2 := hoE.cell (i := k * 3 + 2) (by rw [List.getElem?_append_left (by simp; omega)]; exact hge.2.2)
        have f0 := hoE'.cell (i := k * 3) (by rw [List.getElem?_append_left (by simp; omega)]; exact hge.1)
        have f1 := hoE'.cell (i := k * 3 + 1) (by rw [List.getElem?_append_left (by simp; omega)]; exact hge.2.1)
        have f2 := hoE'.cell (i := k * 3 + 2) (by rw [List.getElem?_append_left (by simp; omega)]; exact hge.2.2)
        clear hoE hoE' hge hfr
        generalize E[k] = ek at *
        go_wp2_with fail
        go_quiet (fail)
        go_wp2_with fail
        exact ⟨⟨k + 1, by omega, by go_num, HFR.out.drewN _⟩, by simp [intOf]; omega⟩
      · obtain rfl : k = E.length := by omega
        clear hfr
        go_wp2_with fail
        have HX9 := Lib.hid (HX5.out.keep HFR.out id)
        have HY9 := Lib.hid (HY5.out.keep HFR.out id)
        have HT9 := Lib.hid (HT.out.below HFR.out (fun _ h => h.elim))
        have HT9' := Lib.hid (HT'.out.below HFR.out (fun _ h => h.elim))
        have HRO9 := Lib.hid (HRO5.out.keep HFR.out id)
        have HF9 := Lib.hid (HF5.out.step HFR.out (fun _ h _ => h))
        have hz9 := HFR.out.size
        clear x1 y1 HX5 HY5 HT HT' HRO5 HF5 HV HV' HFR
        rename_i w9 _
        have hB9 : w1.heap.size ≤ wr.heap.size := by omega
        generalize wr = w9 at *
        go_loopw [10, 11] (fun av iv wr => ∃ k : Nat, k ≤ mt.length ∧ iv = .int .i64 k ∧ Fr (fun _ => False) w9 wr ∧ Vec wr w9.heap.size 30 3 av (flatTo mt k).length (tokCells (flatTo mt k))) (fun _ iv _ => mt.length - (intOf iv).toNat)
        case atStart => exact ⟨0, Nat.zero_le _, rfl, Fr.refl _ _, Vec.nil _ _ _ _⟩
        case round =>
          obtain ⟨k, hk, rfl, hfr, hav⟩ := hrel
          have HFR := Lib.hid hfr
          have HAV := Lib.hid hav
          obtain ⟨aa, ac, hsh, -⟩ := hav.shape
          subst hsh
          have x2 := (HX9.out.keep hfr id).cell (i := 2) rfl
          have y2 := (HY9.out.keep hfr id).cell (i := 2) rfl
          by_cases hlt : k < mt.length
          · have hlt' : k < mt'.length := by rw [← HML.out]; exact hlt
            obtain ⟨gT, cT, rT, hqT, -, hoT, -⟩ := (HT9.out.below hfr (fun _ h => h.elim)).vec.row (by omega)
            simp only [Value.slice.injEq, true_and] at hqT
            obtain ⟨rfl, rfl⟩ := hqT
            obtain ⟨gT', cT', rT', hqT', -, hoT', -⟩ := (HT9'.out.below hfr (fun _ h => h.elim)).vec.row (by omega)
            rw [← HML.out] at hqT'
            simp only [Value.slice.injEq, true_and] at hqT'
            obtain ⟨rfl, rfl⟩ := hqT'
            have hge := targCells_get mt k hlt
            have hge' := targCells_get mt' k hlt'
            have htk : mt[k].t = mt'[k].t := by
              have := congrArg (·[k]?) HMM.out
              simp only [List.getElem?_map, List.getElem?_eq_getElem hlt, List.getElem?_eq_getElem hlt', Option.map_some, Option.some.injEq] at this
              exact this
            rw [← htk] at hge'
            have hcc : ∀ W, Fr (fun _ => False) wr W → W.cell? ⟨gT, k * 4, none⟩ = some (.string ⟨mt[k].t.ent.name.toArray⟩) ∧ W.cell? ⟨gT, k * 4 + 1, none⟩ = some (.int .i64 mt[k].t.ent.size) ∧ W.cell? ⟨gT, k * 4 + 2, none⟩ = some (.int .u64 mt[k].t.ent.dig) ∧ W.cell? ⟨gT, k * 4 + 3, none⟩ = some mt[k].v ∧
                W.cell? ⟨gT', k * 4, none⟩ = some (.string ⟨mt[k].t.ent.name.toArray⟩) ∧ W.cell? ⟨gT', k * 4 + 1, none⟩ = some (.int .i64 mt[k].t.ent.size) ∧ W.cell? ⟨gT', k * 4 + 2, none⟩ = some (.int .u64 mt[k].t.ent.dig) ∧ W.cell? ⟨gT', k * 4 + 3, none⟩ = some mt'[k].v := fun W hW => by
              have h1 := hoT.keep hW id
              have h2 := hoT'.keep hW id
              exact ⟨h1.cell (by rw [List.getElem?_append_left (by simp; omega)]; exact hge.1), h1.cell (by rw [List.getElem?_append_left (by simp; omega)]; exact hge.2.1), h1.cell (by rw [List.getElem?_append_left (by simp; omega)]; exact hge.2.2.1), h1.cell (by rw [List.getElem?_append_left (by simp; omega)]; exact hge.2.2.2),
                h2.cell (by rw [List.getElem?_append_left (by simp; omega)]; exact hge'.1), h2.cell (by rw [List.getElem?_append_left (by simp; omega)]; exact hge'.2.1), h2.cell (by rw [List.getElem?_append_left (by simp; omega)]; exact hge'.2.2.1), h2.cell (by rw [List.getElem?_append_left (by simp; omega)]; exact hge'.2.2.2)⟩
            have HCC := Lib.hid hcc
            have hta := (HT9.out.below hfr (fun _ h => h.elim)).toks mt[k] (List.getElem_mem _)
            have htb := (HT9'.out.below hfr (fun _ h => h.elim)).toks mt'[k] (List.getElem_mem _)
            have hsame : mt[k].l.map (·.1) = mt'[k].l.map (·.1) := by rw [hta.2, htb.2, htk]
            have HTA := Lib.hid hta.1
            have HTB := Lib.hid htb.1
            have HSA := Lib.hid hsame
            have hkl := HMK.out mt[k] (List.getElem_mem _)
            have HFS := Lib.hid (flatTo_succ mt k hlt)
            have hfl := flatTo_length mt HMK.out k
            have hc0 := hcc _ (Fr.refl _ _)
            have e3 := hc0.2.2.2.1
            have f3 := hc0.2.2.2.2.2.2.2
            clear hcc hc0 hta htb hsame htk hge hge' hoT hoT'
            generalize mt[k] = tk at *
            generalize mt'[k] = tk' at *
            obtain ⟨ta, tc, htq, -⟩ := HTA.out.vec.shape
            obtain ⟨tb, td, htq', -⟩ := HTB.out.vec.shape
            have HTQ := Lib.hid htq
            have HTQ' := Lib.hid htq'
            rw [htq] at e3
            rw [htq'] at f3
            clear htq htq'
            go_wp2_with fail
            go_still_tail 12, (by kernel_rfl)
            change wpList _ _ _ _ _ wr.drew
            have hd : Fr (fun _ => False) wr wr.drew := (Fr.refl _ _).drew
            have HD := Lib.hid hd
            have h5a := (HTA.out.keep0 hd).toks
            have h5b := (HTB.out.keep0 hd).toks
            rw [HTQ.out] at h5a
            rw [HTQ'.out] at h5b
            have H5A := Lib.hid h5a
            have H5B := Lib.hid h5b
            clear hd h5a h5b e3 f3 x2 y2 hfr
            generalize wr.drew = w5 at *
            go_wp2_with fail
            refine (alike_any _ _ tk.l tk'.l _ _ _ H5A.out H5B.out HSA.out).mono ?_
            rintro e w6 ⟨rfl, hf6⟩
            have hf6' : Fr (fun _ => False) wr w6 := HD.out.step hf6 (fun _ h _ => h)
            have HF6 := Lib.hid (HFR.out.step hf6' (fun _ h _ => h))
            have HAV6 := Lib.hid (HAV.out.keep hf6' (fun _ _ h => h))
            have HTA6 := Lib.hid (HTA.out.keep0 hf6')
            have x2 := (HX9.out.keep HF6.out id).cell (i := 2) rfl
            have y2 := (HY9.out.keep HF6.out id).cell (i := 2) rfl
            obtain ⟨e0, e1, e2, e3, f0, f1, f2, f3⟩ := HCC.out w6 hf6'
            rw [HTQ.out] at e3
            rw [HTQ'.out] at f3
            have htv := HTA6.out.vec
            rw [HTQ.out] at htv
            have HTV := Lib.hid htv
            have hone := tokCells_one tk.l (fun p hp => by obtain ⟨a, c, h, -⟩ := (HTA6.out.data p hp).shape; exact ⟨_, _, _, h⟩)
            have HON := Lib.hid hone
            have hz6 := HF6.out.size
            clear hf6 hf6' H5A H5B HD htv hone
            go_wp2_with fail
            go_quiet (fail)
            go_wp2_with (at_builtin; refine wpList_append_vec rfl (.tmp 176) (.tmp 182) _ rfl w9.heap.size 30 3 40 elt_tok (HAV6.out.keep ((Fr.refl (fun _ => False) _).drewN _) (fun _ _ h => h)) rfl (m := tk.l.length) (Reads.ofVec (HTV.out.keep ((Fr.refl (fun _ => False) _).drewN _) (fun _ _ h => h))) rfl (length_tokCells _) HON.out (by unfold maxLen; omega) (by omega) (by simpa using hz6) ?_; intro v8 w8 hv8 hf8 hd8 hn8; obtain ⟨a8, c8, hs8, -⟩ := hv8.shape; subst hs8; have HV8 := Lib.hid hv8; have HF8 := Lib.hid ((HF6.out.drewN _).step hf8 (fun b hb hl => by have := (HAV6.out.lt b hb).1; omega)); clear hv8 hf8 hd8 hn8)
            exact ⟨⟨k + 1, by omega, by go_num, HF8.out, by rw [HFS.out, tokCells_append, List.length_append]; exact HV8.out⟩, by simp [intOf]; omega⟩
          · obtain rfl : k = mt.length := by omega
            have hB : OToks wr w1.heap.size (.slice aa (flatTo mt mt.length).length ac) (flatTo mt mt.length) := by
              have hft : flatTo mt mt.length = mt.flatMap (·.l) := by unfold flatTo; rw [List.take_length]
              have ht := HT9.out.below hfr (fun _ h => h.elim)
              refine ⟨HAV.out.mono hB9, fun p hp => ?_, ?_⟩
              · rw [hft] at hp
                obtain ⟨y, hy, hpy⟩ := List.mem_flatMap.1 hp
                exact (ht.toks y hy).1.data p hpy
              · rw [hft]; exact ht.two
            have hfl := flatTo_length mt HMK.out mt.length
            have HOT := Lib.hid hB
            clear hB hfr
            go_wp2_with fail
            refine (written_any _ (flatTo mt mt.length) w1.heap.size wr HOT.out (by omega)).mono ?_
            rintro e w10 ⟨rfl, hf10⟩
            have hnd : ¬ dataOf (flatTo mt mt.length) gb := by
              rintro ⟨p, hp, hk⟩
              have := (HOT.out.lt p hp gb hk).1
              omega
            have HRO10 := Lib.hid ((HRO9.out.keep HFR.out id).keep hf10 hnd)
            have HF10 := Lib.hid ((HF9.out.step HFR.out (fun _ h _ => h)).step hf10 (fun b hb hl => by
              obtain ⟨p, hp, hk⟩ := hb
              have := (HOT.out.lt p hp b hk).1
              omega))
            clear hf10
            go_wp2_with fail
            refine (still_any _ _ _ (by omega) HRO10.out).mono ?_
            rintro e w' ⟨rfl, rfl⟩
            go_wp2_with fail
            go_ret
            exact ⟨rfl, HF10.out⟩
end Go.Proofs.YtlcdgbhigfgehaaDoor
