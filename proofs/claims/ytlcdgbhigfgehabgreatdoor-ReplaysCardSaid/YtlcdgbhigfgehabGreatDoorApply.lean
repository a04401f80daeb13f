/- The walk of delta.Apply. -/
import Derived.Test.YtlcdgbhigfgehabGreatDoorCheck
namespace Go.Proofs.YtlcdgbhigfgehabGreatDoor
open Go.RowKit
set_option maxRecDepth 100000

theorem kindErr_zero : kindErr 0 = .nilIface := rfl
theorem kindErr_pos (k : Int) (h : k ≠ 0) : kindErr k = .iface 30 (.int .i64 k) := if_neg h
/-- What Apply gives. -/
def Applied (w w' : World) (r : Int ⊕ List UInt8) (v : Value) (k : Int) : Prop :=
  match r with
  | .inl e => v = .slice none 0 0 ∧ k = e
  | .inr out => k = 0 ∧ Vec w' w.heap.size 5 1 v out.length (bcells out)
def ApplyPost (w : World) (r : Int ⊕ List UInt8) (e : Ending) (w' : World) : Prop :=
  ∃ v k, e = .returned (.tuple #[v, kindErr k]) ∧ Applied w w' r v k ∧ Fr (fun _ => False) w w'

set_option maxHeartbeats 1000000 in
theorem apply_bad (v0 v1 : Value) (base : List UInt8) (ts : List Tok) (block : Int) (w : World) (hb : IsB w v0 base) (hs : sized block base.length ≠ 0) :
    Calls Tryz.prog 68 #[v0, v1, .int .i64 block] w (ApplyPost w (applyK base block ts)) := by
  have hr : applyK base block ts = .inl (sized block base.length) := by unfold applyK; rw [if_neg hs]
  rw [hr]
  obtain ⟨a0, c0, rfl, h1, h2⟩ := hb.shape
  have hm : base.length ≤ maxLen := by omega
  have hk := check_row block w.heap.size 1 [(a0, base.length, c0)] (w.alloc (.cells #[.slice a0 base.length c0] 25)) (fun i h => by simp at h; subst h; simp) (by simp) (by simpa using hm)
  rw [show [(a0, base.length, c0)].map (·.2.1) = [base.length] from rfl, checkK_one, kindErr_pos _ hs] at hk
  have HK := Lib.hid hk
  have HS := Lib.hid hs
  clear hk hs hb
  go_enter Tryz.func68, Tryz.ntmps68
  go_wp2_with fail
  refine HK.out.mono ?_
  rintro e w' ⟨rfl, rfl⟩
  go_wp2_with fail
  go_ret2
  exact ⟨_, _, by rw [kindErr_pos _ HS.out]; rfl, ⟨rfl, rfl⟩, (Fr.refl _ _).alloc _⟩

set_option maxHeartbeats 1000000 in
theorem apply_good (v0 v1 : Value) (base : List UInt8) (l : List (Tok × Value)) (blk B : Nat) (w : World) (hb : IsB w v0 base) (ht : Toks w B v1 l) (hs : sized blk base.length = 0) (hd : ∀ p ∈ l, p.1.d.length ≤ 1000) :
    Calls Tryz.prog 68 #[v0, v1, .int .i64 blk] w (ApplyPost w (applyF base blk (l.map (·.1)) [])) := by
  obtain ⟨a0, c0, rfl, h1, h2⟩ := hb.shape
  have hm : base.length ≤ maxLen := by omega
  have hk := check_row blk w.heap.size 1 [(a0, base.length, c0)] (w.alloc (.cells #[.slice a0 base.length c0] 25)) (fun i h => by simp at h; subst h; simp) (by simp) (by simpa using hm)
  rw [show [(a0, base.length, c0)].map (·.2.1) = [base.length] from rfl, checkK_one, hs, kindErr_zero] at hk
  have hblk : 1 ≤ blk ∧ blk ≤ 64 ∧ base.length ≤ 300 := by
    unfold sized at hs
    split at hs
    · omega
    · split at hs
      · omega
      · omega
  obtain ⟨hb1, hb2, hb3⟩ := hblk
  have hN : ((base.length : Int) + blk - 1) / blk = (nBlocks base.length blk : Nat) := by
    unfold nBlocks
    rw [Int.natCast_ediv, Int.ofNat_sub (by omega)]
    simp
  have hNle : nBlocks base.length blk ≤ 300 := by have := (nBlocks_mul base.length blk (by omega)).2.2; omega
  obtain ⟨a1, c1, hv1, hc1, hc2, -⟩ := ht.vec.shape
  subst hv1
  have hl := ht.vec.len
  unfold maxLen at hl
  have HK := Lib.hid hk
  have HB := Lib.hid hb
  have HT := Lib.hid ht
  have HD := Lib.hid hd
  clear hk hb ht hd hs hm h1 h2 hc1 hc2
  generalize hNN : nBlocks base.length blk = N at hN hNle
  have HNN := Lib.hid hNN
  clear hNN
  go_enter Tryz.func68, Tryz.ntmps68
  go_wp2_with fail
  refine HK.out.mono ?_
  rintro e w' ⟨rfl, rfl⟩
  go_wp2_with fail
  rw [hN]
  clear hN
  have hw0 : Fr (fun _ => False) w ((w.alloc (.cells #[.slice a0 base.length c0] 25)).alloc (.cells #[] 5)) := ((Fr.refl _ _).alloc _).alloc _
  have hv0 : Vec ((w.alloc (.cells #[.slice a0 base.length c0] 25)).alloc (.cells #[] 5)) w.heap.size 5 1 (.slice (some ⟨w.heap.size + 1, 0, none⟩) 0 0) 0 [] :=
    ⟨rfl, .inr ⟨w.heap.size + 1, 0, [], rfl, by omega, by have := Own.alloc (w.alloc (.cells #[.slice a0 base.length c0] 25)) #[] 5; simpa using this, rfl, Nat.le_refl _, Nat.zero_le _⟩⟩
  have HW0 := Lib.hid hw0
  have HV0 := Lib.hid hv0
  clear hw0 hv0
  go_loopw [10, 31] (fun v i wr => ∃ (k : Nat) (out : List UInt8) (a : Option Addr) (c : Nat), k ≤ l.length ∧ i = .int .i64 k ∧ v = .slice a out.length c ∧ applyF base blk ((l.map (·.1)).take k) [] = .inr out ∧
      Vec wr w.heap.size 5 1 (.slice a out.length c) out.length (bcells out) ∧ Fr (fun _ => False) w wr) (fun _ i _ => l.length - (intOf i).toNat)
  case atStart => exact ⟨0, [], _, _, Nat.zero_le _, rfl, rfl, rfl, HV0.out, HW0.out⟩
  case round =>
    obtain ⟨k, out, a, c, hk, rfl, rfl, happ, hv, hfr⟩ := hrel
    have hout : out.length ≤ 300 := applyF_len base blk _ [] out (by simp) happ
    by_cases hlt : k < l.length
    · have hkm : k < (l.map (·.1)).length := by simpa using hlt
      have hstep := applyF_take base blk (l.map (·.1)) k hkm out happ
      rw [List.getElem_map, HNN.out] at hstep
      have e1 := HT.out.keep0 hfr
      obtain ⟨g1, c1', q1, x1, y1, z1⟩ := e1.get k hlt
      simp only [Value.slice.injEq, true_and] at q1
      obtain ⟨rfl, rfl⟩ := q1
      have d1 := e1.data l[k] (List.getElem_mem hlt)
      have hd1 := HD.out l[k] (List.getElem_mem hlt)
      obtain ⟨da, dc, hdv, hdl, hdc⟩ := d1.shape
      rw [hdv] at z1 d1
      have HB' := Lib.hid (HB.out.keep0 hfr)
      have HSTEP := Lib.hid hstep
      have HAPP := Lib.hid happ
      have HV := Lib.hid hv
      have HF := Lib.hid hfr
      have HDI := Lib.hid d1
      clear e1 hstep happ hv hfr d1 hdv
      generalize l[k].1 = t at *
      obtain ⟨tb, tc, td⟩ := t
      simp only at x1 y1 hd1 hdl z1
      replace HDI : Hid (IsB wr (.slice da td.length dc) td) := HDI
      have stop3 : tokOk N ⟨tb, tc, td⟩ = false → applyF base blk (l.map (·.1)) [] = .inl 3 := fun h =>
        applyF_stop base blk _ (k + 1) 3 (by rw [HSTEP.out, h]; rfl)
      have stop2 : tokOk N ⟨tb, tc, td⟩ = true → 300 < (out ++ tokMake base blk ⟨tb, tc, td⟩).length → applyF base blk (l.map (·.1)) [] = .inl 2 := fun h h' =>
        applyF_stop base blk _ (k + 1) 2 (by rw [HSTEP.out, if_pos h, if_pos h'])
      have okk : tokOk N ⟨tb, tc, td⟩ = true → ¬ 300 < (out ++ tokMake base blk ⟨tb, tc, td⟩).length → applyF base blk ((l.map (·.1)).take (k + 1)) [] = .inr (out ++ tokMake base blk ⟨tb, tc, td⟩) := fun h h' => by
        rw [HSTEP.out, if_pos h, if_neg h']
      have S3 := Lib.hid stop3
      have S2 := Lib.hid stop2
      have OKK := Lib.hid okk
      clear stop3 stop2 okk
      by_cases h1 : tc < 0
      · have hbad : tokOk N ⟨tb, tc, td⟩ = false := by simp [tokOk]; omega
        have HBAD := Lib.hid hbad
        clear hbad
        go_wp2_with fail
        go_ret2
        rw [S3.out HBAD.out]
        exact ⟨_, 3, rfl, ⟨rfl, rfl⟩, HF.out.alloc _⟩
      by_cases h2 : tb < 0
      · have hbad : tokOk N ⟨tb, tc, td⟩ = false := by simp [tokOk]; omega
        have HBAD := Lib.hid hbad
        clear hbad
        go_wp2_with fail
        go_ret2
        rw [S3.out HBAD.out]
        exact ⟨_, 3, rfl, ⟨rfl, rfl⟩, HF.out.alloc _⟩
      by_cases h3 : tc = 0
      · subst h3
        by_cases h4 : tb = 0
        · subst h4
          have hok : tokOk N ⟨0, 0, td⟩ = true := by simp [tokOk]
          have hmk : tokMake base blk ⟨0, 0, td⟩ = td := by simp [tokMake]
          rw [hmk, List.length_append] at S2 OKK
          have HOK := Lib.hid hok
          clear hok hmk
          by_cases hbig : 300 < out.length + td.length
          · go_wp2_with (at_builtin; go_must (refine wpList_append_vec rfl _ _ _ rfl w.heap.size 5 1 1 elt_u8 (HV.out.keep ((Fr.refl (fun _ => False) _).alloc _) (fun _ _ h => h)) rfl (Reads.ofB (HDI.out.keep0 ((Fr.refl (fun _ => False) _).alloc _))) rfl (by simp) (bcells_one _) (by unfold maxLen; omega) (by omega) (by have := HF.out.size; simp; omega) ?_); intro v4 w4 hv4 hf4 hd4 hn4; obtain ⟨a4, c4, hsh, -⟩ := hv4.shape; subst hsh; have HV4 := Lib.hid hv4; have HF4 := Lib.hid hf4; clear hv4 hf4 hd4 hn4)
            go_ret2
            rw [S2.out HOK.out hbig]
            exact ⟨_, 2, rfl, ⟨rfl, rfl⟩, (HF.out.alloc _).step HF4.out (fun b hb hl => by have := (HV.out.lt b hb).1; omega)⟩
          · go_wp2_with (at_builtin; go_must (refine wpList_append_vec rfl _ _ _ rfl w.heap.size 5 1 1 elt_u8 (HV.out.keep ((Fr.refl (fun _ => False) _).alloc _) (fun _ _ h => h)) rfl (Reads.ofB (HDI.out.keep0 ((Fr.refl (fun _ => False) _).alloc _))) rfl (by simp) (bcells_one _) (by unfold maxLen; omega) (by omega) (by have := HF.out.size; simp; omega) ?_); intro v4 w4 hv4 hf4 hd4 hn4; obtain ⟨a4, c4, hsh, -⟩ := hv4.shape; subst hsh; have HV4 := Lib.hid hv4; have HF4 := Lib.hid hf4; clear hv4 hf4 hd4 hn4)
            have hl2 : out.length + td.length = (out ++ td).length := by simp
            refine ⟨⟨k + 1, out ++ td, a4, c4, by omega, by go_num, by rw [hl2], OKK.out HOK.out hbig, ?_, (HF.out.alloc _).step HF4.out (fun b hb hl => by have := (HV.out.lt b hb).1; omega)⟩, by simp [intOf]; omega⟩
            have := HV4.out
            rw [← bcells_append, hl2] at this
            exact this
        · have hbad : tokOk N ⟨tb, 0, td⟩ = false := by simp [tokOk]; omega
          have HBAD := Lib.hid hbad
          clear hbad
          go_wp2_with fail
          go_ret2
          rw [S3.out HBAD.out]
          exact ⟨_, 3, rfl, ⟨rfl, rfl⟩, HF.out.alloc _⟩
      have h3' : (tc == 0) = false := by simpa using h3
      by_cases h5 : 0 < td.length
      · have hbad : tokOk N ⟨tb, tc, td⟩ = false := by
          have : td.isEmpty = false := by cases td <;> simp at h5 ⊢
          simp [tokOk, this]; omega
        have HBAD := Lib.hid hbad
        clear hbad
        go_wp2_with fail
        go_ret2
        rw [S3.out HBAD.out]
        exact ⟨_, 3, rfl, ⟨rfl, rfl⟩, HF.out.alloc _⟩
      by_cases h6 : (N : Int) < tb
      · have hbad : tokOk N ⟨tb, tc, td⟩ = false := by simp [tokOk]; omega
        have HBAD := Lib.hid hbad
        clear hbad
        go_wp2_with fail
        go_ret2
        rw [S3.out HBAD.out]
        exact ⟨_, 3, rfl, ⟨rfl, rfl⟩, HF.out.alloc _⟩
      by_cases h7 : (N : Int) - tb < tc
      · have hbad : tokOk N ⟨tb, tc, td⟩ = false := by simp [tokOk]; omega
        have HBAD := Lib.hid hbad
        clear hbad
        go_wp2_with fail
        go_ret2
        rw [S3.out HBAD.out]
        exact ⟨_, 3, rfl, ⟨rfl, rfl⟩, HF.out.alloc _⟩
      · obtain ⟨bn, rfl⟩ := Int.eq_ofNat_of_zero_le (a := tb) (by omega)
        obtain ⟨cn, rfl⟩ := Int.eq_ofNat_of_zero_le (a := tc) (by omega)
        have hlo : bn * blk < base.length := (lt_nBlocks base.length blk bn (by omega)).1 (by rw [HNN.out]; omega)
        rcases HB'.out.cases with ⟨hq, hq2⟩ | ⟨b0, o0, c0', hq, hq1, hq2, -⟩
        · rw [hq2] at hlo; simp at hlo
        simp only [Value.slice.injEq, true_and] at hq
        obtain ⟨rfl, rfl⟩ := hq
        have htd : td = [] := by cases td with | nil => rfl | cons _ _ => simp at h5
        subst htd
        have hmul : ((bn : Int) + cn) * blk = (((bn + cn) * blk : Nat) : Int) := by simp
        have hmul2 : (bn : Int) * blk = ((bn * blk : Nat) : Int) := by simp
        have hle : bn * blk ≤ (bn + cn) * blk := Nat.mul_le_mul_right _ (by omega)
        have hle2 : (bn + cn) * blk ≤ 600 * 64 := Nat.mul_le_mul (by omega) hb2
        have m1 : 0 ≤ ((bn : Int) + cn) * blk := by rw [hmul]; omega
        have m2 : ((bn : Int) + cn) * blk ≤ 38400 := by rw [hmul]; omega
        have m3 : 0 ≤ (bn : Int) * blk := by rw [hmul2]; omega
        have m4 : (bn : Int) * blk ≤ 38400 := by rw [hmul2]; omega
        have m5 : (bn : Int) * blk ≤ ((bn : Int) + cn) * blk := by rw [hmul, hmul2]; omega
        have m6 : (bn : Int) * blk < base.length := by rw [hmul2]; omega
        have HM := Lib.hid hmul
        clear hmul hmul2
        have hok : tokOk N ⟨bn, cn, []⟩ = true := by simp [tokOk]; omega
        have HOK := Lib.hid hok
        clear hok
        by_cases hmin : (bn + cn) * blk ≤ base.length
        · have m7 : ((bn : Int) + cn) * blk ≤ base.length := by rw [HM.out]; omega
          have hpart := HB'.out.part (bn * blk) ((bn + cn) * blk) (c0 - bn * blk) (by omega) (by omega) (by omega) (by unfold maxLen at hq2 ⊢; omega)
          have hpl : ((base.drop (bn * blk)).take (((bn + cn) * blk) - bn * blk)).length = ((bn + cn) * blk) - bn * blk := by simp; omega
          have HPART := Lib.hid hpart
          have hmk := make_slice base blk ⟨bn, cn, []⟩ (by show (0 : Int) < cn; omega)
          simp only [Int.toNat_natCast] at hmk
          rw [show min ((bn + cn) * blk) base.length = ((bn + cn) * blk) by omega] at hmk
          rw [hmk, List.length_append] at S2 OKK
          generalize hX : (base.drop (bn * blk)).take (((bn + cn) * blk) - bn * blk) = X at *
          have HX := Lib.hid hX
          have HPL := Lib.hid hpl
          have hXle : X.length ≤ 300 := by omega
          clear hX hpart hmk hpl
          by_cases hbig : 300 < out.length + X.length
          · go_wp2_with (at_builtin; go_must (refine wpList_append_vec rfl _ _ _ rfl w.heap.size 5 1 1 elt_u8 (HV.out.keep ((Fr.refl (fun _ => False) _).alloc _) (fun _ _ h => h)) rfl (Reads.ofB (HPART.out.keep0 ((Fr.refl (fun _ => False) _).alloc _))) rfl (by simp) (bcells_one _) (by unfold maxLen; omega) (by omega) (by have := HF.out.size; simp; omega) ?_); intro v4 w4 hv4 hf4 hd4 hn4; obtain ⟨a4, c4, hsh, -⟩ := hv4.shape; subst hsh; have HV4 := Lib.hid hv4; have HF4 := Lib.hid hf4; clear hv4 hf4 hd4 hn4)
            go_ret2
            rw [S2.out HOK.out hbig]
            exact ⟨_, 2, rfl, ⟨rfl, rfl⟩, (HF.out.alloc _).step HF4.out (fun b hb hl => by have := (HV.out.lt b hb).1; omega)⟩
          · go_wp2_with (at_builtin; go_must (refine wpList_append_vec rfl _ _ _ rfl w.heap.size 5 1 1 elt_u8 (HV.out.keep ((Fr.refl (fun _ => False) _).alloc _) (fun _ _ h => h)) rfl (Reads.ofB (HPART.out.keep0 ((Fr.refl (fun _ => False) _).alloc _))) rfl (by simp) (bcells_one _) (by unfold maxLen; omega) (by omega) (by have := HF.out.size; simp; omega) ?_); intro v4 w4 hv4 hf4 hd4 hn4; obtain ⟨a4, c4, hsh, -⟩ := hv4.shape; subst hsh; have HV4 := Lib.hid hv4; have HF4 := Lib.hid hf4; clear hv4 hf4 hd4 hn4)
            have hl2 : out.length + X.length = (out ++ X).length := by simp
            refine ⟨⟨k + 1, out ++ X, a4, c4, by omega, by go_num, by rw [hl2], OKK.out HOK.out hbig, ?_, (HF.out.alloc _).step HF4.out (fun b hb hl => by have := (HV.out.lt b hb).1; omega)⟩, by simp [intOf]; omega⟩
            have := HV4.out
            rw [← bcells_append, hl2] at this
            exact this
        · have m7 : (base.length : Int) < ((bn : Int) + cn) * blk := by rw [HM.out]; omega
          have hpart := HB'.out.part (bn * blk) base.length (c0 - bn * blk) (by omega) (by omega) (by omega) (by unfold maxLen at hq2 ⊢; omega)
          have hpl : ((base.drop (bn * blk)).take (base.length - bn * blk)).length = base.length - bn * blk := by simp
          have HPART := Lib.hid hpart
          have hmk := make_slice base blk ⟨bn, cn, []⟩ (by show (0 : Int) < cn; omega)
          simp only [Int.toNat_natCast] at hmk
          rw [show min ((bn + cn) * blk) base.length = base.length by omega] at hmk
          rw [hmk, List.length_append] at S2 OKK
          generalize hX : (base.drop (bn * blk)).take (base.length - bn * blk) = X at *
          have HX := Lib.hid hX
          have HPL := Lib.hid hpl
          have hXle : X.length ≤ 300 := by omega
          clear hX hpart hmk hpl
          by_cases hbig : 300 < out.length + X.length
          · go_wp2_with (at_builtin; go_must (refine wpList_append_vec rfl _ _ _ rfl w.heap.size 5 1 1 elt_u8 (HV.out.keep ((Fr.refl (fun _ => False) _).alloc _) (fun _ _ h => h)) rfl (Reads.ofB (HPART.out.keep0 ((Fr.refl (fun _ => False) _).alloc _))) rfl (by simp) (bcells_one _) (by unfold maxLen; omega) (by omega) (by have := HF.out.size; simp; omega) ?_); intro v4 w4 hv4 hf4 hd4 hn4; obtain ⟨a4, c4, hsh, -⟩ := hv4.shape; subst hsh; have HV4 := Lib.hid hv4; have HF4 := Lib.hid hf4; clear hv4 hf4 hd4 hn4)
            go_ret2
            rw [S2.out HOK.out hbig]
            exact ⟨_, 2, rfl, ⟨rfl, rfl⟩, (HF.out.alloc _).step HF4.out (fun b hb hl => by have := (HV.out.lt b hb).1; omega)⟩
          · go_wp2_with (at_builtin; go_must (refine wpList_append_vec rfl _ _ _ rfl w.heap.size 5 1 1 elt_u8 (HV.out.keep ((Fr.refl (fun _ => False) _).alloc _) (fun _ _ h => h)) rfl (Reads.ofB (HPART.out.keep0 ((Fr.refl (fun _ => False) _).alloc _))) rfl (by simp) (bcells_one _) (by unfold maxLen; omega) (by omega) (by have := HF.out.size; simp; omega) ?_); intro v4 w4 hv4 hf4 hd4 hn4; obtain ⟨a4, c4, hsh, -⟩ := hv4.shape; subst hsh; have HV4 := Lib.hid hv4; have HF4 := Lib.hid hf4; clear hv4 hf4 hd4 hn4)
            have hl2 : out.length + X.length = (out ++ X).length := by simp
            refine ⟨⟨k + 1, out ++ X, a4, c4, by omega, by go_num, by rw [hl2], OKK.out HOK.out hbig, ?_, (HF.out.alloc _).step HF4.out (fun b hb hl => by have := (HV.out.lt b hb).1; omega)⟩, by simp [intOf]; omega⟩
            have := HV4.out
            rw [← bcells_append, hl2] at this
            exact this
    · obtain rfl : k = l.length := by omega
      have HAPP := Lib.hid happ
      have HV := Lib.hid hv
      have HF := Lib.hid hfr
      clear happ hv hfr
      go_wp2_with fail
      go_ret2
      have h := HAPP.out
      rw [List.take_of_length_le (by simp)] at h
      rw [h]
      exact ⟨_, 0, rfl, ⟨rfl, HV.out⟩, HF.out⟩
end Go.Proofs.YtlcdgbhigfgehabGreatDoor
