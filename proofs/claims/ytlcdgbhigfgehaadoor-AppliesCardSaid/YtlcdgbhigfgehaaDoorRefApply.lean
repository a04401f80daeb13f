/- The walk of the document's Apply. -/
import Derived.Test.YtlcdgbhigfgehaaDoorApply
namespace Go.Proofs.YtlcdgbhigfgehaaDoor
open Go.RowKit
set_option maxRecDepth 100000

def RefApplied (r : Int ⊕ List UInt8) (s : ByteArray) (k : Int) : Prop :=
  match r with
  | .inl e => s = ByteArray.empty ∧ k = e
  | .inr out => k = 0 ∧ s.data.toList = out
def RefApplyPost (w : World) (r : Int ⊕ List UInt8) (e : Ending) (w' : World) : Prop :=
  ∃ s k, e = .returned (.tuple #[.string s, .int .i64 k]) ∧ RefApplied r s k ∧ Fr (fun _ => False) w w'

theorem ba_app (a b : ByteArray) : (a ++ b).data.toList = a.data.toList ++ b.data.toList := by simp
set_option maxHeartbeats 2000000 in
theorem rapply_any (s : ByteArray) (v1 : Value) (l : List (Tok × Value)) (blk B : Nat) (w : World) (ht : Toks w B v1 l) (hs : sized blk s.size = 0) (hd : ∀ p ∈ l, p.1.d.length ≤ 1000) :
    Calls Tryd.prog 18 #[.string s, v1, .int .i64 blk] w (RefApplyPost w (applyF s.data.toList blk (l.map (·.1)) [])) := by
  have hblk : 1 ≤ blk ∧ blk ≤ 64 ∧ s.size ≤ 300 := by
    unfold sized at hs
    split at hs
    · omega
    · split at hs
      · omega
      · omega
  obtain ⟨hb1, hb2, hb3⟩ := hblk
  have hsl : s.data.toList.length = s.size := by simp
  have hNle : nBlocks s.size blk ≤ 300 := by have := (nBlocks_mul s.size blk (by omega)).2.2; omega
  obtain ⟨a1, c1, hv1, hc1, hc2, -⟩ := ht.vec.shape
  subst hv1
  have hl := ht.vec.len
  unfold maxLen at hl
  have HT := Lib.hid ht
  have HD := Lib.hid hd
  have HSL := Lib.hid hsl
  clear ht hd hs hc1 hc2 hsl
  go_enter Tryd.func18, Tryd.ntmps18
  go_wp2_with fail
  refine (blocks_any s blk blk w rfl (by omega) hb2 (by omega)).mono ?_
  rintro e w1 ⟨bv, rfl, hbv, hf1⟩
  obtain ⟨ab, cb, rfl, -⟩ := hbv.shape
  generalize hNN : nBlocks s.size blk = N at hbv hNle
  have HNN := Lib.hid hNN
  have HBV := Lib.hid hbv
  have HF1 := Lib.hid hf1
  clear hNN hbv hf1
  go_wp2_with fail
  go_loopw [9, 10] (fun x i wr => ∃ (k : Nat) (o : ByteArray), k ≤ l.length ∧ i = .int .i64 k ∧ x = .string o ∧ applyF s.data.toList blk ((l.map (·.1)).take k) [] = .inr o.data.toList ∧ Fr (fun _ => False) w1 wr) (fun _ i _ => l.length - (intOf i).toNat)
  case atStart => exact ⟨0, ByteArray.empty, Nat.zero_le _, rfl, rfl, rfl, Fr.refl _ _⟩
  case round =>
    obtain ⟨k, o, hk, rfl, rfl, happ, hfr⟩ := hrel
    have hout : o.size ≤ 300 := by have := applyF_len s.data.toList blk _ [] _ (by simp) happ; simpa using this
    by_cases hlt : k < l.length
    · have hkm : k < (l.map (·.1)).length := by simpa using hlt
      have hstep := applyF_take s.data.toList blk (l.map (·.1)) k hkm _ happ
      rw [List.getElem_map, HSL.out, HNN.out] at hstep
      have hF : Fr (fun _ => False) w wr := HF1.out.step hfr (fun _ h _ => h)
      have e1 := HT.out.keep0 hF
      obtain ⟨g1, c1', q1, x1, y1, z1⟩ := e1.get k hlt
      simp only [Value.slice.injEq, true_and] at q1
      obtain ⟨rfl, rfl⟩ := q1
      have d1 := e1.data l[k] (List.getElem_mem hlt)
      have hd1 := HD.out l[k] (List.getElem_mem hlt)
      obtain ⟨da, dc, hdv, hdl, hdc⟩ := d1.shape
      rw [hdv] at z1 d1
      have HSTEP := Lib.hid hstep
      have HAPP := Lib.hid happ
      have HF := Lib.hid hfr
      have HDI := Lib.hid d1
      clear e1 hstep happ hF hfr d1 hdv
      generalize l[k].1 = t at *
      obtain ⟨tb, tc, td⟩ := t
      simp only at x1 y1 hd1 hdl z1
      replace HDI : Hid (IsB wr (.slice da td.length dc) td) := HDI
      have stop3 : tokOk N ⟨tb, tc, td⟩ = false → applyF s.data.toList blk (l.map (·.1)) [] = .inl 3 := fun h =>
        applyF_stop _ blk _ (k + 1) 3 (by rw [HSTEP.out, h]; rfl)
      have stop2 : tokOk N ⟨tb, tc, td⟩ = true → 300 < (o.data.toList ++ tokMake s.data.toList blk ⟨tb, tc, td⟩).length → applyF s.data.toList blk (l.map (·.1)) [] = .inl 2 := fun h h' =>
        applyF_stop _ blk _ (k + 1) 2 (by rw [HSTEP.out, if_pos h, if_pos h'])
      have okk : tokOk N ⟨tb, tc, td⟩ = true → ¬ 300 < (o.data.toList ++ tokMake s.data.toList blk ⟨tb, tc, td⟩).length → applyF s.data.toList blk ((l.map (·.1)).take (k + 1)) [] = .inr (o.data.toList ++ tokMake s.data.toList blk ⟨tb, tc, td⟩) := fun h h' => by
        rw [HSTEP.out, if_pos h, if_neg h']
      have S3 := Lib.hid stop3
      have S2 := Lib.hid stop2
      have OKK := Lib.hid okk
      clear stop3 stop2 okk
      by_cases h1 : tc < 0
      · have hbad : tokOk N ⟨tb, tc, td⟩ = false := by simp [tokOk]; omega
        have HBAD := Lib.hid hbad
        clear hbad
        go_wp2_with fail
        go_ret2
        rw [S3.out HBAD.out]
        exact ⟨_, 3, rfl, ⟨rfl, rfl⟩, (HF1.out.step HF.out (fun _ h _ => h)).alloc _⟩
      by_cases h2 : tb < 0
      · have hbad : tokOk N ⟨tb, tc, td⟩ = false := by simp [tokOk]; omega
        have HBAD := Lib.hid hbad
        clear hbad
        go_wp2_with fail
        go_ret2
        rw [S3.out HBAD.out]
        exact ⟨_, 3, rfl, ⟨rfl, rfl⟩, (HF1.out.step HF.out (fun _ h _ => h)).alloc _⟩
      by_cases h3 : tc = 0
      · subst h3
        by_cases h4 : tb = 0
        · subst h4
          have hok : tokOk N ⟨0, 0, td⟩ = true := by simp [tokOk]
          have hmk : tokMake s.data.toList blk ⟨0, 0, td⟩ = td := by simp [tokMake]
          rw [hmk, List.length_append] at S2 OKK
          have HOK := Lib.hid hok
          have hcv := run_string_of (P := Tryd.prog) (wr.alloc (.cells #[.int .i64 0, .int .i64 0, .slice da td.length dc] 30)) 25 9 5 _ _ Tryd.underlying25 Tryd.underlying5 Tryd.underlying9 (HDI.out.keep0 ((Fr.refl (fun _ => False) _).alloc _))
          have hos : o.data.toList.length = o.size := by simp
          rw [hos] at S2 OKK
          clear hok hmk hos
          by_cases hbig : 300 < o.size + td.length
          · go_wp2_with fail
            refine wp_loop_rounds 1 ?_
            rw [rounds_succ]
            go_wp2_with fail
            go_ret2
            rw [S2.out HOK.out hbig]
            exact ⟨_, 2, rfl, ⟨rfl, rfl⟩, (HF1.out.step HF.out (fun _ h _ => h)).alloc _⟩
          · go_wp2_with fail
            refine wp_loop_rounds 1 ?_
            rw [rounds_succ]
            go_wp2_with fail
            refine ⟨⟨k + 1, _, by omega, by go_num, rfl, ?_, HF.out.alloc _⟩, by simp [intOf]; omega⟩
            rw [OKK.out HOK.out hbig, ba_app]
        · have hbad : tokOk N ⟨tb, 0, td⟩ = false := by simp [tokOk]; omega
          have HBAD := Lib.hid hbad
          clear hbad
          have h4' : (tb != 0) = true := by simpa using h4
          go_wp2_with fail
          go_ret2
          rw [S3.out HBAD.out]
          exact ⟨_, 3, rfl, ⟨rfl, rfl⟩, (HF1.out.step HF.out (fun _ h _ => h)).alloc _⟩
      have h3' : (tc == 0) = false := by simpa using h3
      have h3'' : 0 < tc := by omega
      by_cases h5 : 0 < td.length
      · have hbad : tokOk N ⟨tb, tc, td⟩ = false := by
          have : td.isEmpty = false := by cases td <;> simp at h5 ⊢
          simp [tokOk, this]; omega
        have HBAD := Lib.hid hbad
        clear hbad
        go_wp2_with fail
        go_ret2
        rw [S3.out HBAD.out]
        exact ⟨_, 3, rfl, ⟨rfl, rfl⟩, (HF1.out.step HF.out (fun _ h _ => h)).alloc _⟩
      by_cases h6 : (N : Int) < tb
      · have hbad : tokOk N ⟨tb, tc, td⟩ = false := by simp [tokOk]; omega
        have HBAD := Lib.hid hbad
        clear hbad
        go_wp2_with fail
        go_ret2
        rw [S3.out HBAD.out]
        exact ⟨_, 3, rfl, ⟨rfl, rfl⟩, (HF1.out.step HF.out (fun _ h _ => h)).alloc _⟩
      by_cases h7 : (N : Int) - tb < tc
      · have hbad : tokOk N ⟨tb, tc, td⟩ = false := by simp [tokOk]; omega
        have HBAD := Lib.hid hbad
        clear hbad
        go_wp2_with fail
        go_ret2
        rw [S3.out HBAD.out]
        exact ⟨_, 3, rfl, ⟨rfl, rfl⟩, (HF1.out.step HF.out (fun _ h _ => h)).alloc _⟩
      · obtain ⟨bn, rfl⟩ := Int.eq_ofNat_of_zero_le (a := tb) (by omega)
        obtain ⟨cn, rfl⟩ := Int.eq_ofNat_of_zero_le (a := tc) (by omega)
        have htd : td = [] := by cases td with | nil => rfl | cons _ _ => simp at h5
        subst htd
        replace HDI : Hid (IsB wr (.slice da 0 dc) []) := HDI
        have hok : tokOk N ⟨bn, cn, []⟩ = true := by simp [tokOk]; omega
        have HOK := Lib.hid hok
        have hcv := run_string_of (P := Tryd.prog) (wr.alloc (.cells #[.int .i64 bn, .int .i64 cn, .slice da 0 dc] 30)) 25 9 5 _ _ Tryd.underlying25 Tryd.underlying5 Tryd.underlying9 (HDI.out.keep0 ((Fr.refl (fun _ => False) _).alloc _))
        have hmk : tokMake s.data.toList blk ⟨bn, cn, []⟩ = (s.data.toList.drop (bn * blk)).take (cn * blk) := by
          unfold tokMake
          rw [if_neg (show ¬ (cn : Int) = 0 by omega)]
          rfl
        rw [hmk] at S2 OKK
        obtain ⟨gb, cb', rest, hq, -, hob, -⟩ := HBV.out.row (by omega)
        simp only [Value.slice.injEq, true_and] at hq
        obtain ⟨rfl, rfl⟩ := hq
        have hcell : ∀ i, i < N → (wr.alloc (.cells #[.int .i64 bn, .int .i64 cn, .slice da 0 dc] 30)).cell? ⟨gb, i, none⟩ = some (.string ⟨((s.data.toList.drop (i * blk)).take blk).toArray⟩) := by
          intro i hi
          have hob' := hob.keep (HF.out.alloc (.cells #[.int .i64 bn, .int .i64 cn, .slice da 0 dc] 30)) id
          refine hob'.cell ?_
          have hi' : i < nBlocks s.data.toList.length blk := by rw [HSL.out, HNN.out]; exact hi
          rw [List.getElem?_append_left (by simp [length_blocksOf]; rw [show s.data.toList.length = s.size by simp] at hi'; simpa using hi'), List.getElem?_map, List.getElem?_eq_getElem (by rw [length_blocksOf]; exact hi'), blocksOf_get _ _ _ hi']
          rfl
        have HCELL := Lib.hid hcell
        clear hok hmk hcell hob
        go_wp2_with fail
        go_loop [9, 12] (fun x j => ∃ (q : Nat) (o2 : ByteArray), q ≤ cn ∧ j = .int .i64 q ∧ x = .string o2 ∧ o2.data.toList = o.data.toList ++ (s.data.toList.drop (bn * blk)).take (q * blk)) (fun _ j => cn - (intOf j).toNat)
        case atStart => exact ⟨0, o, Nat.zero_le _, rfl, rfl, by simp⟩
        case round =>
          obtain ⟨q, o2, hq, rfl, rfl, ho2⟩ := hrel
          have hz2 : o2.size ≤ 600 := by
            rw [show o2.size = o2.data.toList.length by simp, ho2]
            simp; omega
          have HO2 := Lib.hid ho2
          clear ho2
          by_cases hq2 : q < cn
          · have hc := HCELL.out (bn + q) (by omega)
            go_wp2_with fail
            refine ⟨⟨q + 1, _, by omega, by go_num, rfl, ?_⟩, by simp [intOf]; omega⟩
            rw [ba_app, HO2.out, List.append_assoc]
            show _ ++ (_ ++ List.take blk _) = _
            rw [make_succ]
          · obtain rfl : q = cn := by omega
            have hos : o2.data.toList.length = o2.size := by simp
            have HOS := Lib.hid hos
            rw [← HO2.out] at S2 OKK
            clear hos
            by_cases hbig : 300 < o2.size
            · go_wp2_with fail
              go_ret2
              rw [S2.out HOK.out (by rw [HOS.out]; exact hbig)]
              exact ⟨_, 2, rfl, ⟨rfl, rfl⟩, (HF1.out.step HF.out (fun _ h _ => h)).alloc _⟩
            · go_wp2_with fail
              refine ⟨⟨k + 1, _, by omega, by go_num, rfl, ?_, HF.out.alloc _⟩, by simp [intOf]; omega⟩
              rw [OKK.out HOK.out (by rw [HOS.out]; exact hbig), ba_app]
              simp
    · obtain rfl : k = l.length := by omega
      have HAPP := Lib.hid happ
      have HF := Lib.hid hfr
      clear happ hfr
      go_wp2_with fail
      go_ret2
      have h := HAPP.out
      rw [List.take_of_length_le (by simp)] at h
      rw [h]
      exact ⟨_, 0, rfl, ⟨rfl, rfl⟩, HF1.out.step HF.out (fun _ h _ => h)⟩
end Go.Proofs.YtlcdgbhigfgehaaDoor
