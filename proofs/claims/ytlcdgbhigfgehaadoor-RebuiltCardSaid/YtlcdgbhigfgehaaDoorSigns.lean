/- The law Signs: Sign of any bytes is the document's. -/
import Derived.Test.YtlcdgbhigfgehaaDoorSign
import Derived.Test.YtlcdgbhigfgehaaDoorTokWalk
namespace Go.Proofs.YtlcdgbhigfgehaaDoor
open Go.RowKit
set_option maxRecDepth 100000

theorem sign_bad (v : Value) (l : List UInt8) (block : Int) (w : World) (hb : IsB w v l) (hs : sized block l.length ≠ 0) :
    Calls Tryd.prog 57 #[v, .int .i64 block] w fun e w' => e = .returned (.tuple #[.slice none 0 0, kindErr (sized block l.length)]) ∧ Fr (fun _ => False) w w' := by
  obtain ⟨a0, c0, rfl, h1, h2⟩ := hb.shape
  have hm : l.length ≤ maxLen := by omega
  have hk := check_row block w.heap.size 1 [(a0, l.length, c0)] (w.alloc (.cells #[.slice a0 l.length c0] 25)) (fun i h => by simp at h; subst h; simp) (by simp) (by simpa using hm)
  rw [show [(a0, l.length, c0)].map (·.2.1) = [l.length] from rfl, checkK_one, kindErr_pos _ hs] at hk
  have HK := Lib.hid hk
  have HS := Lib.hid hs
  clear hk hs hb
  go_enter Tryd.func57, Tryd.ntmps57
  go_wp2_with fail
  refine HK.out.mono ?_
  rintro e w' ⟨rfl, rfl⟩
  go_wp2_with fail
  go_ret2
  exact ⟨by rw [kindErr_pos _ HS.out]; rfl, (Fr.refl _ _).alloc _⟩

/-- What Sign gives. -/
def SignPost (w : World) (l : List UInt8) (block : Int) (r : Value → Value) (e : Ending) (w' : World) : Prop :=
  ∃ x, e = .returned (.tuple #[x, r (.int .i64 (sized block l.length))]) ∧ Fr (fun _ => False) w w' ∧
    (sized block l.length ≠ 0 → x = .slice none 0 0) ∧
    (sized block l.length = 0 → Vec w' w.heap.size 50 3 x (nBlocks l.length block.toNat) (sumCells (blocksOf l block.toNat)))
def errOf (v : Value) : Value := match v with | .int _ k => kindErr k | _ => v
theorem sign_any (v : Value) (l : List UInt8) (block : Int) (w : World) (hv : IsB w v l) :
    Calls Tryd.prog 57 #[v, .int .i64 block] w (SignPost w l block errOf) := by
  by_cases hs : sized block l.length = 0
  · have hblk : 1 ≤ block := by
      unfold sized at hs
      split at hs <;> omega
    obtain ⟨blk, rfl⟩ := Int.eq_ofNat_of_zero_le (a := block) (by omega)
    refine (sign_good v l blk w hv hs).mono ?_
    rintro e w' ⟨x, rfl, h1, h2⟩
    refine ⟨x, ?_, h2, fun h => absurd hs h, fun _ => h1⟩
    rw [hs]; rfl
  · refine (sign_bad v l block w hv hs).mono ?_
    rintro e w' ⟨rfl, h⟩
    exact ⟨_, rfl, h, fun _ => rfl, fun h => absurd h hs⟩
set_option maxHeartbeats 1000000 in
theorem msign_any (v : Value) (l : List UInt8) (block : Int) (w : World) (hv : IsB w v l) :
    Calls Tryd.prog 40 #[v, .int .i64 block] w (SignPost w l block errOf) := by
  have H := Lib.hid (sign_any v l block w hv)
  clear hv
  go_enter Tryd.func40, Tryd.ntmps40
  go_wp2_with fail
  refine H.out.mono ?_
  rintro e w' ⟨x, rfl, h1, h2⟩
  have H2 := Lib.hid h2
  clear h2
  go_wp2_with fail
  go_ret2
  exact ⟨x, rfl, h1, H2.out⟩
set_option maxHeartbeats 1000000 in
theorem psign_any (v : Value) (l : List UInt8) (block : Int) (w : World) (hg : ErrType w) (hv : IsB w v l) :
    Calls Tryd.prog 20 #[v, .int .i64 block] w (SignPost w l block id) := by
  have H := Lib.hid (msign_any v l block w hv)
  clear hv
  go_enter Tryd.func20, Tryd.ntmps20
  go_wp2_with fail
  refine H.out.mono ?_
  rintro e w1 ⟨x, rfl, h1, h2⟩
  have H2 := Lib.hid h2
  clear h2
  go_wp2_with fail
  refine (told_kindErr _ w1 (hg.keep h1 id)).mono ?_
  rintro e w2 ⟨rfl, h3⟩
  go_wp2_with fail
  go_ret2
  exact ⟨x, rfl, h1.step h3 (fun _ h _ => h), H2.out.1, fun h => (H2.out.2 h).keep h3 (fun _ _ h => h)⟩

theorem blocksOf_length_le (l : List UInt8) (blk i : Nat) (h : i < (blocksOf l blk).length) : ((blocksOf l blk)[i]).length ≤ blk := by
  have h' : i < nBlocks l.length blk := by rwa [length_blocksOf] at h
  rw [blocksOf_get _ _ _ h']
  simp; omega
set_option maxHeartbeats 4000000 in
theorem signs_walk (s : ByteArray) (block : Int) (w : World) (hg : ErrType w) (_hs : s.size ≤ maxLen) (_b1 : -9223372036854775808 ≤ block) (_b2 : block ≤ 9223372036854775807) :
    Calls Tryd.prog 5 #[.string s, .int .i64 block] w fun e w' => e = .returned (.bool true) ∧ Fr (fun _ => False) w w' := by
  unfold maxLen at _hs
  by_cases hs1 : 65536 < s.size
  · go_enter Tryd.func5, Tryd.ntmps5
    go_wp2_with fail
    go_ret
    exact ⟨rfl, Fr.refl _ _⟩
  have hnil := fun (W : World) (a : Option Addr) (m c : Nat) => Lib.run_eql_slice_nil (P := Tryd.prog) W 40 50 a m c 0 0 Tryd.underlying40
  have hsl : s.data.toList.length = s.size := by simp
  have HSL := Lib.hid hsl
  clear hsl _hs _b1 _b2
  go_enter Tryd.func5, Tryd.ntmps5
  go_wp2_with fail
  refine (roomy_any _ _ (by omega)).mono ?_
  rintro e w1 ⟨gb, rfl, hgb, hro, hf1⟩
  have HRO := Lib.hid hro
  clear hro
  go_wp2_with fail
  refine (psign_any _ _ block _ (hg.keep hf1 id) (roomy_isB (by omega) HRO.out)).mono ?_
  rintro e w2 ⟨x, rfl, hf2, hbad, hgood⟩
  rw [HSL.out] at hbad hgood ⊢
  have HRO2 := Lib.hid (HRO.out.keep hf2 id)
  have HF2 := Lib.hid (hf1.step hf2 (fun _ h _ => h))
  have hz2 := hf2.size
  have HB := Lib.hid hbad
  have HG := Lib.hid hgood
  clear hbad hgood hf1 hf2 HRO
  obtain ⟨xa, xn, xc, hx⟩ : ∃ a n c, x = .slice a n c := by
    by_cases h : sized block s.size = 0
    · obtain ⟨a, c, h, -⟩ := (HG.out h).shape; exact ⟨_, _, _, h⟩
    · exact ⟨_, _, _, HB.out h⟩
  subst hx
  go_wp2_with fail
  refine (still_any _ _ _ (by omega) HRO2.out).mono ?_
  rintro e w' ⟨rfl, rfl⟩
  go_wp2_with fail
  refine (sized_any _ _ s.size _ rfl).mono ?_
  rintro e w' ⟨rfl, rfl⟩
  by_cases hs : sized block s.size = 0
  · have hblk : 1 ≤ block ∧ block ≤ 64 ∧ s.size ≤ 300 := by
      unfold sized at hs
      split at hs
      · omega
      · split at hs <;> omega
    obtain ⟨blk, rfl⟩ := Int.eq_ofNat_of_zero_le (a := block) (by omega)
    have hv := HG.out hs
    rw [Int.toNat_natCast] at hv
    rw [hs]
    clear HB HG hg
    have HV := Lib.hid hv
    obtain ⟨a', c', hq, -⟩ := hv.shape
    simp only [Value.slice.injEq] at hq
    obtain ⟨rfl, rfl, rfl⟩ := hq
    clear hv hs
    go_wp2_with fail
    refine (blocks_any s blk blk _ rfl (by omega) (by omega) (by omega)).mono ?_
    rintro e w3 ⟨bv, rfl, hbv, hf3⟩
    obtain ⟨ab, cb, rfl, -⟩ := hbv.shape
    have HBV := Lib.hid hbv
    have HV3 := Lib.hid (HV.out.keep hf3 (fun _ _ h => h))
    have HF3 := Lib.hid (HF2.out.step hf3 (fun _ h _ => h))
    have hNle : nBlocks s.size blk ≤ 300 := by have := (nBlocks_mul s.size blk (by omega)).2.2; omega
    have HNL : Hid ((blocksOf s.data.toList blk).length = nBlocks s.size blk) := by
      show _ = _
      rw [length_blocksOf, HSL.out]
    generalize nBlocks s.size blk = N at *
    clear hbv hf3 HV HF2
    go_wp2_with fail
    go_loopw [11] (fun i wr => ∃ k : Nat, k ≤ N ∧ i = .int .i64 k ∧ Fr (fun _ => False) w3 wr) (fun i _ => N - (intOf i).toNat)
    case atStart => exact ⟨0, Nat.zero_le _, rfl, Fr.refl _ _⟩
    case round =>
      obtain ⟨k, hk, rfl, hfr⟩ := hrel
      have HF := Lib.hid hfr
      by_cases hlt : k < N
      · have hkl : k < (blocksOf s.data.toList blk).length := by rw [HNL.out]; exact hlt
        obtain ⟨g1, c1, r1, hq1, -, ho1, -⟩ := (HV3.out.keep hfr (fun _ _ h => h)).row (by omega)
        obtain ⟨g2, c2, r2, hq2, -, ho2, -⟩ := (HBV.out.keep hfr (fun _ _ h => h)).row (by omega)
        simp only [Value.slice.injEq, true_and] at hq1 hq2
        obtain ⟨rfl, rfl⟩ := hq1
        obtain ⟨rfl, rfl⟩ := hq2
        have hg := sumCells_get (blocksOf s.data.toList blk) k hkl
        have x0 := ho1.cell (i := k * 3) (by rw [List.getElem?_append_left (by simp; omega)]; exact hg.1)
        have x1 := ho1.cell (i := k * 3 + 1) (by rw [List.getElem?_append_left (by simp; omega)]; exact hg.2.1)
        have x2 := ho1.cell (i := k * 3 + 2) (by rw [List.getElem?_append_left (by simp; omega)]; exact hg.2.2)
        have y0 := ho2.cell (i := k) (by rw [List.getElem?_append_left (by simpa using hkl), List.getElem?_map, List.getElem?_eq_getElem hkl]; rfl)
        have hbl := blocksOf_length_le s.data.toList blk k hkl
        clear ho1 ho2 hg hfr
        generalize (blocksOf s.data.toList blk)[k] = bk at *
        obtain ⟨t, ht⟩ : ∃ t : ByteArray, t = ⟨bk.toArray⟩ := ⟨_, rfl⟩
        have hbt : bk = t.data.toList := by rw [ht]
        have hts : t.data.toList.length = t.size := by simp
        change _ = some (Value.string ⟨bk.toArray⟩) at y0
        rw [← ht] at y0
        subst hbt
        rw [hts] at x0 hbl
        clear ht hts
        have hwl := weakOf_lt t.data.toList
        go_wp2_with fail
        refine (rweak_any _ _ (by omega)).mono ?_
        rintro e w' ⟨rfl, rfl⟩
        go_wp2_with fail
        refine (rdigest_any _ _ (by unfold maxLen; omega)).mono ?_
        rintro e w' ⟨rfl, rfl⟩
        go_wp2_with fail
        go_quiet (fail)
        go_wp2_with fail
        exact ⟨⟨k + 1, by omega, by go_num, HF.out.drewN _⟩, by simp [intOf]; omega⟩
      · obtain rfl : k = N := by omega
        clear hfr
        go_wp2_with fail
        go_ret
        exact ⟨rfl, HF3.out.step HF.out (fun _ h _ => h)⟩
  · have hx := HB.out hs
    simp only [Value.slice.injEq] at hx
    obtain ⟨rfl, rfl, rfl⟩ := hx
    have hs' : (sized block s.size != 0) = true := by simpa using hs
    clear hs HB HG
    go_wp2_with fail
    go_ret
    exact ⟨rfl, HF2.out⟩
end Go.Proofs.YtlcdgbhigfgehaaDoor
