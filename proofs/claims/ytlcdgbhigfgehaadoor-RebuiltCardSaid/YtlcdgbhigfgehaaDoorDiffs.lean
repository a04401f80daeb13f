/- The law Diffs: Diff of any two files is the document's; the caller may write into what came out. -/
import Derived.Test.YtlcdgbhigfgehaaDoorRefDiff
import Derived.Test.YtlcdgbhigfgehaaDoorAlike
import Derived.Test.YtlcdgbhigfgehaaDoorOToks
import Derived.Test.YtlcdgbhigfgehaaDoorTokWalk
namespace Go.Proofs.YtlcdgbhigfgehaaDoor
open Go.RowKit
set_option maxRecDepth 100000

/-- The errors of a block's size and of two files. -/
def sized2 (block : Int) (n m : Nat) : Int := if sized block n = 0 then sized block m else sized block n
theorem diff_bad (v0 v1 : Value) (base data : List UInt8) (block : Int) (w : World) (h0 : IsB w v0 base) (h1 : IsB w v1 data) (hs : sized2 block base.length data.length ≠ 0) :
    Calls Tryd.prog 62 #[v0, v1, .int .i64 block] w fun e w' => e = .returned (.tuple #[.slice none 0 0, kindErr (sized2 block base.length data.length)]) ∧ Fr (fun _ => False) w w' := by
  obtain ⟨a0, c0, rfl, hc0, hm0⟩ := h0.shape
  obtain ⟨a1, c1, rfl, hc1, hm1⟩ := h1.shape
  have hk := check_row block w.heap.size 2 [(a0, base.length, c0), (a1, data.length, c1)] (w.alloc (.cells #[.slice a0 base.length c0, .slice a1 data.length c1] 25))
    (fun i h => by
      have : i = 0 ∨ i = 1 := by simp at h; omega
      rcases this with rfl | rfl <;> simp) (by simp) (by intro x hx; simp at hx; rcases hx with rfl | rfl <;> simp <;> omega)
  rw [show [(a0, base.length, c0), (a1, data.length, c1)].map (·.2.1) = [base.length, data.length] from rfl, checkK_two, show (if sized block base.length = 0 then sized block data.length else sized block base.length) = sized2 block base.length data.length from rfl, kindErr_pos _ hs] at hk
  have HK := Lib.hid hk
  have HS := Lib.hid hs
  clear hk hs h0 h1
  go_enter Tryd.func62, Tryd.ntmps62
  go_wp2_with fail
  refine HK.out.mono ?_
  rintro e w' ⟨rfl, rfl⟩
  go_wp2_with fail
  go_ret2
  exact ⟨by rw [kindErr_pos _ HS.out]; rfl, (Fr.refl _ _).alloc _⟩
/-- What Diff gives. -/
def DiffPost (w : World) (base data : List UInt8) (block : Int) (r : Value → Value) (e : Ending) (w' : World) : Prop :=
  ∃ x l, e = .returned (.tuple #[x, r (.int .i64 (sized2 block base.length data.length))]) ∧ Fr (fun _ => False) w w' ∧ OToks w' w.heap.size x l ∧
    (sized2 block base.length data.length ≠ 0 → x = .slice none 0 0 ∧ l = []) ∧ (sized2 block base.length data.length = 0 → l.map (·.1) = diffOf base data block.toNat)
def kErr (v : Value) : Value := match v with | .int _ k => kindErr k | _ => v
theorem diff_any (v0 v1 : Value) (base data : List UInt8) (block : Int) (w : World) (h0 : IsB w v0 base) (h1 : IsB w v1 data) :
    Calls Tryd.prog 62 #[v0, v1, .int .i64 block] w (DiffPost w base data block kErr) := by
  by_cases hs : sized2 block base.length data.length = 0
  · have hs0 : sized block base.length = 0 := by
      unfold sized2 at hs
      split at hs
      · assumption
      · exact hs
    have hs1 : sized block data.length = 0 := by
      unfold sized2 at hs
      rw [if_pos hs0] at hs
      exact hs
    have hblk : 1 ≤ block := by
      unfold sized at hs0
      split at hs0 <;> omega
    obtain ⟨blk, rfl⟩ := Int.eq_ofNat_of_zero_le (a := block) (by omega)
    refine (diff_good v0 v1 base data blk w h0 h1 hs0 hs1).mono ?_
    rintro e w' ⟨lv, l, rfl, h2, h3, h4⟩
    exact ⟨lv, l, by rw [hs]; rfl, h4, h2, fun h => absurd hs h, fun _ => h3⟩
  · refine (diff_bad v0 v1 base data block w h0 h1 hs).mono ?_
    rintro e w' ⟨rfl, h⟩
    exact ⟨_, [], rfl, h, OToks.nil _ _, fun _ => ⟨rfl, rfl⟩, fun h => absurd h hs⟩
set_option maxHeartbeats 1000000 in
theorem mdiff_any (v0 v1 : Value) (base data : List UInt8) (block : Int) (w : World) (h0 : IsB w v0 base) (h1 : IsB w v1 data) :
    Calls Tryd.prog 47 #[v0, v1, .int .i64 block] w (DiffPost w base data block kErr) := by
  have H := Lib.hid (diff_any v0 v1 base data block w h0 h1)
  clear h0 h1
  go_enter Tryd.func47, Tryd.ntmps47
  go_wp2_with fail
  refine H.out.mono ?_
  rintro e w' ⟨x, l, rfl, h1, h2⟩
  have H2 := Lib.hid h2
  clear h2
  go_wp2_with fail
  go_ret2
  exact ⟨x, l, rfl, h1, H2.out⟩
set_option maxHeartbeats 1000000 in
theorem pdiff_any (v0 v1 : Value) (base data : List UInt8) (block : Int) (w : World) (hg : ErrType w) (h0 : IsB w v0 base) (h1 : IsB w v1 data) :
    Calls Tryd.prog 27 #[v0, v1, .int .i64 block] w (DiffPost w base data block id) := by
  have H := Lib.hid (mdiff_any v0 v1 base data block w h0 h1)
  clear h0 h1
  go_enter Tryd.func27, Tryd.ntmps27
  go_wp2_with fail
  refine H.out.mono ?_
  rintro e w1 ⟨x, l, rfl, h1, h2⟩
  have H2 := Lib.hid h2
  clear h2
  go_wp2_with fail
  refine (told_kindErr _ w1 (hg.keep h1 id)).mono ?_
  rintro e w2 ⟨rfl, h3⟩
  go_wp2_with fail
  go_ret2
  exact ⟨x, l, rfl, h1.step h3 (fun _ h _ => h), H2.out.1.keep0 h3, H2.out.2⟩

set_option maxHeartbeats 4000000 in
theorem diffs_walk (s t : ByteArray) (block : Int) (w : World) (hg : ErrType w) (_hs : s.size ≤ maxLen) (_ht : t.size ≤ maxLen) (_b1 : -9223372036854775808 ≤ block) (_b2 : block ≤ 9223372036854775807) :
    Calls Tryd.prog 7 #[.string s, .string t, .int .i64 block] w fun e w' => e = .returned (.bool true) ∧ Fr (fun _ => False) w w' := by
  unfold maxLen at _hs _ht
  by_cases hs1 : 65536 < s.size
  · go_enter Tryd.func7, Tryd.ntmps7
    go_wp2_with fail
    go_ret
    exact ⟨rfl, Fr.refl _ _⟩
  by_cases ht1 : 65536 < t.size
  · go_enter Tryd.func7, Tryd.ntmps7
    go_wp2_with fail
    go_ret
    exact ⟨rfl, Fr.refl _ _⟩
  have hnil := fun (W : World) (a : Option Addr) (m c : Nat) => Lib.run_eql_slice_nil (P := Tryd.prog) W 27 30 a m c 0 0 Tryd.underlying27
  clear _hs _ht _b1 _b2
  have hsl : s.data.toList.length = s.size := by simp
  have htl : t.data.toList.length = t.size := by simp
  have HSL := Lib.hid hsl
  have HTL := Lib.hid htl
  clear hsl htl
  go_enter Tryd.func7, Tryd.ntmps7
  go_wp2_with fail
  refine (roomy_any _ _ (by omega)).mono ?_
  rintro e w1 ⟨gb, rfl, hgb, hro, hf1⟩
  have HRO := Lib.hid hro
  clear hro
  go_wp2_with fail
  refine (roomy_any _ _ (by omega)).mono ?_
  rintro e w2 ⟨gd, rfl, hgd, hrd, hf2⟩
  have HRB := Lib.hid (HRO.out.keep hf2 id)
  have HRD := Lib.hid hrd
  have HF2 := Lib.hid (hf1.step hf2 (fun _ h _ => h))
  have hgb2 := HRB.out.lt
  have hgd2 := hrd.lt
  clear hrd hf1 hf2 HRO
  go_wp2_with fail
  refine (pdiff_any _ _ _ _ block _ (hg.keep HF2.out id) (roomy_isB (by omega) HRB.out) (roomy_isB (by omega) HRD.out)).mono ?_
  rintro e w3 ⟨x, l, rfl, hf3, hot, hbad, hgood⟩
  rw [HSL.out, HTL.out] at hbad hgood ⊢
  have HRB3 := Lib.hid (HRB.out.keep hf3 id)
  have HRD3 := Lib.hid (HRD.out.keep hf3 id)
  have HF3 := Lib.hid (HF2.out.step hf3 (fun _ h _ => h))
  have HB := Lib.hid hbad
  have HG := Lib.hid hgood
  have HOT := Lib.hid hot
  have hz3 := hf3.size
  obtain ⟨xa, xc, hx, -⟩ := hot.vec.shape
  subst hx
  clear hbad hgood hot hf3 HRB HRD HF2 hg
  go_wp2_with fail
  refine (sized_any _ _ s.size _ rfl).mono ?_
  rintro e w' ⟨rfl, rfl⟩
  by_cases hs0 : sized block s.size = 0
  · have hz : (sized block s.size == 0) = true := by simpa using hs0
    have he : sized2 block s.size t.size = sized block t.size := by unfold sized2; rw [if_pos hs0]
    rw [he] at HB HG ⊢
    clear he
    go_wp2_with fail
    refine (sized_any _ _ t.size _ rfl).mono ?_
    rintro e w' ⟨rfl, rfl⟩
    by_cases hs1' : sized block t.size = 0
    · have hblk : 1 ≤ block := by
        unfold sized at hs0
        split at hs0 <;> omega
      obtain ⟨blk, rfl⟩ := Int.eq_ofNat_of_zero_le (a := block) (by omega)
      have hz1 : (sized blk t.size != 0) = false := by simpa using hs1'
      have hm := HG.out hs1'
      rw [Int.toNat_natCast] at hm
      have HM := Lib.hid hm
      have HS0 := Lib.hid hs0
      have HS1 := Lib.hid hs1'
      have hz2 : (sized blk t.size != 0) = false := by simpa using hs1'
      rw [hs1']
      clear hm hz hs0 hs1' HB HG
      go_wp2_with fail
      refine (rdiff_any s t blk _ HS0.out HS1.out).mono ?_
      rintro e w4 ⟨y, l2, rfl, hot2, hm2, hf4⟩
      have HO4 := Lib.hid (HOT.out.keep0 hf4)
      have HOT2 := Lib.hid hot2
      have hmm : l.map (·.1) = l2.map (·.1) := HM.out.trans hm2.symm
      have HMM := Lib.hid hmm
      obtain ⟨ya, yc, hy, -⟩ := hot2.vec.shape
      subst hy
      have HF4 := Lib.hid hf4
      clear hot2 hm2 hmm hf4
      go_wp2_with fail
      refine (alike_any _ _ l l2 _ _ _ HO4.out.toks HOT2.out.toks HMM.out).mono ?_
      rintro e w5 ⟨rfl, hf5⟩
      have HO5 := Lib.hid (HO4.out.keep0 hf5)
      have HF5 := Lib.hid (HF4.out.step hf5 (fun _ h _ => h))
      clear hf5
      go_wp2_with fail
      have hlen : l.length ≤ 1000000 := by
        have h1 := congrArg List.length HM.out
        rw [List.length_map] at h1
        have h2 := (diff_makes s.data.toList t.data.toList blk (by omega) (by
          rw [HTL.out]
          have := HS1.out
          unfold sized at this
          split at this
          · omega
          · split at this <;> omega)).2.2
        rw [HTL.out] at h2
        omega
      refine (written_any _ l _ _ HO5.out hlen).mono ?_
      rintro e w6 ⟨rfl, hf6⟩
      have hnb : ∀ b, b < w2.heap.size → ¬ dataOf l b := by
        rintro b hb ⟨p, hp, hk⟩
        have := (HOT.out.lt p hp b hk).1
        omega
      have HRB6 := Lib.hid ((HRB3.out.keep HF5.out id).keep hf6 (hnb _ hgb2))
      have HRD6 := Lib.hid ((HRD3.out.keep HF5.out id).keep hf6 (hnb _ hgd2))
      have HF6 := Lib.hid ((HF3.out.step HF5.out (fun _ h _ => h)).step hf6 (fun k hk hl => by
        have h1 := HF3.out.size
        obtain ⟨p, hp, hb⟩ := hk
        have h2 := (HOT.out.lt p hp k hb).1
        omega))
      clear hf6 hnb
      go_wp2_with fail
      refine (still_any _ _ _ (by omega) HRB6.out).mono ?_
      rintro e w' ⟨rfl, rfl⟩
      go_wp2_with fail
      refine (still_any _ _ _ (by omega) HRD6.out).mono ?_
      rintro e w' ⟨rfl, rfl⟩
      go_wp2_with fail
      go_ret
      exact ⟨rfl, HF6.out⟩
    · have hz1 : (sized block t.size != 0) = true := by simpa using hs1'
      have hx := (HB.out hs1').1
      simp only [Value.slice.injEq] at hx
      obtain ⟨rfl, hl0, rfl⟩ := hx
      rw [hl0]
      clear hs1' HB HG hs0
      go_wp2_with fail
      refine (still_any _ _ _ (by omega) HRB3.out).mono ?_
      rintro e w' ⟨rfl, rfl⟩
      go_wp2_with fail
      refine (still_any _ _ _ (by omega) HRD3.out).mono ?_
      rintro e w' ⟨rfl, rfl⟩
      go_wp2_with fail
      go_ret
      exact ⟨rfl, HF3.out⟩
  · have hz : (sized block s.size == 0) = false := by simpa using hs0
    have hz1 : (sized block s.size != 0) = true := by simpa using hs0
    have he : sized2 block s.size t.size = sized block s.size := by unfold sized2; rw [if_neg hs0]
    rw [he] at HB HG ⊢
    clear he
    have hx := (HB.out hs0).1
    simp only [Value.slice.injEq] at hx
    obtain ⟨rfl, hl0, rfl⟩ := hx
    rw [hl0]
    clear HB HG hs0
    go_wp2_with fail
    refine (still_any _ _ _ (by omega) HRB3.out).mono ?_
    rintro e w' ⟨rfl, rfl⟩
    go_wp2_with fail
    refine (still_any _ _ _ (by omega) HRD3.out).mono ?_
    rintro e w' ⟨rfl, rfl⟩
    go_wp2_with fail
    go_ret
    exact ⟨rfl, HF3.out⟩
end Go.Proofs.YtlcdgbhigfgehaaDoor
