/- recorded: Record of two lists of files is the document's, and leaves them alone. -/
import Derived.Test.YtlcdgbhigfgehaaDoorPRecord
import Derived.Test.YtlcdgbhigfgehaaDoorRRecord
import Derived.Test.YtlcdgbhigfgehaaDoorFiles
import Derived.Test.YtlcdgbhigfgehaaDoorAlike
namespace Go.Proofs.YtlcdgbhigfgehaaDoor
open Go.RowKit
set_option maxRecDepth 100000

set_option maxHeartbeats 4000000 in
theorem recorded_any (v0 v1 : Value) (src ref : List Fil) (B0 B1 : Nat) (block : Int) (w : World) (hg : ErrType w) (h0 : Refs w B0 v0 src) (h1 : Refs w B1 v1 ref) (hn0 : ∀ f ∈ src, f.name.length ≤ 1000000 ∧ f.data.length ≤ 1000000) (hn1 : ∀ f ∈ ref, f.name.length ≤ 1000000 ∧ f.data.length ≤ 1000000) (hl0 : src.length ≤ 1000000) (hl1 : ref.length ≤ 1000000) :
    Calls Tryd.prog 33 #[v0, v1, .int .i64 block] w fun e w' => e = .returned (.bool true) ∧ Fr (fun _ => False) w w' := by
  have H0 := Lib.hid h0
  have H1 := Lib.hid h1
  have HN0 := Lib.hid hn0
  have HN1 := Lib.hid hn1
  obtain ⟨a0, c0, rfl, -⟩ := Vec.shape h0
  obtain ⟨a1, c1, rfl, -⟩ := Vec.shape h1
  have hnil := fun (W : World) (a : Option Addr) (m c : Nat) => Lib.run_eql_slice_nil (P := Tryd.prog) W 25 5 a m c 0 0 Tryd.underlying25
  clear h0 h1 hn0 hn1
  go_enter Tryd.func33, Tryd.ntmps33
  go_wp2_with fail
  refine (files_any _ src B0 w H0.out (fun f hf => (HN0.out f hf).2) hl0).mono ?_
  rintro e w1 ⟨x, m, rfl, hm, hla, hf1⟩
  obtain ⟨xa, xc, hxs, -⟩ := hla.vec.shape
  subst hxs
  have HM := Lib.hid hm
  have HLA := Lib.hid hla
  have HF1 := Lib.hid hf1
  clear hm hla hf1
  go_wp2_with fail
  refine (files_any _ ref B1 w1 (Vec.keep H1.out HF1.out (fun _ _ h => h)) (fun f hf => (HN1.out f hf).2) hl1).mono ?_
  rintro e w2 ⟨y, n, rfl, hm2, hlb, hf2⟩
  obtain ⟨ya, yc, hys, -⟩ := hlb.vec.shape
  subst hys
  have HM2 := Lib.hid hm2
  have HLA2 := Lib.hid (HLA.out.keep0 hf2)
  have HLB2 := Lib.hid hlb
  have HF2 := Lib.hid (HF1.out.step hf2 (fun _ h _ => h))
  have hz2 := hf2.size
  have hz1 := HF1.out.size
  have hmd : ∀ p ∈ m, p.1.name.length ≤ 1000000 ∧ p.1.data.length ≤ 1000000 := fun p hp => HN0.out p.1 (by rw [← HM.out]; exact List.mem_map_of_mem hp)
  have hnd : ∀ p ∈ n, p.1.name.length ≤ 1000000 ∧ p.1.data.length ≤ 1000000 := fun p hp => HN1.out p.1 (by rw [← hm2]; exact List.mem_map_of_mem hp)
  have hpr := precord_any _ _ m n w.heap.size block w2 (hg.keep HF2.out id)
    (HLA2.out.fils (fun p hp => by have := (hmd p hp).2; omega)) (show Fils w2 w.heap.size _ n from by
      have h := hlb.fils (fun p hp => by have := (hnd p hp).2; omega)
      exact ⟨h.vec.mono (by omega), h.data, fun p hp b hb => ⟨by have := (h.from_ p hp b hb).1; omega, (h.from_ p hp b hb).2⟩⟩) hmd hnd
  rw [HM.out, hm2] at hpr
  have HPR := Lib.hid hpr
  have HM2' := Lib.hid hm2
  clear hm2 hlb hf2 hmd hnd hpr HM2
  go_wp2_with fail
  refine HPR.out.mono ?_
  rintro e w3 ⟨z, rfl, hf3, hx⟩
  have HX := Lib.hid hx
  have HF3 := Lib.hid (HF2.out.step hf3 (fun _ h _ => h))
  have HLA3 := Lib.hid (HLA2.out.keep0 hf3)
  have HLB3 := Lib.hid (HLB2.out.keep0 hf3)
  have hz3 := hf3.size
  have HW3 := Lib.hid hf3
  clear hx hf3
  go_wp2_with fail
  refine (kept_any _ _ m src _ B0 w3 HLA3.out (Vec.keep H0.out HF3.out (fun _ _ h => h)) HM.out (fun f hf => (HN0.out f hf).2)).mono ?_
  rintro e w4 ⟨rfl, hf4⟩
  have HF4 := Lib.hid (HF3.out.step hf4 (fun _ h _ => h))
  have HX4 := Lib.hid (HX.out.keep hf4)
  have HLA4 := Lib.hid (HLA3.out.keep0 hf4)
  have HLB4 := Lib.hid (HLB3.out.keep0 hf4)
  have hz4 := hf4.size
  have HW4 := Lib.hid (HW3.out.step hf4 (fun _ h _ => h))
  clear hf4
  go_wp2_with fail
  refine (kept_any _ _ n ref _ B1 w4 HLB4.out (Vec.keep H1.out HF4.out (fun _ _ h => h)) HM2'.out (fun f hf => (HN1.out f hf).2)).mono ?_
  rintro e w5 ⟨rfl, hf5⟩
  have HF5 := Lib.hid (HF4.out.step hf5 (fun _ h _ => h))
  have HX5 := Lib.hid (HX4.out.keep hf5)
  have HLA5 := Lib.hid (HLA4.out.keep0 hf5)
  have HLB5 := Lib.hid (HLB4.out.keep0 hf5)
  have hz5 := hf5.size
  have HW5 := Lib.hid (HW4.out.step hf5 (fun _ h _ => h))
  clear hf5 HF3 HF4 HX HX4 HLA3 HLA4 HLB3 HLB4
  have H0' := Lib.hid (show Refs w5 B0 (.slice a0 src.length c0) src from Vec.keep H0.out HF5.out (fun _ _ h => h))
  have H1' := Lib.hid (show Refs w5 B1 (.slice a1 ref.length c1) ref from Vec.keep H1.out HF5.out (fun _ _ h => h))
  by_cases hb1 : block < 1
  · have he : recErr block src ref = .kind 1 := by unfold recErr; rw [if_pos (.inl hb1)]
    have hz : z = .slice none 0 0 := HX5.out.bad (by rw [he]; exact fun h => by cases h)
    subst hz
    have hk : (recErr block src ref).k = 1 := by rw [he]; rfl
    have hnm : (recErr block src ref).name = ByteArray.empty := by rw [he]; rfl
    rw [hk, hnm]
    clear he hk hnm HX5
    go_wp2_with fail
    go_ret
    exact ⟨rfl, HF5.out⟩
  by_cases hb2 : 64 < block
  · have he : recErr block src ref = .kind 1 := by unfold recErr; rw [if_pos (.inr hb2)]
    have hz : z = .slice none 0 0 := HX5.out.bad (by rw [he]; exact fun h => by cases h)
    subst hz
    have hk : (recErr block src ref).k = 1 := by rw [he]; rfl
    have hnm : (recErr block src ref).name = ByteArray.empty := by rw [he]; rfl
    rw [hk, hnm]
    clear he hk hnm HX5
    go_wp2_with fail
    go_ret
    exact ⟨rfl, HF5.out⟩
  have hnb : ¬ (block < 1 ∨ 64 < block) := by omega
  have HT0 := Lib.hid (rtree_any _ src B0 w5 H0'.out (fun f hf => (HN0.out f hf).1) (fun f hf => (HN0.out f hf).2))
  have HT1 := Lib.hid (fun W (hW : Fr (fun _ => False) w5 W) => rtree_any _ ref B1 W (Vec.keep H1'.out hW (fun _ _ h => h)) (fun f hf => (HN1.out f hf).1) (fun f hf => (HN1.out f hf).2))
  cases hts : treeErr src with
  | some fn =>
    have he : recErr block src ref = .file ⟨fn.toArray⟩ 4 := by unfold recErr; rw [if_neg hnb, hts]; rfl
    have hz : z = .slice none 0 0 := HX5.out.bad (by rw [he]; exact fun h => by cases h)
    subst hz
    have hk : (recErr block src ref).k = 4 := by rw [he]; rfl
    have hnm : (recErr block src ref).name = ⟨fn.toArray⟩ := by rw [he]; rfl
    rw [hk, hnm]
    rw [hts] at HT0
    clear he hk hnm HX5 hts hnb
    go_wp2_with fail
    refine HT0.out.mono ?_
    rintro e w6 ⟨rfl, hf6⟩
    have HF6 := Lib.hid (HF5.out.step hf6 (fun _ h _ => h))
    clear hf6
    go_wp2_with fail
    go_ret
    exact ⟨rfl, HF6.out⟩
  | none =>
    rw [hts] at HT0
    cases htr : treeErr ref with
    | some fn =>
      have he : recErr block src ref = .file ⟨fn.toArray⟩ 4 := by unfold recErr; rw [if_neg hnb, hts, htr]; rfl
      have hz : z = .slice none 0 0 := HX5.out.bad (by rw [he]; exact fun h => by cases h)
      subst hz
      have hk : (recErr block src ref).k = 4 := by rw [he]; rfl
      have hnm : (recErr block src ref).name = ⟨fn.toArray⟩ := by rw [he]; rfl
      rw [hk, hnm]
      rw [htr] at HT1
      clear he hk hnm HX5 hts hnb htr
      go_wp2_with fail
      refine HT0.out.mono ?_
      rintro e w6 ⟨rfl, hf6⟩
      have HF6 := Lib.hid (HF5.out.step hf6 (fun _ h _ => h))
      have HT := Lib.hid (HT1.out w6 hf6)
      clear hf6
      go_wp2_with fail
      refine HT.out.mono ?_
      rintro e w7 ⟨rfl, hf7⟩
      have HF7 := Lib.hid (HF6.out.step hf7 (fun _ h _ => h))
      clear hf7
      go_wp2_with fail
      go_ret
      exact ⟨rfl, HF7.out⟩
    | none =>
      obtain ⟨blk, rfl⟩ := Int.eq_ofNat_of_zero_le (a := block) (by omega)
      have he : recErr blk src ref = .none := by unfold recErr; rw [if_neg hnb, hts, htr]; rfl
      have hv := HX5.out.good he
      rw [Int.toNat_natCast] at hv
      have hk : (recErr blk src ref).k = 0 := by rw [he]; rfl
      have hnm : (recErr blk src ref).name = ByteArray.empty := by rw [he]; rfl
      rw [hk, hnm]
      rw [htr] at HT1
      have HTS := Lib.hid ((treeErr_none _).1 hts)
      have HTR := Lib.hid ((treeErr_none _).1 htr)
      have HV5 := Lib.hid hv
      clear he hk hnm HX5 hts hnb htr hv
      obtain ⟨za, zc, hzs, -⟩ := HV5.out.shape
      obtain ⟨R, hR⟩ : ∃ R, recOf src ref blk = R := ⟨_, rfl⟩
      rw [hR] at HV5 hzs
      have HRR := Lib.hid hR
      subst hzs
      clear hR
      go_wp2_with fail
      refine HT0.out.mono ?_
      rintro e w6 ⟨rfl, hf6⟩
      have HF6 := Lib.hid (HF5.out.step hf6 (fun _ h _ => h))
      have HG6 := Lib.hid hf6
      have HT := Lib.hid (HT1.out w6 hf6)
      clear hf6
      go_wp2_with fail
      refine HT.out.mono ?_
      rintro e w7 ⟨rfl, hf7⟩
      have HF7 := Lib.hid (HF6.out.step hf7 (fun _ h _ => h))
      have HG7 := Lib.hid (HG6.out.step hf7 (fun _ h _ => h))
      clear hf7
      go_wp2_with fail
      refine (rrecord_any _ _ src ref B0 B1 blk w7 (Vec.keep H0'.out HG7.out (fun _ _ h => h)) (Vec.keep H1'.out HG7.out (fun _ _ h => h)) (by omega) (by omega) HTS.out HTR.out).mono ?_
      rintro e w8 ⟨rfl, hf8⟩
      rw [HRR.out]
      have HF8 := Lib.hid (HF7.out.step hf8 (fun _ h _ => h))
      have HG8 := Lib.hid (HG7.out.step hf8 (fun _ h _ => h))
      have hv8 := HV5.out.keep HG8.out (fun _ _ h => h)
      have hcv := run_string_of (P := Tryd.prog) w8 25 9 5 _ _ Tryd.underlying25 Tryd.underlying5 Tryd.underlying9 hv8.isB
      have HV8 := Lib.hid hv8
      clear hf8 hv8
      have hrl : 0 < R.length := by rw [← HRR.out]; unfold recOf; rw [List.length_append, length_putN]; omega
      obtain ⟨gz, cz, rz, hqz, hBz, hoz, hcz, h1z, h2z⟩ := HV8.out.row hrl
      simp only [Value.slice.injEq, true_and] at hqz
      obtain ⟨rfl, rfl⟩ := hqz
      have HOZ := Lib.hid hoz
      have HCZ := Lib.hid (show (bcells R ++ rz).length = zc by omega)
      have HW8 := Lib.hid (HW5.out.step HG8.out (fun _ h _ => h))
      clear hoz hcz
      go_wp2_with fail
      refine (spoilt_row gz R.length zc _ w8 HOZ.out HCZ.out h1z h2z).mono ?_
      rintro e w9 ⟨rfl, -, hf9⟩
      have HW9 := Lib.hid (HW8.out.step hf9 (fun b hb hl => by omega))
      have HF9 := Lib.hid (HF2.out.step HW9.out (fun _ h _ => h))
      clear hf9
      go_wp2_with fail
      refine (kept_any _ _ m src _ B0 w9 (HLA2.out.keep0 HW9.out) (Vec.keep H0.out HF9.out (fun _ _ h => h)) HM.out (fun f hf => (HN0.out f hf).2)).mono ?_
      rintro e w10 ⟨rfl, hf10⟩
      have HW10 := Lib.hid (HW9.out.step hf10 (fun _ h _ => h))
      have HF10 := Lib.hid (HF9.out.step hf10 (fun _ h _ => h))
      clear hf10
      go_wp2_with fail
      refine (kept_any _ _ n ref _ B1 w10 (HLB2.out.keep0 HW10.out) (Vec.keep H1.out HF10.out (fun _ _ h => h)) HM2'.out (fun f hf => (HN1.out f hf).2)).mono ?_
      rintro e w11 ⟨rfl, hf11⟩
      have HF11 := Lib.hid (HF10.out.step hf11 (fun _ h _ => h))
      clear hf11
      go_wp2_with fail
      go_ret
      exact ⟨rfl, HF11.out⟩
end Go.Proofs.YtlcdgbhigfgehaaDoor
