/- The law Rebuilt: what Diff tells makes the file again; of a file and itself fewer bytes than a block stand as they are; Sign tells as many bytes as there are. -/
import Derived.Test.YtlcdgbhigfgehaaDoorDiffs
import Derived.Test.YtlcdgbhigfgehaaDoorSigns
import Derived.Test.YtlcdgbhigfgehaaDoorPlainApply
namespace Go.Proofs.YtlcdgbhigfgehaaDoor
open Go.RowKit
set_option maxRecDepth 100000

/-- Which of n things a raw number speaks of. -/
def pickOf (c n : Int) : Int := (if c < 0 then -(c + 1) else c) % n
theorem pickOf_bounds (c n : Int) (hn : 0 < n) : 0 ≤ pickOf c n ∧ pickOf c n < n := by
  unfold pickOf
  exact ⟨Int.emod_nonneg _ (by omega), Int.emod_lt_of_pos _ hn⟩
theorem pick_any (c n : Int) (w : World) (hn : 0 < n) (h1 : -9223372036854775808 ≤ c) (h2 : c ≤ 9223372036854775807) (hn2 : n ≤ 9223372036854775807) :
    Calls Tryd.prog 30 #[.int .i64 c, .int .i64 n] w fun e w' => e = .returned (.int .i64 (pickOf c n)) ∧ w = w' := by
  by_cases hc : c < 0
  · have hp : pickOf c n = (-(c + 1)).tmod n := by unfold pickOf; rw [if_pos hc]; exact (Int.tmod_eq_emod_of_nonneg (by omega)).symm
    have hw1 : wrap64 (c + 1) = c + 1 := IntWalk.wrap64_in _ (by omega)
    have hw2 : wrap64 (-(c + 1)) = -(c + 1) := IntWalk.wrap64_in _ (by omega)
    have hb := pickOf_bounds c n hn
    have HP := Lib.hid hp
    clear hp
    go_enter Tryd.func30, Tryd.ntmps30
    go_wp2_with fail
    go_ret
    exact ⟨by rw [HP.out, Int.neg_tmod]; rfl, rfl⟩
  · have hp : pickOf c n = c.tmod n := by unfold pickOf; rw [if_neg hc]; exact (Int.tmod_eq_emod_of_nonneg (by omega)).symm
    have hb := pickOf_bounds c n hn
    have HP := Lib.hid hp
    clear hp
    go_enter Tryd.func30, Tryd.ntmps30
    go_wp2_with fail
    go_ret
    exact ⟨by unfold pickOf; rw [if_neg (Int.not_lt.2 hc)]; rfl, rfl⟩
/-- How many bytes the first k blocks have. -/
def sizesOf (l : List (List UInt8)) (k : Nat) : Nat := ((l.take k).map List.length).sum
theorem sizesOf_succ (l : List (List UInt8)) (k : Nat) (h : k < l.length) : sizesOf l (k + 1) = sizesOf l k + l[k].length := by
  unfold sizesOf
  rw [List.take_succ_eq_append_getElem h, List.map_append, List.sum_append]; rfl
theorem sizesOf_le (l : List UInt8) (blk k : Nat) (hb : 0 < blk) (h : k ≤ nBlocks l.length blk) : sizesOf (blocksOf l blk) k = min (k * blk) l.length := by
  induction k with
  | zero => simp [sizesOf]
  | succ k ih =>
    have hk : k < (blocksOf l blk).length := by rw [length_blocksOf]; omega
    rw [sizesOf_succ _ _ hk, ih (by omega), blocksOf_get _ _ _ (by omega)]
    simp only [List.length_take, List.length_drop]
    have h1 := nBlocks_mul l.length blk hb
    have h2 : k * blk ≤ (nBlocks l.length blk - 1) * blk := Nat.mul_le_mul_right _ (by omega)
    have h4 := h1.2.1
    rw [Nat.add_mul]
    omega
/-- How many bytes stand as they are in the first k tokens. -/
def plainTo (l : List Tok) (k : Nat) : Nat := plainly (l.take k)
theorem plainTo_succ (l : List Tok) (k : Nat) (h : k < l.length) : plainTo l (k + 1) = plainTo l k + l[k].d.length := by
  unfold plainTo
  rw [List.take_succ_eq_append_getElem h, plainly_append]; simp [plainly]
theorem plainTo_le (l : List Tok) (h : ∀ t ∈ l, t.d.length ≤ 255) (k : Nat) (hk : k ≤ l.length) : plainTo l k ≤ 255 * k := by
  induction k with
  | zero => simp [plainTo, plainly]
  | succ k ih =>
    rw [plainTo_succ l k (by omega)]
    have := ih (by omega)
    have := h l[k] (List.getElem_mem _)
    omega
set_option maxHeartbeats 4000000 in
theorem rebuilt_walk (s t : ByteArray) (block : Int) (w : World) (hg : ErrType w) (_hs : s.size ≤ maxLen) (_ht : t.size ≤ maxLen) (_b1 : -9223372036854775808 ≤ block) (_b2 : block ≤ 9223372036854775807) :
    Calls Tryd.prog 8 #[.string s, .string t, .int .i64 block] w fun e w' => e = .returned (.bool true) ∧ Fr (fun _ => False) w w' := by
  unfold maxLen at _hs _ht
  go_enter Tryd.func8, Tryd.ntmps8
  go_wp2_with fail
  refine (clip_any _ _ 300 _ (by omega)).mono ?_
  rintro e w' ⟨rfl, rfl⟩
  have hsz := clipOf_size s 300
  generalize clipOf s 300 = s at hsz ⊢
  clear _hs
  go_wp2_with fail
  refine (clip_any _ _ 300 _ (by omega)).mono ?_
  rintro e w' ⟨rfl, rfl⟩
  have htz := clipOf_size t 300
  generalize clipOf t 300 = t at htz ⊢
  clear _ht
  go_wp2_with fail
  refine (pick_any block 64 _ (by omega) _b1 _b2 (by omega)).mono ?_
  rintro e w' ⟨rfl, rfl⟩
  have hpb := pickOf_bounds block 64 (by omega)
  generalize pickOf block 64 = pk at hpb ⊢
  clear _b1 _b2
  obtain ⟨blk, hblk⟩ : ∃ blk : Nat, 1 + pk = blk := ⟨(1 + pk).toNat, by omega⟩
  obtain rfl : pk = blk - 1 := by omega
  have hbb : 1 ≤ blk ∧ blk ≤ 64 := by omega
  have hbe : (1 : Int) + ((blk : Int) - 1) = blk := by omega
  have HBE := Lib.hid hbe
  have hsl : s.data.toList.length = s.size := by simp
  have htl : t.data.toList.length = t.size := by simp
  have HSL := Lib.hid hsl
  have HTL := Lib.hid htl
  have hz0 : sized blk s.size = 0 := by unfold sized; rw [if_neg (by omega), if_neg (by omega)]
  have hz1 : sized blk t.size = 0 := by unfold sized; rw [if_neg (by omega), if_neg (by omega)]
  have HZ0 := Lib.hid hz0
  have HZ1 := Lib.hid hz1
  clear hbe hsl htl hz0 hz1
  clear hblk hpb
  go_wp2_with fail
  obtain ⟨ca, ra, w1, r1, r2, r3, r4, r5, r6, r7, -⟩ := run_bytes_from (P := Tryd.prog) w 9 25 5 s Tryd.underlying9 Tryd.underlying25 Tryd.underlying5 (by omega)
  rw [r1]
  clear r1
  have hb1 : IsB w1 (.slice (some ⟨w.heap.size, 0, none⟩) s.size ca) s.data.toList := by
    have := IsB.ofOwn0 (cap := ca) (l := s.data.toList) (rest := ra) r4 rfl (by simpa using r2) r3
    simpa using this
  have hz1 := r6.size
  have HB1 := Lib.hid hb1
  have HF1 := Lib.hid r6
  clear r2 r3 r4 r5 r6 r7 hb1
  go_wp2_with fail
  obtain ⟨cb, rb, w2, r1, r2, r3, r4, r5, r6, r7, -⟩ := run_bytes_from (P := Tryd.prog) w1 9 25 5 t Tryd.underlying9 Tryd.underlying25 Tryd.underlying5 (by omega)
  rw [r1]
  clear r1
  have hb2 : IsB w2 (.slice (some ⟨w1.heap.size, 0, none⟩) t.size cb) t.data.toList := by
    have := IsB.ofOwn0 (cap := cb) (l := t.data.toList) (rest := rb) r4 rfl (by simpa using r2) r3
    simpa using this
  have HB2 := Lib.hid hb2
  have HF2 := Lib.hid (HF1.out.step r6 (fun k hk _ => hk.elim))
  have HB12 := Lib.hid (HB1.out.keep0 r6)
  clear r2 r3 r4 r5 r6 r7 hb2
  go_wp2_with fail
  rw [HBE.out]
  refine (pdiff_any _ _ _ _ blk _ (hg.keep HF2.out id) HB12.out HB2.out).mono ?_
  rintro e w3 ⟨x, l, rfl, hf3, hot, -, hgood⟩
  rw [HSL.out, HTL.out] at hgood ⊢
  have hs2 : sized2 blk s.size t.size = 0 := by unfold sized2; rw [if_pos HZ0.out]; exact HZ1.out
  have HM := Lib.hid (hgood hs2)
  rw [hs2]
  have HOT := Lib.hid hot
  have HF3 := Lib.hid (HF2.out.step hf3 (fun _ h _ => h))
  have HB3 := Lib.hid (HB12.out.keep0 hf3)
  obtain ⟨xa, xc, hx, -⟩ := hot.vec.shape
  subst hx
  clear hgood hot hf3 hs2
  go_wp2_with fail
  obtain ⟨c4, ra4, w4, r1, r2, r3, r4, r5, r6, r7, -⟩ := run_bytes_from (P := Tryd.prog) w3 9 25 5 s Tryd.underlying9 Tryd.underlying25 Tryd.underlying5 (by omega)
  rw [r1]
  clear r1
  have hb4 : IsB w4 (.slice (some ⟨w3.heap.size, 0, none⟩) s.size c4) s.data.toList := by
    have := IsB.ofOwn0 (cap := c4) (l := s.data.toList) (rest := ra4) r4 rfl (by simpa using r2) r3
    simpa using this
  have HB4 := Lib.hid hb4
  have HO4 := Lib.hid (HOT.out.keep0 r6)
  have HF4 := Lib.hid (HF3.out.step r6 (fun k hk _ => hk.elim))
  clear r2 r3 r4 r5 r6 r7 hb4
  have hdm := diff_makes s.data.toList t.data.toList blk (by omega) (by rw [HTL.out]; omega)
  have HDM := Lib.hid hdm
  clear hdm
  go_wp2_with fail
  refine (papply_any _ _ _ l blk _ _ (hg.keep HF4.out id) HB4.out HO4.out.toks (by
    intro p hp
    have hq : p.1 ∈ diffOf s.data.toList t.data.toList blk := by
      have := HM.out
      rw [Int.toNat_natCast] at this
      rw [← this]; exact List.mem_map_of_mem hp
    rcases HDM.out.2.1 _ hq with h | h
    · omega
    · rw [h.2.2.2]; simp)).mono ?_
  rintro e w5 ⟨v, k, rfl, hap, hf5⟩
  have hA : applyK s.data.toList blk (l.map (·.1)) = .inr t.data.toList := by
    unfold applyK
    have := HM.out
    rw [Int.toNat_natCast] at this ⊢
    rw [HSL.out, if_pos HZ0.out, this]; exact HDM.out.1
  rw [hA] at hap
  obtain ⟨rfl, hvec⟩ := hap
  have hcv := run_string_of (P := Tryd.prog) w5 25 9 5 _ _ Tryd.underlying25 Tryd.underlying5 Tryd.underlying9 hvec.isB
  rw [ba_eq] at hcv
  have HF5 := Lib.hid (HF4.out.step hf5 (fun _ h _ => h))
  obtain ⟨va, vc, hv, -⟩ := hvec.shape
  rw [HTL.out] at hv
  subst hv
  clear hA hvec hf5
  go_wp2_with fail
  clear hcv HM HOT HDM HO4 HB1 HB12 HB2 HB3 HB4 HF1 HF2 HF3 HF4
  obtain ⟨c6, ra6, w6, r1, r2, r3, r4, r5, r6, r7, -⟩ := run_bytes_from (P := Tryd.prog) w5 9 25 5 s Tryd.underlying9 Tryd.underlying25 Tryd.underlying5 (by omega)
  rw [r1]
  clear r1
  have hb6 : IsB w6 (.slice (some ⟨w5.heap.size, 0, none⟩) s.size c6) s.data.toList := by
    have := IsB.ofOwn0 (cap := c6) (l := s.data.toList) (rest := ra6) r4 rfl (by simpa using r2) r3
    simpa using this
  have HB6 := Lib.hid hb6
  have HF6 := Lib.hid (HF5.out.step r6 (fun k hk _ => hk.elim))
  clear r2 r3 r4 r5 r6 r7 hb6
  go_wp2_with fail
  obtain ⟨c7, ra7, w7, r1, r2, r3, r4, r5, r6, r7, -⟩ := run_bytes_from (P := Tryd.prog) w6 9 25 5 s Tryd.underlying9 Tryd.underlying25 Tryd.underlying5 (by omega)
  rw [r1]
  clear r1
  have hb7 : IsB w7 (.slice (some ⟨w6.heap.size, 0, none⟩) s.size c7) s.data.toList := by
    have := IsB.ofOwn0 (cap := c7) (l := s.data.toList) (rest := ra7) r4 rfl (by simpa using r2) r3
    simpa using this
  have HB7 := Lib.hid hb7
  have HB67 := Lib.hid (HB6.out.keep0 r6)
  have HF7 := Lib.hid (HF6.out.step r6 (fun k hk _ => hk.elim))
  clear r2 r3 r4 r5 r6 r7 hb7
  go_wp2_with fail
  refine (pdiff_any _ _ _ _ blk _ (hg.keep HF7.out id) HB67.out HB7.out).mono ?_
  rintro e w8 ⟨x, l, rfl, hf8, hot, -, hgood⟩
  rw [HSL.out] at hgood ⊢
  have hs2 : sized2 blk s.size s.size = 0 := by unfold sized2; rw [if_pos HZ0.out]; exact HZ0.out
  have HM := Lib.hid (hgood hs2)
  rw [hs2]
  have HOT := Lib.hid hot
  have HF8 := Lib.hid (HF7.out.step hf8 (fun _ h _ => h))
  obtain ⟨xa2, xc2, hx, -⟩ := hot.vec.shape
  subst hx
  clear hgood hot hf8 hs2
  go_wp2_with fail
  obtain ⟨c9, ra9, w9, r1, r2, r3, r4, r5, r6, r7, -⟩ := run_bytes_from (P := Tryd.prog) w8 9 25 5 s Tryd.underlying9 Tryd.underlying25 Tryd.underlying5 (by omega)
  rw [r1]
  clear r1
  have hb9 : IsB w9 (.slice (some ⟨w8.heap.size, 0, none⟩) s.size c9) s.data.toList := by
    have := IsB.ofOwn0 (cap := c9) (l := s.data.toList) (rest := ra9) r4 rfl (by simpa using r2) r3
    simpa using this
  have HB9 := Lib.hid hb9
  have HO9 := Lib.hid (HOT.out.keep0 r6)
  have HF9 := Lib.hid (HF8.out.step r6 (fun k hk _ => hk.elim))
  clear r2 r3 r4 r5 r6 r7 hb9
  have hdm := diff_makes s.data.toList s.data.toList blk (by omega) (by rw [HSL.out]; omega)
  have HDM := Lib.hid hdm
  clear hdm
  go_wp2_with fail
  refine (papply_any _ _ _ l blk _ _ (hg.keep HF9.out id) HB9.out HO9.out.toks (by
    intro p hp
    have hq : p.1 ∈ diffOf s.data.toList s.data.toList blk := by
      have := HM.out
      rw [Int.toNat_natCast] at this
      rw [← this]; exact List.mem_map_of_mem hp
    rcases HDM.out.2.1 _ hq with h | h
    · omega
    · rw [h.2.2.2]; simp)).mono ?_
  rintro e w10 ⟨v, k, rfl, hap, hf10⟩
  have hA : applyK s.data.toList blk (l.map (·.1)) = .inr s.data.toList := by
    unfold applyK
    have := HM.out
    rw [Int.toNat_natCast] at this ⊢
    rw [HSL.out, if_pos HZ0.out, this]; exact HDM.out.1
  rw [hA] at hap
  obtain ⟨rfl, hvec⟩ := hap
  have hcv := run_string_of (P := Tryd.prog) w10 25 9 5 _ _ Tryd.underlying25 Tryd.underlying5 Tryd.underlying9 hvec.isB
  rw [ba_eq] at hcv
  have HF10 := Lib.hid (HF9.out.step hf10 (fun _ h _ => h))
  have HO10 := Lib.hid (HO9.out.keep0 hf10)
  obtain ⟨va2, vc2, hv, -⟩ := hvec.shape
  rw [HSL.out] at hv
  subst hv
  have hlen : l.length ≤ 300 := by
    have h1 := congrArg List.length HM.out
    rw [List.length_map, Int.toNat_natCast] at h1
    have h2 := HDM.out.2.2
    rw [HSL.out] at h2
    omega
  have hmap : l.map (·.1) = diffOf s.data.toList s.data.toList blk := by have := HM.out; rwa [Int.toNat_natCast] at this
  have HMAP := Lib.hid hmap
  have hsh : ∀ p ∈ l, p.1.d.length ≤ 255 := by
    intro p hp
    have hq : p.1 ∈ diffOf s.data.toList s.data.toList blk := by rw [← hmap]; exact List.mem_map_of_mem hp
    rcases HDM.out.2.1 _ hq with h | h
    · omega
    · rw [h.2.2.2]; simp
  have hps : plainly (l.map (·.1)) < blk := by rw [hmap]; exact diff_self _ _ (by omega)
  have HSH := Lib.hid hsh
  clear hA hvec hf10 hmap hsh
  go_wp2_with fail
  clear hcv HM HOT HDM HO9 HB6 HB67 HB7 HB9 HF5 HF6 HF7 HF8 HF9
  go_loopw [12, 13] (fun pv iv wr => ∃ k : Nat, k ≤ l.length ∧ pv = .int .i64 (plainTo (l.map (·.1)) k) ∧ iv = .int .i64 k ∧ Fr (fun _ => False) w10 wr) (fun _ iv _ => l.length - (intOf iv).toNat)
  case atStart => exact ⟨0, Nat.zero_le _, rfl, rfl, Fr.refl _ _⟩
  case round =>
    obtain ⟨k, hk, rfl, rfl, hfr⟩ := hrel
    have HF := Lib.hid hfr
    have hpl := plainTo_le (l.map (·.1)) (fun t ht => by obtain ⟨p, hp, rfl⟩ := List.mem_map.1 ht; exact HSH.out p hp) k (by simpa using hk)
    by_cases hlt : k < l.length
    · have hot := HO10.out.keep0 hfr
      obtain ⟨g, cap, hq, -, -, x2⟩ := hot.toks.get k hlt
      simp only [Value.slice.injEq, true_and] at hq
      obtain ⟨rfl, rfl⟩ := hq
      obtain ⟨da, dc, hd, -⟩ := (hot.data l[k] (List.getElem_mem _)).shape
      rw [hd] at x2
      have hd5 := HSH.out l[k] (List.getElem_mem _)
      have hsu := plainTo_succ (l.map (·.1)) k (by simpa using hlt)
      rw [List.getElem_map] at hsu
      have HSU := Lib.hid hsu
      clear hot hd hsu hfr
      generalize l[k] = tk at *
      go_wp2_with fail
      exact ⟨⟨k + 1, by omega, by rw [HSU.out]; go_num, by go_num, HF.out⟩, by simp [intOf]; omega⟩
    · obtain rfl : k = l.length := by omega
      clear hfr
      have hpe : plainTo (l.map (·.1)) l.length = plainly (l.map (·.1)) := by
        unfold plainTo
        rw [List.take_of_length_le (by simp)]
      rw [hpe]
      rw [hpe] at hpl
      clear hpe
      generalize plainly (l.map (·.1)) = pl at *
      have HF11 := Lib.hid (HF10.out.step HF.out (fun _ h _ => h))
      clear HF HF10 HO10 HSH HMAP
      go_wp2_with fail
      obtain ⟨c12, ra12, w12, r1, r2, r3, r4, r5, r6, r7, -⟩ := run_bytes_from (P := Tryd.prog) wr 9 25 5 s Tryd.underlying9 Tryd.underlying25 Tryd.underlying5 (by omega)
      rw [r1]
      clear r1
      have hb12 : IsB w12 (.slice (some ⟨wr.heap.size, 0, none⟩) s.size c12) s.data.toList := by
        have := IsB.ofOwn0 (cap := c12) (l := s.data.toList) (rest := ra12) r4 rfl (by simpa using r2) r3
        simpa using this
      have HB12 := Lib.hid hb12
      have HF12 := Lib.hid (HF11.out.step r6 (fun k hk _ => hk.elim))
      clear r2 r3 r4 r5 r6 r7 hb12
      go_wp2_with fail
      refine (psign_any _ _ blk _ (hg.keep HF12.out id) HB12.out).mono ?_
      rintro e w13 ⟨x, rfl, hf13, -, hgood⟩
      rw [HSL.out] at hgood ⊢
      have hv := hgood HZ0.out
      rw [Int.toNat_natCast] at hv
      rw [HZ0.out]
      have HV := Lib.hid hv
      have HF13 := Lib.hid (HF12.out.step hf13 (fun _ h _ => h))
      obtain ⟨sa, sc, hq, -⟩ := hv.shape
      subst hq
      have hN := nBlocks_mul s.size blk (by omega)
      have HNL : Hid ((blocksOf s.data.toList blk).length = nBlocks s.size blk) := by
        show _ = _
        rw [length_blocksOf, HSL.out]
      have hsz : ∀ k, k ≤ nBlocks s.size blk → sizesOf (blocksOf s.data.toList blk) k = min (k * blk) s.size := fun k hk => by
        have := sizesOf_le s.data.toList blk k (by omega) (by rw [HSL.out]; exact hk)
        rwa [HSL.out] at this
      have HSZ := Lib.hid hsz
      have hN3 := hN.2.2
      have hN1 := Lib.hid hN.1
      clear hgood hv hf13 hN hsz
      generalize nBlocks s.size blk = N at *
      go_wp2_with fail
      go_loopw [16, 17] (fun pv iv wr => ∃ k : Nat, k ≤ N ∧ pv = .int .i64 (sizesOf (blocksOf s.data.toList blk) k) ∧ iv = .int .i64 k ∧ Fr (fun _ => False) w13 wr) (fun _ iv _ => N - (intOf iv).toNat)
      case atStart => exact ⟨0, Nat.zero_le _, rfl, rfl, Fr.refl _ _⟩
      case round =>
        obtain ⟨k, hk, rfl, rfl, hfr⟩ := hrel
        have hsk : sizesOf (blocksOf s.data.toList blk) k ≤ s.size := by rw [HSZ.out k hk]; omega
        have HFR := Lib.hid hfr
        by_cases hlt : k < N
        · have hkl : k < (blocksOf s.data.toList blk).length := by rw [HNL.out]; exact hlt
          obtain ⟨g1, c1, r1, hq1, -, ho1, -⟩ := (HV.out.keep hfr (fun _ _ h => h)).row (by omega)
          simp only [Value.slice.injEq, true_and] at hq1
          obtain ⟨rfl, rfl⟩ := hq1
          have x0 := ho1.cell (i := k * 3) (by rw [List.getElem?_append_left (by simp; omega)]; exact (sumCells_get (blocksOf s.data.toList blk) k hkl).1)
          have hsu := sizesOf_succ (blocksOf s.data.toList blk) k hkl
          have hs2 : sizesOf (blocksOf s.data.toList blk) (k + 1) ≤ s.size := by rw [HSZ.out _ (by omega)]; omega
          rw [hsu] at hs2
          have HSU := Lib.hid hsu
          clear ho1 hsu hfr
          generalize (blocksOf s.data.toList blk)[k].length = bl at *
          go_wp2_with fail
          exact ⟨⟨k + 1, by omega, by rw [HSU.out]; go_num, by go_num, HFR.out⟩, by simp [intOf]; omega⟩
        · obtain rfl : k = N := by omega
          have hse : sizesOf (blocksOf s.data.toList blk) k = s.size := by rw [HSZ.out _ (Nat.le_refl _)]; have := hN1.out; omega
          rw [hse]
          clear hfr hsk hse
          go_wp2_with fail
          go_ret
          exact ⟨rfl, HF13.out.step HFR.out (fun _ h _ => h)⟩
end Go.Proofs.YtlcdgbhigfgehaaDoor
