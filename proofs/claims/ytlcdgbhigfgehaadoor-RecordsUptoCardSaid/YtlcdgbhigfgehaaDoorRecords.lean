/- The law Records: Record of any two lists of files. Where what is read is of bulk at most 1048576. -/
import Derived.Test.YtlcdgbhigfgehaaDoorRecorded
import Derived.Test.YtlcdgbhigfgehaaDoorStrs
import Derived.Deep.AppendLies
import Derived.Test.YtlcdgbhigfgehaaDoorUpTo
namespace Go.Proofs.YtlcdgbhigfgehaaDoor
open Go.RowKit
set_option maxRecDepth 100000

/-- Files out of names and data, as many as there are of both. -/
def pairsOf (z y : List ByteArray) : List Fil := (z.zip y).map fun p => ⟨p.1.data.toList, p.2.data.toList⟩
theorem pairsOf_length (z y : List ByteArray) : (pairsOf z y).length = min z.length y.length := by simp [pairsOf]
theorem pairsOf_get (z y : List ByteArray) (k : Nat) (h1 : k < z.length) (h2 : k < y.length) : (pairsOf z y)[k]'(by rw [pairsOf_length]; omega) = ⟨z[k].data.toList, y[k].data.toList⟩ := by simp [pairsOf]
set_option maxHeartbeats 1000000 in
theorem mktree_any (a0 a1 : Option Addr) (n0 c0 n1 c1 : Nat) (z y : List ByteArray) (w : World) (h0 : StrsAt w a0 n0 z) (h1 : StrsAt w a1 n1 y) (hz : z.length ≤ 2000000) (hy : y.length ≤ 2000000) :
    Calls Tryd.prog 31 #[.slice a0 n0 c0, .slice a1 n1 c1] w fun e w' => ∃ v, e = .returned v ∧ Refs w' w.heap.size v (pairsOf z y) ∧ Fr (fun _ => False) w w' := by
  have H0 := Lib.hid h0
  have H1 := Lib.hid h1
  obtain rfl := h0.len
  obtain rfl := h1.len
  clear h0 h1
  have hpl := pairsOf_length z y
  go_enter Tryd.func31, Tryd.ntmps31
  go_wp2_with fail
  go_loopw [5, 6] (fun ov iv wr => ∃ k : Nat, k ≤ z.length ∧ k ≤ y.length ∧ iv = .int .i64 k ∧ Fr (fun _ => False) w wr ∧ Vec wr w.heap.size 109 2 ov k (refCells ((pairsOf z y).take k))) (fun _ iv _ => z.length - (intOf iv).toNat)
  case atStart => exact ⟨0, Nat.zero_le _, Nat.zero_le _, rfl, Fr.refl _ _, Vec.nil _ _ _ _⟩
  case round =>
    obtain ⟨k, hkz, hky, rfl, hfr, hov⟩ := hrel
    obtain ⟨oa, oc, hoq, -⟩ := hov.shape
    subst hoq
    have HFR := Lib.hid hfr
    have HOV := Lib.hid hov
    have HPL := Lib.hid hpl
    have hwz := hfr.size
    clear hov
    by_cases hl0 : k < z.length
    · by_cases hl1 : k < y.length
      · obtain ⟨b0, o0, rfl, e0, -⟩ := (H0.out.keep hfr).at_ k hl0
        obtain ⟨b1, o1, rfl, e1, -⟩ := (H1.out.keep hfr).at_ k hl1
        have htk : (pairsOf z y).take (k + 1) = (pairsOf z y).take k ++ [⟨z[k].data.toList, y[k].data.toList⟩] := by
          rw [List.take_succ_eq_append_getElem (by rw [pairsOf_length]; omega), pairsOf_get _ _ _ hl0 hl1]
        have HTK := Lib.hid htk
        clear htk hfr hpl
        generalize z[k] = zn at *
        generalize y[k] = yn at *
        have hd1 : decide ((k : Int) < (z.length : Int)) = true := by simpa using hl0
        have hd2 : decide ((k : Int) < (y.length : Int)) = true := by simpa using hl1
        have hf0 : refRow ⟨zn.data.toList, yn.data.toList⟩ = [.string zn, .string yn] := by unfold refRow; simp only [ba_eq]
        have HF0 := Lib.hid hf0
        clear hf0
        go_wp2_with fail
        go_region_law
          (rw [if_pos (by rfl)]; refine wp_append_vec (.tmp 19) (.tmp 29) 72 rfl w.heap.size 109 2 32 elt_ref (v := .slice oa k oc) (n := k) (xs := refCells ((pairsOf z y).take k)) (HOV.out.keep ((Fr.refl (fun _ => False) _).drew.alloc _) (fun _ _ h => h)) rfl (m := 1) (Reads.new _ _ _ _ (by simp) _ _) rfl rfl (ref_one _ _) (by unfold maxLen; omega) (by omega) (by simp; omega) ?_; intro v6 w6 hv6 hf6 hd6; obtain ⟨a6, c6, hs6, -⟩ := hv6.shape; subst hs6; have HV6 := Lib.hid hv6; have HF6 := Lib.hid ((HFR.out.drew.alloc _).step hf6 (fun b hb hl => by have := (HOV.out.lt b hb).1; omega)); clear hv6 hf6 hd6)
        all_goals
          go_wp2_with fail
          exact ⟨⟨k + 1, by omega, by omega, by go_num, HF6.out, by rw [HTK.out, refCells_snoc, HF0.out]; exact HV6.out⟩, by simp [intOf]; omega⟩
      · have hd1 : decide ((k : Int) < (z.length : Int)) = true := by simpa using hl0
        have hd2 : decide ((k : Int) < (y.length : Int)) = false := by simpa using hl1
        have hke : (pairsOf z y).take k = pairsOf z y := List.take_of_length_le (by rw [pairsOf_length]; omega)
        have hkl : k = (pairsOf z y).length := by rw [pairsOf_length]; omega
        have hfin : Refs wr w.heap.size (.slice oa k oc) (pairsOf z y) := by
          have := HOV.out
          rw [hke] at this
          unfold Refs
          rw [← hkl]; exact this
        have HFIN := Lib.hid hfin
        clear hke hkl hfin hfr hpl
        go_wp2_with fail
        go_ret
        exact ⟨_, rfl, HFIN.out, HFR.out⟩
    · have hd1 : decide ((k : Int) < (z.length : Int)) = false := by simpa using hl0
      have hke : (pairsOf z y).take k = pairsOf z y := List.take_of_length_le (by rw [pairsOf_length]; omega)
      have hkl : k = (pairsOf z y).length := by rw [pairsOf_length]; omega
      have hfin : Refs wr w.heap.size (.slice oa k oc) (pairsOf z y) := by
        have := HOV.out
        rw [hke] at this
        unfold Refs
        rw [← hkl]; exact this
      have HFIN := Lib.hid hfin
      clear hke hkl hfin hfr hpl
      go_wp2_with fail
      go_ret
      exact ⟨_, rfl, HFIN.out, HFR.out⟩
set_option maxHeartbeats 1000000 in
theorem fsize_any (v : Value) (l : List Fil) (B : Nat) (w : World) (h : Refs w B v l) (hs : ∀ f ∈ l, f.name.length ≤ 2000000 ∧ f.data.length ≤ 2000000) (hl : l.length ≤ 2000000) :
    Calls Tryd.prog 32 #[v] w fun e w' => ∃ r : Nat, e = .returned (.int .i64 r) ∧ (r ≤ 65536 → l.length ≤ 65536 ∧ ∀ f ∈ l, f.name.length ≤ 65536 ∧ f.data.length ≤ 65536) ∧ Fr (fun _ => False) w w' := by
  have H := Lib.hid h
  have HS := Lib.hid hs
  obtain ⟨va, vc, rfl, -⟩ := Vec.shape h
  clear h hs
  go_enter Tryd.func32, Tryd.ntmps32
  go_wp2_with fail
  go_loopw [3, 4] (fun nv iv wr => ∃ k n : Nat, k ≤ l.length ∧ iv = .int .i64 k ∧ nv = .int .i64 n ∧ n ≤ 8000000 ∧ l.length ≤ n ∧ (∀ j (h : j < l.length), j < k → l[j].name.length ≤ n ∧ l[j].data.length ≤ n) ∧ Fr (fun _ => False) w wr) (fun _ iv _ => l.length - (intOf iv).toNat)
  case atStart => exact ⟨0, l.length, Nat.zero_le _, rfl, rfl, by omega, Nat.le_refl _, fun j _ h => by omega, Fr.refl _ _⟩
  case round =>
    obtain ⟨k, n, hk, rfl, rfl, hn, hln, hall, hfr⟩ := hrel
    have HFR := Lib.hid hfr
    have HALL := Lib.hid hall
    clear hall
    by_cases hlt : k < l.length
    · by_cases hn6 : n ≤ 65536
      · have hfl : Refs wr B (.slice va l.length vc) l := Vec.keep H.out hfr (fun _ _ h => h)
        obtain ⟨g, cap, hq, e0, e1, hgl⟩ := hfl.get k hlt
        simp only [Value.slice.injEq, true_and] at hq
        obtain ⟨rfl, rfl⟩ := hq
        have hnn := HS.out l[k] (List.getElem_mem _)
        have hd1 : decide ((k : Int) < (l.length : Int)) = true := by simpa using hlt
        have hd2 : decide ((n : Int) ≤ (65536 : Int)) = true := by simp; omega
        obtain ⟨f, hf⟩ : ∃ f, l[k] = f := ⟨_, rfl⟩
        rw [hf] at hnn e0 e1
        obtain ⟨fn, d⟩ := f
        simp only at hnn e0 e1
        obtain ⟨dt, hdt⟩ : ∃ dt : ByteArray, dt = ⟨d.toArray⟩ := ⟨_, rfl⟩
        have hdd : d = dt.data.toList := by rw [hdt]
        rw [← hdt] at e1
        subst hdd
        obtain ⟨nm, hnm⟩ : ∃ nm : ByteArray, nm = ⟨fn.toArray⟩ := ⟨_, rfl⟩
        have hnd : fn = nm.data.toList := by rw [hnm]
        rw [← hnm] at e0
        subst hnd
        have hds : dt.data.toList.length = dt.size := by simp
        have hns : nm.data.toList.length = nm.size := by simp
        rw [hds, hns] at hnn
        obtain ⟨hn1, hn2⟩ := hnn
        have HLK := Lib.hid (show l[k].name.length = nm.size ∧ l[k].data.length = dt.size by rw [hf]; exact ⟨hns, hds⟩)
        clear hfl hf hdt hnm hds hns hfr
        go_wp2_with fail
        go_quiet (fail)
        go_wp2_with fail
        refine ⟨⟨k + 1, n + nm.size + dt.size, by omega, by go_num, by go_num, by omega, by omega, fun j h hj => ?_, HFR.out.drewN _⟩, by simp [intOf]; omega⟩
        by_cases hjk : j = k
        · subst hjk
          have := HLK.out
          omega
        · have := HALL.out j h (by omega)
          omega
      · have hd1 : decide ((k : Int) < (l.length : Int)) = true := by simpa using hlt
        have hd2 : decide ((n : Int) ≤ (65536 : Int)) = false := by simp; omega
        clear hfr
        go_wp2_with fail
        go_ret
        exact ⟨n, rfl, fun h => by omega, HFR.out⟩
    · obtain rfl : k = l.length := by omega
      have hd1 : decide ((l.length : Int) < (l.length : Int)) = false := by simp
      clear hfr
      go_wp2_with fail
      go_ret
      refine ⟨n, rfl, fun h => ⟨by omega, fun f hf => ?_⟩, HFR.out⟩
      obtain ⟨j, hj, rfl⟩ := List.mem_iff_getElem.1 hf
      have := HALL.out j hj hj
      omega
set_option maxHeartbeats 1000000 in
theorem records_walk (a0 : Option Addr) (n0 c0 : Nat) (z0 : List ByteArray) (a1 : Option Addr) (n1 c1 : Nat) (z1 : List ByteArray) (a2 : Option Addr) (n2 c2 : Nat) (z2 : List ByteArray) (a3 : Option Addr) (n3 c3 : Nat) (z3 : List ByteArray) (block : Int) (w : World) (hg : ErrType w)
    (h0 : StrsAt w a0 n0 z0) (h1 : StrsAt w a1 n1 z1) (h2 : StrsAt w a2 n2 z2) (h3 : StrsAt w a3 n3 z3) (_b1 : -9223372036854775808 ≤ block) (_b2 : block ≤ 9223372036854775807) (hb : bulkOf z0 + bulkOf z1 + bulkOf z2 + bulkOf z3 ≤ 1048576) :
    Calls Tryd.prog 9 #[.slice a0 n0 c0, .slice a1 n1 c1, .slice a2 n2 c2, .slice a3 n3 c3, .int .i64 block] w fun e w' => e = .returned (.bool true) ∧ Fr (fun _ => False) w w' := by
  have hmem : ∀ (z y : List ByteArray), bulkOf z ≤ 1048576 → bulkOf y ≤ 1048576 → ∀ f ∈ pairsOf z y, f.name.length ≤ 2000000 ∧ f.data.length ≤ 2000000 := fun z y hz hy f hf => by
    unfold pairsOf at hf
    obtain ⟨p, hp, rfl⟩ := List.mem_map.1 hf
    have h1 := bulkOf_le z p.1 (List.of_mem_zip hp).1
    have h2 := bulkOf_le y p.2 (List.of_mem_zip hp).2
    simp
    omega
  have hl0 := bulkOf_len z0
  have hl1 := bulkOf_len z1
  have hl2 := bulkOf_len z2
  have hl3 := bulkOf_len z3
  have HM0 := Lib.hid (hmem z0 z1 (by omega) (by omega))
  have HM1 := Lib.hid (hmem z2 z3 (by omega) (by omega))
  have hp0 : (pairsOf z0 z1).length ≤ 2000000 := by rw [pairsOf_length]; omega
  have hp1 : (pairsOf z2 z3).length ≤ 2000000 := by rw [pairsOf_length]; omega
  have H0 := Lib.hid h0
  have H1 := Lib.hid h1
  have H2 := Lib.hid h2
  have H3 := Lib.hid h3
  clear h0 h1 h2 h3 hmem
  go_enter Tryd.func9, Tryd.ntmps9
  go_wp2_with fail
  refine (mktree_any a0 a1 n0 c0 n1 c1 z0 z1 w H0.out H1.out (by omega) (by omega)).mono ?_
  rintro e w1 ⟨x, rfl, hx, hf1⟩
  obtain ⟨xa, xc, rfl, -⟩ := Vec.shape hx
  have HX := Lib.hid hx
  have HF1 := Lib.hid hf1
  clear hx hf1
  go_wp2_with fail
  refine (mktree_any a2 a3 n2 c2 n3 c3 z2 z3 w1 (H2.out.keep HF1.out) (H3.out.keep HF1.out) (by omega) (by omega)).mono ?_
  rintro e w2 ⟨y, rfl, hy, hf2⟩
  obtain ⟨ya, yc, rfl, -⟩ := Vec.shape hy
  have HY := Lib.hid hy
  have HX2 := Lib.hid (show Refs w2 w.heap.size _ _ from Vec.keep HX.out hf2 (fun _ _ h => h))
  have HF2 := Lib.hid (HF1.out.step hf2 (fun _ h _ => h))
  clear hy hf2
  generalize pairsOf z0 z1 = src at *
  generalize pairsOf z2 z3 = ref at *
  go_wp2_with fail
  refine (fsize_any _ src w.heap.size w2 HX2.out HM0.out hp0).mono ?_
  rintro e w3 ⟨r0, rfl, hr0, hf3⟩
  have HR0 := Lib.hid hr0
  have HX3 := Lib.hid (show Refs w3 w.heap.size _ _ from Vec.keep HX2.out hf3 (fun _ _ h => h))
  have HY3 := Lib.hid (show Refs w3 w1.heap.size _ _ from Vec.keep HY.out hf3 (fun _ _ h => h))
  have HF3 := Lib.hid (HF2.out.step hf3 (fun _ h _ => h))
  clear hr0 hf3
  go_wp2_with fail
  refine (fsize_any _ ref w1.heap.size w3 HY3.out HM1.out hp1).mono ?_
  rintro e w4 ⟨r1, rfl, hr1, hf4⟩
  have HR1 := Lib.hid hr1
  have HX4 := Lib.hid (show Refs w4 w.heap.size _ _ from Vec.keep HX3.out hf4 (fun _ _ h => h))
  have HY4 := Lib.hid (show Refs w4 w1.heap.size _ _ from Vec.keep HY3.out hf4 (fun _ _ h => h))
  have HF4 := Lib.hid (HF3.out.step hf4 (fun _ h _ => h))
  clear hr1 hf4
  by_cases hb0 : 65536 < r0
  · have hd1 : decide ((65536 : Int) < (r0 : Int)) = true := by simp; omega
    go_wp2_with fail
    go_ret
    exact ⟨rfl, HF4.out⟩
  have hd1 : decide ((65536 : Int) < (r0 : Int)) = false := by simp; omega
  by_cases hb1 : 65536 < r1
  · have hd2 : decide ((65536 : Int) < (r1 : Int)) = true := by simp; omega
    go_wp2_with fail
    go_ret
    exact ⟨rfl, HF4.out⟩
  have hd2 : decide ((65536 : Int) < (r1 : Int)) = false := by simp; omega
  have g0 := HR0.out (by omega)
  have g1 := HR1.out (by omega)
  have HC := Lib.hid (recorded_any _ _ src ref _ _ block w4 (hg.keep HF4.out id) HX4.out HY4.out (fun f hf => by have := g0.2 f hf; omega) (fun f hf => by have := g1.2 f hf; omega) (by omega) (by omega))
  clear g0 g1
  go_wp2_with fail
  refine HC.out.mono ?_
  rintro e w5 ⟨rfl, hf5⟩
  have HF5 := Lib.hid (HF4.out.step hf5 (fun _ h _ => h))
  clear hf5
  go_wp2_with fail
  go_ret
  exact ⟨rfl, HF5.out⟩
end Go.Proofs.YtlcdgbhigfgehaaDoor
