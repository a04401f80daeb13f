/- entry: what is told of a file, behind a row of bytes: the program's and the document's. -/
import Derived.Test.YtlcdgbhigfgehabGreatDoorVecStr
import Derived.Test.YtlcdgbhigfgehabGreatDoorSumsWalk
import Derived.Test.YtlcdgbhigfgehabGreatDoorFilMem
import Derived.Deep.CutBlock
namespace Go.Proofs.YtlcdgbhigfgehabGreatDoor
open Go.RowKit
set_option maxRecDepth 100000

theorem entB_eq (l n d : List UInt8) : l ++ [UInt8.ofNat n.length] ++ n ++ putN 2 d.length ++ putN 8 (dgN d) = l ++ entB ⟨n, d⟩ := by
  simp [entB]
theorem byte_small (n : Nat) (h : n < 256) : bcells [UInt8.ofNat n] = [.int .u8 (n : Int)] := by
  have : (UInt8.ofNat n).toNat = n := by simp; omega
  unfold bcells
  rw [List.map_cons, List.map_nil, this]
theorem Grew.own {w w1 : World} {v v1 : Value} {g T : Nat} {xs : List Value} (h : Grew w v v1 w1) (ho : Own w g T xs) (hg : v.ownBlock ≠ some g) : Own w1 g T xs := ho.keep h.fr hg
set_option maxHeartbeats 1000000 in
theorem entryW_any (bv dv : Value) (l d : List UInt8) (nm : ByteArray) (B : Nat) (w : World) (hv : Vec w B 5 1 bv l.length (bcells l)) (hl : l.length ≤ 900000) (hn : nm.size ≤ 255) (hd : IsB w dv d) (hd3 : d.length ≤ 300) (hB : B ≤ w.heap.size) (hap : ∀ b, dv.ownBlock = some b → bv.ownBlock ≠ some b) :
    Calls Tryz.prog 76 #[bv, .agg #[.string nm, dv]] w fun e w' => ∃ v', e = .returned v' ∧ Vec w' B 5 1 v' (l ++ entB ⟨nm.data.toList, d⟩).length (bcells (l ++ entB ⟨nm.data.toList, d⟩)) ∧ Grew w bv v' w' := by
  have HV := Lib.hid hv
  have HD := Lib.hid hd
  obtain ⟨ba, bc, rfl, -⟩ := hv.shape
  obtain ⟨da, dc, rfl, -⟩ := hd.shape
  have hsl : nm.data.toList.length = nm.size := by simp
  have HSL := Lib.hid hsl
  have HAP := Lib.hid hap
  have hnw : IntKind.u8.wrap (nm.size : Int) = (nm.size : Int) := IntWalk.u8_in _ (by omega)
  clear hv hd hsl hap
  have hb8 := byte_small nm.size (by omega)
  have hlt := fun b => HV.out.lt b
  have HLT := Lib.hid hlt
  have hA : Fr (fun _ => False) w (w.alloc (.cells #[.string nm, .slice da d.length dc] 37)) := (Fr.refl _ _).alloc _
  have HA := Lib.hid hA
  have HV1 := Lib.hid (HV.out.keep hA (fun _ _ h => h))
  have HO1 := Lib.hid (Own.alloc w #[.string nm, .slice da d.length dc] 37)
  have HD1 := Lib.hid (HD.out.keep0 hA)
  have hz1 := hA.size
  have HNG := Lib.hid (show (Value.slice ba l.length bc).ownBlock ≠ some w.heap.size from fun hb => by have := (HLT.out _ hb).2; omega)
  clear hA hlt
  obtain ⟨w1, hw1⟩ : ∃ W, w.alloc (.cells #[.string nm, .slice da d.length dc] 37) = W := ⟨_, rfl⟩
  obtain ⟨xb, hxb⟩ : ∃ xb, w.heap.size = xb := ⟨_, rfl⟩
  have hxz : w1.heap.size = xb + 1 := by rw [← hw1, ← hxb]; simp
  have HXZ := Lib.hid hxz
  rw [hw1] at HV1 HO1 HA HD1 hz1
  rw [hxb] at HO1 HNG
  have x0 := HO1.out.cell (i := 0) rfl
  have x1 := HO1.out.cell (i := 1) rfl
  have HB8 := Lib.hid hb8
  clear hb8 hxz
  go_enter Tryz.func76, Tryz.ntmps76
  go_upto_region 2 with (at_builtin; refine wpList_append_vec rfl _ _ _ rfl B 5 1 1 elt_u8 (HV1.out.keep ((Fr.refl (fun _ => False) _).alloc _) (fun _ _ h => h)) rfl (m := 1) (Reads.new _ _ _ _ (by first | omega | simp) _ _) rfl rfl (by intro u hu; simp at hu; subst hu; rfl) (by unfold maxLen; omega) (by omega) (by simp; omega) ?_; intro v2 w2 hv2 hf2 hd2 hn2; obtain ⟨a2, c2, hs2, -⟩ := hv2.shape; subst hs2; have HG2 := Lib.hid (Grew.alloc _ ⟨hf2, hd2⟩); have HV2 := Lib.hid hv2; have HO2 := Lib.hid (HG2.out.own HO1.out HNG.out); have y0 := HO2.out.cell (i := 0) rfl; clear hv2 hf2 hd2 hn2)
  have hv2 : Vec w2 B 5 1 (.slice a2 (l.length + 1) c2) (l ++ [UInt8.ofNat nm.data.toList.length]).length (bcells (l ++ [UInt8.ofNat nm.data.toList.length])) := by
    rw [bcells_append, HSL.out, HB8.out, List.length_append]; exact HV2.out
  have hz2 := HG2.out.fr.size
  have HV2' := Lib.hid hv2
  clear x0 x1 hv2 HV2
  go_upto_region 3 with (at_builtin; refine wpList_append_text rfl _ _ _ _ rfl B 5 elt_u8 Tryz.underlying9 (v := .slice a2 (l.length + 1) c2) HV2'.out rfl (tx := nm) rfl (by rw [List.length_append]; unfold maxLen; simp; omega) (by rw [List.length_append]; simp; omega) (by omega) ?_; intro v3 w3 hv3 hg3; obtain ⟨a3, c3, hs3, -⟩ := hv3.shape; subst hs3; have HG3 := Lib.hid (HG2.out.step hg3); have HV3 := Lib.hid hv3; have HO3 := Lib.hid (HG3.out.own HO1.out HNG.out); have y1 := HO3.out.cell (i := 1) rfl; clear hv3 hg3)
  have hv3 : Vec w3 B 5 1 (.slice a3 (l.length + 1 + nm.size) c3) (l ++ [UInt8.ofNat nm.data.toList.length] ++ nm.data.toList).length (bcells (l ++ [UInt8.ofNat nm.data.toList.length] ++ nm.data.toList)) := by
    have e3 : (l ++ [UInt8.ofNat nm.data.toList.length] ++ nm.data.toList).length = l.length + 1 + nm.size := by rw [List.length_append, List.length_append, List.length_singleton, HSL.out]
    have := HV3.out
    rw [List.length_append, List.length_singleton] at this
    rw [e3, bcells_append (l ++ [UInt8.ofNat nm.data.toList.length])]; exact this
  have hz3 := HG3.out.fr.size
  have hl3 : (l ++ [UInt8.ofNat nm.data.toList.length] ++ nm.data.toList).length ≤ 950000 := by simp; omega
  have HV3' := Lib.hid hv3
  have hg3' := HG3.out
  rw [List.length_append, List.length_singleton] at hg3'
  have HG3' := Lib.hid hg3'
  clear hv3 HV3 y0 hg3'
  go_wp2_with fail
  refine (put_any _ (l ++ [UInt8.ofNat nm.data.toList.length] ++ nm.data.toList) d.length 2 B 2 _ w3 HV3'.out (by omega) (by omega) rfl (by rfl) (by omega) (by omega)).mono ?_
  rintro e w4 ⟨v4, rfl, hv4, hg4⟩
  obtain ⟨L4, hL4⟩ : ∃ L4, l ++ [UInt8.ofNat nm.data.toList.length] ++ nm.data.toList ++ putN 2 d.length = L4 := ⟨_, rfl⟩
  rw [hL4] at hv4
  obtain ⟨a4, c4, hs4, -⟩ := hv4.shape
  subst hs4
  have HV4 := Lib.hid hv4
  have HG4 := Lib.hid (HG3'.out.step hg4)
  have hz4 := HG4.out.fr.size
  have HO4 := Lib.hid (HG4.out.own HO1.out HNG.out)
  have x1 := HO4.out.cell (i := 1) rfl
  have HD4 := Lib.hid (HD1.out.keep HG4.out.fr (fun b hb => HAP.out b hb))
  have hl4 : L4.length ≤ 960000 := by
    rw [← hL4, List.length_append, length_putN]; omega
  have HL4 := Lib.hid hL4
  clear hv4 hg4 y1 hL4
  go_wp2_with fail
  refine (digest_any _ d _ HD4.out).mono ?_
  rintro e w' ⟨rfl, rfl⟩
  have hdl := dgN_lt d
  go_wp2_with fail
  refine (put_any _ L4 (dgN d) 8 B 8 _ w4 HV4.out (by omega) (by omega) rfl (dgN_int _).symm hdl (by omega)).mono ?_
  rintro e w5 ⟨v5, rfl, hv5, hg5⟩
  have HV5 := Lib.hid hv5
  have HG5 := Lib.hid (HG4.out.step hg5)
  clear hv5 hg5
  go_wp2_with fail
  go_ret
  have hfin := HG5.out
  rw [← hw1] at hfin
  exact ⟨_, rfl, by rw [← entB_eq, HL4.out]; exact HV5.out, hfin.alloc⟩
set_option maxHeartbeats 1000000 in
theorem rentryW_any (bv : Value) (l : List UInt8) (nm dt : ByteArray) (B : Nat) (w : World) (hv : Vec w B 5 1 bv l.length (bcells l)) (hl : l.length ≤ 900000) (hn : nm.size ≤ 255) (hd3 : dt.size ≤ 300) (hB : B ≤ w.heap.size) :
    Calls Tryz.prog 134 #[bv, .agg #[.string nm, .string dt]] w fun e w' => ∃ v', e = .returned v' ∧ Vec w' B 5 1 v' (l ++ entB ⟨nm.data.toList, dt.data.toList⟩).length (bcells (l ++ entB ⟨nm.data.toList, dt.data.toList⟩)) ∧ Grew w bv v' w' := by
  have HV := Lib.hid hv
  obtain ⟨ba, bc, rfl, -⟩ := hv.shape
  have hsl : nm.data.toList.length = nm.size := by simp
  have HSL := Lib.hid hsl
  have hnw : IntKind.u8.wrap (nm.size : Int) = (nm.size : Int) := IntWalk.u8_in _ (by omega)
  clear hv hsl
  have hb8 := byte_small nm.size (by omega)
  have hlt := fun b => HV.out.lt b
  have HLT := Lib.hid hlt
  have hA : Fr (fun _ => False) w (w.alloc (.cells #[.string nm, .string dt] 188)) := (Fr.refl _ _).alloc _
  have HA := Lib.hid hA
  have HV1 := Lib.hid (HV.out.keep hA (fun _ _ h => h))
  have HO1 := Lib.hid (Own.alloc w #[.string nm, .string dt] 188)
  have hz1 := hA.size
  have HNG := Lib.hid (show (Value.slice ba l.length bc).ownBlock ≠ some w.heap.size from fun hb => by have := (HLT.out _ hb).2; omega)
  clear hA hlt
  obtain ⟨w1, hw1⟩ : ∃ W, w.alloc (.cells #[.string nm, .string dt] 188) = W := ⟨_, rfl⟩
  obtain ⟨xb, hxb⟩ : ∃ xb, w.heap.size = xb := ⟨_, rfl⟩
  have hxz : w1.heap.size = xb + 1 := by rw [← hw1, ← hxb]; simp
  have HXZ := Lib.hid hxz
  rw [hw1] at HV1 HO1 HA hz1
  rw [hxb] at HO1 HNG
  have x0 := HO1.out.cell (i := 0) rfl
  have x1 := HO1.out.cell (i := 1) rfl
  have HB8 := Lib.hid hb8
  clear hb8 hxz
  go_enter Tryz.func134, Tryz.ntmps134
  go_upto_region 2 with (at_builtin; refine wpList_append_vec rfl _ _ _ rfl B 5 1 1 elt_u8 (HV1.out.keep ((Fr.refl (fun _ => False) _).alloc _) (fun _ _ h => h)) rfl (m := 1) (Reads.new _ _ _ _ (by first | omega | simp) _ _) rfl rfl (by intro u hu; simp at hu; subst hu; rfl) (by unfold maxLen; omega) (by omega) (by simp; omega) ?_; intro v2 w2 hv2 hf2 hd2 hn2; obtain ⟨a2, c2, hs2, -⟩ := hv2.shape; subst hs2; have HG2 := Lib.hid (Grew.alloc _ ⟨hf2, hd2⟩); have HV2 := Lib.hid hv2; have HO2 := Lib.hid (HG2.out.own HO1.out HNG.out); have y0 := HO2.out.cell (i := 0) rfl; clear hv2 hf2 hd2 hn2)
  have hv2 : Vec w2 B 5 1 (.slice a2 (l.length + 1) c2) (l ++ [UInt8.ofNat nm.data.toList.length]).length (bcells (l ++ [UInt8.ofNat nm.data.toList.length])) := by
    rw [bcells_append, HSL.out, HB8.out, List.length_append]; exact HV2.out
  have hz2 := HG2.out.fr.size
  have HV2' := Lib.hid hv2
  clear x0 x1 hv2 HV2
  go_upto_region 3 with (at_builtin; refine wpList_append_text rfl _ _ _ _ rfl B 5 elt_u8 Tryz.underlying9 (v := .slice a2 (l.length + 1) c2) HV2'.out rfl (tx := nm) rfl (by rw [List.length_append]; unfold maxLen; simp; omega) (by rw [List.length_append]; simp; omega) (by omega) ?_; intro v3 w3 hv3 hg3; obtain ⟨a3, c3, hs3, -⟩ := hv3.shape; subst hs3; have HG3 := Lib.hid (HG2.out.step hg3); have HV3 := Lib.hid hv3; have HO3 := Lib.hid (HG3.out.own HO1.out HNG.out); have y1 := HO3.out.cell (i := 1) rfl; clear hv3 hg3)
  have hv3 : Vec w3 B 5 1 (.slice a3 (l.length + 1 + nm.size) c3) (l ++ [UInt8.ofNat nm.data.toList.length] ++ nm.data.toList).length (bcells (l ++ [UInt8.ofNat nm.data.toList.length] ++ nm.data.toList)) := by
    have e3 : (l ++ [UInt8.ofNat nm.data.toList.length] ++ nm.data.toList).length = l.length + 1 + nm.size := by rw [List.length_append, List.length_append, List.length_singleton, HSL.out]
    have := HV3.out
    rw [List.length_append, List.length_singleton] at this
    rw [e3, bcells_append (l ++ [UInt8.ofNat nm.data.toList.length])]; exact this
  have hz3 := HG3.out.fr.size
  have hl3 : (l ++ [UInt8.ofNat nm.data.toList.length] ++ nm.data.toList).length ≤ 950000 := by simp; omega
  have HV3' := Lib.hid hv3
  have hg3' := HG3.out
  rw [List.length_append, List.length_singleton] at hg3'
  have HG3' := Lib.hid hg3'
  clear hv3 HV3 y0 hg3'
  go_wp2_with fail
  refine (rput_any _ (l ++ [UInt8.ofNat nm.data.toList.length] ++ nm.data.toList) dt.data.toList.length 2 B 2 _ w3 HV3'.out (by omega) (by omega) rfl (by simp) (by simp; omega) (by omega)).mono ?_
  rintro e w4 ⟨v4, rfl, hv4, hg4⟩
  obtain ⟨L4, hL4⟩ : ∃ L4, l ++ [UInt8.ofNat nm.data.toList.length] ++ nm.data.toList ++ putN 2 dt.data.toList.length = L4 := ⟨_, rfl⟩
  rw [hL4] at hv4
  obtain ⟨a4, c4, hs4, -⟩ := hv4.shape
  subst hs4
  have HV4 := Lib.hid hv4
  have HG4 := Lib.hid (HG3'.out.step hg4)
  have hz4 := HG4.out.fr.size
  have HO4 := Lib.hid (HG4.out.own HO1.out HNG.out)
  have x1 := HO4.out.cell (i := 1) rfl
  have hl4 : L4.length ≤ 960000 := by
    rw [← hL4, List.length_append, length_putN]; omega
  have HL4 := Lib.hid hL4
  clear hv4 hg4 y1 hL4
  go_wp2_with fail
  refine (rdigest_any dt _ (by unfold maxLen; omega)).mono ?_
  rintro e w' ⟨rfl, rfl⟩
  have hdl := dgN_lt dt.data.toList
  go_wp2_with fail
  refine (rput_any _ L4 (dgN dt.data.toList) 8 B 8 _ w4 HV4.out (by omega) (by omega) rfl (dgN_int _).symm hdl (by omega)).mono ?_
  rintro e w5 ⟨v5, rfl, hv5, hg5⟩
  have HV5 := Lib.hid hv5
  have HG5 := Lib.hid (HG4.out.step hg5)
  clear hv5 hg5
  go_wp2_with fail
  go_ret
  have hfin := HG5.out
  rw [← hw1] at hfin
  exact ⟨_, rfl, by rw [← entB_eq, HL4.out]; exact HV5.out, hfin.alloc⟩
end Go.Proofs.YtlcdgbhigfgehabGreatDoor
