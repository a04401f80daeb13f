/- The document's Record: the batch of two trees. -/
import Derived.Test.YtlcdgbhigfgehaaDoorBRecord
import Derived.Test.YtlcdgbhigfgehaaDoorRefDiff
namespace Go.Proofs.YtlcdgbhigfgehaaDoor
open Go.RowKit
set_option maxRecDepth 100000

set_option maxHeartbeats 4000000 in
theorem rrecord_any (v0 v1 : Value) (src ref : List Fil) (B0 B1 : Nat) (blk : Nat) (w : World) (h0 : Refs w B0 v0 src) (h1 : Refs w B1 v1 ref) (hb1 : 1 ≤ blk) (hb2 : blk ≤ 64) (hs : IsTree src) (hr : IsTree ref) :
    Calls Tryd.prog 52 #[v0, v1, .int .i64 blk] w fun e w' => e = .returned (.string ⟨(recOf src ref blk).toArray⟩) ∧ Fr (fun _ => False) w w' := by
  have H0 := Lib.hid h0
  have H1 := Lib.hid h1
  obtain ⟨a0, c0, rfl, -⟩ := Vec.shape h0
  obtain ⟨a1, c1, rfl, -⟩ := Vec.shape h1
  have HS := Lib.hid hs
  have HR := Lib.hid hr
  have hsl : src.length ≤ 8 := hs.len
  have hrl : ref.length ≤ 8 := hr.len
  have hname : ∀ p ∈ src, p.name.length ≤ 12 ∧ p.data.length ≤ 300 := fun p hp => by
    have h := hs.ok p hp
    have h3 := h.1
    unfold isName at h3
    simp at h3
    exact ⟨by omega, h.2⟩
  have hname1 : ∀ p ∈ ref, p.name.length ≤ 12 ∧ p.data.length ≤ 300 := fun p hp => by
    have h := hr.ok p hp
    have h3 := h.1
    unfold isName at h3
    simp at h3
    exact ⟨by omega, h.2⟩
  have HN0 := Lib.hid hname
  have HN1 := Lib.hid hname1
  clear h0 h1 hs hr hname hname1
  have hbw : IntKind.u8.wrap (blk : Int) = (blk : Int) := IntWalk.u8_in _ (by omega)
  have hlw : IntKind.u8.wrap (ref.length : Int) = (ref.length : Int) := IntWalk.u8_in _ (by omega)
  have hsw : IntKind.u8.wrap (src.length : Int) = (src.length : Int) := IntWalk.u8_in _ (by omega)
  have hbe : [Value.int .u8 66, .int .u8 65, .int .u8 84, .int .u8 blk, .int .u8 ref.length] = bcells (headB ref blk) := by
    have e1 := byte_small blk (by omega)
    have e2 := byte_small ref.length (by omega)
    unfold headB
    rw [show [66, 65, 84, UInt8.ofNat blk, UInt8.ofNat ref.length] = [66, 65, 84] ++ [UInt8.ofNat blk] ++ [UInt8.ofNat ref.length] from rfl, bcells_append, bcells_append, e1, e2]; rfl
  have hv3 : Vec (w.alloc (.cells #[.int .u8 66, .int .u8 65, .int .u8 84, .int .u8 blk, .int .u8 ref.length] 5)) w.heap.size 5 1 (.slice (some ⟨w.heap.size, 0, none⟩) 5 5) (headB ref blk).length (bcells (headB ref blk)) := by
    rw [← hbe]
    exact ⟨rfl, .inr ⟨_, 5, [], rfl, Nat.le_refl _, Own.alloc w #[.int .u8 66, .int .u8 65, .int .u8 84, .int .u8 blk, .int .u8 ref.length] _, rfl, Nat.le_refl _, by unfold maxLen; omega⟩⟩
  have HV3 := Lib.hid hv3
  have HF3 := Lib.hid (show Fr (fun _ => False) w (w.alloc (.cells #[.int .u8 66, .int .u8 65, .int .u8 84, .int .u8 blk, .int .u8 ref.length] 5)) from (Fr.refl _ _).alloc _)
  clear hbe hv3
  go_enter Tryd.func52, Tryd.ntmps52
  go_wp2_with fail
  have hh5 : (headB ref blk).length = 5 := rfl
  go_loopw [7, 8] (fun bv iv wr => ∃ k : Nat, k ≤ ref.length ∧ iv = .int .i64 k ∧ Fr (fun _ => False) w wr ∧ Vec wr w.heap.size 5 1 bv (headTo ref blk k).length (bcells (headTo ref blk k))) (fun _ iv _ => ref.length - (intOf iv).toNat)
  case atStart => exact ⟨0, Nat.zero_le _, rfl, HF3.out, by unfold headTo; rw [List.take_zero, List.flatMap_nil, List.append_nil]; exact HV3.out⟩
  case round =>
    obtain ⟨k, hk, rfl, hfr, hbv⟩ := hrel
    obtain ⟨ba, bc, hbq, -⟩ := hbv.shape
    subst hbq
    have HFR := Lib.hid hfr
    have HBV := Lib.hid hbv
    have hwz := hfr.size
    have hL := headTo_length ref blk (fun f hf => (HN1.out f hf).1) k hk
    clear hbv
    by_cases hlt : k < ref.length
    · have hfl : Refs wr B1 (.slice a1 ref.length c1) ref := Vec.keep H1.out hfr (fun _ _ h => h)
      obtain ⟨g, cap, hq, e0, e1, hgl⟩ := hfl.get k hlt
      simp only [Value.slice.injEq, true_and] at hq
      obtain ⟨rfl, rfl⟩ := hq
      have hnn := HN1.out ref[k] (List.getElem_mem _)
      have hsu := headTo_succ ref blk k hlt
      obtain ⟨L, hLe⟩ : ∃ L, headTo ref blk k = L := ⟨_, rfl⟩
      rw [hLe] at hsu hL HBV ⊢
      clear hfl hfr hLe
      obtain ⟨f, hf⟩ : ∃ f, ref[k] = f := ⟨_, rfl⟩
      rw [hf] at hnn hsu e0 e1
      obtain ⟨fn, d⟩ := f
      simp only at hnn hsu e0 e1
      obtain ⟨nm, hnm⟩ : ∃ nm : ByteArray, nm = ⟨fn.toArray⟩ := ⟨_, rfl⟩
      have hnd : fn = nm.data.toList := by rw [hnm]
      rw [← hnm] at e0
      subst hnd
      obtain ⟨dt, hdt⟩ : ∃ dt : ByteArray, dt = ⟨d.toArray⟩ := ⟨_, rfl⟩
      have hdd : d = dt.data.toList := by rw [hdt]
      rw [← hdt] at e1
      subst hdd
      have hns : nm.data.toList.length = nm.size := by simp
      have hds : dt.data.toList.length = dt.size := by simp
      rw [hns, hds] at hnn
      have HSU := Lib.hid hsu
      have hd3 := hnn.2
      have hn12 := hnn.1
      clear hnm hf hns hds hsu hnn hdt
      go_wp2_with fail
      refine (rentryW_any _ L nm dt w.heap.size _ HBV.out (by omega) (by omega) hd3 (by omega)).mono ?_
      rintro e w5 ⟨v5, rfl, hv5, hg5⟩
      rw [← HSU.out] at hv5
      obtain ⟨L5, hL5⟩ : ∃ L5, headTo ref blk (k + 1) = L5 := ⟨_, rfl⟩
      rw [hL5] at hv5
      obtain ⟨a5, c5, hs5, -⟩ := hv5.shape
      subst hs5
      have HV5 := Lib.hid hv5
      have HF5 := Lib.hid (HFR.out.step hg5.fr (fun b hb hl => by have := (HBV.out.lt b hb).1; omega))
      have HL5 := Lib.hid hL5
      clear hv5 hg5 hL5
      go_wp2_with fail
      refine ⟨⟨k + 1, by omega, by go_num, HF5.out, by rw [HL5.out]; exact HV5.out⟩, by simp [intOf]; omega⟩
    · obtain rfl : k = ref.length := by omega
      clear hfr
      obtain ⟨L, hLe⟩ : ∃ L, headTo ref blk ref.length = L := ⟨_, rfl⟩
      rw [hLe] at hL HBV ⊢
      have HLE := Lib.hid hLe
      have HB8 := Lib.hid (byte_small src.length (by omega))
      clear hLe
      go_upto_region 7 with (at_builtin; refine wpList_append_vec rfl _ _ _ rfl w.heap.size 5 1 1 elt_u8 (HBV.out.keep ((Fr.refl (fun _ => False) _).alloc _) (fun _ _ h => h)) rfl (m := 1) (Reads.new _ _ _ _ (by first | omega | simp) _ _) rfl rfl (by intro u hu; simp at hu; subst hu; rfl) (by unfold maxLen; omega) (by omega) (by simp; omega) ?_; intro v5 w5 hv5 hf5 hd5 hn5; obtain ⟨a5, c5, hs5, -⟩ := hv5.shape; subst hs5; have HG5 := Lib.hid (Grew.alloc _ ⟨hf5, hd5⟩); have HV5 := Lib.hid hv5; clear hv5 hf5 hd5 hn5)
      have hv5 : Vec w5 w.heap.size 5 1 (.slice a5 (L.length + 1) c5) (L ++ [UInt8.ofNat src.length]).length (bcells (L ++ [UInt8.ofNat src.length])) := by
        rw [bcells_append, HB8.out, List.length_append]; exact HV5.out
      have hHS := HG5.out.fr.size
      have HF5 := Lib.hid (HFR.out.step HG5.out.fr (fun b hb hl => by have := (HBV.out.lt b hb).1; omega))
      obtain ⟨L5, hL5⟩ : ∃ L5, L ++ [UInt8.ofNat src.length] = L5 := ⟨_, rfl⟩
      have hl5 : L5.length = L.length + 1 := by rw [← hL5]; simp
      rw [hL5] at hv5
      have HV5' := Lib.hid hv5
      have HL5 := Lib.hid hL5
      have hl5b : L5.length ≤ 200 := by omega
      rw [← hl5] at HV5' ⊢
      clear hl5
      clear hv5 HV5 HG5 hL5 HBV HFR
      go_wp2_with fail
      go_loopw [7, 9] (fun bv iv wr => ∃ k : Nat, k ≤ src.length ∧ iv = .int .i64 k ∧ Fr (fun _ => False) w wr ∧ Vec wr w.heap.size 5 1 bv (bodyTo L5 src ref blk k).length (bcells (bodyTo L5 src ref blk k))) (fun _ iv _ => src.length - (intOf iv).toNat)
      case atStart => exact ⟨0, Nat.zero_le _, rfl, HF5.out, by unfold bodyTo; rw [List.take_zero, List.flatMap_nil, List.append_nil]; exact HV5'.out⟩
      case round =>
        obtain ⟨k, hk, rfl, hfr, hbv⟩ := hrel
        obtain ⟨ba, bc, hbq, -⟩ := hbv.shape
        subst hbq
        have HFR := Lib.hid hfr
        have HBV := Lib.hid hbv
        have hwz := hfr.size
        have hL := bodyTo_length L5 src ref blk (by omega) (fun f hf => HN0.out f hf) k hk
        clear hbv
        by_cases hlt : k < src.length
        · have hfl : Refs wr B0 (.slice a0 src.length c0) src := Vec.keep H0.out hfr (fun _ _ h => h)
          obtain ⟨g, cap, hq, e0, e1, hgl⟩ := hfl.get k hlt
          simp only [Value.slice.injEq, true_and] at hq
          obtain ⟨rfl, rfl⟩ := hq
          have hnn := HN0.out src[k] (List.getElem_mem _)
          have hsu := bodyTo_succ L5 src ref blk k hlt
          obtain ⟨L, hLe⟩ : ∃ L, bodyTo L5 src ref blk k = L := ⟨_, rfl⟩
          rw [hLe] at hsu hL HBV ⊢
          have hcells : ∀ W, Fr (fun _ => False) w W → W.cell? ⟨g, k * 2, none⟩ = some (.string ⟨src[k].name.toArray⟩) ∧ W.cell? ⟨g, k * 2 + 1, none⟩ = some (.string ⟨src[k].data.toArray⟩) := fun W hW => by
            have hf2 : Refs W B0 (.slice (some ⟨g, 0, none⟩) src.length c0) src := Vec.keep H0.out hW (fun _ _ h => h)
            obtain ⟨g', cap', hq', e0', e1', -⟩ := hf2.get k hlt
            simp only [Value.slice.injEq, true_and, Option.some.injEq, Addr.mk.injEq, and_true] at hq'
            obtain ⟨rfl, -⟩ := hq'
            exact ⟨e0', e1'⟩
          clear hfl hfr hLe
          obtain ⟨f, hf⟩ : ∃ f, src[k] = f := ⟨_, rfl⟩
          rw [hf] at hnn hsu e0 e1 hcells
          obtain ⟨fn, d⟩ := f
          simp only at hnn hsu e0 e1 hcells
          obtain ⟨nm, hnm⟩ : ∃ nm : ByteArray, nm = ⟨fn.toArray⟩ := ⟨_, rfl⟩
          have hnd : fn = nm.data.toList := by rw [hnm]
          rw [← hnm] at e0 hcells
          subst hnd
          obtain ⟨dt, hdt⟩ : ∃ dt : ByteArray, dt = ⟨d.toArray⟩ := ⟨_, rfl⟩
          have hdd : d = dt.data.toList := by rw [hdt]
          rw [← hdt] at e1 hcells
          subst hdd
          have hns : nm.data.toList.length = nm.size := by simp
          have hds : dt.data.toList.length = dt.size := by simp
          rw [hns, hds] at hnn
          have HSU := Lib.hid hsu
          have HCC := Lib.hid hcells
          have HDS := Lib.hid hds
          have hd3 := hnn.2
          have hn12 := hnn.1
          have hL6 : L.length ≤ 800000 := by omega
          clear hnm hf hns hds hsu hnn hdt hcells
          go_wp2_with fail
          refine (rentryW_any _ L nm dt w.heap.size _ HBV.out (by omega) (by omega) hd3 (by omega)).mono ?_
          rintro e w6 ⟨v6, rfl, hv6, hg6⟩
          have hl6 : (L ++ entB ⟨nm.data.toList, dt.data.toList⟩).length ≤ 801000 := by
            have := entB_length ⟨nm.data.toList, dt.data.toList⟩ (by simpa using hn12)
            rw [List.length_append]; omega
          obtain ⟨L6, hL6e⟩ : ∃ L6, L ++ entB ⟨nm.data.toList, dt.data.toList⟩ = L6 := ⟨_, rfl⟩
          rw [hL6e] at hv6 hl6
          obtain ⟨a6, c6, hs6, -⟩ := hv6.shape
          subst hs6
          have HV6 := Lib.hid hv6
          have HF6 := Lib.hid (HFR.out.step hg6.fr (fun b hb hl => by have := (HBV.out.lt b hb).1; omega))
          have hz6 := hg6.fr.size
          have HLE6 := Lib.hid hL6e
          obtain ⟨x0, x1⟩ := HCC.out w6 HF6.out
          clear hv6 hg6 hL6e e0 e1
          go_wp2_with fail
          refine (rfind_any _ ref B1 nm w6 (Vec.keep H1.out HF6.out (fun _ _ h => h))).mono ?_
          rintro e w7 ⟨rfl, hf7⟩
          have hbl : (baseOf ref nm.data.toList).length ≤ 300 := baseOf_len _ (fun f hf => (HR.out.ok f hf).2) _
          obtain ⟨bs, hbs⟩ : ∃ bs : ByteArray, bs = ⟨(baseOf ref nm.data.toList).toArray⟩ := ⟨_, rfl⟩
          have hbd : baseOf ref nm.data.toList = bs.data.toList := by rw [hbs]
          rw [← hbs]
          rw [hbd] at hbl
          have hbs2 : bs.data.toList.length = bs.size := by simp
          rw [hbs2] at hbl
          have HBE := Lib.hid hbd
          have HV7 := Lib.hid (HV6.out.keep hf7 (fun _ _ h => h))
          have HF7 := Lib.hid (HF6.out.step hf7 (fun _ h _ => h))
          have hz7 := hf7.size
          clear x0 x1 hf7 hbs hbd hbs2
          obtain ⟨x0, x1⟩ := HCC.out w7 HF7.out
          have hz0 : sized blk bs.size = 0 := by unfold sized; rw [if_neg (by omega), if_neg (by omega)]
          have hz1 : sized blk dt.size = 0 := by unfold sized; rw [if_neg (by omega), if_neg (by omega)]
          have HZ0 := Lib.hid hz0
          have HZ1 := Lib.hid hz1
          clear hz0 hz1
          go_wp2_with fail
          refine (rdiff_any bs dt blk w7 HZ0.out HZ1.out).mono ?_
          rintro e w8 ⟨x, l, rfl, hot, hm, hf8⟩
          have hdm := diff_makes bs.data.toList dt.data.toList blk (by omega) (by rw [HDS.out]; exact hd3)
          rw [← hm] at hdm
          have hll : l.length ≤ 300 := by have := hdm.2.2; rw [List.length_map, HDS.out] at this; omega
          have htok := fun t ht => applyF_ok bs.data.toList blk (l.map (·.1)) [] _ hdm.1 t ht
          have hbs2 : bs.data.toList.length = bs.size := by simp
          have hnb := (nBlocks_mul bs.data.toList.length blk (by omega)).2.2
          rw [hbs2] at hnb
          have hsm : ∀ t ∈ l.map (·.1), (t.c = 0 ∧ t.b = 0 ∧ t.d.length ≤ 255) ∨ (0 < t.c ∧ t.c ≤ 255 ∧ 0 ≤ t.b ∧ t.b ≤ 300 ∧ t.d = []) := fun t ht => by
            have h1 := htok t ht
            rcases hdm.2.1 t ht with h | h
            · exact .inl ⟨h.1, h.2.1, h.2.2.2⟩
            · refine .inr ⟨h.1, h.2.1, h.2.2.1, ?_, h.2.2.2⟩
              unfold tokOk at h1
              simp at h1
              omega
          have HDM := Lib.hid hsm
          obtain ⟨xa, xc, hxs, -⟩ := hot.vec.shape
          subst hxs
          have HM := Lib.hid hm
          have HOT := Lib.hid hot
          have HF8 := Lib.hid (HF7.out.step hf8 (fun _ h _ => h))
          have HV8 := Lib.hid (HV7.out.keep hf8 (fun _ _ h => h))
          have hz8 := hf8.size
          clear hm hdm hot hf8 x0 x1 htok hnb hsm hbs2
          go_wp2_with fail
          refine (rput_any _ L6 l.length 2 w.heap.size 2 _ w8 HV8.out (by omega) (by omega) rfl rfl (by omega) (by omega)).mono ?_
          rintro e w9 ⟨v9, rfl, hv9, hg9⟩
          have hl9 : (L6 ++ putN 2 l.length).length ≤ 801010 := by rw [List.length_append, length_putN]; omega
          obtain ⟨L8, hL8e⟩ : ∃ L8, L6 ++ putN 2 l.length = L8 := ⟨_, rfl⟩
          rw [hL8e] at hv9 hl9
          obtain ⟨a9, c9, hs9, -⟩ := hv9.shape
          subst hs9
          have HV9 := Lib.hid hv9
          have HG9 := Lib.hid hg9
          have HLE8 := Lib.hid hL8e
          clear hv9 hg9 hL8e
          go_wp2_with fail
          go_loopw [7, 13] (fun bv iv wr => ∃ j : Nat, j ≤ l.length ∧ iv = .int .i64 j ∧ Grew w8 (.slice a6 L6.length c6) bv wr ∧ Vec wr w.heap.size 5 1 bv (toksTo L8 (l.map (·.1)) j).length (bcells (toksTo L8 (l.map (·.1)) j))) (fun _ iv _ => l.length - (intOf iv).toNat)
          case atStart => exact ⟨0, Nat.zero_le _, rfl, HG9.out, by unfold toksTo; rw [List.take_zero, List.flatMap_nil, List.append_nil]; exact HV9.out⟩
          case round =>
            obtain ⟨j, hj, rfl, hgr, hbv⟩ := hrel
            obtain ⟨ba2, bc2, hbq, -⟩ := hbv.shape
            subst hbq
            have HGR := Lib.hid hgr
            have HBW := Lib.hid hbv
            have hwz2 := hgr.fr.size
            have hLj := toksTo_len L8 (l.map (·.1)) (fun t ht => by rcases HDM.out t ht with h | h; exact h.2.2; rw [h.2.2.2.2]; simp) j
            rw [List.length_map] at hLj
            clear hgr hbv
            by_cases hlj : j < l.length
            · have hmem : l[j] ∈ l := List.getElem_mem hlj
              have hsh := HDM.out l[j].1 (List.mem_map_of_mem hmem)
              have hstep := toksTo_succ L8 (l.map (·.1)) j (by simpa using hlj)
              rw [List.getElem_map] at hstep
              have hel := HOT.out.lt l[j] hmem
              -- what a world behind says of the token
              have hcell : ∀ v1 W, Grew w8 (.slice a6 L6.length c6) v1 W → ∃ gt, xa = some ⟨gt, 0, none⟩ ∧ W.cell? ⟨gt, j * 3, none⟩ = some (.int .i64 l[j].1.b) ∧ W.cell? ⟨gt, j * 3 + 1, none⟩ = some (.int .i64 l[j].1.c) ∧ W.cell? ⟨gt, j * 3 + 2, none⟩ = some l[j].2 ∧ IsB W l[j].2 l[j].1.d := fun v1 W hW => by
                have hot := HOT.out.below hW.fr (fun b hb => by have := (HV6.out.lt b hb).2; omega)
                obtain ⟨gt, ct, hqt, t0, t1, t2⟩ := hot.toks.get j hlj
                simp only [Value.slice.injEq, true_and] at hqt
                exact ⟨gt, hqt.1, t0, t1, t2, (hot.data l[j] hmem).isB⟩
              obtain ⟨ea, ec, hev, -⟩ := ((HOT.out.data l[j] hmem)).shape
              obtain ⟨L, hLe⟩ : ∃ L, toksTo L8 (l.map (·.1)) j = L := ⟨_, rfl⟩
              rw [hLe] at hstep hLj HBW HGR ⊢
              have hLJ : L.length ≤ 890000 := by omega
              obtain ⟨f, hf⟩ : ∃ f, l[j] = f := ⟨_, rfl⟩
              rw [hf] at hsh hev hel hstep hcell
              obtain ⟨⟨tb, tc, td⟩, ev⟩ := f
              simp only at hsh hev hel hstep hcell
              subst hev
              have HC := Lib.hid hcell
              obtain ⟨gt, rfl, t0, t1, t2, -⟩ := hcell _ wr HGR.out
              have HST := Lib.hid hstep
              clear hf hel hstep hcell hmem hLe hLj
              rcases hsh with ⟨rfl, rfl, htd⟩ | ⟨hc1, hc2, hb1', hb2', rfl⟩
              · have htw : IntKind.u8.wrap (td.length : Int) = (td.length : Int) := IntWalk.u8_in _ (by omega)
                have HB8 := Lib.hid (byte_small td.length (by omega))
                go_upto_region 19 with (at_builtin; refine wpList_append_vec rfl _ _ _ rfl w.heap.size 5 1 1 elt_u8 (HBW.out.keep ((Fr.refl (fun _ => False) _).alloc _) (fun _ _ h => h)) rfl (m := 2) (Reads.new _ _ _ _ (by first | omega | simp) _ _) rfl rfl (by intro u hu; simp at hu; rcases hu with rfl | rfl <;> rfl) (by unfold maxLen; omega) (by omega) (by simp; omega) ?_; intro v10 w10 hv10 hf10 hd10 hn10; obtain ⟨a10, c10, hs10, -⟩ := hv10.shape; subst hs10; have HG10 := Lib.hid (HGR.out.step (Grew.alloc _ ⟨hf10, hd10⟩)); have HV10 := Lib.hid hv10; have hex := HC.out _ w10 HG10.out; obtain ⟨gt', hgt', y0, y1, y2, hei⟩ := hex; have hgg := (show gt = gt' from (by simpa using hgt')); subst hgg; have HE10 := Lib.hid hei; clear hei hgt'; clear hv10 hf10 hd10 hn10)
                have hv10 : Vec w10 w.heap.size 5 1 (.slice a10 (L.length + 2) c10) (L ++ [0, UInt8.ofNat td.length]).length (bcells (L ++ [0, UInt8.ofNat td.length])) := by
                  rw [bcells_append, show [0, UInt8.ofNat td.length] = [0] ++ [UInt8.ofNat td.length] from rfl, bcells_append, HB8.out, List.length_append]; exact HV10.out
                have HV10' := Lib.hid hv10
                have hz10 := HG10.out.fr.size
                clear hv10 t0 t1 t2
                go_wp2_with (at_builtin; refine wpList_append_vec rfl _ _ _ rfl w.heap.size 5 1 1 elt_u8 HV10'.out rfl (m := td.length) (Reads.ofB HE10.out) rfl (by simp) (bcells_one _) (by rw [List.length_append]; unfold maxLen; simp; omega) (by rw [List.length_append]; simp; omega) (by omega) ?_; intro v11 w11 hv11 hf11 hd11 hn11; obtain ⟨a11, c11, hs11, -⟩ := hv11.shape; subst hs11; have HG11 := Lib.hid (HG10.out.step ⟨hf11, hd11⟩); have HV11 := Lib.hid hv11; clear hv11 hf11 hd11 hn11)
                have hg11 := HG11.out
                rw [show (L ++ [0, UInt8.ofNat td.length]).length = L.length + 2 by simp] at hg11
                refine ⟨⟨j + 1, by omega, by go_num, hg11, ?_⟩, by simp [intOf]; omega⟩
                have e : toksTo L8 (l.map (·.1)) (j + 1) = L ++ [0, UInt8.ofNat td.length] ++ td := by rw [HST.out]; simp [tokB]
                have hv := HV11.out
                rw [← bcells_append] at hv
                have e2 : (L ++ [0, UInt8.ofNat td.length] ++ td).length = L.length + 2 + td.length := by simp; omega
                have e3 : (L ++ [0, UInt8.ofNat td.length]).length = L.length + 2 := by simp
                rw [e3] at hv
                rw [e, e2]
                exact hv
              · obtain ⟨nb, rfl⟩ := Int.eq_ofNat_of_zero_le hb1'
                obtain ⟨nc, rfl⟩ := Int.eq_ofNat_of_zero_le (a := tc) (by omega)
                have hc0 : ((nc : Int) == 0) = false := by simp; omega
                have hcw : IntKind.u8.wrap (nc : Int) = (nc : Int) := IntWalk.u8_in _ (by omega)
                have hbw2 : IntKind.u64.wrap (nb : Int) = (nb : Int) := by rw [show ∀ n : Int, IntKind.u64.wrap n = n % 18446744073709551616 from fun n => by simp [IntKind.wrap, IntKind.bits, IntKind.signed]]; omega
                have HB8 := Lib.hid (byte_small nc (by omega))
                go_upto_region 21 with (at_builtin; refine wpList_append_vec rfl _ _ _ rfl w.heap.size 5 1 1 elt_u8 (HBW.out.keep ((Fr.refl (fun _ => False) _).alloc _) (fun _ _ h => h)) rfl (m := 1) (Reads.new _ _ _ _ (by first | omega | simp) _ _) rfl rfl (by intro u hu; simp at hu; subst hu; rfl) (by unfold maxLen; omega) (by omega) (by simp; omega) ?_; intro v10 w10 hv10 hf10 hd10 hn10; obtain ⟨a10, c10, hs10, -⟩ := hv10.shape; subst hs10; have HG10 := Lib.hid (HGR.out.step (Grew.alloc _ ⟨hf10, hd10⟩)); have HV10 := Lib.hid hv10; have hex := HC.out _ w10 HG10.out; obtain ⟨gt', hgt', x0, -⟩ := hex; have hgg := (show gt = gt' from (by simpa using hgt')); subst hgg; clear hgt'; clear hv10 hf10 hd10 hn10)
                have hv10 : Vec w10 w.heap.size 5 1 (.slice a10 (L.length + 1) c10) (L ++ [1]).length (bcells (L ++ [1])) := by
                  rw [bcells_append, List.length_append]; exact HV10.out
                have HV10' := Lib.hid hv10
                have hz10 := HG10.out.fr.size
                clear hv10 t0 t1 t2
                go_wp2_with fail
                refine (rput_any _ (L ++ [1]) nb 2 w.heap.size 2 _ w10 HV10'.out (by omega) (by simp; omega) rfl rfl (by omega) (by omega)).mono ?_
                rintro e w11 ⟨v11, rfl, hv11, hg11⟩
                obtain ⟨L11, hLe⟩ : ∃ L11, L ++ [1] ++ putN 2 nb = L11 := ⟨_, rfl⟩
                have hl11 : L11.length = L.length + 3 := by rw [← hLe]; simp [length_putN]
                rw [hLe] at hv11
                obtain ⟨a11, c11, hs11, -⟩ := hv11.shape
                subst hs11
                have HG11 := Lib.hid (HG10.out.step hg11)
                have HV11 := Lib.hid hv11
                have HLA := Lib.hid hLe
                have hLL : L11.length ≤ 890003 := by omega
                have HL11 := Lib.hid hl11
                obtain ⟨gt', hgt', -, y1, -⟩ := HC.out _ w11 HG11.out
                have hgg : gt = gt' := by simpa using hgt'
                subst hgg
                have hz11 := HG11.out.fr.size
                clear hv11 hg11 hLe hl11 hgt' x0
                go_wp2_with (at_builtin; refine wpList_append_vec rfl _ _ _ rfl w.heap.size 5 1 1 elt_u8 (HV11.out.keep ((Fr.refl (fun _ => False) _).alloc _) (fun _ _ h => h)) rfl (m := 1) (Reads.new _ _ _ _ (by first | omega | simp) _ _) rfl rfl (by intro u hu; simp at hu; subst hu; rfl) (by unfold maxLen; omega) (by omega) (by simp; omega) ?_; intro v12 w12 hv12 hf12 hd12 hn12; obtain ⟨a12, c12, hs12, -⟩ := hv12.shape; subst hs12; have HG12 := Lib.hid (HG11.out.step (Grew.alloc _ ⟨hf12, hd12⟩)); have HV12 := Lib.hid hv12; clear hv12 hf12 hd12 hn12)
                refine ⟨⟨j + 1, by omega, by go_num, HG12.out, ?_⟩, by simp [intOf]; omega⟩
                have hcn : ¬ ((nc : Int) = 0) := by omega
                have e : toksTo L8 (l.map (·.1)) (j + 1) = L11 ++ [UInt8.ofNat nc] := by
                  rw [HST.out, ← HLA.out]
                  unfold tokB
                  rw [if_neg hcn]
                  simp
                have hv := HV12.out
                rw [← HB8.out, ← bcells_append] at hv
                have e2 : (L11 ++ [UInt8.ofNat nc]).length = L11.length + 1 := by simp
                rw [e, e2]
                exact hv
            · obtain rfl : j = l.length := by omega
              obtain ⟨L9, hLe⟩ : ∃ L9, toksTo L8 (l.map (·.1)) l.length = L9 := ⟨_, rfl⟩
              rw [hLe] at hLj HBW ⊢
              have HLE9 := Lib.hid hLe
              clear hLe
              go_wp2_with fail
              have hLfin : bodyTo L5 src ref blk (k + 1) = L9 := by
                rw [HSU.out, ← HLE9.out, ← HLE8.out, ← HLE6.out]
                unfold targB toksB targToks toksTo
                rw [HBE.out, ← HM.out, List.take_of_length_le (by simp)]
                simp
              exact ⟨⟨k + 1, by omega, by go_num, HF8.out.step HGR.out.fr (fun b hb hl => by have := (HV6.out.lt b hb).1; omega), by rw [hLfin]; exact HBW.out⟩, by simp [intOf]; omega⟩
        · obtain rfl : k = src.length := by omega
          obtain ⟨L, hLe⟩ : ∃ L, bodyTo L5 src ref blk src.length = L := ⟨_, rfl⟩
          rw [hLe] at hL HBV ⊢
          have HLEE := Lib.hid hLe
          have hll : L.length ≤ 900000 := by omega
          have hdl := dgN_lt L
          have HDL := Lib.hid (dgN_int L)
          have hcv := run_string_of (P := Tryd.prog) wr 25 9 5 _ _ Tryd.underlying25 Tryd.underlying5 Tryd.underlying9 HBV.out.isB
          clear hLe hfr
          go_wp2_with fail
          refine (rdigest_any _ _ (by
            have hsz : (⟨L.toArray⟩ : ByteArray).size = L.length := by show L.toArray.size = _; simp
            unfold maxLen; omega)).mono ?_
          rintro e w' ⟨rfl, rfl⟩
          rw [show (⟨L.toArray⟩ : ByteArray).data.toList = L by simp]
          go_wp2_with fail
          refine (rput_any _ L (dgN L) 8 w.heap.size 8 _ wr HBV.out (by omega) (by omega) rfl HDL.out.symm hdl (by omega)).mono ?_
          rintro e w6 ⟨v6, rfl, hv6, hg6⟩
          have hfin : recOf src ref blk = L ++ putN 8 (dgN L) := by
            have : recBody src ref blk = L := by
              rw [← HLEE.out, ← HL5.out, ← HLE.out]
              unfold recBody bodyTo headTo
              rw [List.take_of_length_le (l := ref) (by simp), List.take_of_length_le (l := src) (by simp)]
              simp
            unfold recOf
            rw [this]
          have hcv6 := run_string_of (P := Tryd.prog) w6 25 9 5 _ _ Tryd.underlying25 Tryd.underlying5 Tryd.underlying9 hv6.isB
          obtain ⟨a6, c6, hs6, -⟩ := hv6.shape
          rw [← hfin] at hcv6 hs6
          subst hs6
          have HF6 := Lib.hid (HFR.out.step hg6.fr (fun b hb hl => by have := (HBV.out.lt b hb).1; omega))
          obtain ⟨RR', hRR⟩ : ∃ R, recOf src ref blk = R := ⟨_, rfl⟩
          rw [hRR] at hcv6 ⊢
          have HRR := Lib.hid hRR
          clear hv6 hg6 hfin hRR hcv
          go_wp2_with fail
          go_ret
          exact ⟨by rw [HRR.out]; rfl, HF6.out⟩
end Go.Proofs.YtlcdgbhigfgehaaDoor
