/- files: a tree for the program, in fresh bytes; kept: does it read as it did? -/
import Derived.Test.YtlcdgbhigfgehaaDoorFilMem
import Derived.Test.YtlcdgbhigfgehaaDoorUpTo
import Derived.Test.YtlcdgbhigfgehaaDoorVecStr
import Derived.Deep.CutBlock
import Derived.Deep.AppendLies
namespace Go.Proofs.YtlcdgbhigfgehaaDoor
open Go.RowKit
set_option maxRecDepth 100000

/-- A list of files whose data lies in rows of its own, with two bytes of room. -/
structure Laid (w : World) (B : Nat) (v : Value) (l : List (Fil × Value)) : Prop where
  vec : Vec w B 83 2 v l.length (filCells l)
  data : ∀ p ∈ l, ∃ g, p.2 = .slice (some ⟨g, 0, none⟩) p.1.data.length (p.1.data.length + 2) ∧ B ≤ g ∧ Own w g 5 (roomyCells p.1.data)
section
variable {w w1 : World} {S : Nat → Prop} {B : Nat} {v : Value} {l : List (Fil × Value)}
theorem Laid.nil (w : World) (B : Nat) : Laid w B (.slice none 0 0) [] := ⟨Vec.nil _ _ _ _, fun _ h => by simp at h⟩
theorem Laid.keep0 (h : Laid w B v l) (k : Fr (fun _ => False) w w1) : Laid w1 B v l :=
  ⟨h.vec.keep k (fun _ _ h => h), fun p hp => by obtain ⟨g, e, hg, ho⟩ := h.data p hp; exact ⟨g, e, hg, ho.keep k id⟩⟩
theorem Laid.fils (h : Laid w B v l) (hd : ∀ p ∈ l, p.1.data.length ≤ 140737488355328) : Fils w B v l := by
  refine ⟨h.vec, fun p hp => ?_, fun p hp b hb => ?_⟩
  · obtain ⟨g, e, hg, ho⟩ := h.data p hp
    rw [e]
    exact IsB.ofOwn0 (cap := p.1.data.length + 2) (l := p.1.data) (rest := [.int .u8 77, .int .u8 88]) ho rfl (by omega) (by have := hd p hp; unfold maxLen; omega)
  · obtain ⟨g, e, hg, ho⟩ := h.data p hp
    rw [e] at hb
    have : g = b := by simpa [Value.ownBlock] using hb
    subst this
    exact ⟨hg, ho.lt⟩
end
set_option maxHeartbeats 4000000 in
theorem files_any (v : Value) (l : List Fil) (B : Nat) (w : World) (h : Refs w B v l) (hd : ∀ f ∈ l, f.data.length ≤ 1000000) (hl : l.length ≤ 1000000) :
    Calls Tryd.prog 49 #[v] w fun e w' => ∃ v' m, e = .returned v' ∧ m.map (·.1) = l ∧ Laid w' w.heap.size v' m ∧ Fr (fun _ => False) w w' := by
  have H := Lib.hid h
  obtain ⟨va, vc, rfl, -⟩ := Vec.shape h
  have HD := Lib.hid hd
  clear h hd
  go_enter Tryd.func49, Tryd.ntmps49
  go_wp2_with fail
  go_loopw [3, 4] (fun ov iv wr => ∃ (k : Nat) (m : List (Fil × Value)), k ≤ l.length ∧ iv = .int .i64 k ∧ Fr (fun _ => False) w wr ∧ m.map (·.1) = l.take k ∧ Laid wr w.heap.size ov m) (fun _ iv _ => l.length - (intOf iv).toNat)
  case atStart => exact ⟨0, [], Nat.zero_le _, rfl, Fr.refl _ _, rfl, Laid.nil _ _⟩
  case round =>
    obtain ⟨k, m, hk, rfl, hfr, hm, hla⟩ := hrel
    obtain ⟨oa, oc, hoq, -⟩ := hla.vec.shape
    subst hoq
    have HFR := Lib.hid hfr
    have HM := Lib.hid hm
    have HLA := Lib.hid hla
    have hml : m.length = k := by
      have := congrArg List.length hm
      rw [List.length_map, List.length_take] at this; omega
    have hwz := hfr.size
    have HML := Lib.hid hml
    have hmk : m.length ≤ 1000000 := by omega
    clear hm hla hml
    by_cases hlt : k < l.length
    · have hfl : Refs wr B (.slice va l.length vc) l := Vec.keep H.out hfr (fun _ _ h => h)
      obtain ⟨g, cap, hq, e0, e1, hgl⟩ := hfl.get k hlt
      simp only [Value.slice.injEq, true_and] at hq
      obtain ⟨rfl, rfl⟩ := hq
      have hnn := HD.out l[k] (List.getElem_mem _)
      have htk : l.take (k + 1) = l.take k ++ [l[k]] := List.take_succ_eq_append_getElem hlt
      clear hfl hfr
      obtain ⟨f, hf⟩ : ∃ f, l[k] = f := ⟨_, rfl⟩
      rw [hf] at hnn htk e0 e1
      obtain ⟨fn, d⟩ := f
      simp only at hnn htk e0 e1
      obtain ⟨dt, hdt⟩ : ∃ dt : ByteArray, dt = ⟨d.toArray⟩ := ⟨_, rfl⟩
      have hdd : d = dt.data.toList := by rw [hdt]
      rw [← hdt] at e1
      subst hdd
      obtain ⟨nm, hnm⟩ : ∃ nm : ByteArray, nm = ⟨fn.toArray⟩ := ⟨_, rfl⟩
      rw [← hnm] at e0
      have hds : dt.data.toList.length = dt.size := by simp
      rw [hds] at hnn
      have HTK := Lib.hid htk
      have HNM := Lib.hid hnm
      have HDS := Lib.hid hds
      clear hf hds htk hdt hnm
      go_upto_region 5 with fail
      go_region_law
        (first
          | (go_simp; go_at_call 12; refine (roomy_any dt _ (by omega)).mono ?_; rintro e w5 ⟨gd, rfl, hgd, hro, hf5⟩; have y0 := hf5.cell (show (wr.drew).cell? ⟨g, k * 2, none⟩ = some (.string nm) from (by simpa using e0)) id; have HR5 := Lib.hid hro; have HF5 := Lib.hid ((Fr.refl (fun _ => False) wr).drew.step hf5 (fun _ h _ => h)); have hgd2 : wr.heap.size ≤ gd := (by simpa using hgd); have hgz := hro.lt; clear hgd hro hf5)
          | (rw [if_pos (by rfl)]; refine wp_append_vec (.tmp 11) (.tmp 24) 77 rfl w.heap.size 83 2 40 elt_fil (v := .slice oa m.length oc) (n := m.length) (xs := filCells m) ((HLA.out.vec.keep HF5.out (fun _ _ h => h)).keep ((Fr.refl (fun _ => False) _).alloc _) (fun _ _ h => h)) rfl (m := 1) (Reads.new _ _ _ _ (by simp) _ _) rfl rfl (fil_one _ _ _ _) (by unfold maxLen; omega) (by omega) (by simp; omega) ?_; intro v6 w6 hv6 hf6 hd6; obtain ⟨a6, c6, hs6, -⟩ := hv6.shape; subst hs6; have HV6 := Lib.hid hv6; have HF6 := Lib.hid hf6; clear hv6 hf6 hd6))
      all_goals
        go_wp2_with fail
        have hA : Fr (fun _ => False) w5 (w5.alloc (.cells #[.string nm, .slice (some ⟨gd, 0, none⟩) dt.size (dt.size + 2)] 83)) := (Fr.refl _ _).alloc _
        have hk5 : Fr (fun _ => False) wr (w5.alloc (.cells #[.string nm, .slice (some ⟨gd, 0, none⟩) dt.size (dt.size + 2)] 83)) := HF5.out.step hA (fun _ h _ => h)
        have hv5 := HLA.out.vec.keep hk5 (fun _ _ h => h)
        refine ⟨⟨k + 1, m ++ [(⟨fn, dt.data.toList⟩, .slice (some ⟨gd, 0, none⟩) dt.size (dt.size + 2))], by omega, by go_num, (HFR.out.step hk5 (fun _ h _ => h)).step HF6.out (fun b hb hl => by have := (HLA.out.vec.lt b hb).1; omega), by rw [List.map_append, HM.out, HTK.out]; rfl, ⟨?_, ?_⟩⟩, by simp [intOf]; omega⟩
        · have hv := HV6.out
          rw [HNM.out] at hv
          rw [List.length_append, filCells_snoc]; exact hv
        · intro p hp
          rcases List.mem_append.1 hp with hp | hp
          · obtain ⟨g', e', hg', ho'⟩ := HLA.out.data p hp
            have ho5 := ho'.keep hk5 id
            exact ⟨g', e', hg', ho5.keep HF6.out (hv5.apartT ho5 (by decide))⟩
          · simp at hp
            subst hp
            have ho5 := HR5.out.keep hA id
            exact ⟨gd, by rw [HDS.out], by omega, ho5.keep HF6.out (hv5.apartT ho5 (by decide))⟩
    · obtain rfl : k = l.length := by omega
      have hmm : m.map (·.1) = l := by rw [HM.out, List.take_length]
      have HMM := Lib.hid hmm
      clear hfr hmm
      go_wp2_with fail
      go_ret
      exact ⟨_, m, rfl, HMM.out, HLA.out, HFR.out⟩
set_option maxHeartbeats 4000000 in
theorem kept_any (v v1 : Value) (m : List (Fil × Value)) (l : List Fil) (B B1 : Nat) (w : World) (h : Laid w B v m) (h1 : Refs w B1 v1 l) (hm : m.map (·.1) = l) (hd : ∀ f ∈ l, f.data.length ≤ 1000000) :
    Calls Tryd.prog 50 #[v, v1] w fun e w' => e = .returned (.bool true) ∧ Fr (fun _ => False) w w' := by
  have hml : m.length = l.length := by rw [← hm]; simp
  have hL := Vec.len h1
  unfold maxLen at hL
  have H := Lib.hid h
  have H1 := Lib.hid h1
  have HM := Lib.hid hm
  obtain ⟨va, vc, rfl, -⟩ := h.vec.shape
  obtain ⟨vb, vd, rfl, -⟩ := Vec.shape h1
  have HD := Lib.hid hd
  rw [hml] at H ⊢
  have HML := Lib.hid hml
  clear h h1 hm hd hml
  go_enter Tryd.func50, Tryd.ntmps50
  go_wp2_with fail
  go_loopw [5] (fun iv wr => ∃ k : Nat, k ≤ l.length ∧ iv = .int .i64 k ∧ Fr (fun _ => False) w wr) (fun iv _ => l.length - (intOf iv).toNat)
  case atStart => exact ⟨0, Nat.zero_le _, rfl, Fr.refl _ _⟩
  case round =>
    obtain ⟨k, hk, rfl, hfr⟩ := hrel
    have HFR := Lib.hid hfr
    by_cases hlt : k < l.length
    · have hfl : Refs wr B1 (.slice vb l.length vd) l := Vec.keep H1.out hfr (fun _ _ h => h)
      obtain ⟨g, cap, hq, e0, e1, hgl⟩ := hfl.get k hlt
      simp only [Value.slice.injEq, true_and] at hq
      obtain ⟨rfl, rfl⟩ := hq
      have hkm : k < m.length := by rw [HML.out]; exact hlt
      have hla := H.out.keep0 hfr
      obtain ⟨g2, cap2, rest2, hq2, -, ho2, -⟩ := hla.vec.row (by omega)
      simp only [Value.slice.injEq] at hq2
      obtain ⟨rfl, -, rfl⟩ := hq2
      have hge := filCells_get m k hkm
      have f0 := ho2.cell (i := k * 2) (by rw [List.getElem?_append_left (by simp; omega)]; exact hge.1)
      have f1 := ho2.cell (i := k * 2 + 1) (by rw [List.getElem?_append_left (by simp; omega)]; exact hge.2)
      obtain ⟨gd, hdv, -, hro⟩ := hla.data m[k] (List.getElem_mem _)
      have hmk : m[k].1 = l[k] := by
        have := congrArg (·[k]?) HM.out
        simp only [List.getElem?_map, List.getElem?_eq_getElem hlt, List.getElem?_eq_getElem hkm, Option.map_some, Option.some.injEq] at this
        exact this
      rw [hdv] at f1
      rw [hmk] at f0 f1 hro
      have hnn := HD.out l[k] (List.getElem_mem _)
      clear hfl hla ho2 hge hdv hmk hfr
      obtain ⟨f, hf⟩ : ∃ f, l[k] = f := ⟨_, rfl⟩
      rw [hf] at hnn e0 e1 f0 f1 hro
      obtain ⟨fn, d⟩ := f
      simp only at hnn e0 e1 f0 f1 hro
      obtain ⟨dt, hdt⟩ : ∃ dt : ByteArray, dt = ⟨d.toArray⟩ := ⟨_, rfl⟩
      have hdd : d = dt.data.toList := by rw [hdt]
      rw [← hdt] at e1
      subst hdd
      obtain ⟨nm, hnm⟩ : ∃ nm : ByteArray, nm = ⟨fn.toArray⟩ := ⟨_, rfl⟩
      rw [← hnm] at e0 f0
      have hds : dt.data.toList.length = dt.size := by simp
      rw [hds] at hnn f1
      have hst := fun n => still_any dt gd (wr.drewN n) (by omega) (hro.keep ((Fr.refl (fun _ => False) wr).drewN n) id)
      have HST := Lib.hid hst
      clear hf hds hst hnm hdt hro
      go_wp2_with fail
      go_quiet ((go_at_call 15; exact Calls.quiet_of_same ((HST.out _).mono (fun _ _ h => ⟨h.1, h.2.symm⟩))))
      go_wp2_with fail
      go_quiet (fail)
      go_wp2_with fail
      exact ⟨⟨k + 1, by omega, by go_num, HFR.out.drewN _⟩, by simp [intOf]; omega⟩
    · obtain rfl : k = l.length := by omega
      clear hfr
      go_wp2_with fail
      go_ret
      exact ⟨rfl, HFR.out⟩
end Go.Proofs.YtlcdgbhigfgehaaDoor
