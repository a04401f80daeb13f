/- The keeps' tree: the texts of a list whose bits are set, under the names a, b, c .. -/
import Derived.Test.YtlcdgbhigfgehabGreatDoorFilMem
import Derived.Test.YtlcdgbhigfgehabGreatDoorStrs
import Derived.Test.YtlcdgbhigfgehabGreatDoorSumsWalk
import Derived.Test.YtlcdgbhigfgehabGreatDoorVecStr
import Derived.Test.YtlcdgbhigfgehabGreatDoorBRead
namespace Go.Proofs.YtlcdgbhigfgehabGreatDoor
open Go.RowKit Go.Op
set_option maxRecDepth 100000

/-- Files in memory, each with data in a row of its own, no two in one row; all from block B on. -/
structure KFils (w : World) (B : Nat) (v : Value) (l : List (Fil × Value)) : Prop where
  vec : Vec w B 37 2 v l.length (filCells l)
  data : ∀ p ∈ l, Vec w B 5 1 p.2 p.1.data.length (bcells p.1.data)
  two : l.Pairwise fun p q => ∀ k, p.2.ownBlock = some k → q.2.ownBlock ≠ some k
section
variable {w w1 : World} {S : Nat → Prop} {B : Nat} {v : Value} {l : List (Fil × Value)}
theorem KFils.nil (w : World) (B : Nat) : KFils w B (.slice none 0 0) [] := ⟨Vec.nil _ _ _ _, fun _ h => by simp at h, List.Pairwise.nil⟩
theorem KFils.fils (h : KFils w B v l) : Fils w B v l := ⟨h.vec, fun p hp => (h.data p hp).isB, fun p hp k hk => (h.data p hp).lt k hk⟩
theorem KFils.keep (h : KFils w B v l) (k : Fr S w w1) (hv : ∀ b, v.ownBlock = some b → ¬ S b) (hd : ∀ p ∈ l, ∀ b, p.2.ownBlock = some b → ¬ S b) : KFils w1 B v l :=
  ⟨h.vec.keep k hv, fun p hp => (h.data p hp).keep k (hd p hp), h.two⟩
theorem KFils.keep0 (h : KFils w B v l) (k : Fr (fun _ => False) w w1) : KFils w1 B v l := h.keep k (fun _ _ h => h) (fun _ _ _ _ h => h)
theorem KFils.above (h : KFils w B v l) (k : Fr S w w1) {N : Nat} (hN : w.heap.size ≤ N) (hS : ∀ b, S b → N ≤ b) : KFils w1 B v l :=
  h.keep k (fun b hb hs => by have := (h.vec.lt b hb).2; have := hS b hs; omega) (fun p hp b hb hs => by have := ((h.data p hp).lt b hb).2; have := hS b hs; omega)
theorem KFils.lift {B' : Nat} (h : KFils w B v l) (hB : B' ≤ B) : KFils w B' v l := ⟨h.vec.mono hB, fun p hp => (h.data p hp).mono hB, h.two⟩
end
/-- Among the first k names. -/
structure KTree (l : List Fil) (k : Nat) : Prop where
  nm : ∀ f ∈ l, ∃ i, i < k ∧ i < 8 ∧ f.name = [UInt8.ofNat (97 + i)]
  len : ∀ f ∈ l, f.data.length ≤ 300
  up : l.Pairwise fun f g => bytesLess f.name g.name = true
  few : l.length ≤ k
theorem KTree.isTree {l : List Fil} {k : Nat} (h : KTree l k) (hk : k ≤ 8) : IsTree l := by
  refine ⟨fun f hf => ⟨?_, h.len f hf⟩, h.up, Nat.le_trans h.few hk⟩
  obtain ⟨i, -, hi, hn⟩ := h.nm f hf
  rw [hn]
  have : i = 0 ∨ i = 1 ∨ i = 2 ∨ i = 3 ∨ i = 4 ∨ i = 5 ∨ i = 6 ∨ i = 7 := by omega
  rcases this with rfl | rfl | rfl | rfl | rfl | rfl | rfl | rfl <;> decide
theorem bytesLess_one (i k : Nat) (h : i < k) (hk : k < 8) : bytesLess [UInt8.ofNat (97 + i)] [UInt8.ofNat (97 + k)] = true := by
  have h1 : i = 0 ∨ i = 1 ∨ i = 2 ∨ i = 3 ∨ i = 4 ∨ i = 5 ∨ i = 6 := by omega
  have h2 : k = 1 ∨ k = 2 ∨ k = 3 ∨ k = 4 ∨ k = 5 ∨ k = 6 ∨ k = 7 := by omega
  rcases h1 with rfl | rfl | rfl | rfl | rfl | rfl | rfl <;> rcases h2 with rfl | rfl | rfl | rfl | rfl | rfl | rfl <;> first | decide | (exfalso; omega)
theorem KTree.snoc {l : List Fil} {k : Nat} (h : KTree l k) (hk : k < 8) (d : List UInt8) (hd : d.length ≤ 300) : KTree (l ++ [⟨[UInt8.ofNat (97 + k)], d⟩]) (k + 1) := by
  refine ⟨fun f hf => ?_, fun f hf => ?_, ?_, by simp; exact h.few⟩
  · rcases List.mem_append.1 hf with hf | hf
    · obtain ⟨i, h1, h2, h3⟩ := h.nm f hf
      exact ⟨i, by omega, h2, h3⟩
    · obtain rfl := List.mem_singleton.1 hf
      exact ⟨k, by omega, hk, rfl⟩
  · rcases List.mem_append.1 hf with hf | hf
    · exact h.len f hf
    · obtain rfl := List.mem_singleton.1 hf; exact hd
  · rw [List.pairwise_append]
    refine ⟨h.up, List.pairwise_singleton _ _, fun f hf g hg => ?_⟩
    obtain rfl := List.mem_singleton.1 hg
    obtain ⟨i, h1, h2, h3⟩ := h.nm f hf
    rw [h3]
    exact bytesLess_one i k h1 hk
theorem KTree.mono {l : List Fil} {k : Nat} (h : KTree l k) : KTree l (k + 1) :=
  ⟨fun f hf => by obtain ⟨i, h1, h2, h3⟩ := h.nm f hf; exact ⟨i, by omega, h2, h3⟩, h.len, h.up, by have := h.few; omega⟩
theorem byteK (k : Nat) (h : k < 8) : bcells [UInt8.ofNat (97 + k)] = [.int .u8 (97 + (k : Int))] := by
  have : (UInt8.ofNat (97 + k)).toNat = 97 + k := by simp; omega
  unfold bcells
  rw [List.map_cons, List.map_nil, this]; simp
set_option maxHeartbeats 2000000 in
theorem ktree_any (a : Option Addr) (n c : Nat) (z : List ByteArray) (bits : Int) (w : World) (h : StrsAt w a n z) (hz : ∀ s ∈ z, s.size ≤ maxLen) (hn : n ≤ maxLen) (_b1 : -9223372036854775808 ≤ bits) (_b2 : bits ≤ 9223372036854775807) :
    Calls Tryz.prog 9 #[.slice a n c, .int .i64 bits] w fun e w' => ∃ v m, e = .returned v ∧ IsTree (m.map (·.1)) ∧ KFils w' w.heap.size v m ∧ Fr (fun _ => False) w w' := by
  have H := Lib.hid h
  have HZ := Lib.hid hz
  obtain rfl := h.len
  unfold maxLen at hn
  clear h hz
  go_enter Tryz.func9, Tryz.ntmps9
  go_wp2_with fail
  go_loopw [5, 6] (fun ov iv wr => ∃ (k : Nat) (m : List (Fil × Value)), k ≤ z.length ∧ k ≤ 8 ∧ iv = .int .i64 k ∧ Fr (fun _ => False) w wr ∧ KTree (m.map (·.1)) k ∧ KFils wr w.heap.size ov m) (fun _ iv _ => 8 - (intOf iv).toNat)
  case atStart => exact ⟨0, [], Nat.zero_le _, Nat.zero_le _, rfl, Fr.refl _ _, ⟨fun f h => by simp at h, fun f h => by simp at h, List.Pairwise.nil, Nat.le_refl _⟩, KFils.nil _ _⟩
  case round =>
    obtain ⟨k, m, hk, hk8, rfl, hfr, hkt, hkf⟩ := hrel
    obtain ⟨oa, oc, hoq, -⟩ := hkf.vec.shape
    subst hoq
    have HFR := Lib.hid hfr
    have HKT := Lib.hid hkt
    have HKF := Lib.hid hkf
    have hml : m.length ≤ 8 := by have := hkt.few; rw [List.length_map] at this; omega
    have hwz := hfr.size
    clear hkt hkf
    by_cases hlt : k < z.length
    · have hd1 : decide ((k : Int) < (z.length : Int)) = true := by simpa using hlt
      by_cases hlt8 : k < 8
      · have hd2 : decide ((k : Int) < (8 : Int)) = true := by simp; omega
        obtain ⟨b0, o0, rfl, e0, -⟩ := (H.out.keep hfr).at_ k hlt
        have hzs := HZ.out z[k] (List.getElem_mem _)
        unfold maxLen at hzs
        generalize z[k] = zk at *
        clear hfr
        have hcw : IntKind.u8.wrap (97 + (k : Int)) = 97 + (k : Int) := IntWalk.u8_in _ (by omega)
        have hb97 := byteK k hlt8
        have HB97 := Lib.hid hb97
        clear hb97
        go_wp2_with fail
        · refine (clip_any _ _ 300 _ rfl).mono ?_
          rintro e w' ⟨rfl, rfl⟩
          have hsz := clipOf_size zk 300
          generalize clipOf zk 300 = s at hsz ⊢
          have hA : Fr (fun _ => False) wr (wr.alloc (.cells #[.int .u8 (97 + k)] 5)) := (Fr.refl _ _).alloc _
          have hib : IsB (wr.alloc (.cells #[.int .u8 (97 + k)] 5)) (.slice (some ⟨wr.heap.size, 0, none⟩) 1 1) [UInt8.ofNat (97 + k)] :=
            IsB.ofOwn0 (cap := 1) (l := [UInt8.ofNat (97 + k)]) (rest := []) (Own.alloc wr #[.int .u8 (97 + k)] 5) (by rw [HB97.out]; rfl) (Nat.le_refl _) (by unfold maxLen; omega)
          have hcv := run_string_of (P := Tryz.prog) _ 25 9 5 _ _ Tryz.underlying25 Tryz.underlying5 Tryz.underlying9 hib
          have HA := Lib.hid hA
          have hzA := hA.size
          clear hA hib e0
          go_wp2_with fail
          obtain ⟨cap, rest, w5, r1, r2, r3, r4, r5, r6, r7, -⟩ := run_bytes_from (P := Tryz.prog) (wr.alloc (.cells #[.int .u8 (97 + k)] 5)) 9 25 5 s Tryz.underlying9 Tryz.underlying25 Tryz.underlying5 (by omega)
          rw [r1]
          clear r1
          have hsl : s.data.toList.length = s.size := by simp
          have hgz : (wr.alloc (.cells #[.int .u8 (97 + k)] 5)).heap.size = wr.heap.size + 1 := by simp
          obtain ⟨gd, hgd⟩ : ∃ gd, (wr.alloc (.cells #[.int .u8 (97 + k)] 5)).heap.size = gd := ⟨_, rfl⟩
          rw [hgd] at r4 hgz
          subst hgz
          have hvd : Vec w5 w.heap.size 5 1 (.slice (some ⟨wr.heap.size + 1, 0, none⟩) s.size cap) s.size (bcells s.data.toList) :=
            ⟨by simp, .inr ⟨wr.heap.size + 1, cap, rest, rfl, by omega, r4, by rw [List.length_append, length_bcells, hsl]; omega, r2, r3⟩⟩
          have HVD := Lib.hid hvd
          have HK5 := Lib.hid (HA.out.step r6 (fun _ h _ => h))
          have hz5 := r6.size
          have HSL := Lib.hid hsl
          have HNM := Lib.hid (show (⟨#[97 + UInt8.ofNat k]⟩ : ByteArray) = ⟨[UInt8.ofNat (97 + k)].toArray⟩ by simp)
          have HOV := Lib.hid (HKF.out.vec.keep HK5.out (fun _ _ h => h))
          clear r2 r3 r4 r5 r6 r7 hcv hvd hsl hgd
          go_wp2_with (at_builtin; refine wpList_append_vec rfl _ _ _ rfl w.heap.size 37 2 40 elt_fil (HOV.out.keep ((Fr.refl (fun _ => False) _).alloc _) (fun _ _ h => h)) rfl (m := 1) (Reads.new _ _ _ _ (by first | omega | simp) _ _) rfl rfl (fil_one _ _ _ _) (by unfold maxLen; omega) (by omega) (by simp; omega) ?_; intro v6 w6 hv6 hf6 hd6 hn6; obtain ⟨a6, c6, hs6, -⟩ := hv6.shape; subst hs6; have HV6 := Lib.hid hv6; have HF6 := Lib.hid hf6; clear hv6 hf6 hd6 hn6)
          have hA5 : Fr (fun _ => False) w5 (w5.alloc (.cells #[.string ⟨#[97 + UInt8.ofNat k]⟩, .slice (some ⟨wr.heap.size + 1, 0, none⟩) s.size cap] 37)) := (Fr.refl _ _).alloc _
          have hk6 : Fr (fun _ => False) wr _ := HK5.out.step hA5 (fun _ h _ => h)
          have hov := HOV.out.keep hA5 (fun _ _ h => h)
          have hvd := (HVD.out.keep hA5 (fun _ _ h => h)).keep HF6.out (fun b hb hb2 => (HVD.out.keep hA5 (fun _ _ h => h)).apartV hov (by decide) b hb hb2)
          refine ⟨⟨k + 1, m ++ [(⟨[UInt8.ofNat (97 + k)], s.data.toList⟩, .slice (some ⟨wr.heap.size + 1, 0, none⟩) s.size cap)], by omega, by omega, by go_num, (HFR.out.step hk6 (fun _ h _ => h)).step HF6.out (fun b hb hl => by have := (HOV.out.lt b hb).1; omega), by rw [List.map_append]; exact HKT.out.snoc hlt8 _ (by rw [HSL.out]; exact hsz), ⟨?_, ?_, ?_⟩⟩, by simp [intOf]; omega⟩
          · have hv := HV6.out
            rw [HNM.out] at hv
            rw [List.length_append, filCells_snoc]; exact hv
          · intro p hp
            rcases List.mem_append.1 hp with hp | hp
            · have h5 := (HKF.out.data p hp).keep hk6 (fun _ _ h => h)
              exact h5.keep HF6.out (fun b hb hb2 => h5.apartV hov (by decide) b hb hb2)
            · obtain rfl := List.mem_singleton.1 hp
              rw [HSL.out]; exact hvd
          · rw [List.pairwise_append]
            refine ⟨HKF.out.two, List.pairwise_singleton _ _, fun p hp q hq b hb hb2 => ?_⟩
            obtain rfl := List.mem_singleton.1 hq
            have h1 := ((HKF.out.data p hp).lt b hb).2
            have h2 : wr.heap.size + 1 = b := by simpa [Value.ownBlock] using hb2
            omega
        · exact ⟨⟨k + 1, m, by omega, by omega, by go_num, HFR.out, HKT.out.mono, HKF.out⟩, by simp [intOf]; omega⟩
      · have hd2 : decide ((k : Int) < (8 : Int)) = false := by simp; omega
        clear hfr
        go_wp2_with fail
        go_ret
        exact ⟨_, m, rfl, HKT.out.isTree hk8, HKF.out, HFR.out⟩
    · have hd1 : decide ((k : Int) < (z.length : Int)) = false := by simpa using hlt
      clear hfr
      go_wp2_with fail
      go_ret
      exact ⟨_, m, rfl, HKT.out.isTree hk8, HKF.out, HFR.out⟩
end Go.Proofs.YtlcdgbhigfgehabGreatDoor
