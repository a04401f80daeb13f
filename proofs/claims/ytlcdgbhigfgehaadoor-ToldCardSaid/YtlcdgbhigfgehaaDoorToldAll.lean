/- Pick, KTree, PRead, PRecord, Tolds, ToldCard in one text. -/
import Derived.Test.YtlcdgbhigfgehaaDoorChecked
import Derived.Test.YtlcdgbhigfgehaaDoorMem
import Derived.IntWalk
import Derived.Test.YtlcdgbhigfgehaaDoorFilMem
import Derived.Test.YtlcdgbhigfgehaaDoorStrs
import Derived.Test.YtlcdgbhigfgehaaDoorSumsWalk
import Derived.Test.YtlcdgbhigfgehaaDoorVecStr
import Derived.Test.YtlcdgbhigfgehaaDoorBRead
import Derived.Test.YtlcdgbhigfgehaaDoorPlainApply
import Derived.Test.YtlcdgbhigfgehaaDoorBRecord
import Derived.Test.YtlcdgbhigfgehaaDoorTold
import Derived.Test.YtlcdgbhigfgehaaDoorErrForm
import Derived.Test.YtlcdgbhigfgehaaDoorBases
import Derived.Test.YtlcdgbhigfgehaaDoorCardBaseF
/- pick: which of n things a raw number speaks of. -/
namespace Go.Proofs.YtlcdgbhigfgehaaDoor
open Go.RowKit
set_option maxRecDepth 100000

/-- Which of n things a raw number speaks of. -/
def pickOf (c n : Int) : Int := (if c < 0 then -(c + 1) else c) % n
theorem pickOf_bounds (c n : Int) (hn : 0 < n) : 0 ≤ pickOf c n ∧ pickOf c n < n := by
  unfold pickOf
  exact ⟨Int.emod_nonneg _ (by omega), Int.emod_lt_of_pos _ hn⟩
theorem pick_any (c n : Int) (w : World) (hn : 0 < n) (h1 : -9223372036854775808 ≤ c) (h2 : c ≤ 9223372036854775807) (hn2 : n ≤ 9223372036854775807) :
    Calls Tryd.prog 30 #[.int .i64 c, .int .i64 n] w fun e w' => e = .returned (.int .i64 (pickOf c n)) ∧ w = w' := by
  by_cases hc : c < 0
  · have hp : pickOf c n = (-(c + 1)).tmod n := by unfold pickOf; rw [if_pos hc]; exact (Int.tmod_eq_emod_of_nonneg (by omega)).symm
    have hw1 : wrap64 (c + 1) = c + 1 := IntWalk.wrap64_in _ (by omega)
    have hw2 : wrap64 (-(c + 1)) = -(c + 1) := IntWalk.wrap64_in _ (by omega)
    have hb := pickOf_bounds c n hn
    have HP := Lib.hid hp
    clear hp
    go_enter Tryd.func30, Tryd.ntmps30
    go_wp2_with fail
    go_ret
    exact ⟨by rw [HP.out, Int.neg_tmod]; rfl, rfl⟩
  · have hp : pickOf c n = c.tmod n := by unfold pickOf; rw [if_neg hc]; exact (Int.tmod_eq_emod_of_nonneg (by omega)).symm
    have hb := pickOf_bounds c n hn
    have HP := Lib.hid hp
    clear hp
    go_enter Tryd.func30, Tryd.ntmps30
    go_wp2_with fail
    go_ret
    exact ⟨by unfold pickOf; rw [if_neg (Int.not_lt.2 hc)]; rfl, rfl⟩
end Go.Proofs.YtlcdgbhigfgehaaDoor
/- The keeps' tree: the texts of a list whose bits are set, under the names a, b, c .. -/
namespace Go.Proofs.YtlcdgbhigfgehaaDoor
open Go.RowKit Go.Op
set_option maxRecDepth 100000

/-- Files in memory, each with data in a row of its own, no two in one row; all from block B on. -/
structure KFils (w : World) (B : Nat) (v : Value) (l : List (Fil × Value)) : Prop where
  vec : Vec w B 83 2 v l.length (filCells l)
  data : ∀ p ∈ l, Vec w B 5 1 p.2 p.1.data.length (bcells p.1.data)
  two : l.Pairwise fun p q => ∀ k, p.2.ownBlock = some k → q.2.ownBlock ≠ some k
section
variable {w w1 : World} {S : Nat → Prop} {B : Nat} {v : Value} {l : List (Fil × Value)}
theorem KFils.nil (w : World) (B : Nat) : KFils w B (.slice none 0 0) [] := ⟨Vec.nil _ _ _ _, fun _ h => by simp at h, List.Pairwise.nil⟩
theorem KFils.fils (h : KFils w B v l) : Fils w B v l := ⟨h.vec, fun p hp => (h.data p hp).isB, fun p hp k hk => (h.data p hp).lt k hk⟩
theorem KFils.keep (h : KFils w B v l) (k : Fr S w w1) (hv : ∀ b, v.ownBlock = some b → ¬ S b) (hd : ∀ p ∈ l, ∀ b, p.2.ownBlock = some b → ¬ S b) : KFils w1 B v l :=
  ⟨h.vec.keep k hv, fun p hp => (h.data p hp).keep k (hd p hp), h.two⟩
theorem KFils.keep0 (h : KFils w B v l) (k : Fr (fun _ => False) w w1) : KFils w1 B v l := h.keep k (fun _ _ h => h) (fun _ _ _ _ h => h)
theorem KFils.above (h : KFils w B v l) (k : Fr S w w1) {N : Nat} (hN : w.heap.size ≤ N) (hS : ∀ b, S b → N ≤ b) : KFils w1 B v l :=
  h.keep k (fun b hb hs => by have := (h.vec.lt b hb).2; have := hS b hs; omega) (fun p hp b hb hs => by have := ((h.data p hp).lt b hb).2; have := hS b hs; omega)
theorem KFils.lift {B' : Nat} (h : KFils w B v l) (hB : B' ≤ B) : KFils w B' v l := ⟨h.vec.mono hB, fun p hp => (h.data p hp).mono hB, h.two⟩
end
/-- Among the first k names. -/
structure KTree (l : List Fil) (k : Nat) : Prop where
  nm : ∀ f ∈ l, ∃ i, i < k ∧ i < 8 ∧ f.name = [UInt8.ofNat (97 + i)]
  len : ∀ f ∈ l, f.data.length ≤ 300
  up : l.Pairwise fun f g => bytesLess f.name g.name = true
  few : l.length ≤ k
theorem KTree.isTree {l : List Fil} {k : Nat} (h : KTree l k) (hk : k ≤ 8) : IsTree l := by
  refine ⟨fun f hf => ⟨?_, h.len f hf⟩, h.up, Nat.le_trans h.few hk⟩
  obtain ⟨i, -, hi, hn⟩ := h.nm f hf
  rw [hn]
  have : i = 0 ∨ i = 1 ∨ i = 2 ∨ i = 3 ∨ i = 4 ∨ i = 5 ∨ i = 6 ∨ i = 7 := by omega
  rcases this with rfl | rfl | rfl | rfl | rfl | rfl | rfl | rfl <;> decide
theorem bytesLess_one (i k : Nat) (h : i < k) (hk : k < 8) : bytesLess [UInt8.ofNat (97 + i)] [UInt8.ofNat (97 + k)] = true := by
  have h1 : i = 0 ∨ i = 1 ∨ i = 2 ∨ i = 3 ∨ i = 4 ∨ i = 5 ∨ i = 6 := by omega
  have h2 : k = 1 ∨ k = 2 ∨ k = 3 ∨ k = 4 ∨ k = 5 ∨ k = 6 ∨ k = 7 := by omega
  rcases h1 with rfl | rfl | rfl | rfl | rfl | rfl | rfl <;> rcases h2 with rfl | rfl | rfl | rfl | rfl | rfl | rfl <;> first | decide | (exfalso; omega)
theorem KTree.snoc {l : List Fil} {k : Nat} (h : KTree l k) (hk : k < 8) (d : List UInt8) (hd : d.length ≤ 300) : KTree (l ++ [⟨[UInt8.ofNat (97 + k)], d⟩]) (k + 1) := by
  refine ⟨fun f hf => ?_, fun f hf => ?_, ?_, by simp; exact h.few⟩
  · rcases List.mem_append.1 hf with hf | hf
    · obtain ⟨i, h1, h2, h3⟩ := h.nm f hf
      exact ⟨i, by omega, h2, h3⟩
    · obtain rfl := List.mem_singleton.1 hf
      exact ⟨k, by omega, hk, rfl⟩
  · rcases List.mem_append.1 hf with hf | hf
    · exact h.len f hf
    · obtain rfl := List.mem_singleton.1 hf; exact hd
  · rw [List.pairwise_append]
    refine ⟨h.up, List.pairwise_singleton _ _, fun f hf g hg => ?_⟩
    obtain rfl := List.mem_singleton.1 hg
    obtain ⟨i, h1, h2, h3⟩ := h.nm f hf
    rw [h3]
    exact bytesLess_one i k h1 hk
theorem KTree.mono {l : List Fil} {k : Nat} (h : KTree l k) : KTree l (k + 1) :=
  ⟨fun f hf => by obtain ⟨i, h1, h2, h3⟩ := h.nm f hf; exact ⟨i, by omega, h2, h3⟩, h.len, h.up, by have := h.few; omega⟩
theorem byteK (k : Nat) (h : k < 8) : bcells [UInt8.ofNat (97 + k)] = [.int .u8 (97 + (k : Int))] := by
  have : (UInt8.ofNat (97 + k)).toNat = 97 + k := by simp; omega
  unfold bcells
  rw [List.map_cons, List.map_nil, this]; simp
set_option maxHeartbeats 2000000 in
theorem ktree_any (a : Option Addr) (n c : Nat) (z : List ByteArray) (bits : Int) (w : World) (h : StrsAt w a n z) (hz : ∀ s ∈ z, s.size ≤ maxLen) (hn : n ≤ maxLen) (_b1 : -9223372036854775808 ≤ bits) (_b2 : bits ≤ 9223372036854775807) :
    Calls Tryd.prog 34 #[.slice a n c, .int .i64 bits] w fun e w' => ∃ v m, e = .returned v ∧ IsTree (m.map (·.1)) ∧ KFils w' w.heap.size v m ∧ Fr (fun _ => False) w w' := by
  have H := Lib.hid h
  have HZ := Lib.hid hz
  obtain rfl := h.len
  unfold maxLen at hn
  clear h hz
  go_enter Tryd.func34, Tryd.ntmps34
  go_wp2_with fail
  go_loopw [5, 6] (fun ov iv wr => ∃ (k : Nat) (m : List (Fil × Value)), k ≤ z.length ∧ k ≤ 8 ∧ iv = .int .i64 k ∧ Fr (fun _ => False) w wr ∧ KTree (m.map (·.1)) k ∧ KFils wr w.heap.size ov m) (fun _ iv _ => 8 - (intOf iv).toNat)
  case atStart => exact ⟨0, [], Nat.zero_le _, Nat.zero_le _, rfl, Fr.refl _ _, ⟨fun f h => by simp at h, fun f h => by simp at h, List.Pairwise.nil, Nat.le_refl _⟩, KFils.nil _ _⟩
  case round =>
    obtain ⟨k, m, hk, hk8, rfl, hfr, hkt, hkf⟩ := hrel
    obtain ⟨oa, oc, hoq, -⟩ := hkf.vec.shape
    subst hoq
    have HFR := Lib.hid hfr
    have HKT := Lib.hid hkt
    have HKF := Lib.hid hkf
    have hml : m.length ≤ 8 := by have := hkt.few; rw [List.length_map] at this; omega
    have hwz := hfr.size
    clear hkt hkf
    by_cases hlt : k < z.length
    · have hd1 : decide ((k : Int) < (z.length : Int)) = true := by simpa using hlt
      by_cases hlt8 : k < 8
      · have hd2 : decide ((k : Int) < (8 : Int)) = true := by simp; omega
        obtain ⟨b0, o0, rfl, e0, -⟩ := (H.out.keep hfr).at_ k hlt
        have hzs := HZ.out z[k] (List.getElem_mem _)
        unfold maxLen at hzs
        generalize z[k] = zk at *
        clear hfr
        have hcw : IntKind.u8.wrap (97 + (k : Int)) = 97 + (k : Int) := IntWalk.u8_in _ (by omega)
        have hb97 := byteK k hlt8
        have HB97 := Lib.hid hb97
        clear hb97
        go_wp2_with fail
        · refine (clip_any _ _ 300 _ rfl).mono ?_
          rintro e w' ⟨rfl, rfl⟩
          have hsz := clipOf_size zk 300
          generalize clipOf zk 300 = s at hsz ⊢
          have hA : Fr (fun _ => False) wr (wr.alloc (.cells #[.int .u8 (97 + k)] 5)) := (Fr.refl _ _).alloc _
          have hib : IsB (wr.alloc (.cells #[.int .u8 (97 + k)] 5)) (.slice (some ⟨wr.heap.size, 0, none⟩) 1 1) [UInt8.ofNat (97 + k)] :=
            IsB.ofOwn0 (cap := 1) (l := [UInt8.ofNat (97 + k)]) (rest := []) (Own.alloc wr #[.int .u8 (97 + k)] 5) (by rw [HB97.out]; rfl) (Nat.le_refl _) (by unfold maxLen; omega)
          have hcv := run_string_of (P := Tryd.prog) _ 25 9 5 _ _ Tryd.underlying25 Tryd.underlying5 Tryd.underlying9 hib
          have HA := Lib.hid hA
          have hzA := hA.size
          clear hA hib e0
          go_wp2_with fail
          obtain ⟨cap, rest, w5, r1, r2, r3, r4, r5, r6, r7, -⟩ := run_bytes_from (P := Tryd.prog) (wr.alloc (.cells #[.int .u8 (97 + k)] 5)) 9 25 5 s Tryd.underlying9 Tryd.underlying25 Tryd.underlying5 (by omega)
          rw [r1]
          clear r1
          have hsl : s.data.toList.length = s.size := by simp
          have hgz : (wr.alloc (.cells #[.int .u8 (97 + k)] 5)).heap.size = wr.heap.size + 1 := by simp
          obtain ⟨gd, hgd⟩ : ∃ gd, (wr.alloc (.cells #[.int .u8 (97 + k)] 5)).heap.size = gd := ⟨_, rfl⟩
          rw [hgd] at r4 hgz
          subst hgz
          have hvd : Vec w5 w.heap.size 5 1 (.slice (some ⟨wr.heap.size + 1, 0, none⟩) s.size cap) s.size (bcells s.data.toList) :=
            ⟨by simp, .inr ⟨wr.heap.size + 1, cap, rest, rfl, by omega, r4, by rw [List.length_append, length_bcells, hsl]; omega, r2, r3⟩⟩
          have HVD := Lib.hid hvd
          have HK5 := Lib.hid (HA.out.step r6 (fun _ h _ => h))
          have hz5 := r6.size
          have HSL := Lib.hid hsl
          have HNM := Lib.hid (show (⟨#[97 + UInt8.ofNat k]⟩ : ByteArray) = ⟨[UInt8.ofNat (97 + k)].toArray⟩ by simp)
          have HOV := Lib.hid (HKF.out.vec.keep HK5.out (fun _ _ h => h))
          clear r2 r3 r4 r5 r6 r7 hcv hvd hsl hgd
          go_wp2_with (at_builtin; refine wpList_append_vec rfl _ _ _ rfl w.heap.size 83 2 40 elt_fil (HOV.out.keep ((Fr.refl (fun _ => False) _).alloc _) (fun _ _ h => h)) rfl (m := 1) (Reads.new _ _ _ _ (by first | omega | simp) _ _) rfl rfl (fil_one _ _ _ _) (by unfold maxLen; omega) (by omega) (by simp; omega) ?_; intro v6 w6 hv6 hf6 hd6 hn6; obtain ⟨a6, c6, hs6, -⟩ := hv6.shape; subst hs6; have HV6 := Lib.hid hv6; have HF6 := Lib.hid hf6; clear hv6 hf6 hd6 hn6)
          have hA5 : Fr (fun _ => False) w5 (w5.alloc (.cells #[.string ⟨#[97 + UInt8.ofNat k]⟩, .slice (some ⟨wr.heap.size + 1, 0, none⟩) s.size cap] 83)) := (Fr.refl _ _).alloc _
          have hk6 : Fr (fun _ => False) wr _ := HK5.out.step hA5 (fun _ h _ => h)
          have hov := HOV.out.keep hA5 (fun _ _ h => h)
          have hvd := (HVD.out.keep hA5 (fun _ _ h => h)).keep HF6.out (fun b hb hb2 => (HVD.out.keep hA5 (fun _ _ h => h)).apartV hov (by decide) b hb hb2)
          refine ⟨⟨k + 1, m ++ [(⟨[UInt8.ofNat (97 + k)], s.data.toList⟩, .slice (some ⟨wr.heap.size + 1, 0, none⟩) s.size cap)], by omega, by omega, by go_num, (HFR.out.step hk6 (fun _ h _ => h)).step HF6.out (fun b hb hl => by have := (HOV.out.lt b hb).1; omega), by rw [List.map_append]; exact HKT.out.snoc hlt8 _ (by rw [HSL.out]; exact hsz), ⟨?_, ?_, ?_⟩⟩, by simp [intOf]; omega⟩
          · have hv := HV6.out
            rw [HNM.out] at hv
            rw [List.length_append, filCells_snoc]; exact hv
          · intro p hp
            rcases List.mem_append.1 hp with hp | hp
            · have h5 := (HKF.out.data p hp).keep hk6 (fun _ _ h => h)
              exact h5.keep HF6.out (fun b hb hb2 => h5.apartV hov (by decide) b hb hb2)
            · obtain rfl := List.mem_singleton.1 hp
              rw [HSL.out]; exact hvd
          · rw [List.pairwise_append]
            refine ⟨HKF.out.two, List.pairwise_singleton _ _, fun p hp q hq b hb hb2 => ?_⟩
            obtain rfl := List.mem_singleton.1 hq
            have h1 := ((HKF.out.data p hp).lt b hb).2
            have h2 : wr.heap.size + 1 = b := by simpa [Value.ownBlock] using hb2
            omega
        · exact ⟨⟨k + 1, m, by omega, by omega, by go_num, HFR.out, HKT.out.mono, HKF.out⟩, by simp [intOf]; omega⟩
      · have hd2 : decide ((k : Int) < (8 : Int)) = false := by simp; omega
        clear hfr
        go_wp2_with fail
        go_ret
        exact ⟨_, m, rfl, HKT.out.isTree hk8, HKF.out, HFR.out⟩
    · have hd1 : decide ((k : Int) < (z.length : Int)) = false := by simpa using hlt
      clear hfr
      go_wp2_with fail
      go_ret
      exact ⟨_, m, rfl, HKT.out.isTree hk8, HKF.out, HFR.out⟩
end Go.Proofs.YtlcdgbhigfgehaaDoor
/- The fronts of Read: mirror.Read, plain.Read. -/
namespace Go.Proofs.YtlcdgbhigfgehaaDoor
open Go.RowKit
set_option maxRecDepth 100000

/-- What a Batch that came out says. -/
def Says (w : World) (B : Nat) (s : List UInt8) (b0 b1 b2 : Value) : Prop := match readOf s with
  | none => b0 = .int .i64 0 ∧ b1 = .slice none 0 0 ∧ b2 = .slice none 0 0
  | some x => ∃ mt, b0 = .int .i64 x.block ∧ Vec w B 61 3 b1 x.basis.length (entCells x.basis) ∧ Targs w B b2 mt ∧ mt.map (·.t) = x.targs
theorem Says.keep {w w1 : World} {B B' : Nat} {s : List UInt8} {b0 b1 b2 : Value} {S : Nat → Prop} (h : Says w B s b0 b1 b2) (k : Fr S w w1) (hS : ∀ b, S b → b < B) (hB : B' ≤ B) : Says w1 B' s b0 b1 b2 := by
  unfold Says at h ⊢
  cases hr : readOf s with
  | none => rw [hr] at h; exact h
  | some x =>
    rw [hr] at h
    obtain ⟨mt, h1, h2, h3, h4⟩ := h
    exact ⟨mt, h1, (h2.keep k (fun b hb hs => by have := (h2.lt b hb).1; have := hS b hs; omega)).mono hB, (h3.below k hS).lift hB, h4⟩
def okK (s : List UInt8) : Int := if (readOf s).isSome then 0 else 5
theorem RdPost.says {w w' : World} {s : List UInt8} {e : Ending} (h : RdPost w s e w') : ∃ b0 b1 b2, e = .returned (.tuple #[.agg #[b0, b1, b2], kindErr (okK s)]) ∧ (∃ n a1 m1 c1 a2 m2 c2, b0 = .int .i64 n ∧ b1 = .slice a1 m1 c1 ∧ b2 = .slice a2 m2 c2) ∧ Says w' w.heap.size s b0 b1 b2 ∧ Fr (fun _ => False) w w' := by
  obtain ⟨xv, ev, rfl, hf, hm⟩ := h
  unfold Says okK
  cases hr : readOf s with
  | none =>
    rw [hr] at hm
    obtain ⟨rfl, rfl⟩ := hm
    exact ⟨_, _, _, rfl, ⟨_, _, _, _, _, _, _, rfl, rfl, rfl⟩, ⟨rfl, rfl, rfl⟩, hf⟩
  | some x =>
    rw [hr] at hm
    obtain ⟨bv, tv, mt, rfl, rfl, h1, h2, h3⟩ := hm
    obtain ⟨a1, c1, e1, -⟩ := h1.shape
    obtain ⟨a2, c2, e2, -⟩ := h2.vec.shape
    exact ⟨_, _, _, rfl, ⟨_, _, _, _, _, _, _, rfl, e1, e2⟩, ⟨mt, rfl, h1, h2, h3⟩, hf⟩
theorem mread_results (t : Array Value) (g : Nat) (w : World) (b0 b1 b2 : Value) (h2 : t.getD 2 undef = .pointer (some ⟨g, 0, none⟩)) (hx : Own w g 55 [b0, b1, b2]) :
    (results Tryd.f41 t).run Tryd.prog w = .ok (.tuple #[.agg #[b0, b1, b2], t.getD 3 undef]) w := by
  have x0 := hx.cell (i := 0) rfl
  have x1 := hx.cell (i := 1) rfl
  have x2 := hx.cell (i := 2) rfl
  have h2' : t[2]?.getD undef = .pointer (some ⟨g, 0, none⟩) := by simpa using h2
  simp [results, h2', asAddr, x0, x1, x2, go_sem]
def MRdPost (w : World) (s : List UInt8) (r : Value) (e : Ending) (w' : World) : Prop := ∃ b0 b1 b2, e = .returned (.tuple #[.agg #[b0, b1, b2], r]) ∧ (∃ n a1 m1 c1 a2 m2 c2, b0 = .int .i64 n ∧ b1 = .slice a1 m1 c1 ∧ b2 = .slice a2 m2 c2) ∧ Says w' w.heap.size s b0 b1 b2 ∧ Fr (fun _ => False) w w'
set_option maxHeartbeats 1000000 in
theorem mread_any (w : World) (db dof dcap : Nat) (s : List UInt8) (T : TypeId) (u : Value) (hb : IsB w (.slice (some ⟨db, dof, none⟩) s.length dcap) s) (hf : w.cell? ⟨1, 0, none⟩ = some (.iface T u)) :
    Calls Tryd.prog 41 #[.slice (some ⟨db, dof, none⟩) s.length dcap] w (MRdPost w s (kindErr (okK s))) := by
  have hA : Fr (fun _ => False) w (w.alloc (.cells #[.int .i64 0, .slice none 0 0, .slice none 0 0] 55)) := (Fr.refl _ _).alloc _
  have H := Lib.hid (bread_any (w.alloc (.cells #[.int .i64 0, .slice none 0 0, .slice none 0 0] 55)) db dof dcap s T u (hb.keep0 hA) (hA.cell hf id))
  have HO := Lib.hid (Own.alloc w #[.int .i64 0, .slice none 0 0, .slice none 0 0] 55)
  have HA := Lib.hid hA
  clear hb hf hA
  go_enter Tryd.func41, Tryd.ntmps41
  go_wp2_with fail
  refine H.out.mono ?_
  rintro e w1 hp
  obtain ⟨b0, b1, b2, rfl, ⟨n, a1, m1, c1, a2, m2, c2, rfl, rfl, rfl⟩, hs, hf1⟩ := hp.says
  have ho1 := HO.out.keep hf1 id
  have x0 := ho1.cell (i := 0) rfl
  have x1 := ho1.cell (i := 1) rfl
  have x2 := ho1.cell (i := 2) rfl
  have f0 := ho1.free 0 (by simp)
  have f1 := ho1.free 1 (by simp)
  have f2 := ho1.free 2 (by simp)
  have HS := Lib.hid hs
  have HF1 := Lib.hid hf1
  have HO1 := Lib.hid ho1
  clear hp hs hf1 ho1
  go_wp2_with fail
  have ho2 := ((HO1.out.set 0 (.int .i64 n)).set 1 (.slice a1 m1 c1)).set 2 (.slice a2 m2 c2)
  have hq : Fr (fun k => k = w.heap.size) w1 (((w1.setCell ⟨w.heap.size, 0, none⟩ (.int .i64 n)).setCell ⟨w.heap.size, 1, none⟩ (.slice a1 m1 c1)).setCell ⟨w.heap.size, 2, none⟩ (.slice a2 m2 c2)) :=
    (((Fr.refl (fun k => k = w.heap.size) w1).setCell ⟨w.heap.size, 0, none⟩ (.int .i64 n) (fun _ => rfl)).setCell ⟨w.heap.size, 1, none⟩ (.slice a1 m1 c1) (fun _ => rfl)).setCell ⟨w.heap.size, 2, none⟩ (.slice a2 m2 c2) (fun _ => rfl)
  refine bodyPost_ret (mread_results _ w.heap.size _ _ _ _ rfl ho2) rfl ?_
  have hsz : (w.alloc (.cells #[.int .i64 0, .slice none 0 0, .slice none 0 0] 55)).heap.size = w.heap.size + 1 := by simp
  refine ⟨_, _, _, rfl, ⟨_, _, _, _, _, _, _, rfl, rfl, rfl⟩, HS.out.keep hq (fun b hb => by omega) (by omega), (HA.out.step HF1.out (fun _ h _ => h)).step hq (fun k hk hl => by omega)⟩
theorem pread_results (t : Array Value) (g : Nat) (w : World) (b0 b1 b2 : Value) (h2 : t.getD 2 undef = .pointer (some ⟨g, 0, none⟩)) (hx : Own w g 55 [b0, b1, b2]) :
    (results Tryd.f24 t).run Tryd.prog w = .ok (.tuple #[.agg #[b0, b1, b2], t.getD 3 undef]) w := by
  have x0 := hx.cell (i := 0) rfl
  have x1 := hx.cell (i := 1) rfl
  have x2 := hx.cell (i := 2) rfl
  have h2' : t[2]?.getD undef = .pointer (some ⟨g, 0, none⟩) := by simpa using h2
  simp [results, h2', asAddr, x0, x1, x2, go_sem]
set_option maxHeartbeats 1000000 in
theorem pread_any (w : World) (hg : ErrType w) (db dof dcap : Nat) (s : List UInt8) (T : TypeId) (u : Value) (hb : IsB w (.slice (some ⟨db, dof, none⟩) s.length dcap) s) (hf : w.cell? ⟨1, 0, none⟩ = some (.iface T u)) :
    Calls Tryd.prog 24 #[.slice (some ⟨db, dof, none⟩) s.length dcap] w (MRdPost w s (.int .i64 (okK s))) := by
  have hA : Fr (fun _ => False) w (w.alloc (.cells #[.int .i64 0, .slice none 0 0, .slice none 0 0] 55)) := (Fr.refl _ _).alloc _
  have H := Lib.hid (mread_any (w.alloc (.cells #[.int .i64 0, .slice none 0 0, .slice none 0 0] 55)) db dof dcap s T u (hb.keep0 hA) (hA.cell hf id))
  have HO := Lib.hid (Own.alloc w #[.int .i64 0, .slice none 0 0, .slice none 0 0] 55)
  have HA := Lib.hid hA
  obtain ⟨K, hK⟩ : ∃ K, okK s = K := ⟨_, rfl⟩
  rw [hK] at H ⊢
  clear hb hf hA hK
  go_enter Tryd.func24, Tryd.ntmps24
  go_wp2_with fail
  refine H.out.mono ?_
  rintro e w1 ⟨b0, b1, b2, rfl, ⟨n, a1, m1, c1, a2, m2, c2, rfl, rfl, rfl⟩, hs, hf1⟩
  have hF2 := hf1.alloc (.cells #[.int .i64 n, .slice a1 m1 c1, .slice a2 m2 c2] 55)
  have HG2 := Lib.hid (hg.keep (HA.out.step hF2 (fun _ h _ => h)) id)
  have HB := Lib.hid (Own.alloc w1 #[.int .i64 n, .slice a1 m1 c1, .slice a2 m2 c2] 55)
  have HS := Lib.hid (hs.keep ((Fr.refl (fun _ => False) w1).alloc (.cells #[.int .i64 n, .slice a1 m1 c1, .slice a2 m2 c2] 55)) (fun _ h => h.elim) (Nat.le_refl _))
  have HF2 := Lib.hid hF2
  have HO2 := Lib.hid (HO.out.keep hF2 id)
  have hz1 := hf1.size
  have hsz : (w.alloc (.cells #[.int .i64 0, .slice none 0 0, .slice none 0 0] 55)).heap.size = w.heap.size + 1 := by simp
  clear hs hf1 hF2 hg
  go_wp2_with fail
  refine (told_kindErr K _ HG2.out).mono ?_
  rintro e w3 ⟨rfl, h3⟩
  have hb3 := HB.out.keep h3 id
  have z0 := hb3.cell (i := 0) rfl
  have z1 := hb3.cell (i := 1) rfl
  have z2 := hb3.cell (i := 2) rfl
  have ho3 := HO2.out.keep h3 id
  have x0 := ho3.cell (i := 0) rfl
  have x1 := ho3.cell (i := 1) rfl
  have x2 := ho3.cell (i := 2) rfl
  have f0 := ho3.free 0 (by simp)
  have f1 := ho3.free 1 (by simp)
  have f2 := ho3.free 2 (by simp)
  have HO3 := Lib.hid ho3
  have H3 := Lib.hid h3
  clear hb3 ho3 h3
  go_wp2_with fail
  have ho2 := ((HO3.out.set 0 (.int .i64 n)).set 1 (.slice a1 m1 c1)).set 2 (.slice a2 m2 c2)
  have hq : Fr (fun k => k = w.heap.size) w3 (((w3.setCell ⟨w.heap.size, 0, none⟩ (.int .i64 n)).setCell ⟨w.heap.size, 1, none⟩ (.slice a1 m1 c1)).setCell ⟨w.heap.size, 2, none⟩ (.slice a2 m2 c2)) :=
    (((Fr.refl (fun k => k = w.heap.size) w3).setCell ⟨w.heap.size, 0, none⟩ (.int .i64 n) (fun _ => rfl)).setCell ⟨w.heap.size, 1, none⟩ (.slice a1 m1 c1) (fun _ => rfl)).setCell ⟨w.heap.size, 2, none⟩ (.slice a2 m2 c2) (fun _ => rfl)
  refine bodyPost_ret (pread_results _ w.heap.size _ _ _ _ rfl ho2) rfl ?_
  refine ⟨_, _, _, rfl, ⟨_, _, _, _, _, _, _, rfl, rfl, rfl⟩, (HS.out.keep H3.out (fun _ h => h.elim) (Nat.le_refl _)).keep hq (fun b hb => by omega) (by omega), ((HA.out.step HF2.out (fun _ h _ => h)).step H3.out (fun _ h _ => h)).step hq (fun k hk hl => by omega)⟩
end Go.Proofs.YtlcdgbhigfgehaaDoor
/- The fronts of Record: mirror.Record, plain.Record. -/
namespace Go.Proofs.YtlcdgbhigfgehaaDoor
open Go.RowKit
set_option maxRecDepth 100000

/-- What Record gives. -/
structure RecX (w : World) (src ref : List Fil) (block : Int) (x : Value) (w' : World) : Prop where
  good : recErr block src ref = .none → Vec w' w.heap.size 5 1 x (recOf src ref block.toNat).length (bcells (recOf src ref block.toNat))
  bad : recErr block src ref ≠ .none → x = .slice none 0 0
theorem RecX.keep {w w1 w2 : World} {src ref : List Fil} {block : Int} {x : Value} (h : RecX w src ref block x w1) (k : Fr (fun _ => False) w1 w2) : RecX w src ref block x w2 :=
  ⟨fun e => (h.good e).keep k (fun _ _ h => h), h.bad⟩
def Small (l : List (Fil × Value)) : Prop := ∀ p ∈ l, p.1.name.length ≤ 1000000 ∧ p.1.data.length ≤ 1000000
theorem brecord_any (v0 v1 : Value) (src ref : List (Fil × Value)) (B : Nat) (block : Int) (w : World) (h0 : Fils w B v0 src) (h1 : Fils w B v1 ref) (hs0 : Small src) (hs1 : Small ref) :
    Calls Tryd.prog 66 #[v0, v1, .int .i64 block] w fun e w' => ∃ x y, e = .returned (.tuple #[x, y]) ∧ IsErr w' y (recErr block (src.map (·.1)) (ref.map (·.1))) ∧ Fr (fun _ => False) w w' ∧ RecX w (src.map (·.1)) (ref.map (·.1)) block x w' := by
  by_cases hb : block < 1 ∨ 64 < block
  · have he : recErr block (src.map (·.1)) (ref.map (·.1)) = .kind 1 := by unfold recErr; rw [if_pos hb]
    refine (brecord_block v0 v1 src ref B block w h0 h1 hb).mono ?_
    rintro e w' ⟨rfl, hf⟩
    refine ⟨_, _, rfl, by rw [he]; rfl, hf, ⟨fun h => (by rw [he] at h; cases h), fun _ => rfl⟩⟩
  · obtain ⟨blk, rfl⟩ := Int.eq_ofNat_of_zero_le (a := block) (by omega)
    have key : ∀ n, (treeErr (src.map (·.1)) = some n ∨ treeErr (src.map (·.1)) = none ∧ treeErr (ref.map (·.1)) = some n) → Calls Tryd.prog 66 #[v0, v1, .int .i64 blk] w fun e w' => ∃ x y, e = .returned (.tuple #[x, y]) ∧ IsErr w' y (recErr blk (src.map (·.1)) (ref.map (·.1))) ∧ Fr (fun _ => False) w w' ∧ RecX w (src.map (·.1)) (ref.map (·.1)) blk x w' := fun n hn => by
      have he : recErr blk (src.map (·.1)) (ref.map (·.1)) = .file ⟨n.toArray⟩ 4 := by
        unfold recErr
        rw [if_neg hb]
        rcases hn with h | ⟨h, h2⟩
        · rw [h]; rfl
        · rw [h, h2]; rfl
      refine (brecord_tree v0 v1 src ref B blk w h0 h1 hb (fun p hp => (hs0 p hp).1) (fun p hp => (hs0 p hp).2) (fun p hp => (hs1 p hp).1) (fun p hp => (hs1 p hp).2) n hn).mono ?_
      rintro e w' ⟨x, rfl, hx, hf⟩
      exact ⟨_, _, rfl, by rw [he]; exact hx, hf, ⟨fun h => (by rw [he] at h; cases h), fun _ => rfl⟩⟩
    cases hts : treeErr (src.map (·.1)) with
    | some n => exact key n (.inl hts)
    | none =>
      cases htr : treeErr (ref.map (·.1)) with
      | some n => exact key n (.inr ⟨hts, htr⟩)
      | none =>
        have he : recErr blk (src.map (·.1)) (ref.map (·.1)) = .none := by
          unfold recErr
          rw [if_neg hb, hts, htr]; rfl
        refine (brecord_good v0 v1 src ref B blk w h0 h1 (by omega) (by omega) ((treeErr_none _).1 hts) ((treeErr_none _).1 htr)).mono ?_
        rintro e w' ⟨x, rfl, hv, hf⟩
        exact ⟨x, _, rfl, by rw [he]; rfl, hf, ⟨fun _ => by rw [Int.toNat_natCast]; exact hv, fun h => absurd he h⟩⟩
set_option maxHeartbeats 1000000 in
theorem mrecord_any (v0 v1 : Value) (src ref : List (Fil × Value)) (B : Nat) (block : Int) (w : World) (h0 : Fils w B v0 src) (h1 : Fils w B v1 ref) (hs0 : Small src) (hs1 : Small ref) :
    Calls Tryd.prog 53 #[v0, v1, .int .i64 block] w fun e w' => ∃ x y, e = .returned (.tuple #[x, y]) ∧ IsErr w' y (recErr block (src.map (·.1)) (ref.map (·.1))) ∧ Fr (fun _ => False) w w' ∧ RecX w (src.map (·.1)) (ref.map (·.1)) block x w' := by
  have H := Lib.hid (brecord_any v0 v1 src ref B block w h0 h1 hs0 hs1)
  obtain ⟨E, hE⟩ : ∃ E, recErr block (src.map (·.1)) (ref.map (·.1)) = E := ⟨_, rfl⟩
  rw [hE] at H ⊢
  clear h0 h1 hs0 hs1 hE
  go_enter Tryd.func53, Tryd.ntmps53
  go_wp2_with fail
  refine H.out.mono ?_
  rintro e w' ⟨x, y, rfl, h1, h2, h3⟩
  have H1 := Lib.hid h1
  have H2 := Lib.hid h2
  have H3 := Lib.hid h3
  clear h1 h2 h3
  go_wp2_with fail
  go_ret2
  exact ⟨x, y, rfl, H1.out, H2.out, H3.out⟩
set_option maxHeartbeats 1000000 in
theorem precord_any (v0 v1 : Value) (src ref : List (Fil × Value)) (B : Nat) (block : Int) (w : World) (hg : ErrType w) (h0 : Fils w B v0 src) (h1 : Fils w B v1 ref) (hs0 : Small src) (hs1 : Small ref) :
    Calls Tryd.prog 35 #[v0, v1, .int .i64 block] w fun e w' => ∃ x, e = .returned (.tuple #[x, .int .i64 (recErr block (src.map (·.1)) (ref.map (·.1))).k, .string (recErr block (src.map (·.1)) (ref.map (·.1))).name]) ∧ Fr (fun _ => False) w w' ∧ RecX w (src.map (·.1)) (ref.map (·.1)) block x w' := by
  have H := Lib.hid (mrecord_any v0 v1 src ref B block w h0 h1 hs0 hs1)
  obtain ⟨E, hE⟩ : ∃ E, recErr block (src.map (·.1)) (ref.map (·.1)) = E := ⟨_, rfl⟩
  rw [hE] at H ⊢
  clear h0 h1 hs0 hs1 hE
  go_enter Tryd.func35, Tryd.ntmps35
  go_wp2_with fail
  refine H.out.mono ?_
  rintro e w1 ⟨x, y, rfl, h1, h2, h3⟩
  have HT := Lib.hid (told_any y E w1 (hg.keep h2 id) h1)
  have H2 := Lib.hid h2
  have H3 := Lib.hid h3
  clear h1 h2 h3
  go_wp2_with fail
  refine HT.out.mono ?_
  rintro e w2 ⟨rfl, hf⟩
  go_wp2_with fail
  go_ret3
  exact ⟨x, rfl, H2.out.step hf (fun _ h _ => h), H3.out.keep hf⟩
end Go.Proofs.YtlcdgbhigfgehaaDoor
/- The law Told: a batch that is recorded reads as what went in. -/
namespace Go.Proofs.YtlcdgbhigfgehaaDoor
open Go.RowKit
set_option maxRecDepth 100000

theorem recErr_none {blk : Nat} {src ref : List Fil} (h1 : 1 ≤ blk) (h2 : blk ≤ 64) (hs : IsTree src) (hr : IsTree ref) : recErr blk src ref = .none := by
  unfold recErr
  rw [if_neg (by omega), (treeErr_none _).2 hs, (treeErr_none _).2 hr]; rfl
theorem KFils.small {w : World} {B : Nat} {v : Value} {m : List (Fil × Value)} (_h : KFils w B v m) (ht : IsTree (m.map (·.1))) : Small m := fun p hp => by
  have h := ht.ok p.1 (List.mem_map_of_mem hp)
  have h3 := h.1
  unfold isName at h3
  simp at h3
  exact ⟨by omega, by have := h.2; omega⟩
set_option maxHeartbeats 4000000 in
theorem told_walk (a0 : Option Addr) (n0 c0 : Nat) (z0 : List ByteArray) (bits : Int) (a2 : Option Addr) (n2 c2 : Nat) (z2 : List ByteArray) (older : Int) (block : Int) (w : World) (hg : ErrType w) (he : ErrForm w)
    (h0 : StrsAt w a0 n0 z0 ∧ (∀ s ∈ z0, s.size ≤ maxLen) ∧ n0 ≤ maxLen) (_b1 : -9223372036854775808 ≤ bits) (_b2 : bits ≤ 9223372036854775807) (h2 : StrsAt w a2 n2 z2 ∧ (∀ s ∈ z2, s.size ≤ maxLen) ∧ n2 ≤ maxLen) (_o1 : -9223372036854775808 ≤ older) (_o2 : older ≤ 9223372036854775807) (_k1 : -9223372036854775808 ≤ block) (_k2 : block ≤ 9223372036854775807) :
    Calls Tryd.prog 10 #[.slice a0 n0 c0, .int .i64 bits, .slice a2 n2 c2, .int .i64 older, .int .i64 block] w fun e w' => e = .returned (.bool true) ∧ Fr (fun _ => False) w w' := by
  have H0 := Lib.hid h0
  have H2 := Lib.hid h2
  have HE := Lib.hid he
  clear h0 h2 he
  go_enter Tryd.func10, Tryd.ntmps10
  go_wp2_with fail
  refine (ktree_any a0 n0 c0 z0 bits w H0.out.1 H0.out.2.1 H0.out.2.2 _b1 _b2).mono ?_
  rintro e w1 ⟨v, src, rfl, hs, hks, hf1⟩
  obtain ⟨sa, sc, rfl, -⟩ := hks.vec.shape
  have HS := Lib.hid hs
  have HKS := Lib.hid hks
  have HF1 := Lib.hid hf1
  clear hs hks hf1
  go_wp2_with fail
  refine (ktree_any a2 n2 c2 z2 older w1 (H2.out.1.keep HF1.out) H2.out.2.1 H2.out.2.2 _o1 _o2).mono ?_
  rintro e w2 ⟨v, ref, rfl, hr, hkr, hf2⟩
  obtain ⟨ra, rc, rfl, -⟩ := hkr.vec.shape
  have HR := Lib.hid hr
  have hz1 := HF1.out.size
  have HKR := Lib.hid (hkr.lift hz1)
  have HKS2 := Lib.hid (HKS.out.keep0 hf2)
  have HF2 := Lib.hid (HF1.out.step hf2 (fun _ h _ => h))
  clear hr hkr hf2 HKS
  go_wp2_with fail
  refine (pick_any block 64 _ (by omega) _k1 _k2 (by omega)).mono ?_
  rintro e w' ⟨rfl, rfl⟩
  have hpb := pickOf_bounds block 64 (by omega)
  generalize pickOf block 64 = pk at hpb ⊢
  clear _b1 _b2 _o1 _o2 _k1 _k2
  obtain ⟨blk, hblk⟩ : ∃ blk : Nat, 1 + pk = blk := ⟨(1 + pk).toNat, by omega⟩
  obtain rfl : pk = blk - 1 := by omega
  have hbb : 1 ≤ blk ∧ blk ≤ 64 := by omega
  have HBE := Lib.hid (show (1 : Int) + ((blk : Int) - 1) = blk by omega)
  clear hblk hpb
  have hpr := precord_any _ _ src ref w.heap.size blk w2 (hg.keep HF2.out id) HKS2.out.fils HKR.out.fils (HKS2.out.small HS.out) (HKR.out.small HR.out)
  have hne : recErr blk (src.map (·.1)) (ref.map (·.1)) = .none := recErr_none hbb.1 hbb.2 HS.out HR.out
  rw [show (recErr blk (src.map (·.1)) (ref.map (·.1))).k = 0 by rw [hne]; rfl, show (recErr blk (src.map (·.1)) (ref.map (·.1))).name = ByteArray.empty by rw [hne]; rfl] at hpr
  have HPR := Lib.hid hpr
  have HNE := Lib.hid hne
  clear hpr hne
  go_wp2_with fail
  rw [HBE.out]
  refine HPR.out.mono ?_
  rintro e w3 ⟨x, rfl, hf3, hx⟩
  have hv := hx.good HNE.out
  rw [Int.toNat_natCast] at hv
  obtain ⟨R, hR⟩ : ∃ R, recOf (src.map (·.1)) (ref.map (·.1)) blk = R := ⟨_, rfl⟩
  have hrl : 0 < R.length := by rw [← hR]; unfold recOf; rw [List.length_append, length_putN]; omega
  rw [hR] at hv
  have hread := read_rec (src.map (·.1)) (ref.map (·.1)) blk HS.out HR.out hbb.1 hbb.2
  rw [hR] at hread
  obtain ⟨gb, cb, rb, hqb, -, -, -⟩ := hv.row hrl
  subst hqb
  have HV := Lib.hid hv
  have HRD := Lib.hid hread
  have HF3 := Lib.hid (HF2.out.step hf3 (fun _ h _ => h))
  have HKS3 := Lib.hid (HKS2.out.keep0 hf3)
  have HKR3 := Lib.hid (HKR.out.keep0 hf3)
  clear hx hv hread hf3 hR HPR
  have hpd : Calls Tryd.prog 24 #[.slice (some ⟨gb, 0, none⟩) R.length cb] w3 (MRdPost w3 R (.int .i64 (okK R))) := by
    obtain ⟨T, u, hu⟩ := HE.out.keep HF3.out
    exact pread_any w3 (hg.keep HF3.out id) gb 0 cb R T u HV.out.isB hu
  have hok : okK R = 0 := by unfold okK; rw [HRD.out]; rfl
  rw [hok] at hpd
  have HPD := Lib.hid hpd
  clear hpd hok
  go_wp2_with fail
  refine HPD.out.mono ?_
  rintro e w4 ⟨b0, b1, b2, rfl, ⟨n, a1, m1, c1, a2', m2, c2', rfl, rfl, rfl⟩, hsy, hf4⟩
  unfold Says at hsy
  rw [HRD.out] at hsy
  obtain ⟨mt, hb, hve, htg, hmt⟩ := hsy
  simp only [Value.int.injEq, true_and] at hb
  subst hb
  obtain ⟨_, _, q1, -⟩ := hve.shape
  obtain ⟨_, _, q2, -⟩ := htg.vec.shape
  simp only [Value.slice.injEq] at q1 q2
  obtain ⟨-, rfl, -⟩ := q1
  obtain ⟨-, rfl, -⟩ := q2
  have hml : mt.length = src.length := by have := congrArg List.length hmt; simpa using this
  have hel : (List.map entOf (ref.map (·.1))).length = ref.length := by simp
  have hA4 : Fr (fun _ => False) w4 (w4.alloc (.cells #[.int .i64 blk, .slice a1 ref.length c1, .slice a2' src.length c2'] 55)) := (Fr.refl _ _).alloc _
  rw [hel] at hve
  rw [hml] at htg
  have HX := Lib.hid (Own.alloc w4 #[.int .i64 blk, .slice a1 ref.length c1, .slice a2' src.length c2'] 55)
  have HV4 := Lib.hid (hve.keep hA4 (fun _ _ h => h))
  have HT4 := Lib.hid (htg.below hA4 (fun _ h => h.elim))
  have HKS4 := Lib.hid ((HKS3.out.keep0 hf4).keep0 hA4)
  have HKR4 := Lib.hid ((HKR3.out.keep0 hf4).keep0 hA4)
  have HF4 := Lib.hid ((HF3.out.step hf4 (fun _ h _ => h)).step hA4 (fun _ h _ => h))
  have HMT := Lib.hid hmt
  have HML := Lib.hid hml
  rw [hel, hml]
  have hr8 : ref.length ≤ 8 := by have := HR.out.len; simpa using this
  have hs8 : src.length ≤ 8 := by have := HS.out.len; simpa using this
  clear hve htg hmt hel hml HKS3 HKR3 HF3 HPD HV HRD hf4 hA4
  have x0 := HX.out.cell (i := 0) rfl
  have x1 := HX.out.cell (i := 1) rfl
  have x2 := HX.out.cell (i := 2) rfl
  go_wp2_with fail
  go_loopw [19] (fun iv wr => ∃ k : Nat, k ≤ ref.length ∧ iv = .int .i64 k ∧ Fr (fun _ => False) (w4.alloc (.cells #[.int .i64 blk, .slice a1 ref.length c1, .slice a2' src.length c2'] 55)) wr) (fun iv _ => ref.length - (intOf iv).toNat)
  case atStart => exact ⟨0, Nat.zero_le _, rfl, Fr.refl _ _⟩
  case round =>
    obtain ⟨k, hk, rfl, hfr⟩ := hrel
    have HFR := Lib.hid hfr
    clear x0 x1 x2
    by_cases hlt : k < ref.length
    · have x1 := (HX.out.keep hfr id).cell (i := 1) rfl
      obtain ⟨gr, cr, hq, r0, r1, -⟩ := (HKR4.out.keep0 hfr).fils.get k hlt
      simp only [Value.slice.injEq, true_and] at hq
      obtain ⟨rfl, rfl⟩ := hq
      obtain ⟨gE, cE, rE, hqE, -, hoE, -⟩ := (HV4.out.keep hfr (fun _ _ h => h)).row (by omega)
      simp only [Value.slice.injEq, true_and] at hqE
      obtain ⟨rfl, rfl⟩ := hqE
      have hge := entCells_get (List.map entOf (List.map (·.1) ref)) k (by simpa using hlt)
      have e0 := hoE.cell (i := k * 3) (by rw [List.getElem?_append_left (by simp; omega)]; exact hge.1)
      have e1 := hoE.cell (i := k * 3 + 1) (by rw [List.getElem?_append_left (by simp; omega)]; exact hge.2.1)
      have e2 := hoE.cell (i := k * 3 + 2) (by rw [List.getElem?_append_left (by simp; omega)]; exact hge.2.2)
      simp only [List.getElem_map] at e0 e1 e2
      have hd := ((HKR4.out.keep0 hfr).fils.data ref[k] (List.getElem_mem _))
      have hdv := (HKR4.out.keep0 hfr).data ref[k] (List.getElem_mem _)
      obtain ⟨da, dc, hdq, -⟩ := hdv.shape
      have HD := Lib.hid hd
      clear hoE hge hfr hd hdv
      generalize ref[k] = pk at *
      obtain ⟨⟨nm, dt⟩, dv⟩ := pk
      simp only [entOf] at hdq r0 r1 e0 e1 e2
      subst hdq
      rw [dgN_int] at e2
      go_wp2_with fail
      refine (mdigest_any _ dt wr HD.out).mono ?_
      rintro e w' ⟨rfl, rfl⟩
      go_wp2_with fail
      go_quiet (fail)
      go_wp2_with fail
      exact ⟨⟨k + 1, by omega, by go_num, HFR.out.drewN _⟩, by simp [intOf]; omega⟩
    · obtain rfl : k = ref.length := by omega
      clear hfr
      go_wp2_with fail
      have HX9 := Lib.hid (HX.out.keep HFR.out id)
      have HT9 := Lib.hid (HT4.out.below HFR.out (fun _ h => h.elim))
      have HKS9 := Lib.hid (HKS4.out.keep0 HFR.out)
      have HKR9 := Lib.hid (HKR4.out.keep0 HFR.out)
      have HF9 := Lib.hid (HF4.out.step HFR.out (fun _ h _ => h))
      clear HX HT4 HKS4 HKR4 HF4 HFR HV4
      rename_i w9 _
      generalize wr = w9 at *
      go_loopw [21] (fun iv wr => ∃ k : Nat, k ≤ src.length ∧ iv = .int .i64 k ∧ Fr (fun _ => False) w9 wr) (fun iv _ => src.length - (intOf iv).toNat)
      case atStart => exact ⟨0, Nat.zero_le _, rfl, Fr.refl _ _⟩
      case round =>
        obtain ⟨k, hk, rfl, hfr⟩ := hrel
        have HFR := Lib.hid hfr
        by_cases hlt : k < src.length
        · obtain ⟨gs, cs, rs, hqs, -, hos, -⟩ := (HKS9.out.keep0 hfr).vec.row (by omega)
          simp only [Value.slice.injEq, true_and] at hqs
          obtain ⟨rfl, rfl⟩ := hqs
          have hkm : k < mt.length := by rw [HML.out]; exact hlt
          obtain ⟨gT, cT, rT, hqT, -, hoT, -⟩ := (HT9.out.below hfr (fun _ h => h.elim)).vec.row (by omega)
          rw [HML.out] at hqT
          simp only [Value.slice.injEq, true_and] at hqT
          obtain ⟨rfl, rfl⟩ := hqT
          have hge := targCells_get mt k hkm
          have hgs := filCells_get src k hlt
          have htk : mt[k].t = targOf (ref.map (·.1)) blk src[k].1 := by
            have := congrArg (·[k]?) HMT.out
            simp only [List.getElem?_map, List.getElem?_eq_getElem hlt, List.getElem?_eq_getElem hkm, Option.map_some, Option.some.injEq] at this
            exact this
          rw [htk] at hge
          have hta := (HT9.out.below hfr (fun _ h => h.elim)).toks mt[k] (List.getElem_mem _)
          rw [htk] at hta
          have hf := HS.out.ok src[k].1 (List.mem_map_of_mem (List.getElem_mem _))
          have hsd := (HKS9.out.keep0 hfr).data src[k] (List.getElem_mem _)
          have hcc : ∀ W, Fr (fun _ => False) wr W → W.cell? ⟨gT, k * 4, none⟩ = some (.string ⟨src[k].1.name.toArray⟩) ∧ W.cell? ⟨gT, k * 4 + 2, none⟩ = some (.int .u64 (dgOf src[k].1.data)) ∧ W.cell? ⟨gT, k * 4 + 3, none⟩ = some mt[k].v ∧
              W.cell? ⟨gs, k * 2, none⟩ = some (.string ⟨src[k].1.name.toArray⟩) ∧ W.cell? ⟨gs, k * 2 + 1, none⟩ = some src[k].2 := fun W hW => by
            have h1 := hoT.keep hW id
            have h2 := hos.keep hW id
            rw [← dgN_int]
            exact ⟨h1.cell (by rw [List.getElem?_append_left (by simp; omega)]; exact hge.1), h1.cell (by rw [List.getElem?_append_left (by simp; omega)]; exact hge.2.2.1), h1.cell (by rw [List.getElem?_append_left (by simp; omega)]; exact hge.2.2.2),
              h2.cell (by rw [List.getElem?_append_left (by simp; omega)]; exact hgs.1), h2.cell (by rw [List.getElem?_append_left (by simp; omega)]; exact hgs.2)⟩
          have HCC := Lib.hid hcc
          have HTA := Lib.hid hta.1
          have hts : mt[k].l.map (·.1) = diffOf (baseOf (ref.map (·.1)) src[k].1.name) src[k].1.data blk := hta.2
          have HTS := Lib.hid hts
          have HSD := Lib.hid hsd
          have hdl := hf.2
          clear hge hgs htk hta hts hf hsd hcc hoT hos
          generalize mt[k] = tk at *
          generalize src[k] = sk at *
          obtain ⟨⟨nm, dt⟩, dv⟩ := sk
          obtain ⟨ta, tc, htq, -⟩ := HTA.out.vec.shape
          obtain ⟨da, dc, hdq, -⟩ := HSD.out.shape
          dsimp only at HCC HTS HSD hdl hdq
          subst hdq
          have HTQ := Lib.hid htq
          clear htq
          have HX10 := Lib.hid (HX9.out.keep hfr id)
          have HKR10 := Lib.hid (HKR9.out.keep0 hfr)
          obtain ⟨base, hbase⟩ : ∃ base, baseOf (ref.map (·.1)) nm = base := ⟨_, rfl⟩
          have hbl : base.length ≤ 300 := by rw [← hbase]; exact baseOf_len _ (fun g hg => (HR.out.ok g hg).2) nm
          have hbv : IsB wr ((lastV ref nm).getD (.slice none 0 0)) base := by
            have := lastV_isB (w := wr) (l := ref) (fun p hp => HKR10.out.fils.data p hp) nm
            rwa [← find_last _ HR.out.up, show (findF (ref.map (·.1)) nm).getD [] = base from hbase] at this
          rw [hbase] at HTS
          have HBV := Lib.hid hbv
          clear hbv hbase hfr
          generalize wr = w10 at *
          go_wp2_with fail
          go_loopw [22, 23] (fun bv jv wi => ∃ j : Nat, j ≤ ref.length ∧ bv = (lastV (ref.take j) nm).getD (.slice none 0 0) ∧ jv = .int .i64 j ∧ Fr (fun _ => False) w10 wi) (fun _ jv _ => ref.length - (intOf jv).toNat)
          case atStart => exact ⟨0, Nat.zero_le _, rfl, rfl, Fr.refl _ _⟩
          case round =>
            obtain ⟨j, hj, rfl, rfl, hfi⟩ := hrel
            have HFI := Lib.hid hfi
            by_cases hlj : j < ref.length
            · obtain ⟨gr, cr, hq, r0, r1, -⟩ := (HKR10.out.keep0 hfi).fils.get j hlj
              simp only [Value.slice.injEq, true_and] at hq
              obtain ⟨rfl, rfl⟩ := hq
              have s0 := (HCC.out _ hfi).2.2.2.1
              have hsu : lastV (ref.take (j + 1)) nm = if ref[j].1.name = nm then some ref[j].2 else lastV (ref.take j) nm := by
                rw [List.take_succ_eq_append_getElem hlj, lastV_snoc]
              have HSU := Lib.hid hsu
              clear hsu hfi
              generalize ref[j] = pj at *
              obtain ⟨⟨n', d'⟩, v'⟩ := pj
              dsimp only at r0 r1 HSU
              by_cases hnm : n' = nm
              · have hne : (n' == nm) = true := by simpa using hnm
                have HNM := Lib.hid hnm
                clear hnm
                go_wp2_with fail
                go_quiet (fail)
                go_wp2_with fail
                exact ⟨⟨j + 1, by omega, by rw [HSU.out, if_pos HNM.out]; rfl, by go_num, HFI.out.drewN _⟩, by simp [intOf]; omega⟩
              · have hne : (n' == nm) = false := by simpa using hnm
                have HNM := Lib.hid hnm
                clear hnm
                go_wp2_with fail
                go_quiet (fail)
                go_wp2_with fail
                exact ⟨⟨j + 1, by omega, by rw [HSU.out, if_neg HNM.out], by go_num, HFI.out.drewN _⟩, by simp [intOf]; omega⟩
            · obtain rfl : j = ref.length := by omega
              rw [List.take_length]
              have HBV11 := Lib.hid (HBV.out.keep hfi (fun _ _ h => h))
              have HTA11 := Lib.hid (HTA.out.keep0 hfi)
              have x2 := (HX10.out.keep hfi id).cell (i := 2) rfl
              obtain ⟨t0, t2, t3, s0, s1⟩ := HCC.out _ hfi
              rw [HTQ.out] at t3
              clear hfi
              generalize (lastV ref nm).getD (.slice none 0 0) = bV at *
              have hdm := diff_makes base dt blk (by omega) hdl
              have HDM := Lib.hid hdm
              have hz0 : sized blk base.length = 0 := by unfold sized; rw [if_neg (by omega), if_neg (by omega)]
              have HZ0 := Lib.hid hz0
              have hap0 : Calls Tryd.prog 14 #[bV, .slice ta tk.l.length tc, .int .i64 blk] wr fun e w' => ∃ v k, e = .returned (.tuple #[v, .int .i64 k]) ∧ Applied wr w' (.inr dt) v k ∧ Fr (fun _ => False) wr w' := by
                have h1 := HTA11.out.toks
                rw [HTQ.out] at h1
                have h2 := papply_any _ _ base tk.l blk _ wr (hg.keep ((HF9.out.step HFR.out (fun _ h _ => h)).step HFI.out (fun _ h _ => h)) id) HBV11.out h1 (by
                  intro p hp
                  have hq : p.1 ∈ diffOf base dt blk := by rw [← HTS.out]; exact List.mem_map_of_mem hp
                  rcases HDM.out.2.1 _ hq with h | h
                  · omega
                  · rw [h.2.2.2]; simp)
                have hA : applyK base blk (tk.l.map (·.1)) = .inr dt := by
                  unfold applyK
                  rw [if_pos HZ0.out, Int.toNat_natCast, HTS.out]; exact HDM.out.1
                rwa [hA] at h2
              have HAP := Lib.hid hap0
              clear hdm hz0 hap0
              go_wp2_with fail
              refine HAP.out.mono ?_
              rintro e w11 ⟨v, kk, rfl, hap, hf11⟩
              obtain ⟨rfl, hvec⟩ := hap
              have hfa := HFI.out.step hf11 (fun _ h _ => h)
              have HFA := Lib.hid (HFR.out.step hfa (fun _ h _ => h))
              have hsd11 := (HSD.out.keep hfa (fun _ _ h => h)).isB
              have HSD11 := Lib.hid hsd11
              obtain ⟨t0, t2, t3, s0, s1⟩ := HCC.out _ hfa
              have x2 := (HX10.out.keep hfa id).cell (i := 2) rfl
              have u1 := run_string_ofN (P := Tryd.prog) w11 25 9 5 _ _ Tryd.underlying25 Tryd.underlying5 Tryd.underlying9 hvec.isB
              have u2 := run_string_ofN (P := Tryd.prog) w11 25 9 5 _ _ Tryd.underlying25 Tryd.underlying5 Tryd.underlying9 hsd11
              obtain ⟨va2, vc2, hvq, -⟩ := hvec.shape
              subst hvq
              clear hvec hsd11 hf11 hfa HAP
              go_wp2_with fail
              refine (mdigest_any _ dt w11 HSD11.out).mono ?_
              rintro e w' ⟨rfl, rfl⟩
              go_wp2_with fail
              go_quiet (fail)
              go_wp2_with fail
              exact ⟨⟨k + 1, by omega, by go_num, HFA.out.drewN _⟩, by simp [intOf]; omega⟩
        · obtain rfl : k = src.length := by omega
          clear hfr
          go_wp2_with fail
          go_ret
          exact ⟨rfl, HF9.out.step HFR.out (fun _ h _ => h)⟩
end Go.Proofs.YtlcdgbhigfgehaaDoor
/- The law Told's card: its row out of its walk; what the row lists is tied to the program's text. For every input. -/
namespace Go.Proofs.YtlcdgbhigfgehaaDoor
open Go.ChangeShapes Go.WideShapes Go.ChangeAt Go.RowKit
open Go.ChangeMaps (open_string shut_string)
set_option linter.unusedVariables false

theorem bulk_strs {H : Type} {x : DataW H} {z : List ByteArray} (h : x = .nil ∧ z = [] ∨ ∃ r, x = .slice (ChangeShapes.strs z) r) : True := trivial

set_option maxRecDepth 100000 in
theorem told_contract (H : Type) (enc : TypeId × Value → H) (W : World) (base : Nat) (args : Array Value) (ds gs : List (DataW H)) (before : List MemPlace)
    (hval : ∀ (j : Nat) t v, Tryd.f10.params[j]? = some t → args[j]? = some v → Value.okWide Tryd.prog W .any base t v)
    (hW : DataW.Whole enc Tryd.prog Tryd.f10.params.toList Rows.toldSpec.vars false W args.toList ds gs before) (hL : laidMetH Tryd.prog Rows.toldRow.laid W) :
    Calls Tryd.prog 10 args W fun e W' => ∃ v, e = .returned v ∧ Rows.toldSpec.post enc Tryd.prog Tryd.f10 false true false false W args v W' := by
  have hW' := hW
  obtain ⟨p, q, hA0, hV, rfl, hfz, hnd⟩ := hW
  have hA : DataW.TrodAll enc Tryd.prog W 0 (fun _ => true) true Tryd.f10.params.toList args.toList ds p := hA0
  rw [Tryd.params10] at hA hval
  obtain ⟨v0, vs0, d0, ds0, p0, q0, hargs, rfl, rfl, h0, r0⟩ := trodAll_cons hA
  obtain ⟨v1, vs1, d1, ds1, p1, q1, rfl, rfl, rfl, h1, r1⟩ := trodAll_cons r0
  obtain ⟨v2, vs2, d2, ds2, p2, q2, rfl, rfl, rfl, h2, r2⟩ := trodAll_cons r1
  obtain ⟨v3, vs3, d3, ds3, p3, q3, rfl, rfl, rfl, h3, r3⟩ := trodAll_cons r2
  obtain ⟨v4, vs4, d4, ds4, p4, q4, rfl, rfl, rfl, h4, r4⟩ := trodAll_cons r3
  obtain ⟨rfl, rfl, rfl⟩ := trodAll_nil r4
  obtain rfl : args = #[v0, v1, v2, v3, v4] := by cases args; simp_all
  obtain ⟨rfl, rfl⟩ := trodVars_none hV
  have k0 := h0
  have lt0 : ∀ x ∈ p0, x.block < W.heap.size := by obtain ⟨m, hm⟩ := k0; exact DataW.trod_lt m _ _ _ hm
  obtain ⟨a0, len0, cap0, rfl⟩ := okWide_slice Tryd.underlying43 (hval 0 43 v0 rfl rfl)
  obtain ⟨fu0, hu0⟩ := h0
  obtain ⟨z0, w0, s0, l0, b0⟩ := strs_open Tryd.underlying43 Tryd.underlying9 (by kernel_rfl) hu0
  have hb0 : True := bulk_strs b0
  obtain ⟨a1, rfl, rfl, rfl, w1⟩ := open_int Tryd.underlying3 (hval 1 3 v1 rfl rfl) h1
  have k2 := h2
  have lt2 : ∀ x ∈ p2, x.block < W.heap.size := by obtain ⟨m, hm⟩ := k2; exact DataW.trod_lt m _ _ _ hm
  obtain ⟨a2, len2, cap2, rfl⟩ := okWide_slice Tryd.underlying43 (hval 2 43 v2 rfl rfl)
  obtain ⟨fu2, hu2⟩ := h2
  obtain ⟨z2, w2, s2, l2, b2⟩ := strs_open Tryd.underlying43 Tryd.underlying9 (by kernel_rfl) hu2
  have hb2 : True := bulk_strs b2
  obtain ⟨a3, rfl, rfl, rfl, w3⟩ := open_int Tryd.underlying3 (hval 3 3 v3 rfl rfl) h3
  obtain ⟨a4, rfl, rfl, rfl, w4⟩ := open_int Tryd.underlying3 (hval 4 3 v4 rfl rfl) h4
  clear hA0
  have hg := handle_of_laidF hL
  have he := form_of_laid hL
  refine (told_walk a0 len0 cap0 z0 a1 a2 len2 cap2 z2 a3 a4 W hg he ⟨w0, s0, l0⟩ (bounds_i64 w1).1 (bounds_i64 w1).2 ⟨w2, s2, l2⟩ (bounds_i64 w3).1 (bounds_i64 w3).2 (bounds_i64 w4).1 (bounds_i64 w4).2).mono fun e W' ⟨he, bel⟩ => ?_
  subst he
  have hbel := bel.none_below
  exact ⟨_, rfl, _, _, _, [], _, [], hW', trodAll_mk1 (shut_bool Tryd.underlying4 _), (trodAll_cons_mk (Below.trod cardLaidOut (by kernel_rfl) (of_decide_eq_true (by kernel_rfl)) k0 hbel lt0) (trodAll_cons_mk (shut_int Tryd.underlying3 w1) (trodAll_cons_mk (Below.trod cardLaidOut (by kernel_rfl) (of_decide_eq_true (by kernel_rfl)) k2 hbel lt2) (trodAll_cons_mk (shut_int Tryd.underlying3 w3) (trodAll_cons_mk (shut_int Tryd.underlying3 w4) trodAll_mk0))))), rfl, hbel.frame _, fun h => by cases h⟩

theorem told_reads (os : Os) {H : Type} (enc : TypeId × Value → H) : ∃ places, DataW.whole enc Tryd.prog ((laidWorldF os).forCall (fun _ _ => 0) ⟨#[], #[.slice none 0 0, .int .i64 0, .slice none 0 0, .int .i64 0, .int .i64 0], []⟩).memory Tryd.f10.params.toList Rows.toldSpec.vars false (#[.slice none 0 0, .int .i64 0, .slice none 0 0, .int .i64 0, .int .i64 0] : Array Value).toList 8 = some ([.nil, .lit (.int .i64 0), .nil, .lit (.int .i64 0), .lit (.int .i64 0)], [], places) :=
  ⟨[], by kernel_rfl⟩
set_option maxRecDepth 100000 in
theorem told_lifted (os : Os) (started : os.Started) (H : Type) (enc : TypeId × Value → H) (F : Stop.Interp) :
    ReturnsInHanded {} Tryd.checked os 10 .any ((OpenSpec.ofChange Rows.toldSpec).preRow enc Tryd.prog Tryd.f10 Rows.toldRow.domain false Rows.toldRow.laid) (((OpenSpec.ofChange Rows.toldSpec).at F).post enc Tryd.prog Tryd.f10 false true false false) := by
  obtain ⟨places, hx⟩ := told_reads os enc
  refine returnsInHanded_of_row (C := Tryd.checked) (s := OpenSpec.ofChange Rows.toldSpec) cardOwn started (by kernel_rfl) Tryd.func10
    (witness_row_atRef (enc := enc) (C := Tryd.checked) false (laidWorldF os) #[.slice none 0 0, .int .i64 0, .slice none 0 0, .int .i64 0, .int .i64 0] rfl (by kernel_rfl) (by kernel_rfl) (by kernel_rfl)
      (OpenSpec.preRow_of_cond 8 hx (by kernel_rfl) (fun k hk => by cases hk) (by kernel_rfl) (laidWorldF_met os _))) ?_
  intro W base args ds gs before hval hW _ _ _ hL _ _
  exact told_contract H enc W base args ds gs before hval hW hL
theorem told_said : Rows.ToldSaid :=
  OpenClaim.holds_of_cond 10 Tryd.f10 rfl rfl rfl rfl rfl rfl rfl ⟨rfl, rfl, rfl, rfl, rfl⟩ rfl rfl rfl rfl rfl (by kernel_rfl) Tryd.func10 (by kernel_rfl)
    (of_decide_eq_true (by kernel_rfl)) (by unfold Func.isWrapper; first | (rw [if_pos (by decide +kernel)]; kernel_rfl) | (rw [if_neg (by decide +kernel)]; exact ⟨rfl, rfl⟩))
    (fun os started H enc _ F => by rw [OpenClaim.pre_eq_preRow]; exact told_lifted os started H enc F)
theorem told_plain (f : FuncId) (fn : Func) (hf : Tryd.pinned.checked.prog.funcNamed "mirror/mirrorkeep.Told" = some f) (hfn : Tryd.pinned.checked.prog.funcs[f]? = some fn) :
    true = Tryd.pinned.checked.prog.looks [] ∧ ∀ (j : Nat) t, fn.params[j]? = some t → Tryd.pinned.checked.prog.wantsStandIn t = false := by
  obtain rfl : f = 10 := Option.some.inj ((show Tryd.prog.funcNamed "mirror/mirrorkeep.Told" = some 10 by kernel_rfl).symm.trans hf) |>.symm
  obtain rfl : fn = Tryd.f10 := (Option.some.inj (Tryd.func10.symm.trans hfn)).symm
  refine ⟨by kernel_rfl, fun j t ht => ?_⟩
  rw [Tryd.params10] at ht
  have hm := Array.mem_of_getElem? ht
  simp only [List.mem_toArray, List.mem_cons, List.not_mem_nil, or_false] at hm
  rcases hm with rfl | rfl | rfl | rfl | rfl
  · exact (show Tryd.prog.wantsStandIn 43 = false by kernel_rfl)
  · exact (show Tryd.prog.wantsStandIn 3 = false by kernel_rfl)
  · exact (show Tryd.prog.wantsStandIn 43 = false by kernel_rfl)
  · exact (show Tryd.prog.wantsStandIn 3 = false by kernel_rfl)
  · exact (show Tryd.prog.wantsStandIn 3 = false by kernel_rfl)

theorem told_card : Rows.ToldCardSaid :=
  Claim7.holds_tied_plain_at .later [] _ _ _ _ told_said (fun _ h => by cases h) (by kernel_rfl) (fun _ h => by cases h) told_row_tie rfl ⟨rfl, rfl⟩ (by kernel_rfl) rfl told_plain (by kernel_rfl)
#print axioms told_card
end Go.Proofs.YtlcdgbhigfgehaaDoor
