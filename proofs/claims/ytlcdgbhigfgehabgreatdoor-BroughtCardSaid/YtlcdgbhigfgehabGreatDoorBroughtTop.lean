/- Filleds, Broughts, CardBase, CardBaseF, BroughtCard in one text. -/
import Derived.Test.YtlcdgbhigfgehabGreatDoorMirAll
import Derived.Test.YtlcdgbhigfgehabGreatDoorKTree
import Derived.BigQuiet
import Derived.Test.YtlcdgbhigfgehabGreatDoorErrors
import Derived.Test.YtlcdgbhigfgehabGreatDoorCards
import Derived.Test.YtlcdgbhigfgehabGreatDoorTie
import Derived.ProofKit
import Derived.OpenShut
import Derived.ShutString
import Derived.ChangeOld
import Derived.LaidHandle
import Derived.Deep.DeepHandedRow
import Derived.SevenTiedAt
import Derived.Deep.DeepWitnessRowRef
import Derived.LaidLaws
/- The law Filled: with a byte of room too few nothing is replayed, and nothing changes. -/
namespace Go.Proofs.YtlcdgbhigfgehabGreatDoor
open Go.RowKit
set_option maxRecDepth 100000

theorem clear_new {w : World} {gm gd : Nat} (hg : ErrType w) (he : ErrForm w) (h1 : w.heap.size ≤ gm) (h2 : w.heap.size ≤ gd) : Clear gm gd := by
  obtain ⟨T, u, hu⟩ := he
  have l1 := World.block_lt_of_cell? w _ hg
  have l2 := World.block_lt_of_cell? w _ hu
  dsimp only at l1 l2
  exact ⟨by omega, by omega, by omega, by omega⟩
theorem allOf_tree {m : List (Fil × Value)} (h : IsTree (m.map (·.1))) : allOf (m.map (·.1)) ≤ 2400 := allOf_le h
set_option maxHeartbeats 4000000 in
theorem filled_walk (a0 : Option Addr) (n0 c0 : Nat) (z0 : List ByteArray) (bits : Int) (a2 : Option Addr) (n2 c2 : Nat) (z2 : List ByteArray) (older : Int) (block : Int) (w : World) (hg : ErrType w) (he : ErrForm w)
    (h0 : StrsAt w a0 n0 z0 ∧ (∀ s ∈ z0, s.size ≤ maxLen) ∧ n0 ≤ maxLen) (_b1 : -9223372036854775808 ≤ bits) (_b2 : bits ≤ 9223372036854775807) (h2 : StrsAt w a2 n2 z2 ∧ (∀ s ∈ z2, s.size ≤ maxLen) ∧ n2 ≤ maxLen) (_o1 : -9223372036854775808 ≤ older) (_o2 : older ≤ 9223372036854775807) (_k1 : -9223372036854775808 ≤ block) (_k2 : block ≤ 9223372036854775807) :
    Calls Tryz.prog 5 #[.slice a0 n0 c0, .int .i64 bits, .slice a2 n2 c2, .int .i64 older, .int .i64 block] w fun e w' => e = .returned (.bool true) ∧ Fr (fun _ => False) w w' := by
  have H0 := Lib.hid h0
  have H2 := Lib.hid h2
  have HE := Lib.hid he
  have HG := Lib.hid hg
  clear h0 h2 he hg
  go_enter Tryz.func5, Tryz.ntmps5
  go_wp2_with fail
  refine (ktree_any a0 n0 c0 z0 bits w H0.out.1 H0.out.2.1 H0.out.2.2 _b1 _b2).mono ?_
  rintro e w1 ⟨v, src, rfl, hs, hks, hf1⟩
  obtain ⟨sa, sc, rfl, -⟩ := hks.vec.shape
  have HS := Lib.hid hs
  have HKS := Lib.hid hks
  have HF1 := Lib.hid hf1
  clear hs hks hf1
  go_wp2_with fail
  refine (ktree_any a2 n2 c2 z2 older w1 (H2.out.1.keep HF1.out) H2.out.2.1 H2.out.2.2 _o1 _o2).mono ?_
  rintro e w2 ⟨v, ref, rfl, hr, hkr, hf2⟩
  obtain ⟨ra, rc, rfl, -⟩ := hkr.vec.shape
  have HR := Lib.hid hr
  have hz1 := HF1.out.size
  have HKR := Lib.hid (hkr.lift hz1)
  have HKS2 := Lib.hid (HKS.out.keep0 hf2)
  have HF2 := Lib.hid (HF1.out.step hf2 (fun _ h _ => h))
  have hs8 := (tree_data rfl HS.out).2.2
  have hr8 := (tree_data rfl HR.out).2.2
  have hal := allOf_tree HS.out
  have HALL := Lib.hid (kall_any _ src w.heap.size w2 HKS2.out.fils hs8 (tree_data rfl HS.out).1)
  clear hr hkr hf2 HKS _b1 _b2 _o1 _o2
  obtain ⟨N, hN⟩ : ∃ N, allOf (src.map (·.1)) = N := ⟨_, rfl⟩
  rw [hN] at hal HALL
  have HN := Lib.hid hN
  clear hN
  go_wp2_with fail
  refine HALL.out.mono ?_
  rintro e w' ⟨rfl, hw'⟩
  obtain rfl : w2 = w' := hw'.symm
  clear hw'
  have hz2 := HF2.out.size
  rcases Nat.eq_zero_or_pos N with rfl | hpos
  · have HRE := Lib.hid (newErr_none HR.out (Int.le_refl 0) (by omega))
    have HNW := Lib.hid (pnew_any _ ref w.heap.size 0 w2 (HG.out.keep HF2.out id) HKR.out.fils (fun p hp => by have := (tree_data rfl HR.out).2.1 p hp; omega) (fun p hp => by have := (tree_data rfl HR.out).1 p hp; omega) (by omega))
    rw [show (newErr (ref.map (·.1)) 0).k = 0 by rw [HRE.out]; rfl, show (newErr (ref.map (·.1)) 0).name = ByteArray.empty by rw [HRE.out]; rfl] at HNW
    go_wp2_with fail
    refine HNW.out.mono ?_
    rintro e w3 ⟨p, rfl, hf3, hnp⟩
    obtain ⟨gm, gd, rfl, hgm, hgd, hmi⟩ := hnp.1 HRE.out
    have HF3 := Lib.hid hf3
    clear hnp hmi hf3
    go_wp2_with fail
    go_ret
    exact ⟨rfl, HF2.out.step HF3.out (fun _ h _ => h)⟩
  · have z1 : ((N : Int) == 0) = false := by simp; omega
    have hw : wrap64 ((N : Int) - 1) = (N : Int) - 1 := IntWalk.wrap64_in _ (by omega)
    obtain ⟨blk, hblk⟩ : ∃ blk : Nat, 1 + pickOf block 64 = blk := ⟨(1 + pickOf block 64).toNat, by have := pickOf_bounds block 64 (by omega); omega⟩
    have hbb : 1 ≤ blk ∧ blk ≤ 64 := by have := pickOf_bounds block 64 (by omega); omega
    have HBR := Lib.hid (kbrought_any _ _ src ref w.heap.size block ((N : Int) - 1) w2 (HG.out.keep HF2.out id) HKS2.out.fils HKR.out.fils HS.out HR.out _k1 _k2 (by omega) (by omega) blk hblk)
    have HBB := Lib.hid hbb
    clear hblk hbb _k1 _k2
    go_wp2_with fail
    refine HBR.out.mono ?_
    rintro e w3 ⟨bv, gm, gd, rfl, hv, hrl, hgm, hgd, hmi, hf3⟩
    obtain ⟨R, hR⟩ : ∃ R, recOf (src.map (·.1)) (ref.map (·.1)) blk = R := ⟨_, rfl⟩
    rw [hR] at hv hrl
    obtain ⟨gb, cb, rb, rfl, -, -, -⟩ := hv.row hrl
    have hcl := clear_new (HG.out.keep HF2.out id) (HE.out.keep HF2.out) hgm hgd
    have HP := Lib.hid (replay_bad 0 (show planK (ref.map (·.1)) ((N : Int) - 1) R = .inl (.kind 10) by rw [← hR]; exact plan_tight HS.out HR.out HBB.out.1 HBB.out.2 (by rw [HN.out]; omega)))
    have HF3 := Lib.hid (HF2.out.step hf3 (fun _ h _ => h))
    have hz3 := hf3.size
    have hrp := preplay_up gm gd w2.heap.size (ref.map (·.1)) ((N : Int) - 1) 0 gb 0 cb R w3 hmi (by omega) hcl (HG.out.keep HF3.out id) (HE.out.keep HF3.out) hv.isB
    unfold PReplayP at hrp
    rw [HP.out.1, HP.out.2.1, HP.out.2.2] at hrp
    have HRP := Lib.hid hrp
    have HKR3 := Lib.hid ((HKR.out.keep0 hf3).fils)
    have HHB := Lib.hid (fun w4 (k : Fr (fun b => b = gm ∨ b = gd) w3 w4) => HKR3.out.held k (fun b hb => by
      rcases hb with rfl | rfl
      · exact .inl ⟨_, hmi.mir⟩
      · exact .inr hmi.disk.own))
    have HRR := Lib.hid hR
    clear hv hrp hmi hf3 hR
    go_wp2_with fail
    refine HRP.out.mono ?_
    rintro e w4 ⟨rfl, hmi4, hf4⟩
    have HH := Lib.hid (khas_any gm gd w2.heap.size (ref.map (·.1)) ((N : Int) - 1) _ ref w.heap.size w4 hmi4 (HHB.out _ hf4) hr8)
    have HF4 := Lib.hid hf4
    clear hmi4 hf4
    go_wp2_with fail
    refine HH.out.mono ?_
    rintro e w5 ⟨b, rfl, hb, -, hf5⟩
    obtain rfl : b = true := hb.2 rfl
    have HF5 := Lib.hid hf5
    clear hb hf5
    go_wp2_with fail
    go_ret
    exact ⟨rfl, (HF3.out.step HF4.out (fun b hb hl => by rcases hb with rfl | rfl <;> omega)).step HF5.out (fun b hb hl => by subst hb; omega)⟩
end Go.Proofs.YtlcdgbhigfgehabGreatDoor
/- The law Brought: replayed over the older tree a batch leaves the newer one, with just enough room; over any other tree it changes nothing. -/
namespace Go.Proofs.YtlcdgbhigfgehabGreatDoor
open Go.RowKit
set_option maxRecDepth 100000

/-- Do names or sizes differ among the first k? -/
def othF (l m : List Fil) (k : Nat) : Bool := decide (l.length ≠ m.length) || ((l.zip m).take k).any fun p => decide (p.1.name ≠ p.2.name) || decide (p.1.data.length ≠ p.2.data.length)
theorem othF_zero (l m : List Fil) : othF l m 0 = decide (l.length ≠ m.length) := by simp [othF]
theorem othF_succ (l m : List Fil) (k : Nat) (h1 : k < l.length) (h2 : k < m.length) : othF l m (k + 1) = (othF l m k || (decide (l[k].name ≠ m[k].name) || decide (l[k].data.length ≠ m[k].data.length))) := by
  unfold othF
  rw [List.take_succ_eq_append_getElem (by simp; omega), List.any_append, Bool.or_assoc]
  simp
theorem othF_ne {l m : List Fil} {k : Nat} (h : othF l m k = true) : l.map entOf ≠ m.map entOf := by
  intro he
  unfold othF at h
  have hl : l.length = m.length := by simpa using congrArg List.length he
  rw [Bool.or_eq_true] at h
  rcases h with h | h
  · simp [hl] at h
  · obtain ⟨p, hp, hq⟩ := List.any_eq_true.1 h
    have hp2 := List.mem_of_mem_take hp
    obtain ⟨i, hi, rfl⟩ := List.mem_iff_getElem.1 hp2
    simp only [List.length_zip] at hi
    have h3 := congrArg (·[i]?) he
    simp only [List.getElem?_map] at h3
    rw [List.getElem?_eq_getElem (by omega), List.getElem?_eq_getElem (by omega)] at h3
    simp only [Option.map_some, Option.some.injEq, entOf, Ent.mk.injEq] at h3
    simp only [List.getElem_zip, Bool.or_eq_true, decide_eq_true_eq] at hq
    rcases hq with hq | hq
    · exact hq h3.1
    · exact hq h3.2.1
theorem replay_calm {tr : List Fil} {room : Int} {b : List UInt8} : replayD tr room b 0 = false := by
  unfold replayD
  split
  · rfl
  · simp
theorem replayT_tree {tr : List Fil} {room : Int} {b : List UInt8} {crash : Int} (h : IsTree tr) : IsTree (replayT tr room b crash) := by
  unfold replayT
  split
  · exact h
  · rename_i l hl
    split
    · exact h
    · exact plan_tree hl
theorem held_mirAt {w : World} {B gm gd : Nat} {tr : List Fil} {room : Int} {down : Bool} (h : MirAt w B gm gd tr room down) : Held w (fun b => b = gm ∨ b = gd) := fun b hb => by
  rcases hb with rfl | rfl
  · exact .inl ⟨_, h.mir⟩
  · exact .inr h.disk.own
set_option maxHeartbeats 4000000 in
theorem brought_walk (a0 : Option Addr) (n0 c0 : Nat) (z0 : List ByteArray) (bits : Int) (a2 : Option Addr) (n2 c2 : Nat) (z2 : List ByteArray) (older : Int) (block : Int) (w : World) (hg : ErrType w) (he : ErrForm w)
    (h0 : StrsAt w a0 n0 z0 ∧ (∀ s ∈ z0, s.size ≤ maxLen) ∧ n0 ≤ maxLen) (_b1 : -9223372036854775808 ≤ bits) (_b2 : bits ≤ 9223372036854775807) (h2 : StrsAt w a2 n2 z2 ∧ (∀ s ∈ z2, s.size ≤ maxLen) ∧ n2 ≤ maxLen) (_o1 : -9223372036854775808 ≤ older) (_o2 : older ≤ 9223372036854775807) (_k1 : -9223372036854775808 ≤ block) (_k2 : block ≤ 9223372036854775807) :
    Calls Tryz.prog 3 #[.slice a0 n0 c0, .int .i64 bits, .slice a2 n2 c2, .int .i64 older, .int .i64 block] w fun e w' => e = .returned (.bool true) ∧ Fr (fun _ => False) w w' := by
  have H0 := Lib.hid h0
  have H2 := Lib.hid h2
  have HE := Lib.hid he
  have HG := Lib.hid hg
  clear h0 h2 he hg
  go_enter Tryz.func3, Tryz.ntmps3
  go_wp2_with fail
  refine (ktree_any a0 n0 c0 z0 bits w H0.out.1 H0.out.2.1 H0.out.2.2 _b1 _b2).mono ?_
  rintro e w1 ⟨v, src, rfl, hs, hks, hf1⟩
  obtain ⟨sa, sc, rfl, -⟩ := hks.vec.shape
  have HS := Lib.hid hs
  have HKS := Lib.hid hks
  have HF1 := Lib.hid hf1
  clear hs hks hf1
  go_wp2_with fail
  refine (ktree_any a2 n2 c2 z2 older w1 (H2.out.1.keep HF1.out) H2.out.2.1 H2.out.2.2 _o1 _o2).mono ?_
  rintro e w2 ⟨v, ref, rfl, hr, hkr, hf2⟩
  obtain ⟨ra, rc, rfl, -⟩ := hkr.vec.shape
  have HR := Lib.hid hr
  have hz1 := HF1.out.size
  have HKR := Lib.hid (hkr.lift hz1)
  have HKS2 := Lib.hid (HKS.out.keep0 hf2)
  have HF2 := Lib.hid (HF1.out.step hf2 (fun _ h _ => h))
  have hs8 := (tree_data rfl HS.out).2.2
  have hr8 := (tree_data rfl HR.out).2.2
  have hal := allOf_tree HS.out
  have HALL := Lib.hid (kall_any _ src w.heap.size w2 HKS2.out.fils hs8 (tree_data rfl HS.out).1)
  clear hr hkr hf2 HKS _b1 _b2 _o1 _o2
  obtain ⟨N, hN⟩ : ∃ N, allOf (src.map (·.1)) = N := ⟨_, rfl⟩
  rw [hN] at hal HALL
  have HN := Lib.hid hN
  clear hN
  go_wp2_with fail
  refine HALL.out.mono ?_
  rintro e w' ⟨rfl, hw'⟩
  obtain rfl : w2 = w' := hw'.symm
  clear hw'
  have hz2 := HF2.out.size
  obtain ⟨blk, hblk⟩ : ∃ blk : Nat, 1 + pickOf block 64 = blk := ⟨(1 + pickOf block 64).toNat, by have := pickOf_bounds block 64 (by omega); omega⟩
  have hbb : 1 ≤ blk ∧ blk ≤ 64 := by have := pickOf_bounds block 64 (by omega); omega
  have HBR := Lib.hid (kbrought_any _ _ src ref w.heap.size block N w2 (HG.out.keep HF2.out id) HKS2.out.fils HKR.out.fils HS.out HR.out _k1 _k2 (by omega) (by omega) blk hblk)
  have HBB := Lib.hid hbb
  clear hblk hbb _k1 _k2
  go_wp2_with fail
  refine HBR.out.mono ?_
  rintro e w3 ⟨bv, gm, gd, rfl, hv, hrl, hgm, hgd, hmi, hf3⟩
  obtain ⟨R, hR⟩ : ∃ R, recOf (src.map (·.1)) (ref.map (·.1)) blk = R := ⟨_, rfl⟩
  rw [hR] at hv hrl
  obtain ⟨gb, cb, rb, rfl, -, -, -⟩ := hv.row hrl
  have hcl := clear_new (HG.out.keep HF2.out id) (HE.out.keep HF2.out) hgm hgd
  have HP := Lib.hid (replay_good 0 (show planK (ref.map (·.1)) (N : Int) R = .inr (src.map (·.1)) by rw [← hR]; exact plan_good HS.out HR.out HBB.out.1 HBB.out.2 (by rw [HN.out]; exact Int.le_refl _)))
  have HF3 := Lib.hid (HF2.out.step hf3 (fun _ h _ => h))
  have hz3 := hf3.size
  have hrp := preplay_up gm gd w2.heap.size (ref.map (·.1)) (N : Int) 0 gb 0 cb R w3 hmi (by omega) hcl (HG.out.keep HF3.out id) (HE.out.keep HF3.out) hv.isB
  unfold PReplayP at hrp
  rw [HP.out.1, HP.out.2.1, HP.out.2.2, if_neg (by omega), if_neg (by omega), decide_eq_false (by omega)] at hrp
  have HRP := Lib.hid hrp
  have HKS3 := Lib.hid (HKS2.out.keep0 hf3)
  have HKR3 := Lib.hid (HKR.out.keep0 hf3)
  have HHD := Lib.hid (held_mirAt hmi)
  have HV := Lib.hid hv
  have HRR := Lib.hid hR
  clear hv hrp hmi hf3 hR HKS2 HKR
  go_wp2_with fail
  refine HRP.out.mono ?_
  rintro e w4 ⟨rfl, hmi4, hf4⟩
  have HKS4 := Lib.hid (HKS3.out.held hf4 HHD.out)
  have HKR4 := Lib.hid (HKR3.out.held hf4 HHD.out)
  have HV4 := Lib.hid (HV.out.keep hf4 (HHD.out.vec HV.out (by decide) (by decide)))
  have HF4 := Lib.hid (HF3.out.step hf4 (fun b hb hl => show False by rcases hb with rfl | rfl <;> omega))
  have HH := Lib.hid (khas_any gm gd w2.heap.size (src.map (·.1)) (N : Int) _ src w.heap.size w4 hmi4 HKS4.out.fils hs8)
  have HHD4 := Lib.hid (held_mir hmi4.mir)
  have hz4 := hf4.size
  clear hmi4 hf4 HKS3 HKR3 HV HF3 HRP
  go_wp2_with fail
  refine HH.out.mono ?_
  rintro e w5 ⟨b, rfl, hb, -, hf5⟩
  obtain rfl : b = true := hb.2 rfl
  have HKS5 := Lib.hid (HKS4.out.held hf5 HHD4.out)
  have HKR5 := Lib.hid (HKR4.out.held hf5 HHD4.out)
  have HV5 := Lib.hid (HV4.out.keep hf5 (HHD4.out.vec HV4.out (by decide) (by decide)))
  have HF5 := Lib.hid (HF4.out.step hf5 (fun b hb hl => show False by subst hb; omega))
  have hz5 := hf5.size
  have HRE := Lib.hid (newErr_none HS.out (show (0 : Int) ≤ 4000 by omega) (by omega))
  have HNW := Lib.hid (pnew_any _ src w.heap.size 4000 w5 (HG.out.keep HF5.out id) HKS5.out.fils (fun p hp => by have := (tree_data rfl HS.out).2.1 p hp; omega) (fun p hp => by have := (tree_data rfl HS.out).1 p hp; omega) (by omega))
  rw [show (newErr (src.map (·.1)) 4000).k = 0 by rw [HRE.out]; rfl, show (newErr (src.map (·.1)) 4000).name = ByteArray.empty by rw [HRE.out]; rfl] at HNW
  clear hb hf5 HKS4 HKR4 HV4 HF4 HH HP HHD HHD4
  go_wp2_with fail
  refine HNW.out.mono ?_
  rintro e w6 ⟨p, rfl, hf6, hnp⟩
  obtain ⟨gm2, gd2, rfl, hgm2, hgd2, hmi6⟩ := hnp.1 HRE.out
  have hcl2 := clear_new (HG.out.keep HF5.out id) (HE.out.keep HF5.out) hgm2 hgd2
  have HKS6 := Lib.hid (HKS5.out.keep0 hf6)
  have HKR6 := Lib.hid (HKR5.out.keep0 hf6)
  have HV6 := Lib.hid (HV5.out.keep hf6 (fun _ _ h => h))
  have HF6 := Lib.hid (HF5.out.step hf6 (fun _ h _ => h))
  have HMI6 := Lib.hid hmi6
  have HCL2 := Lib.hid hcl2
  have hz6 := hf6.size
  clear hnp hf6 hmi6 hcl2 HKS5 HKR5 HV5 HF5 HNW
  go_wp2_with fail
  go_loopw [22, 23] (fun ov iv wr => ∃ k : Nat, k ≤ src.length ∧ k ≤ ref.length ∧ ov = .bool (othF (src.map (·.1)) (ref.map (·.1)) k) ∧ iv = .int .i64 k ∧ Fr (fun _ => False) w6 wr) (fun _ iv _ => src.length - (intOf iv).toNat)
  case atStart => exact ⟨0, Nat.zero_le _, Nat.zero_le _, by rw [othF_zero, List.length_map, List.length_map]; congr 1; rw [Bool.eq_iff_iff]; simp; omega, rfl, Fr.refl _ _⟩
  case round =>
    obtain ⟨k, hk1, hk2, rfl, rfl, hfr⟩ := hrel
    have HFR := Lib.hid hfr
    by_cases hlt : k < src.length ∧ k < ref.length
    · obtain ⟨l1, l2⟩ := hlt
      have hsu := othF_succ (src.map (·.1)) (ref.map (·.1)) k (by simpa using l1) (by simpa using l2)
      rw [List.getElem_map, List.getElem_map] at hsu
      obtain ⟨g, cap, hq, e0, e1, -⟩ := (HKS6.out.keep0 hfr).fils.get k l1
      simp only [Value.slice.injEq, true_and] at hq
      obtain ⟨rfl, rfl⟩ := hq
      obtain ⟨g2, cap2, hq2, f0, f1, -⟩ := (HKR6.out.keep0 hfr).fils.get k l2
      simp only [Value.slice.injEq, true_and] at hq2
      obtain ⟨rfl, rfl⟩ := hq2
      obtain ⟨da, dc, hdq, -⟩ := (HKS6.out.data src[k] (List.getElem_mem _)).shape
      obtain ⟨da2, dc2, hdq2, -⟩ := (HKR6.out.data ref[k] (List.getElem_mem _)).shape
      rw [hdq] at e1
      rw [hdq2] at f1
      have HSU := Lib.hid hsu
      clear hsu hfr hdq hdq2
      generalize src[k].1 = p1 at *
      generalize ref[k].1 = p2 at *
      obtain ⟨nm, dt⟩ := p1
      obtain ⟨nm2, dt2⟩ := p2
      dsimp only at e0 e1 f0 f1 HSU
      cases ho : othF (src.map (·.1)) (ref.map (·.1)) k with
      | true =>
        have HN := Lib.hid (show othF (src.map (·.1)) (ref.map (·.1)) (k + 1) = true by rw [HSU.out, ho]; rfl)
        clear ho
        go_wp2_with fail
        go_quiet (fail)
        go_wp2_with fail
        exact ⟨⟨k + 1, by omega, by omega, by rw [HN.out], by go_num, HFR.out.drewN _⟩, by simp [intOf]; omega⟩
      | false =>
        by_cases hnm : nm = nm2
        · subst hnm
          by_cases hsz : dt.length = dt2.length
          · have HN := Lib.hid (show othF (src.map (·.1)) (ref.map (·.1)) (k + 1) = false by rw [HSU.out, ho]; simp [hsz])
            have z1 : ((dt.length : Int) == (dt2.length : Int)) = true := by simp; omega
            have z2 : ((dt.length : Int) != (dt2.length : Int)) = false := by simp; omega
            clear ho hsz
            go_wp2_with fail
            go_quiet (fail)
            go_wp2_with fail
            exact ⟨⟨k + 1, by omega, by omega, by rw [HN.out], by go_num, HFR.out.drewN _⟩, by simp [intOf]; omega⟩
          · have HN := Lib.hid (show othF (src.map (·.1)) (ref.map (·.1)) (k + 1) = true by rw [HSU.out, ho]; simp [hsz])
            have z1 : ((dt.length : Int) == (dt2.length : Int)) = false := by simp; omega
            have z2 : ((dt.length : Int) != (dt2.length : Int)) = true := by simp; omega
            clear ho hsz
            go_wp2_with fail
            go_quiet (fail)
            go_wp2_with fail
            exact ⟨⟨k + 1, by omega, by omega, by rw [HN.out], by go_num, HFR.out.drewN _⟩, by simp [intOf]; omega⟩
        · have HN := Lib.hid (show othF (src.map (·.1)) (ref.map (·.1)) (k + 1) = true by rw [HSU.out, ho]; simp [hnm])
          have z1 : (nm == nm2) = false := by simpa using hnm
          have z2 : (nm != nm2) = true := by simpa using hnm
          clear ho hnm
          go_wp2_with fail
          go_quiet (fail)
          go_wp2_with fail
          exact ⟨⟨k + 1, by omega, by omega, by rw [HN.out], by go_num, HFR.out.drewN _⟩, by simp [intOf]; omega⟩
    · have hd : (decide ((k : Int) < (src.length : Int)) && decide ((k : Int) < (ref.length : Int))) = false := by simp; omega
      have hex : ∃ o : Bool, othF (src.map (·.1)) (ref.map (·.1)) k = o ∧ (o = true → difN (src.map (·.1)) ((ref.map (·.1)).map entOf) ≠ none) := ⟨_, rfl, fun h e => othF_ne h (difN_none _ _ e)⟩
      obtain ⟨o, ho, hoo⟩ := hex
      rw [ho]
      have HOO := Lib.hid hoo
      have HKS7 := Lib.hid (HKS6.out.keep0 hfr)
      have HKR7 := Lib.hid (HKR6.out.keep0 hfr)
      have HV7 := Lib.hid (HV6.out.keep hfr (fun _ _ h => h))
      have HMI7 := Lib.hid (HMI6.out.keep0 hfr)
      have HF7 := Lib.hid (HF6.out.step hfr (fun _ h _ => h))
      have hz7 := hfr.size
      have HSM := Lib.hid (ksame_any _ _ src ref w.heap.size w.heap.size wr HKS7.out.fils HKR7.out.fils hs8 hr8)
      clear ho hoo hfr HKS6 HKR6 HV6 HMI6 HF6 HFR
      have hcase : (decide ((k : Int) < (src.length : Int)) = true ∧ decide ((k : Int) < (ref.length : Int)) = false) ∨ decide ((k : Int) < (src.length : Int)) = false := by
        by_cases l1 : k < src.length
        · have l2 : ¬ k < ref.length := fun h => hlt ⟨l1, h⟩
          exact .inl ⟨by simpa using l1, by simpa using l2⟩
        · exact .inr (by simpa using l1)
      rcases hcase with ⟨d1, d2⟩ | d1
      all_goals
        go_wp2_with fail
      all_goals
        refine HSM.out.mono ?_
        rintro e w8 ⟨al, rfl, hal2, hf8⟩
        have HAL := Lib.hid hal2
        have HKS8 := Lib.hid (HKS7.out.keep0 hf8)
        have HF8 := Lib.hid (HF7.out.step hf8 (fun _ h _ => h))
        have hmi8 := HMI7.out.keep0 hf8
        have HV8 := Lib.hid (HV7.out.keep hf8 (fun _ _ h => h))
        have hz8 := hf8.size
        have hrp2 := preplay_up gm2 gd2 w5.heap.size (src.map (·.1)) 4000 0 gb 0 cb R w8 hmi8 (by omega) HCL2.out (HG.out.keep HF8.out id) (HE.out.keep HF8.out) HV8.out.isB
        unfold PReplayP at hrp2
        rw [replay_calm] at hrp2
        have hx : ∃ (E : Err) (T : List Fil), replayE (src.map (·.1)) 4000 R 0 = E ∧ replayT (src.map (·.1)) 4000 R 0 = T ∧ (o = true → E.k = 9 ∧ T = src.map (·.1)) ∧ (al = true → o = false → E.k = 0 ∧ T = src.map (·.1)) := by
          refine ⟨_, _, rfl, rfl, fun h => ?_, fun h1 h2 => ?_⟩
          · obtain ⟨nm, hnm⟩ := Option.ne_none_iff_exists'.1 (HOO.out h)
            have hb := replay_bad 0 (show planK (src.map (·.1)) 4000 R = .inl (.file ⟨nm.toArray⟩ 9) by rw [← HRR.out]; exact plan_basis HS.out HR.out HBB.out.1 HBB.out.2 4000 hnm)
            rw [hb.1, hb.2.1]
            exact ⟨rfl, rfl⟩
          · have he2 := HAL.out.1 h1
            have hpg := plan_good (room := 4000) HS.out HS.out HBB.out.1 HBB.out.2 (by have := allOf_tree HS.out; omega)
            have hrr := HRR.out
            rw [← he2] at hrr
            rw [hrr] at hpg
            have hb := replay_good 0 hpg
            rw [hb.1, hb.2.1, if_neg (by omega), if_neg (by omega)]
            exact ⟨rfl, rfl⟩
        obtain ⟨E, T, hE, hT, hx1, hx2⟩ := hx
        rw [hE, hT] at hrp2
        have HRP2 := Lib.hid hrp2
        have HX1 := Lib.hid hx1
        have HX2 := Lib.hid hx2
        have HHD2 := Lib.hid (held_mirAt hmi8)
        clear hrp2 hx1 hx2 hE hT hmi8 hf8 hal2 HSM HKS7 HKR7 HV7 HMI7 HF7
        go_wp2_with fail
        refine HRP2.out.mono ?_
        rintro e w9 ⟨rfl, hmi9, hf9⟩
        have HKS9 := Lib.hid (HKS8.out.held hf9 HHD2.out)
        have HF9 := Lib.hid (HF8.out.step hf9 (fun b hb hl => show False by rcases hb with rfl | rfl <;> omega))
        have HH9 := Lib.hid (khas_any gm2 gd2 w5.heap.size T 4000 _ src w.heap.size w9 hmi9 HKS9.out.fils hs8)
        have hz9 := hf9.size
        clear hmi9 hf9 HRP2 HKS8 HF8 HV8
        go_wp2_with fail
        refine HH9.out.mono ?_
        rintro e w10 ⟨b10, rfl, hb10, -, hf10⟩
        have HF10 := Lib.hid (HF9.out.step hf10 (fun b hb hl => show False by subst hb; omega))
        have HB10 := Lib.hid hb10
        clear hf10 hb10 HH9 HF9
        cases o with
        | true =>
          have hk9 := (HX1.out rfl).1
          have hb9 : b10 = true := HB10.out.2 (HX1.out rfl).2
          subst hb9
          have z1 : (E.k == 9) = true := by rw [hk9]; rfl
          go_wp2_with fail
          go_ret
          exact ⟨rfl, HF10.out⟩
        | false =>
          cases al with
          | true =>
            have hk0 := (HX2.out rfl rfl).1
            have hb9 : b10 = true := HB10.out.2 (HX2.out rfl rfl).2
            subst hb9
            have z1 : (E.k == 0) = true := by rw [hk0]; rfl
            go_wp2_with fail
            go_ret
            exact ⟨rfl, HF10.out⟩
          | false =>
            go_wp2_with fail
            go_ret
            exact ⟨rfl, HF10.out⟩
end Go.Proofs.YtlcdgbhigfgehabGreatDoor
/- What every card of this seat wants: closed facts, and what the listed variable errors.errorType gives a walk (after the guide's worked toy toyas). -/
namespace Go.Proofs.YtlcdgbhigfgehabGreatDoor
open Go.ChangeShapes Go.WideShapes Go.ChangeAt Go.RowKit

theorem cardOwn : ownKnob Tryz.prog.godebug = none := by kernel_rfl
theorem cardLaidOut : laidOutB Tryz.prog = true := by kernel_rfl
theorem cb_et : Tryz.prog.globalNamed "errors.errorType" = some 0 := by kernel_rfl
theorem cb_rt : (Tryz.prog.cutTypes.find? (·.1 == "internal/reflectlite.rtype")).map (·.2) = some 205 := by kernel_rfl
theorem cb_oneRow : ((List.range 311).filter fun t => Tryz.prog.rowNamed t [101, 114, 114, 111, 114]) = [60] := by kernel_rfl
theorem cb_size : Tryz.prog.types.size = 311 := by kernel_rfl
theorem cb_handle : typeHandle Tryz.prog 60 = .pointer (some ⟨2, 60, none⟩) := by kernel_rfl
theorem handle_of_met {W : World} {l : List (String × DataW Unit)} (hx : ("errors.errorType", Rows.laid_errors_errorType) ∈ l) (h' : handlesMet Tryz.prog l W) : ErrType W := by
  obtain ⟨name, u, ty, e1, e2, e3, e4, e5⟩ := h' _ hx
  have en : name = [101, 114, 114, 111, 114] := (Option.some.inj e1).symm
  subst en
  obtain rfl := Option.some.inj (cb_rt.symm.trans e2)
  have hm : ty ∈ (List.range 311).filter fun t => Tryz.prog.rowNamed t [101, 114, 114, 111, 114] := List.mem_filter.2 ⟨List.mem_range.2 (by rw [← cb_size]; exact e3), e4⟩
  rw [cb_oneRow] at hm
  obtain rfl := List.mem_singleton.1 hm
  rw [cb_handle] at e5
  simpa [ErrType] using World.var?_cell cb_et e5 0
theorem handle_of_laid {W : World} (h : laidMetH Tryz.prog [("errors.errorType", Rows.laid_errors_errorType)] W) : ErrType W := by
  have h' : laidMet Tryz.prog [] W ∧ handlesMet Tryz.prog [("errors.errorType", Rows.laid_errors_errorType)] W := h
  exact handle_of_met (List.mem_singleton.2 rfl) h'.2

/-- A world that meets the condition: the settled one, the variable's cell laid. -/
noncomputable def laidWorld (os : Os) : World :=
  let w0 := World.holding Tryz.prog os ⟨#[], #[], []⟩
  { w0 with heap := w0.heap.modify 0 fun
      | .cells _ t frozen => .cells #[.iface 205 (.agg #[.pointer (some ⟨2, 60, none⟩)])] t frozen
      | o => o }
theorem laidWorld_met (os : Os) (args : Array Value) : laidMetH Tryz.prog [("errors.errorType", Rows.laid_errors_errorType)] ((laidWorld os).forCall (fun _ _ => 0) ⟨#[], args, []⟩).memory :=
  laidMetH_of_parts (laidMet_nil _ _) (by kernel_rfl)
end Go.Proofs.YtlcdgbhigfgehabGreatDoor
/- What the cards want whose rows list the form's error too: what it gives a walk; a world that meets the condition. -/
namespace Go.Proofs.YtlcdgbhigfgehabGreatDoor
open Go.ChangeShapes Go.WideShapes Go.ChangeAt Go.RowKit

theorem cb_form : Tryz.prog.globalNamed "mirror/batch.errForm" = some 1 := by kernel_rfl
theorem cb_formT : (Tryz.prog.globals[1]?).map (·.type) = some 60 := by kernel_rfl
theorem handle_of_laidF {W : World} (h : laidMetH Tryz.prog [("errors.errorType", Rows.laid_errors_errorType), ("mirror/batch.errForm", Rows.laid_mirror_batch_errForm)] W) : ErrType W := by
  have h' : laidMet Tryz.prog [("mirror/batch.errForm", Rows.laid_mirror_batch_errForm)] W ∧ handlesMet Tryz.prog [("errors.errorType", Rows.laid_errors_errorType)] W := h
  exact handle_of_met (List.mem_singleton.2 rfl) h'.2
theorem form_of_laid {W : World} (h : laidMetH Tryz.prog [("errors.errorType", Rows.laid_errors_errorType), ("mirror/batch.errForm", Rows.laid_mirror_batch_errForm)] W) : ErrForm W := by
  have h' : laidMet Tryz.prog [("mirror/batch.errForm", Rows.laid_mirror_batch_errForm)] W ∧ handlesMet Tryz.prog [("errors.errorType", Rows.laid_errors_errorType)] W := h
  obtain ⟨ps, ⟨g1, t1, cs1, f1, p1, q1, hg1, ht1, hv1, hd1, _, _⟩, _, _⟩ := h'.1
  obtain rfl := Option.some.inj (cb_form.symm.trans hg1)
  obtain rfl := Option.some.inj (cb_formT.symm.trans ht1)
  obtain ⟨_, u, v, hcs, _, _⟩ := iface_of_trod Tryz.underlying60 hd1
  refine ⟨u, v, ?_⟩
  have := World.var?_cell hg1 hv1 0
  rw [Array.eq_one_of_toList hcs] at this
  simpa using this
/-- A world that meets the condition: the settled one, both variables' cells laid, the error behind all. -/
noncomputable def laidWorldF (os : Os) : World :=
  let w0 := laidWorld os
  { w0 with heap := (w0.heap.modify 1 fun
      | .cells _ t frozen => .cells #[.iface 279 (.pointer (some ⟨w0.heap.size, 0, none⟩))] t frozen
      | o => o).push (.cells #[.string ⟨#[110, 111, 32, 98, 97, 116, 99, 104]⟩] 300) }
theorem laidWorldF_met (os : Os) (args : Array Value) : laidMetH Tryz.prog [("errors.errorType", Rows.laid_errors_errorType), ("mirror/batch.errForm", Rows.laid_mirror_batch_errForm)] ((laidWorldF os).forCall (fun _ _ => 0) ⟨#[], args, []⟩).memory :=
  laidMetH_of_parts (laidMet_of_run' 8 (by kernel_rfl) (by kernel_rfl)) (by kernel_rfl)
end Go.Proofs.YtlcdgbhigfgehabGreatDoor
/- The law Brought's card: its row out of its walk; what the row lists is tied to the program's text. For every input. -/
namespace Go.Proofs.YtlcdgbhigfgehabGreatDoor
open Go.ChangeShapes Go.WideShapes Go.ChangeAt Go.RowKit
open Go.ChangeMaps (open_string shut_string)
set_option linter.unusedVariables false

theorem bulk_strs {H : Type} {x : DataW H} {z : List ByteArray} (h : x = .nil ∧ z = [] ∨ ∃ r, x = .slice (ChangeShapes.strs z) r) : True := trivial

set_option maxRecDepth 100000 in
theorem brought_contract (H : Type) (enc : TypeId × Value → H) (W : World) (base : Nat) (args : Array Value) (ds gs : List (DataW H)) (before : List MemPlace)
    (hval : ∀ (j : Nat) t v, Tryz.f3.params[j]? = some t → args[j]? = some v → Value.okWide Tryz.prog W .any base t v)
    (hW : DataW.Whole enc Tryz.prog Tryz.f3.params.toList Rows.broughtSpec.vars false W args.toList ds gs before) (hL : laidMetH Tryz.prog Rows.broughtRow.laid W) :
    Calls Tryz.prog 3 args W fun e W' => ∃ v, e = .returned v ∧ Rows.broughtSpec.post enc Tryz.prog Tryz.f3 false true false false W args v W' := by
  have hW' := hW
  obtain ⟨p, q, hA0, hV, rfl, hfz, hnd⟩ := hW
  have hA : DataW.TrodAll enc Tryz.prog W 0 (fun _ => true) true Tryz.f3.params.toList args.toList ds p := hA0
  rw [Tryz.params3] at hA hval
  obtain ⟨v0, vs0, d0, ds0, p0, q0, hargs, rfl, rfl, h0, r0⟩ := trodAll_cons hA
  obtain ⟨v1, vs1, d1, ds1, p1, q1, rfl, rfl, rfl, h1, r1⟩ := trodAll_cons r0
  obtain ⟨v2, vs2, d2, ds2, p2, q2, rfl, rfl, rfl, h2, r2⟩ := trodAll_cons r1
  obtain ⟨v3, vs3, d3, ds3, p3, q3, rfl, rfl, rfl, h3, r3⟩ := trodAll_cons r2
  obtain ⟨v4, vs4, d4, ds4, p4, q4, rfl, rfl, rfl, h4, r4⟩ := trodAll_cons r3
  obtain ⟨rfl, rfl, rfl⟩ := trodAll_nil r4
  obtain rfl : args = #[v0, v1, v2, v3, v4] := by cases args; simp_all
  obtain ⟨rfl, rfl⟩ := trodVars_none hV
  have k0 := h0
  have lt0 : ∀ x ∈ p0, x.block < W.heap.size := by obtain ⟨m, hm⟩ := k0; exact DataW.trod_lt m _ _ _ hm
  obtain ⟨a0, len0, cap0, rfl⟩ := okWide_slice Tryz.underlying22 (hval 0 22 v0 rfl rfl)
  obtain ⟨fu0, hu0⟩ := h0
  obtain ⟨z0, w0, s0, l0, b0⟩ := strs_open Tryz.underlying22 Tryz.underlying9 (by kernel_rfl) hu0
  have hb0 : True := bulk_strs b0
  obtain ⟨a1, rfl, rfl, rfl, w1⟩ := open_int Tryz.underlying3 (hval 1 3 v1 rfl rfl) h1
  have k2 := h2
  have lt2 : ∀ x ∈ p2, x.block < W.heap.size := by obtain ⟨m, hm⟩ := k2; exact DataW.trod_lt m _ _ _ hm
  obtain ⟨a2, len2, cap2, rfl⟩ := okWide_slice Tryz.underlying22 (hval 2 22 v2 rfl rfl)
  obtain ⟨fu2, hu2⟩ := h2
  obtain ⟨z2, w2, s2, l2, b2⟩ := strs_open Tryz.underlying22 Tryz.underlying9 (by kernel_rfl) hu2
  have hb2 : True := bulk_strs b2
  obtain ⟨a3, rfl, rfl, rfl, w3⟩ := open_int Tryz.underlying3 (hval 3 3 v3 rfl rfl) h3
  obtain ⟨a4, rfl, rfl, rfl, w4⟩ := open_int Tryz.underlying3 (hval 4 3 v4 rfl rfl) h4
  clear hA0
  have hg := handle_of_laidF hL
  have he := form_of_laid hL
  refine (brought_walk a0 len0 cap0 z0 a1 a2 len2 cap2 z2 a3 a4 W hg he ⟨w0, s0, l0⟩ (bounds_i64 w1).1 (bounds_i64 w1).2 ⟨w2, s2, l2⟩ (bounds_i64 w3).1 (bounds_i64 w3).2 (bounds_i64 w4).1 (bounds_i64 w4).2).mono fun e W' ⟨he, bel⟩ => ?_
  subst he
  have hbel := bel.none_below
  exact ⟨_, rfl, _, _, _, [], _, [], hW', trodAll_mk1 (shut_bool Tryz.underlying4 _), (trodAll_cons_mk (Below.trod cardLaidOut (by kernel_rfl) (of_decide_eq_true (by kernel_rfl)) k0 hbel lt0) (trodAll_cons_mk (shut_int Tryz.underlying3 w1) (trodAll_cons_mk (Below.trod cardLaidOut (by kernel_rfl) (of_decide_eq_true (by kernel_rfl)) k2 hbel lt2) (trodAll_cons_mk (shut_int Tryz.underlying3 w3) (trodAll_cons_mk (shut_int Tryz.underlying3 w4) trodAll_mk0))))), rfl, hbel.frame _, fun h => by cases h⟩

theorem brought_reads (os : Os) {H : Type} (enc : TypeId × Value → H) : ∃ places, DataW.whole enc Tryz.prog ((laidWorldF os).forCall (fun _ _ => 0) ⟨#[], #[.slice none 0 0, .int .i64 0, .slice none 0 0, .int .i64 0, .int .i64 0], []⟩).memory Tryz.f3.params.toList Rows.broughtSpec.vars false (#[.slice none 0 0, .int .i64 0, .slice none 0 0, .int .i64 0, .int .i64 0] : Array Value).toList 8 = some ([.nil, .lit (.int .i64 0), .nil, .lit (.int .i64 0), .lit (.int .i64 0)], [], places) :=
  ⟨[], by kernel_rfl⟩
set_option maxRecDepth 100000 in
theorem brought_lifted (os : Os) (started : os.Started) (H : Type) (enc : TypeId × Value → H) (F : Stop.Interp) :
    ReturnsInLeavingWide { calm := true } Tryz.checked os 3 .any ((OpenSpec.ofChange Rows.broughtSpec).preRow enc Tryz.prog Tryz.f3 Rows.broughtRow.domain false Rows.broughtRow.laid) ((OpenSpec.ofChange Rows.broughtSpec).postWith enc Tryz.prog Tryz.f3 F (outsideKept [.timePasses]) false true false) := by
  obtain ⟨places, hx⟩ := brought_reads os enc
  refine returnsInLeaving_of_row_time (C := Tryz.checked) (s := Rows.broughtSpec) cardOwn started (by kernel_rfl) Tryz.func3
    (witness_row_calm (enc := enc) (C := Tryz.checked) (s := OpenSpec.ofChange Rows.broughtSpec) (laidWorldF os) #[.slice none 0 0, .int .i64 0, .slice none 0 0, .int .i64 0, .int .i64 0] rfl (by kernel_rfl) (by kernel_rfl) (by kernel_rfl)
      (OpenSpec.preRow_of_cond 8 hx (by kernel_rfl) (fun k hk => by cases hk) (by kernel_rfl) (laidWorldF_met os _))) ?_
  intro W base args ds gs before hval hW hL
  exact brought_contract H enc W base args ds gs before hval hW hL
theorem brought_said : Rows.BroughtSaid :=
  OpenClaim.holds_of_wide_leaving_time 3 Tryz.f3 rfl rfl rfl rfl rfl rfl rfl ⟨rfl, rfl, rfl, rfl, rfl⟩ rfl rfl rfl rfl rfl (by kernel_rfl) Tryz.func3 (by kernel_rfl)
    (of_decide_eq_true (by kernel_rfl)) (by unfold Func.isWrapper; first | (rw [if_pos (by decide +kernel)]; kernel_rfl) | (rw [if_neg (by decide +kernel)]; exact ⟨rfl, rfl⟩))
    (fun os started H enc _ F => by rw [OpenClaim.pre_eq_preRow]; exact brought_lifted os started H enc F)
theorem brought_plain (f : FuncId) (fn : Func) (hf : Tryz.pinned.checked.prog.funcNamed "mirror/mirrorkeep.Brought" = some f) (hfn : Tryz.pinned.checked.prog.funcs[f]? = some fn) :
    true = Tryz.pinned.checked.prog.looks [] ∧ ∀ (j : Nat) t, fn.params[j]? = some t → Tryz.pinned.checked.prog.wantsStandIn t = false := by
  obtain rfl : f = 3 := Option.some.inj ((show Tryz.prog.funcNamed "mirror/mirrorkeep.Brought" = some 3 by kernel_rfl).symm.trans hf) |>.symm
  obtain rfl : fn = Tryz.f3 := (Option.some.inj (Tryz.func3.symm.trans hfn)).symm
  refine ⟨by kernel_rfl, fun j t ht => ?_⟩
  rw [Tryz.params3] at ht
  have hm := Array.mem_of_getElem? ht
  simp only [List.mem_toArray, List.mem_cons, List.not_mem_nil, or_false] at hm
  rcases hm with rfl | rfl | rfl | rfl | rfl
  · exact (show Tryz.prog.wantsStandIn 22 = false by kernel_rfl)
  · exact (show Tryz.prog.wantsStandIn 3 = false by kernel_rfl)
  · exact (show Tryz.prog.wantsStandIn 22 = false by kernel_rfl)
  · exact (show Tryz.prog.wantsStandIn 3 = false by kernel_rfl)
  · exact (show Tryz.prog.wantsStandIn 3 = false by kernel_rfl)

theorem brought_card : Rows.BroughtCardSaid :=
  holds_tied_goes_at .later true _ _ _ _ brought_said (by kernel_rfl) brought_row_tie rfl ⟨rfl, rfl⟩ (by kernel_rfl) rfl brought_plain (by kernel_rfl)
#print axioms brought_card
end Go.Proofs.YtlcdgbhigfgehabGreatDoor
