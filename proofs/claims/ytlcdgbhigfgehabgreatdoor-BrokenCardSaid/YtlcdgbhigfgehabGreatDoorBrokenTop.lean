/- Filleds, Broughts, AppendTwo, Broke2, Brokens, CardBase, CardBaseF, BrokenCard in one text. -/
import Derived.Test.YtlcdgbhigfgehabGreatDoorMirAll
import Derived.Test.YtlcdgbhigfgehabGreatDoorKTree
import Derived.BigQuiet
import Derived.Test.YtlcdgbhigfgehabGreatDoorUpTo
import Derived.Laws.Bits64
import Derived.Laws.BitsLemmas
import Derived.Test.YtlcdgbhigfgehabGreatDoorErrors
import Derived.Test.YtlcdgbhigfgehabGreatDoorCards
import Derived.Test.YtlcdgbhigfgehabGreatDoorTie
import Derived.ProofKit
import Derived.OpenShut
import Derived.ShutString
import Derived.ChangeOld
import Derived.LaidHandle
import Derived.Deep.DeepHandedRow
import Derived.SevenTiedAt
import Derived.Deep.DeepWitnessRowRef
import Derived.LaidLaws
/- The law Filled: with a byte of room too few nothing is replayed, and nothing changes. -/
namespace Go.Proofs.YtlcdgbhigfgehabGreatDoor
open Go.RowKit
set_option maxRecDepth 100000

theorem clear_new {w : World} {gm gd : Nat} (hg : ErrType w) (he : ErrForm w) (h1 : w.heap.size ≤ gm) (h2 : w.heap.size ≤ gd) : Clear gm gd := by
  obtain ⟨T, u, hu⟩ := he
  have l1 := World.block_lt_of_cell? w _ hg
  have l2 := World.block_lt_of_cell? w _ hu
  dsimp only at l1 l2
  exact ⟨by omega, by omega, by omega, by omega⟩
theorem allOf_tree {m : List (Fil × Value)} (h : IsTree (m.map (·.1))) : allOf (m.map (·.1)) ≤ 2400 := allOf_le h
set_option maxHeartbeats 4000000 in
theorem filled_walk (a0 : Option Addr) (n0 c0 : Nat) (z0 : List ByteArray) (bits : Int) (a2 : Option Addr) (n2 c2 : Nat) (z2 : List ByteArray) (older : Int) (block : Int) (w : World) (hg : ErrType w) (he : ErrForm w)
    (h0 : StrsAt w a0 n0 z0 ∧ (∀ s ∈ z0, s.size ≤ maxLen) ∧ n0 ≤ maxLen) (_b1 : -9223372036854775808 ≤ bits) (_b2 : bits ≤ 9223372036854775807) (h2 : StrsAt w a2 n2 z2 ∧ (∀ s ∈ z2, s.size ≤ maxLen) ∧ n2 ≤ maxLen) (_o1 : -9223372036854775808 ≤ older) (_o2 : older ≤ 9223372036854775807) (_k1 : -9223372036854775808 ≤ block) (_k2 : block ≤ 9223372036854775807) :
    Calls Tryz.prog 5 #[.slice a0 n0 c0, .int .i64 bits, .slice a2 n2 c2, .int .i64 older, .int .i64 block] w fun e w' => e = .returned (.bool true) ∧ Fr (fun _ => False) w w' := by
  have H0 := Lib.hid h0
  have H2 := Lib.hid h2
  have HE := Lib.hid he
  have HG := Lib.hid hg
  clear h0 h2 he hg
  go_enter Tryz.func5, Tryz.ntmps5
  go_wp2_with fail
  refine (ktree_any a0 n0 c0 z0 bits w H0.out.1 H0.out.2.1 H0.out.2.2 _b1 _b2).mono ?_
  rintro e w1 ⟨v, src, rfl, hs, hks, hf1⟩
  obtain ⟨sa, sc, rfl, -⟩ := hks.vec.shape
  have HS := Lib.hid hs
  have HKS := Lib.hid hks
  have HF1 := Lib.hid hf1
  clear hs hks hf1
  go_wp2_with fail
  refine (ktree_any a2 n2 c2 z2 older w1 (H2.out.1.keep HF1.out) H2.out.2.1 H2.out.2.2 _o1 _o2).mono ?_
  rintro e w2 ⟨v, ref, rfl, hr, hkr, hf2⟩
  obtain ⟨ra, rc, rfl, -⟩ := hkr.vec.shape
  have HR := Lib.hid hr
  have hz1 := HF1.out.size
  have HKR := Lib.hid (hkr.lift hz1)
  have HKS2 := Lib.hid (HKS.out.keep0 hf2)
  have HF2 := Lib.hid (HF1.out.step hf2 (fun _ h _ => h))
  have hs8 := (tree_data rfl HS.out).2.2
  have hr8 := (tree_data rfl HR.out).2.2
  have hal := allOf_tree HS.out
  have HALL := Lib.hid (kall_any _ src w.heap.size w2 HKS2.out.fils hs8 (tree_data rfl HS.out).1)
  clear hr hkr hf2 HKS _b1 _b2 _o1 _o2
  obtain ⟨N, hN⟩ : ∃ N, allOf (src.map (·.1)) = N := ⟨_, rfl⟩
  rw [hN] at hal HALL
  have HN := Lib.hid hN
  clear hN
  go_wp2_with fail
  refine HALL.out.mono ?_
  rintro e w' ⟨rfl, hw'⟩
  obtain rfl : w2 = w' := hw'.symm
  clear hw'
  have hz2 := HF2.out.size
  rcases Nat.eq_zero_or_pos N with rfl | hpos
  · have HRE := Lib.hid (newErr_none HR.out (Int.le_refl 0) (by omega))
    have HNW := Lib.hid (pnew_any _ ref w.heap.size 0 w2 (HG.out.keep HF2.out id) HKR.out.fils (fun p hp => by have := (tree_data rfl HR.out).2.1 p hp; omega) (fun p hp => by have := (tree_data rfl HR.out).1 p hp; omega) (by omega))
    rw [show (newErr (ref.map (·.1)) 0).k = 0 by rw [HRE.out]; rfl, show (newErr (ref.map (·.1)) 0).name = ByteArray.empty by rw [HRE.out]; rfl] at HNW
    go_wp2_with fail
    refine HNW.out.mono ?_
    rintro e w3 ⟨p, rfl, hf3, hnp⟩
    obtain ⟨gm, gd, rfl, hgm, hgd, hmi⟩ := hnp.1 HRE.out
    have HF3 := Lib.hid hf3
    clear hnp hmi hf3
    go_wp2_with fail
    go_ret
    exact ⟨rfl, HF2.out.step HF3.out (fun _ h _ => h)⟩
  · have z1 : ((N : Int) == 0) = false := by simp; omega
    have hw : wrap64 ((N : Int) - 1) = (N : Int) - 1 := IntWalk.wrap64_in _ (by omega)
    obtain ⟨blk, hblk⟩ : ∃ blk : Nat, 1 + pickOf block 64 = blk := ⟨(1 + pickOf block 64).toNat, by have := pickOf_bounds block 64 (by omega); omega⟩
    have hbb : 1 ≤ blk ∧ blk ≤ 64 := by have := pickOf_bounds block 64 (by omega); omega
    have HBR := Lib.hid (kbrought_any _ _ src ref w.heap.size block ((N : Int) - 1) w2 (HG.out.keep HF2.out id) HKS2.out.fils HKR.out.fils HS.out HR.out _k1 _k2 (by omega) (by omega) blk hblk)
    have HBB := Lib.hid hbb
    clear hblk hbb _k1 _k2
    go_wp2_with fail
    refine HBR.out.mono ?_
    rintro e w3 ⟨bv, gm, gd, rfl, hv, hrl, hgm, hgd, hmi, hf3⟩
    obtain ⟨R, hR⟩ : ∃ R, recOf (src.map (·.1)) (ref.map (·.1)) blk = R := ⟨_, rfl⟩
    rw [hR] at hv hrl
    obtain ⟨gb, cb, rb, rfl, -, -, -⟩ := hv.row hrl
    have hcl := clear_new (HG.out.keep HF2.out id) (HE.out.keep HF2.out) hgm hgd
    have HP := Lib.hid (replay_bad 0 (show planK (ref.map (·.1)) ((N : Int) - 1) R = .inl (.kind 10) by rw [← hR]; exact plan_tight HS.out HR.out HBB.out.1 HBB.out.2 (by rw [HN.out]; omega)))
    have HF3 := Lib.hid (HF2.out.step hf3 (fun _ h _ => h))
    have hz3 := hf3.size
    have hrp := preplay_up gm gd w2.heap.size (ref.map (·.1)) ((N : Int) - 1) 0 gb 0 cb R w3 hmi (by omega) hcl (HG.out.keep HF3.out id) (HE.out.keep HF3.out) hv.isB
    unfold PReplayP at hrp
    rw [HP.out.1, HP.out.2.1, HP.out.2.2] at hrp
    have HRP := Lib.hid hrp
    have HKR3 := Lib.hid ((HKR.out.keep0 hf3).fils)
    have HHB := Lib.hid (fun w4 (k : Fr (fun b => b = gm ∨ b = gd) w3 w4) => HKR3.out.held k (fun b hb => by
      rcases hb with rfl | rfl
      · exact .inl ⟨_, hmi.mir⟩
      · exact .inr hmi.disk.own))
    have HRR := Lib.hid hR
    clear hv hrp hmi hf3 hR
    go_wp2_with fail
    refine HRP.out.mono ?_
    rintro e w4 ⟨rfl, hmi4, hf4⟩
    have HH := Lib.hid (khas_any gm gd w2.heap.size (ref.map (·.1)) ((N : Int) - 1) _ ref w.heap.size w4 hmi4 (HHB.out _ hf4) hr8)
    have HF4 := Lib.hid hf4
    clear hmi4 hf4
    go_wp2_with fail
    refine HH.out.mono ?_
    rintro e w5 ⟨b, rfl, hb, -, hf5⟩
    obtain rfl : b = true := hb.2 rfl
    have HF5 := Lib.hid hf5
    clear hb hf5
    go_wp2_with fail
    go_ret
    exact ⟨rfl, (HF3.out.step HF4.out (fun b hb hl => by rcases hb with rfl | rfl <;> omega)).step HF5.out (fun b hb hl => by subst hb; omega)⟩
end Go.Proofs.YtlcdgbhigfgehabGreatDoor
/- The law Brought: replayed over the older tree a batch leaves the newer one, with just enough room; over any other tree it changes nothing. -/
namespace Go.Proofs.YtlcdgbhigfgehabGreatDoor
open Go.RowKit
set_option maxRecDepth 100000

/-- Do names or sizes differ among the first k? -/
def othF (l m : List Fil) (k : Nat) : Bool := decide (l.length ≠ m.length) || ((l.zip m).take k).any fun p => decide (p.1.name ≠ p.2.name) || decide (p.1.data.length ≠ p.2.data.length)
theorem othF_zero (l m : List Fil) : othF l m 0 = decide (l.length ≠ m.length) := by simp [othF]
theorem othF_succ (l m : List Fil) (k : Nat) (h1 : k < l.length) (h2 : k < m.length) : othF l m (k + 1) = (othF l m k || (decide (l[k].name ≠ m[k].name) || decide (l[k].data.length ≠ m[k].data.length))) := by
  unfold othF
  rw [List.take_succ_eq_append_getElem (by simp; omega), List.any_append, Bool.or_assoc]
  simp
theorem othF_ne {l m : List Fil} {k : Nat} (h : othF l m k = true) : l.map entOf ≠ m.map entOf := by
  intro he
  unfold othF at h
  have hl : l.length = m.length := by simpa using congrArg List.length he
  rw [Bool.or_eq_true] at h
  rcases h with h | h
  · simp [hl] at h
  · obtain ⟨p, hp, hq⟩ := List.any_eq_true.1 h
    have hp2 := List.mem_of_mem_take hp
    obtain ⟨i, hi, rfl⟩ := List.mem_iff_getElem.1 hp2
    simp only [List.length_zip] at hi
    have h3 := congrArg (·[i]?) he
    simp only [List.getElem?_map] at h3
    rw [List.getElem?_eq_getElem (by omega), List.getElem?_eq_getElem (by omega)] at h3
    simp only [Option.map_some, Option.some.injEq, entOf, Ent.mk.injEq] at h3
    simp only [List.getElem_zip, Bool.or_eq_true, decide_eq_true_eq] at hq
    rcases hq with hq | hq
    · exact hq h3.1
    · exact hq h3.2.1
theorem replay_calm {tr : List Fil} {room : Int} {b : List UInt8} : replayD tr room b 0 = false := by
  unfold replayD
  split
  · rfl
  · simp
theorem replayT_tree {tr : List Fil} {room : Int} {b : List UInt8} {crash : Int} (h : IsTree tr) : IsTree (replayT tr room b crash) := by
  unfold replayT
  split
  · exact h
  · rename_i l hl
    split
    · exact h
    · exact plan_tree hl
theorem held_mirAt {w : World} {B gm gd : Nat} {tr : List Fil} {room : Int} {down : Bool} (h : MirAt w B gm gd tr room down) : Held w (fun b => b = gm ∨ b = gd) := fun b hb => by
  rcases hb with rfl | rfl
  · exact .inl ⟨_, h.mir⟩
  · exact .inr h.disk.own
set_option maxHeartbeats 4000000 in
theorem brought_walk (a0 : Option Addr) (n0 c0 : Nat) (z0 : List ByteArray) (bits : Int) (a2 : Option Addr) (n2 c2 : Nat) (z2 : List ByteArray) (older : Int) (block : Int) (w : World) (hg : ErrType w) (he : ErrForm w)
    (h0 : StrsAt w a0 n0 z0 ∧ (∀ s ∈ z0, s.size ≤ maxLen) ∧ n0 ≤ maxLen) (_b1 : -9223372036854775808 ≤ bits) (_b2 : bits ≤ 9223372036854775807) (h2 : StrsAt w a2 n2 z2 ∧ (∀ s ∈ z2, s.size ≤ maxLen) ∧ n2 ≤ maxLen) (_o1 : -9223372036854775808 ≤ older) (_o2 : older ≤ 9223372036854775807) (_k1 : -9223372036854775808 ≤ block) (_k2 : block ≤ 9223372036854775807) :
    Calls Tryz.prog 3 #[.slice a0 n0 c0, .int .i64 bits, .slice a2 n2 c2, .int .i64 older, .int .i64 block] w fun e w' => e = .returned (.bool true) ∧ Fr (fun _ => False) w w' := by
  have H0 := Lib.hid h0
  have H2 := Lib.hid h2
  have HE := Lib.hid he
  have HG := Lib.hid hg
  clear h0 h2 he hg
  go_enter Tryz.func3, Tryz.ntmps3
  go_wp2_with fail
  refine (ktree_any a0 n0 c0 z0 bits w H0.out.1 H0.out.2.1 H0.out.2.2 _b1 _b2).mono ?_
  rintro e w1 ⟨v, src, rfl, hs, hks, hf1⟩
  obtain ⟨sa, sc, rfl, -⟩ := hks.vec.shape
  have HS := Lib.hid hs
  have HKS := Lib.hid hks
  have HF1 := Lib.hid hf1
  clear hs hks hf1
  go_wp2_with fail
  refine (ktree_any a2 n2 c2 z2 older w1 (H2.out.1.keep HF1.out) H2.out.2.1 H2.out.2.2 _o1 _o2).mono ?_
  rintro e w2 ⟨v, ref, rfl, hr, hkr, hf2⟩
  obtain ⟨ra, rc, rfl, -⟩ := hkr.vec.shape
  have HR := Lib.hid hr
  have hz1 := HF1.out.size
  have HKR := Lib.hid (hkr.lift hz1)
  have HKS2 := Lib.hid (HKS.out.keep0 hf2)
  have HF2 := Lib.hid (HF1.out.step hf2 (fun _ h _ => h))
  have hs8 := (tree_data rfl HS.out).2.2
  have hr8 := (tree_data rfl HR.out).2.2
  have hal := allOf_tree HS.out
  have HALL := Lib.hid (kall_any _ src w.heap.size w2 HKS2.out.fils hs8 (tree_data rfl HS.out).1)
  clear hr hkr hf2 HKS _b1 _b2 _o1 _o2
  obtain ⟨N, hN⟩ : ∃ N, allOf (src.map (·.1)) = N := ⟨_, rfl⟩
  rw [hN] at hal HALL
  have HN := Lib.hid hN
  clear hN
  go_wp2_with fail
  refine HALL.out.mono ?_
  rintro e w' ⟨rfl, hw'⟩
  obtain rfl : w2 = w' := hw'.symm
  clear hw'
  have hz2 := HF2.out.size
  obtain ⟨blk, hblk⟩ : ∃ blk : Nat, 1 + pickOf block 64 = blk := ⟨(1 + pickOf block 64).toNat, by have := pickOf_bounds block 64 (by omega); omega⟩
  have hbb : 1 ≤ blk ∧ blk ≤ 64 := by have := pickOf_bounds block 64 (by omega); omega
  have HBR := Lib.hid (kbrought_any _ _ src ref w.heap.size block N w2 (HG.out.keep HF2.out id) HKS2.out.fils HKR.out.fils HS.out HR.out _k1 _k2 (by omega) (by omega) blk hblk)
  have HBB := Lib.hid hbb
  clear hblk hbb _k1 _k2
  go_wp2_with fail
  refine HBR.out.mono ?_
  rintro e w3 ⟨bv, gm, gd, rfl, hv, hrl, hgm, hgd, hmi, hf3⟩
  obtain ⟨R, hR⟩ : ∃ R, recOf (src.map (·.1)) (ref.map (·.1)) blk = R := ⟨_, rfl⟩
  rw [hR] at hv hrl
  obtain ⟨gb, cb, rb, rfl, -, -, -⟩ := hv.row hrl
  have hcl := clear_new (HG.out.keep HF2.out id) (HE.out.keep HF2.out) hgm hgd
  have HP := Lib.hid (replay_good 0 (show planK (ref.map (·.1)) (N : Int) R = .inr (src.map (·.1)) by rw [← hR]; exact plan_good HS.out HR.out HBB.out.1 HBB.out.2 (by rw [HN.out]; exact Int.le_refl _)))
  have HF3 := Lib.hid (HF2.out.step hf3 (fun _ h _ => h))
  have hz3 := hf3.size
  have hrp := preplay_up gm gd w2.heap.size (ref.map (·.1)) (N : Int) 0 gb 0 cb R w3 hmi (by omega) hcl (HG.out.keep HF3.out id) (HE.out.keep HF3.out) hv.isB
  unfold PReplayP at hrp
  rw [HP.out.1, HP.out.2.1, HP.out.2.2, if_neg (by omega), if_neg (by omega), decide_eq_false (by omega)] at hrp
  have HRP := Lib.hid hrp
  have HKS3 := Lib.hid (HKS2.out.keep0 hf3)
  have HKR3 := Lib.hid (HKR.out.keep0 hf3)
  have HHD := Lib.hid (held_mirAt hmi)
  have HV := Lib.hid hv
  have HRR := Lib.hid hR
  clear hv hrp hmi hf3 hR HKS2 HKR
  go_wp2_with fail
  refine HRP.out.mono ?_
  rintro e w4 ⟨rfl, hmi4, hf4⟩
  have HKS4 := Lib.hid (HKS3.out.held hf4 HHD.out)
  have HKR4 := Lib.hid (HKR3.out.held hf4 HHD.out)
  have HV4 := Lib.hid (HV.out.keep hf4 (HHD.out.vec HV.out (by decide) (by decide)))
  have HF4 := Lib.hid (HF3.out.step hf4 (fun b hb hl => show False by rcases hb with rfl | rfl <;> omega))
  have HH := Lib.hid (khas_any gm gd w2.heap.size (src.map (·.1)) (N : Int) _ src w.heap.size w4 hmi4 HKS4.out.fils hs8)
  have HHD4 := Lib.hid (held_mir hmi4.mir)
  have hz4 := hf4.size
  clear hmi4 hf4 HKS3 HKR3 HV HF3 HRP
  go_wp2_with fail
  refine HH.out.mono ?_
  rintro e w5 ⟨b, rfl, hb, -, hf5⟩
  obtain rfl : b = true := hb.2 rfl
  have HKS5 := Lib.hid (HKS4.out.held hf5 HHD4.out)
  have HKR5 := Lib.hid (HKR4.out.held hf5 HHD4.out)
  have HV5 := Lib.hid (HV4.out.keep hf5 (HHD4.out.vec HV4.out (by decide) (by decide)))
  have HF5 := Lib.hid (HF4.out.step hf5 (fun b hb hl => show False by subst hb; omega))
  have hz5 := hf5.size
  have HRE := Lib.hid (newErr_none HS.out (show (0 : Int) ≤ 4000 by omega) (by omega))
  have HNW := Lib.hid (pnew_any _ src w.heap.size 4000 w5 (HG.out.keep HF5.out id) HKS5.out.fils (fun p hp => by have := (tree_data rfl HS.out).2.1 p hp; omega) (fun p hp => by have := (tree_data rfl HS.out).1 p hp; omega) (by omega))
  rw [show (newErr (src.map (·.1)) 4000).k = 0 by rw [HRE.out]; rfl, show (newErr (src.map (·.1)) 4000).name = ByteArray.empty by rw [HRE.out]; rfl] at HNW
  clear hb hf5 HKS4 HKR4 HV4 HF4 HH HP HHD HHD4
  go_wp2_with fail
  refine HNW.out.mono ?_
  rintro e w6 ⟨p, rfl, hf6, hnp⟩
  obtain ⟨gm2, gd2, rfl, hgm2, hgd2, hmi6⟩ := hnp.1 HRE.out
  have hcl2 := clear_new (HG.out.keep HF5.out id) (HE.out.keep HF5.out) hgm2 hgd2
  have HKS6 := Lib.hid (HKS5.out.keep0 hf6)
  have HKR6 := Lib.hid (HKR5.out.keep0 hf6)
  have HV6 := Lib.hid (HV5.out.keep hf6 (fun _ _ h => h))
  have HF6 := Lib.hid (HF5.out.step hf6 (fun _ h _ => h))
  have HMI6 := Lib.hid hmi6
  have HCL2 := Lib.hid hcl2
  have hz6 := hf6.size
  clear hnp hf6 hmi6 hcl2 HKS5 HKR5 HV5 HF5 HNW
  go_wp2_with fail
  go_loopw [22, 23] (fun ov iv wr => ∃ k : Nat, k ≤ src.length ∧ k ≤ ref.length ∧ ov = .bool (othF (src.map (·.1)) (ref.map (·.1)) k) ∧ iv = .int .i64 k ∧ Fr (fun _ => False) w6 wr) (fun _ iv _ => src.length - (intOf iv).toNat)
  case atStart => exact ⟨0, Nat.zero_le _, Nat.zero_le _, by rw [othF_zero, List.length_map, List.length_map]; congr 1; rw [Bool.eq_iff_iff]; simp; omega, rfl, Fr.refl _ _⟩
  case round =>
    obtain ⟨k, hk1, hk2, rfl, rfl, hfr⟩ := hrel
    have HFR := Lib.hid hfr
    by_cases hlt : k < src.length ∧ k < ref.length
    · obtain ⟨l1, l2⟩ := hlt
      have hsu := othF_succ (src.map (·.1)) (ref.map (·.1)) k (by simpa using l1) (by simpa using l2)
      rw [List.getElem_map, List.getElem_map] at hsu
      obtain ⟨g, cap, hq, e0, e1, -⟩ := (HKS6.out.keep0 hfr).fils.get k l1
      simp only [Value.slice.injEq, true_and] at hq
      obtain ⟨rfl, rfl⟩ := hq
      obtain ⟨g2, cap2, hq2, f0, f1, -⟩ := (HKR6.out.keep0 hfr).fils.get k l2
      simp only [Value.slice.injEq, true_and] at hq2
      obtain ⟨rfl, rfl⟩ := hq2
      obtain ⟨da, dc, hdq, -⟩ := (HKS6.out.data src[k] (List.getElem_mem _)).shape
      obtain ⟨da2, dc2, hdq2, -⟩ := (HKR6.out.data ref[k] (List.getElem_mem _)).shape
      rw [hdq] at e1
      rw [hdq2] at f1
      have HSU := Lib.hid hsu
      clear hsu hfr hdq hdq2
      generalize src[k].1 = p1 at *
      generalize ref[k].1 = p2 at *
      obtain ⟨nm, dt⟩ := p1
      obtain ⟨nm2, dt2⟩ := p2
      dsimp only at e0 e1 f0 f1 HSU
      cases ho : othF (src.map (·.1)) (ref.map (·.1)) k with
      | true =>
        have HN := Lib.hid (show othF (src.map (·.1)) (ref.map (·.1)) (k + 1) = true by rw [HSU.out, ho]; rfl)
        clear ho
        go_wp2_with fail
        go_quiet (fail)
        go_wp2_with fail
        exact ⟨⟨k + 1, by omega, by omega, by rw [HN.out], by go_num, HFR.out.drewN _⟩, by simp [intOf]; omega⟩
      | false =>
        by_cases hnm : nm = nm2
        · subst hnm
          by_cases hsz : dt.length = dt2.length
          · have HN := Lib.hid (show othF (src.map (·.1)) (ref.map (·.1)) (k + 1) = false by rw [HSU.out, ho]; simp [hsz])
            have z1 : ((dt.length : Int) == (dt2.length : Int)) = true := by simp; omega
            have z2 : ((dt.length : Int) != (dt2.length : Int)) = false := by simp; omega
            clear ho hsz
            go_wp2_with fail
            go_quiet (fail)
            go_wp2_with fail
            exact ⟨⟨k + 1, by omega, by omega, by rw [HN.out], by go_num, HFR.out.drewN _⟩, by simp [intOf]; omega⟩
          · have HN := Lib.hid (show othF (src.map (·.1)) (ref.map (·.1)) (k + 1) = true by rw [HSU.out, ho]; simp [hsz])
            have z1 : ((dt.length : Int) == (dt2.length : Int)) = false := by simp; omega
            have z2 : ((dt.length : Int) != (dt2.length : Int)) = true := by simp; omega
            clear ho hsz
            go_wp2_with fail
            go_quiet (fail)
            go_wp2_with fail
            exact ⟨⟨k + 1, by omega, by omega, by rw [HN.out], by go_num, HFR.out.drewN _⟩, by simp [intOf]; omega⟩
        · have HN := Lib.hid (show othF (src.map (·.1)) (ref.map (·.1)) (k + 1) = true by rw [HSU.out, ho]; simp [hnm])
          have z1 : (nm == nm2) = false := by simpa using hnm
          have z2 : (nm != nm2) = true := by simpa using hnm
          clear ho hnm
          go_wp2_with fail
          go_quiet (fail)
          go_wp2_with fail
          exact ⟨⟨k + 1, by omega, by omega, by rw [HN.out], by go_num, HFR.out.drewN _⟩, by simp [intOf]; omega⟩
    · have hd : (decide ((k : Int) < (src.length : Int)) && decide ((k : Int) < (ref.length : Int))) = false := by simp; omega
      have hex : ∃ o : Bool, othF (src.map (·.1)) (ref.map (·.1)) k = o ∧ (o = true → difN (src.map (·.1)) ((ref.map (·.1)).map entOf) ≠ none) := ⟨_, rfl, fun h e => othF_ne h (difN_none _ _ e)⟩
      obtain ⟨o, ho, hoo⟩ := hex
      rw [ho]
      have HOO := Lib.hid hoo
      have HKS7 := Lib.hid (HKS6.out.keep0 hfr)
      have HKR7 := Lib.hid (HKR6.out.keep0 hfr)
      have HV7 := Lib.hid (HV6.out.keep hfr (fun _ _ h => h))
      have HMI7 := Lib.hid (HMI6.out.keep0 hfr)
      have HF7 := Lib.hid (HF6.out.step hfr (fun _ h _ => h))
      have hz7 := hfr.size
      have HSM := Lib.hid (ksame_any _ _ src ref w.heap.size w.heap.size wr HKS7.out.fils HKR7.out.fils hs8 hr8)
      clear ho hoo hfr HKS6 HKR6 HV6 HMI6 HF6 HFR
      have hcase : (decide ((k : Int) < (src.length : Int)) = true ∧ decide ((k : Int) < (ref.length : Int)) = false) ∨ decide ((k : Int) < (src.length : Int)) = false := by
        by_cases l1 : k < src.length
        · have l2 : ¬ k < ref.length := fun h => hlt ⟨l1, h⟩
          exact .inl ⟨by simpa using l1, by simpa using l2⟩
        · exact .inr (by simpa using l1)
      rcases hcase with ⟨d1, d2⟩ | d1
      all_goals
        go_wp2_with fail
      all_goals
        refine HSM.out.mono ?_
        rintro e w8 ⟨al, rfl, hal2, hf8⟩
        have HAL := Lib.hid hal2
        have HKS8 := Lib.hid (HKS7.out.keep0 hf8)
        have HF8 := Lib.hid (HF7.out.step hf8 (fun _ h _ => h))
        have hmi8 := HMI7.out.keep0 hf8
        have HV8 := Lib.hid (HV7.out.keep hf8 (fun _ _ h => h))
        have hz8 := hf8.size
        have hrp2 := preplay_up gm2 gd2 w5.heap.size (src.map (·.1)) 4000 0 gb 0 cb R w8 hmi8 (by omega) HCL2.out (HG.out.keep HF8.out id) (HE.out.keep HF8.out) HV8.out.isB
        unfold PReplayP at hrp2
        rw [replay_calm] at hrp2
        have hx : ∃ (E : Err) (T : List Fil), replayE (src.map (·.1)) 4000 R 0 = E ∧ replayT (src.map (·.1)) 4000 R 0 = T ∧ (o = true → E.k = 9 ∧ T = src.map (·.1)) ∧ (al = true → o = false → E.k = 0 ∧ T = src.map (·.1)) := by
          refine ⟨_, _, rfl, rfl, fun h => ?_, fun h1 h2 => ?_⟩
          · obtain ⟨nm, hnm⟩ := Option.ne_none_iff_exists'.1 (HOO.out h)
            have hb := replay_bad 0 (show planK (src.map (·.1)) 4000 R = .inl (.file ⟨nm.toArray⟩ 9) by rw [← HRR.out]; exact plan_basis HS.out HR.out HBB.out.1 HBB.out.2 4000 hnm)
            rw [hb.1, hb.2.1]
            exact ⟨rfl, rfl⟩
          · have he2 := HAL.out.1 h1
            have hpg := plan_good (room := 4000) HS.out HS.out HBB.out.1 HBB.out.2 (by have := allOf_tree HS.out; omega)
            have hrr := HRR.out
            rw [← he2] at hrr
            rw [hrr] at hpg
            have hb := replay_good 0 hpg
            rw [hb.1, hb.2.1, if_neg (by omega), if_neg (by omega)]
            exact ⟨rfl, rfl⟩
        obtain ⟨E, T, hE, hT, hx1, hx2⟩ := hx
        rw [hE, hT] at hrp2
        have HRP2 := Lib.hid hrp2
        have HX1 := Lib.hid hx1
        have HX2 := Lib.hid hx2
        have HHD2 := Lib.hid (held_mirAt hmi8)
        clear hrp2 hx1 hx2 hE hT hmi8 hf8 hal2 HSM HKS7 HKR7 HV7 HMI7 HF7
        go_wp2_with fail
        refine HRP2.out.mono ?_
        rintro e w9 ⟨rfl, hmi9, hf9⟩
        have HKS9 := Lib.hid (HKS8.out.held hf9 HHD2.out)
        have HF9 := Lib.hid (HF8.out.step hf9 (fun b hb hl => show False by rcases hb with rfl | rfl <;> omega))
        have HH9 := Lib.hid (khas_any gm2 gd2 w5.heap.size T 4000 _ src w.heap.size w9 hmi9 HKS9.out.fils hs8)
        have hz9 := hf9.size
        clear hmi9 hf9 HRP2 HKS8 HF8 HV8
        go_wp2_with fail
        refine HH9.out.mono ?_
        rintro e w10 ⟨b10, rfl, hb10, -, hf10⟩
        have HF10 := Lib.hid (HF9.out.step hf10 (fun b hb hl => show False by subst hb; omega))
        have HB10 := Lib.hid hb10
        clear hf10 hb10 HH9 HF9
        cases o with
        | true =>
          have hk9 := (HX1.out rfl).1
          have hb9 : b10 = true := HB10.out.2 (HX1.out rfl).2
          subst hb9
          have z1 : (E.k == 9) = true := by rw [hk9]; rfl
          go_wp2_with fail
          go_ret
          exact ⟨rfl, HF10.out⟩
        | false =>
          cases al with
          | true =>
            have hk0 := (HX2.out rfl rfl).1
            have hb9 : b10 = true := HB10.out.2 (HX2.out rfl rfl).2
            subst hb9
            have z1 : (E.k == 0) = true := by rw [hk0]; rfl
            go_wp2_with fail
            go_ret
            exact ⟨rfl, HF10.out⟩
          | false =>
            go_wp2_with fail
            go_ret
            exact ⟨rfl, HF10.out⟩
end Go.Proofs.YtlcdgbhigfgehabGreatDoor
/- append: what is written; bytes turned and turned back. -/
namespace Go.Proofs.YtlcdgbhigfgehabGreatDoor
open Go.RowKit
set_option maxRecDepth 100000
section
variable {P : Program}
/-- append(v, x..): as run_append_vec; and it's v's own row that is written, or no old block at all. -/
theorem run_append_two (w : World) (B : Nat) (t ty e : TypeId) (i : TypeInfo) (z : Value) (size bytes : Nat) (ht : P.underlying t = some (.slice e)) (hi : P.info? e = some i) (hz : i.zero = some z)
    (hsize : i.size = size) (hby : i.bytes = bytes) (hzs : z.cells.size = size)
    (v : Value) (n : Nat) (xs : List Value) (hown : Vec w B e size v n xs)
    (x : Value) (m : Nat) (news : List Value) (hx : Reads w x m news) (hl : news.length = m * size) (h1 : ∀ u ∈ news, u.oneCell' = true)
    (h63 : n + m ≤ maxLen) (hbytes : (n + m) * bytes ≤ 140737488355328) (hB : B ≤ w.heap.size) :
    ∃ v' w', (Builtin.append_ #[t, t] ty #[v, x]).run P w = .ok v' w' ∧ Vec w' B e size v' (n + m) (xs ++ news) ∧ Fr (fun k => v.ownBlock = some k) w w' ∧
      (v'.ownBlock = v.ownBlock ∨ Fr (fun _ => False) w w') := by
  subst hsize
  subst hby
  have hsmall : n + m ≤ 9223372036854775807 := by simp only [maxLen] at h63; omega
  have hlen : (xs ++ news).length = (n + m) * i.size := by rw [List.length_append, hown.1, hl, Nat.add_mul]
  have grown : ∀ (old : Nat), old < n + m →
      Vec (w.drew.alloc (.cells (xs.toArray ++ news.toArray ++ Builtin.zeroCells z.cells (grownCap w (n + m) old e - (n + m))) e)) B e i.size
        (.slice (some ⟨w.heap.size, 0, none⟩) (n + m) (grownCap w (n + m) old e)) (n + m) (xs ++ news) ∧
      Fr (fun _ => False) w (w.drew.alloc (.cells (xs.toArray ++ news.toArray ++ Builtin.zeroCells z.cells (grownCap w (n + m) old e - (n + m))) e)) := by
    intro old ho
    have hge := grownCap_ge w (n + m) old e
    have hcm : grownCap w (n + m) old e ≤ maxLen := grownCap_le_maxLen w (n + m) old e h63
    have hz0 : (xs ++ news ++ (Builtin.zeroCells z.cells (grownCap w (n + m) old e - (n + m))).toList).length = grownCap w (n + m) old e * i.size := by
      rw [List.length_append, hlen, Array.length_toList, size_zeroCells, hzs, ← Nat.add_mul]
      congr 1
      omega
    refine ⟨⟨hlen, .inr ⟨w.heap.size, grownCap w (n + m) old e, (Builtin.zeroCells z.cells (grownCap w (n + m) old e - (n + m))).toList, rfl, hB, ?_, hz0, hge, hcm⟩⟩, ?_⟩
    · have := Own.alloc w.drew (xs.toArray ++ news.toArray ++ Builtin.zeroCells z.cells (grownCap w (n + m) old e - (n + m))) e
      simpa using this
    · exact Fr.alloc (Fr.drew (Fr.refl _ w)) _
  by_cases hm0 : m = 0
  · subst hm0
    have hn0 : news = [] := List.eq_nil_of_length_eq_zero (by simpa using hl)
    subst hn0
    refine ⟨v, w, ?_, by simpa using hown, Fr.refl _ _, .inl rfl⟩
    obtain ⟨a, cap, rfl, hc1, -, hc3⟩ := hown.shape
    have hs0 : ∀ (p : Addr), (storeCells p [] 0).run P w = .ok () w := fun p => rfl
    rcases hx with ⟨rfl, -, -⟩ | ⟨b, off, c, rfl, -⟩
    · cases a with
      | none => simp [Builtin.append_, run_underlying ht, sizeOf, typeInfo, hi, Builtin.lenOf, hc1, Builtin.firstCells]
      | some a => simp [Builtin.append_, run_underlying ht, sizeOf, typeInfo, hi, Builtin.lenOf, hc1, Builtin.firstCells, hs0]
    · have hf := run_firstCells_some (P := P) w i.size 0 ⟨b, off, none⟩ 0 c [] (by simp) (by simp)
      cases a with
      | none => simp [Builtin.append_, run_underlying ht, sizeOf, typeInfo, hi, Builtin.lenOf, hc1, hf]
      | some a => simp [Builtin.append_, run_underlying ht, sizeOf, typeInfo, hi, Builtin.lenOf, hc1, hf, hs0]
  rcases hx with ⟨_, h0, _⟩ | ⟨b, off, c, rfl, hnews0⟩
  · exact absurd h0 hm0
  have hnews : ∀ j u, news[j]? = some u → w.cell? ((⟨b, off, none⟩ : Addr).add j) = some u := fun j u hu => by rw [addr_add]; exact hnews0 j u hu
  rcases hown.2 with ⟨rfl, rfl⟩ | ⟨g, cap, rest, rfl, hbg, hg, hcs, hnc, hcm⟩
  · have hxe : xs = [] := List.eq_nil_of_length_eq_zero (by simpa using hown.1)
    subst hxe
    have hr := run_append_nil (P := P) w t ty e i z ht hi hz ⟨b, off, none⟩ m c news hl hnews (by omega) (by omega) (by have hb := hbytes; simp only [Nat.zero_add] at hb; omega)
    have hgr := grown 0 (by omega)
    simp only [Nat.zero_add, List.nil_append] at hgr ⊢
    refine ⟨_, _, hr, ?_, ?_, .inr ?_⟩
    · simpa using hgr.1
    · exact Fr.mono (S := fun _ => False) (by simpa using hgr.2) (fun _ h _ => h.elim)
    · simpa using hgr.2
  · by_cases hroom : n + m ≤ cap
    · have hfit : n * i.size + news.length ≤ (xs ++ rest).length := by rw [hl, hcs, ← Nat.add_mul]; exact Nat.mul_le_mul_right _ hroom
      obtain ⟨w', r1, r2, r3, r4, r5⟩ := run_storeCells_own (P := P) g (n * i.size) e news 0 (xs ++ rest) w hg (by simpa using hfit) h1
      have hf := run_firstCells_some (P := P) w i.size m ⟨b, off, none⟩ m c news hl hnews
      refine ⟨.slice (some ⟨g, 0, none⟩) (n + m) cap, w', ?_, ⟨hlen, .inr ⟨g, cap, rest.drop news.length, rfl, hbg, ?_, ?_, hroom, hcm⟩⟩, ?_, .inl rfl⟩
      · simp [Builtin.append_, run_underlying ht, sizeOf, typeInfo, hi, Builtin.lenOf, hroom, hf, Addr.add_lit, r1]
      · have e1 : (xs ++ rest).take (n * i.size + 0) = xs := by rw [Nat.add_zero, ← hown.1]; exact List.take_left
        have e2 : (xs ++ rest).drop (n * i.size + 0 + news.length) = rest.drop news.length := by
          rw [Nat.add_zero, ← hown.1, List.drop_append]
          simp [List.drop_eq_nil_of_le]
        rw [e1, e2] at r2
        exact r2
      · rw [List.length_append] at hcs hfit
        rw [List.length_append, List.length_append, List.length_drop, ← hcs, hown.1]
        rw [hown.1] at hfit
        omega
      · exact r3.mono fun k hk _ => by simp [Value.ownBlock, hk]
    · have hxs : ∀ j u, xs[j]? = some u → w.cell? ((⟨g, 0, none⟩ : Addr).add j) = some u := fun j u hu => by
        rw [addr_add, Nat.zero_add]
        exact hg.cell (by rw [List.getElem?_append_left ((List.getElem?_eq_some_iff.1 hu).1)]; exact hu)
      have hr := run_append_grow (P := P) w t ty e i z ht hi hz ⟨g, 0, none⟩ n cap xs hown.1 hxs ⟨b, off, none⟩ m c news hl hnews (by omega) (by omega) (growslice_fits (by omega) hbytes)
      have hgr := grown cap (by omega)
      exact ⟨_, _, hr, hgr.1, hgr.2.mono (fun _ h _ => h.elim), .inr hgr.2⟩

theorem wpList_append_two {ops : Array Oper} {rest : List Oper} {o : Oper} {a : Act} {w : World} {Q : Exit → Act → World → Prop} (hgd : o.guard = none) (s x : Operand) (t : TypeId)
    (ho : o.op = .call { callee := .builtin .append, args := #[s, x], argTypes := #[t, t] })
    (B : Nat) (e : TypeId) (size bytes : Nat) (helt : Elt P t e size bytes)
    {v : Value} {n : Nat} {xs : List Value} (hown : Vec w B e size v n xs) (hs : a.eval s = v)
    {xv : Value} {m : Nat} {news : List Value} (hx : Reads w xv m news) (hxv : a.eval x = xv) (hl : news.length = m * size) (h1 : ∀ u ∈ news, u.oneCell' = true)
    (h63 : n + m ≤ maxLen) (hbytes : (n + m) * bytes ≤ 140737488355328) (hB : B ≤ w.heap.size)
    (h : ∀ v' w', Vec w' B e size v' (n + m) (xs ++ news) → Fr (fun k => v.ownBlock = some k) w w' →
      (v'.ownBlock = v.ownBlock ∨ Fr (fun _ => False) w w') → wpList P ops Q rest (a.put o.dst v') w') : wpList P ops Q (o :: rest) a w := by
  refine wpList_plain hgd fun K hK => ?_
  obtain ⟨i, z, e1, e2, e3, e4, e5, e6⟩ := helt
  obtain ⟨v', w', hr, h2, h3, h4⟩ := run_append_two (P := P) w B t o.type e i z size bytes e1 e2 e3 e4 e5 e6 v n xs hown xv m news hx hl h1 h63 hbytes hB
  unfold Oper.wp execOp
  simp only [ho, resolve, invoke, builtin, Sem.run_bind, Sem.run_pure, Result.andThen_ok, List.map_toArray, List.map_cons, List.map_nil, hs, hxv, hr]
  exact hK _ _ (h v' w' h2 h3 h4)
end
theorem xor8 (x y : UInt8) : Go.bits .xor .u8 (x.toNat : Int) (y.toNat : Int) = ((x ^^^ y).toNat : Int) := by
  have h : Go.bits .xor .u8 (x.toNat : Int) (y.toNat : Int) = ((BitVec.ofInt 8 (x.toNat : Int) ^^^ BitVec.ofInt 8 (y.toNat : Int)).toNat : Int) := by
    unfold Go.bits
    have := (BitVec.ofInt 8 (x.toNat : Int) ^^^ BitVec.ofInt 8 (y.toNat : Int)).isLt
    exact IntWalk.u8_in _ (by show 0 ≤ ((BitVec.ofInt 8 (x.toNat : Int) ^^^ BitVec.ofInt 8 (y.toNat : Int)).toNat : Int) ∧ ((BitVec.ofInt 8 (x.toNat : Int) ^^^ BitVec.ofInt 8 (y.toNat : Int)).toNat : Int) ≤ 255; omega)
  rw [h]
  have e : ∀ z : UInt8, BitVec.ofInt 8 (z.toNat : Int) = z.toBitVec := fun z => by
    apply BitVec.eq_of_toNat_eq
    simp
  rw [e, e, ← UInt8.toBitVec_xor]; rfl
theorem xor_back (x y : UInt8) : (x ^^^ y) ^^^ y = x := by rw [UInt8.xor_assoc, UInt8.xor_self, UInt8.xor_zero]
theorem xor_ne (x y : UInt8) (h : y ≠ 0) : x ≠ x ^^^ y := by
  intro e
  apply h
  have := congrArg (x ^^^ ·) e
  simp only [UInt8.xor_self] at this
  rw [← UInt8.xor_assoc, UInt8.xor_self, UInt8.zero_xor] at this
  exact this.symm
end Go.Proofs.YtlcdgbhigfgehabGreatDoor
/- For the law Broken: a batch that lies ahead of its mirror; bytes turned. -/
namespace Go.Proofs.YtlcdgbhigfgehabGreatDoor
open Go.RowKit
set_option maxRecDepth 100000

section
variable {w w1 : World} {S : Nat → Prop} {B : Nat} {v : Value} {l : List (Fil × Value)}
theorem KFils.low (h : KFils w B v l) (k : Fr S w w1) (hS : ∀ b, S b → b < B) : KFils w1 B v l :=
  h.keep k (fun b hb hs => by have := (h.vec.lt b hb).1; have := hS b hs; omega) (fun p hp b hb hs => by have := ((h.data p hp).lt b hb).1; have := hS b hs; omega)
theorem MirAt.low {gm gd : Nat} {tr : List Fil} {room : Int} {down : Bool} (h : MirAt w B gm gd tr room down) (k : Fr S w w1) (hS : ∀ b, S b → b < B) (hm : B ≤ gm) (hg : B ≤ gd) : MirAt w1 B gm gd tr room down := by
  refine ⟨Own.keep h.mir k (fun hs => by have := hS _ hs; omega), ?_, h.tree, h.rm⟩
  obtain ⟨live, x, y, s, c, m, h1, h2, h3, h4⟩ := h.disk
  exact ⟨live, x, y, s, c, m, h1.keep k (fun hs => by have := hS _ hs; omega), h2.low k hS, h3, h4⟩
/-- One file's data is turned in its row. -/
theorem KFils.turn {L1 L2 : List (Fil × Value)} {nm dt dt' : List UInt8} {g c : Nat} (h : KFils w B v (L1 ++ (⟨nm, dt⟩, .slice (some ⟨g, 0, none⟩) dt.length c) :: L2)) (hl : dt'.length = dt.length) (k : Fr (fun b => b = g) w w1)
    (hv : Vec w1 B 5 1 (.slice (some ⟨g, 0, none⟩) dt.length c) dt.length (bcells dt')) : KFils w1 B v (L1 ++ (⟨nm, dt'⟩, .slice (some ⟨g, 0, none⟩) dt.length c) :: L2) := by
  have hown : Vec w B 5 1 (.slice (some ⟨g, 0, none⟩) dt.length c) dt.length (bcells dt) := h.data (⟨nm, dt⟩, _) (by simp)
  refine ⟨?_, ?_, ?_⟩
  · have h1 := h.vec.keep k (fun b hb e => h.vec.apartV hown (by decide) b hb (by rw [e]; rfl))
    have e1 : filCells (L1 ++ (⟨nm, dt'⟩, .slice (some ⟨g, 0, none⟩) dt.length c) :: L2) = filCells (L1 ++ (⟨nm, dt⟩, .slice (some ⟨g, 0, none⟩) dt.length c) :: L2) := by simp [filCells, filRow]
    have e2 : (L1 ++ ((⟨nm, dt'⟩ : Fil), Value.slice (some ⟨g, 0, none⟩) dt.length c) :: L2).length = (L1 ++ ((⟨nm, dt⟩ : Fil), Value.slice (some ⟨g, 0, none⟩) dt.length c) :: L2).length := by simp
    rw [e1, e2]; exact h1
  · intro p hp
    have h2 := h.two
    rw [List.pairwise_append, List.pairwise_cons] at h2
    rcases List.mem_append.1 hp with hp | hp
    · exact (h.data p (by simp [hp])).keep k (fun b hb e => h2.2.2 p hp _ (List.mem_cons_self ..) b hb (by rw [e]; rfl))
    · rcases List.mem_cons.1 hp with rfl | hp
      · show Vec w1 B 5 1 (.slice (some ⟨g, 0, none⟩) dt.length c) dt'.length (bcells dt')
        rw [hl]; exact hv
      · exact (h.data p (by simp [hp])).keep k (fun b hb e => h2.2.1.1 p hp b (by rw [e]; rfl) hb)
  · have h2 := h.two
    rw [List.pairwise_append, List.pairwise_cons] at h2 ⊢
    refine ⟨h2.1, ⟨fun p hp => h2.2.1.1 p hp, h2.2.1.2⟩, fun p hp q hq => ?_⟩
    rcases List.mem_cons.1 hq with rfl | hq
    · exact h2.2.2 p hp (⟨nm, dt⟩, .slice (some ⟨g, 0, none⟩) dt.length c) (List.mem_cons_self ..)
    · exact h2.2.2 p hp q (List.mem_cons_of_mem _ hq)
end
theorem IsTree.turn {l1 l2 : List Fil} {nm dt dt' : List UInt8} (h : IsTree (l1 ++ ⟨nm, dt⟩ :: l2)) (hl : dt'.length = dt.length) : IsTree (l1 ++ ⟨nm, dt'⟩ :: l2) := by
  refine ⟨fun f hf => ?_, ?_, by have := h.len; simp at this ⊢; omega⟩
  · rcases List.mem_append.1 hf with hf | hf
    · exact h.ok f (by simp [hf])
    · rcases List.mem_cons.1 hf with rfl | hf
      · have := h.ok ⟨nm, dt⟩ (by simp)
        exact ⟨this.1, by have := this.2; dsimp only at this ⊢; omega⟩
      · exact h.ok f (by simp [hf])
  · have h2 := h.up
    rw [List.pairwise_append, List.pairwise_cons] at h2 ⊢
    refine ⟨h2.1, ⟨fun p hp => h2.2.1.1 p hp, h2.2.1.2⟩, fun p hp q hq => ?_⟩
    rcases List.mem_cons.1 hq with rfl | hq
    · exact h2.2.2 p hp ⟨nm, dt⟩ (List.mem_cons_self ..)
    · exact h2.2.2 p hp q (List.mem_cons_of_mem _ hq)
theorem dgN_ne (p q : List UInt8) (c d : UInt8) (h : c ≠ d) : dgN (p ++ c :: q) ≠ dgN (p ++ d :: q) := fun e => dgOf_ne p q c d h (by rw [← dgN_int, ← dgN_int, e])
/-- A list of bytes parted at a place. -/
theorem part_at (l : List UInt8) (k : Nat) (h : k < l.length) : l = l.take k ++ l[k] :: l.drop (k + 1) := by
  rw [← List.drop_eq_getElem_cons h, List.take_append_drop]
theorem bcells_set (p q : List UInt8) (c d : UInt8) (r : List Value) (k : Nat) (hk : k = p.length) : (bcells (p ++ c :: q) ++ r).set k (.int .u8 d.toNat) = bcells (p ++ d :: q) ++ r := by
  subst hk
  simp [bcells, List.set_append]
theorem flat_len {α : Type} (l : List α) (f : α → List UInt8) (n : Nat) (h : ∀ a ∈ l, (f a).length ≤ n) : (l.flatMap f).length ≤ n * l.length := by
  induction l with
  | nil => simp
  | cons a l ih =>
    have h1 := h a (by simp)
    have h2 := ih (fun b hb => h b (by simp [hb]))
    rw [List.flatMap_cons, List.length_append, List.length_cons, Nat.mul_succ]; omega
theorem recOf_len {src ref : List Fil} {blk : Nat} (hb : 1 ≤ blk) (hs : IsTree src) (hr : IsTree ref) : (recOf src ref blk).length ≤ 1000000 := by
  have n12 : ∀ f : Fil, isName f.name = true → f.name.length ≤ 12 := fun f h => by
    unfold isName at h
    simp at h
    omega
  have h1 := flat_len ref entB 23 (fun f hf => entB_length f (n12 f (hr.ok f hf).1))
  have h2 := flat_len src (targB ref blk) 77200 (fun f hf => targB_length ref blk hb f (n12 f (hs.ok f hf).1) (hs.ok f hf).2)
  have l1 := hr.len
  have l2 := hs.len
  unfold recOf recBody headB
  simp only [List.length_append, List.length_cons, List.length_nil, length_putN]
  omega
/-- As BroughtP; the batch lies ahead of the mirror. -/
def BroughtP2 (w : World) (src ref : List Fil) (blk : Nat) (room : Int) (e : Ending) (w' : World) : Prop := ∃ bv gm gd B, e = .returned (.tuple #[bv, .pointer (some ⟨gm, 0, none⟩), .bool true]) ∧
  Vec w' w.heap.size 5 1 bv (recOf src ref blk).length (bcells (recOf src ref blk)) ∧ 0 < (recOf src ref blk).length ∧ w.heap.size ≤ B ∧ (∀ b, bv.ownBlock = some b → b < B) ∧ B ≤ gm ∧ B ≤ gd ∧ MirAt w' B gm gd ref room false ∧ Fr (fun _ => False) w w'
set_option maxHeartbeats 2000000 in
theorem kbrought2_any (v0 v1 : Value) (src ref : List (Fil × Value)) (B : Nat) (block room : Int) (w : World) (hg : ErrType w) (h0 : Fils w B v0 src) (h1 : Fils w B v1 ref) (hs : IsTree (src.map (·.1))) (hr : IsTree (ref.map (·.1)))
    (b1 : -9223372036854775808 ≤ block) (b2 : block ≤ 9223372036854775807) (r1 : 0 ≤ room) (r2 : room ≤ 1048576) (blk : Nat) (hblk : 1 + pickOf block 64 = blk) :
    Calls Tryz.prog 10 #[v0, v1, .int .i64 block, .int .i64 room] w (BroughtP2 w (src.map (·.1)) (ref.map (·.1)) blk room) := by
  have hpb := pickOf_bounds block 64 (by omega)
  have hbb : 1 ≤ blk ∧ blk ≤ 64 := by omega
  have HPK := Lib.hid (pick_any block 64 w (by omega) b1 b2 (by omega))
  have hpr := precord_any v0 v1 src ref B blk w hg h0 h1 (small_tree hs) (small_tree hr)
  have hne : recErr blk (src.map (·.1)) (ref.map (·.1)) = .none := recErr_no hbb.1 hbb.2 hs hr
  rw [show (recErr blk (src.map (·.1)) (ref.map (·.1))).k = 0 by rw [hne]; rfl, show (recErr blk (src.map (·.1)) (ref.map (·.1))).name = ByteArray.empty by rw [hne]; rfl] at hpr
  have HPR := Lib.hid hpr
  have HNE := Lib.hid hne
  have HBE := Lib.hid hblk
  have H1 := Lib.hid h1
  have HR := Lib.hid hr
  have hre := newErr_none hr r1 r2
  have HRE := Lib.hid hre
  have hrt := tree_data rfl hr
  have HRT := Lib.hid hrt
  obtain ⟨a0, c0, rfl, -⟩ := h0.vec.shape
  obtain ⟨a1, c1, rfl, -⟩ := h1.vec.shape
  generalize pickOf block 64 = pk at *
  clear hpr hne h0 h1 hs hr hre hrt hblk b1 b2 hpb
  have hpk2 : wrap64 (1 + pk) = 1 + pk := IntWalk.wrap64_in _ (by have := HBE.out; omega)
  go_enter Tryz.func10, Tryz.ntmps10
  go_wp2_with fail
  refine HPK.out.mono ?_
  rintro e w' ⟨rfl, rfl⟩
  go_wp2_with fail
  rw [HBE.out]
  refine HPR.out.mono ?_
  rintro e w3 ⟨x, rfl, hf3, hx⟩
  have hv := hx.good HNE.out
  rw [Int.toNat_natCast] at hv
  obtain ⟨R, hR⟩ : ∃ R, recOf (src.map (·.1)) (ref.map (·.1)) blk = R := ⟨_, rfl⟩
  have hrl : 0 < R.length := by rw [← hR]; exact recOf_pos _ _ _
  rw [hR] at hv
  have HRP := Lib.hid hR
  obtain ⟨gb, cb, rb, hqb, -, -, -⟩ := hv.row hrl
  subst hqb
  have HV := Lib.hid hv
  have HF3 := Lib.hid hf3
  have HN := Lib.hid (pnew_any _ ref B room w3 (hg.keep hf3 id) (H1.out.keep0 hf3) (fun p hp => by have := HRT.out.2.1 p hp; omega) (fun p hp => by have := HRT.out.1 p hp; omega) (by have := HRT.out.2.2; omega))
  rw [show (newErr (ref.map (·.1)) room).k = 0 by rw [HRE.out]; rfl, show (newErr (ref.map (·.1)) room).name = ByteArray.empty by rw [HRE.out]; rfl] at HN
  have hz3 := hf3.size
  clear hx hv hf3 hR HPR hg
  go_wp2_with fail
  refine HN.out.mono ?_
  rintro e w4 ⟨p, rfl, hf4, hnp⟩
  obtain ⟨gm, gd, rfl, hgm, hgd, hmi⟩ := hnp.1 HRE.out
  have HMI := Lib.hid hmi
  have HF4 := Lib.hid hf4
  have HV4 := Lib.hid (HV.out.keep hf4 (fun _ _ h => h))
  have z1 : decide ((R.length : Int) > 0) = true := by simp; omega
  clear hnp hmi hf4
  go_wp2_with fail
  go_ret3
  refine ⟨_, gm, gd, w3.heap.size, rfl, by rw [HRP.out]; exact HV4.out, by rw [HRP.out]; exact hrl, hz3, fun b hb => (HV.out.lt b hb).2, hgm, hgd, HMI.out, HF3.out.step HF4.out (fun _ h _ => h)⟩
end Go.Proofs.YtlcdgbhigfgehabGreatDoor
/- The law Broken: a batch with one byte changed, cut short or with one more is refused and changes nothing; so is one over a tree with a byte changed. -/
namespace Go.Proofs.YtlcdgbhigfgehabGreatDoor
open Go.RowKit
set_option maxRecDepth 100000

theorem isB_row {w : World} {g cap : Nat} {R : List UInt8} {rest : List Value} (ho : Own w g 5 (bcells R ++ rest)) (hc : R.length ≤ cap) (hm : cap ≤ maxLen) : IsB w (.slice (some ⟨g, 0, none⟩) R.length cap) R := IsB.ofOwn0 ho rfl hc hm
theorem isB_row_take {w : World} {g cap : Nat} {R : List UInt8} {rest : List Value} (k : Nat) (hk : k ≤ R.length) (ho : Own w g 5 (bcells R ++ rest)) (hc : R.length ≤ cap) (hm : cap ≤ maxLen) : IsB w (.slice (some ⟨g, 0, none⟩) (R.take k).length cap) (R.take k) := by
  refine IsB.ofOwn0 (rest := bcells (R.drop k) ++ rest) ho ?_ (by rw [List.length_take]; omega) hm
  rw [← List.append_assoc, ← bcells_append, List.take_append_drop]
/-- A replay of bytes that are no batch. -/
theorem preplay_refused (gm gd B : Nat) (tr : List Fil) (room : Int) (gb cb n : Nat) (bs : List UInt8) (hn : bs.length = n) (w : World) (h : MirAt w B gm gd tr room false) (hB : B ≤ w.heap.size) (hcl : Clear gm gd) (hg : ErrType w) (hf : ErrForm w)
    (hb : IsB w (.slice (some ⟨gb, 0, none⟩) bs.length cb) bs) (hr : readOf bs = none) :
    Calls Tryz.prog 12 #[.pointer (some ⟨gm, 0, none⟩), .slice (some ⟨gb, 0, none⟩) n cb, .int .i64 0] w fun e w' => e = .returned (.tuple #[.int .i64 5, .string ByteArray.empty]) ∧ MirAt w' B gm gd tr room false ∧ Fr (fun b => b = gm ∨ b = gd) w w' := by
  subst hn
  have hb2 := replay_bad (tr := tr) (room := room) 0 (plan_none (tree := tr) (room := room) hr)
  have := preplay_up gm gd B tr room 0 gb 0 cb bs w h hB hcl hg hf hb
  unfold PReplayP at this
  rw [hb2.1, hb2.2.1, hb2.2.2] at this
  exact this
set_option maxHeartbeats 4000000 in
theorem broken_walk (a0 : Option Addr) (n0 c0 : Nat) (z0 : List ByteArray) (bits : Int) (a2 : Option Addr) (n2 c2 : Nat) (z2 : List ByteArray) (older : Int) (block n : Int) (w : World) (hg : ErrType w) (he : ErrForm w)
    (h0 : StrsAt w a0 n0 z0 ∧ (∀ s ∈ z0, s.size ≤ maxLen) ∧ n0 ≤ maxLen) (_b1 : -9223372036854775808 ≤ bits) (_b2 : bits ≤ 9223372036854775807) (h2 : StrsAt w a2 n2 z2 ∧ (∀ s ∈ z2, s.size ≤ maxLen) ∧ n2 ≤ maxLen) (_o1 : -9223372036854775808 ≤ older) (_o2 : older ≤ 9223372036854775807) (_k1 : -9223372036854775808 ≤ block) (_k2 : block ≤ 9223372036854775807)
    (_n1 : -9223372036854775808 ≤ n) (_n2 : n ≤ 9223372036854775807) :
    Calls Tryz.prog 4 #[.slice a0 n0 c0, .int .i64 bits, .slice a2 n2 c2, .int .i64 older, .int .i64 block, .int .i64 n] w fun e w' => e = .returned (.bool true) ∧ Fr (fun _ => False) w w' := by
  have H0 := Lib.hid h0
  have H2 := Lib.hid h2
  have HE := Lib.hid he
  have HG := Lib.hid hg
  clear h0 h2 he hg
  go_enter Tryz.func4, Tryz.ntmps4
  go_wp2_with fail
  refine (ktree_any a0 n0 c0 z0 bits w H0.out.1 H0.out.2.1 H0.out.2.2 _b1 _b2).mono ?_
  rintro e w1 ⟨v, src, rfl, hs, hks, hf1⟩
  obtain ⟨sa, sc, rfl, -⟩ := hks.vec.shape
  have HS := Lib.hid hs
  have HKS := Lib.hid hks
  have HF1 := Lib.hid hf1
  clear hs hks hf1
  go_wp2_with fail
  refine (ktree_any a2 n2 c2 z2 older w1 (H2.out.1.keep HF1.out) H2.out.2.1 H2.out.2.2 _o1 _o2).mono ?_
  rintro e w2 ⟨v, ref, rfl, hr, hkr, hf2⟩
  obtain ⟨ra, rc, rfl, -⟩ := hkr.vec.shape
  have HR := Lib.hid hr
  have hz1 := HF1.out.size
  have HKR := Lib.hid (hkr.lift hz1)
  have HKS2 := Lib.hid (HKS.out.keep0 hf2)
  have HF2 := Lib.hid (HF1.out.step hf2 (fun _ h _ => h))
  have hs8 := (tree_data rfl HS.out).2.2
  have hr8 := (tree_data rfl HR.out).2.2
  have hal := allOf_tree HS.out
  have hz2 := HF2.out.size
  clear hr hkr hf2 HKS _b1 _b2 _o1 _o2
  obtain ⟨blk, hblk⟩ : ∃ blk : Nat, 1 + pickOf block 64 = blk := ⟨(1 + pickOf block 64).toNat, by have := pickOf_bounds block 64 (by omega); omega⟩
  have hbb : 1 ≤ blk ∧ blk ≤ 64 := by have := pickOf_bounds block 64 (by omega); omega
  have HBR := Lib.hid (kbrought2_any _ _ src ref w.heap.size block 4000 w2 (HG.out.keep HF2.out id) HKS2.out.fils HKR.out.fils HS.out HR.out _k1 _k2 (by omega) (by omega) blk hblk)
  have HBB := Lib.hid hbb
  clear hblk hbb _k1 _k2
  go_wp2_with fail
  refine HBR.out.mono ?_
  rintro e w3 ⟨bv, gm, gd, B, rfl, hv, hrl, hB2, hbB, hgm, hgd, hmi, hf3⟩
  obtain ⟨R, hR⟩ : ∃ R, recOf (src.map (·.1)) (ref.map (·.1)) blk = R := ⟨_, rfl⟩
  have hR6 : R.length ≤ 1000000 := by rw [← hR]; exact recOf_len HBB.out.1 HS.out HR.out
  rw [hR] at hv hrl
  obtain ⟨gb, cb, rb, rfl, hgb, hown, hcl, hc1, hc2⟩ := hv.row hrl
  have hgbB := hbB gb rfl
  have HCL := Lib.hid (clear_new (HG.out.keep HF2.out id) (HE.out.keep HF2.out) (show w2.heap.size ≤ gm by omega) (show w2.heap.size ≤ gd by omega))
  have hz3 := hf3.size
  have HRD := Lib.hid (show ∃ x, readOf R = some x from ⟨_, by rw [← hR]; exact read_rec _ _ _ HS.out HR.out HBB.out.1 HBB.out.2⟩)
  have HRR := Lib.hid hR
  have hB3 : B ≤ w3.heap.size := by have := Own.lt hmi.mir; omega
  have HMI := Lib.hid hmi
  have HKR3 := Lib.hid (HKR.out.keep0 hf3)
  have HF32 := Lib.hid hf3
  have HOWN := Lib.hid hown
  -- which byte, and by what
  have hpb := pickOf_bounds n R.length (by omega)
  have HPK := Lib.hid (pick_any n R.length w3 (by omega) _n1 _n2 (by omega))
  obtain ⟨k, hk⟩ : ∃ k : Nat, pickOf n R.length = k := ⟨(pickOf n R.length).toNat, by omega⟩
  have hkR : k < R.length := by omega
  rw [hk] at HPK
  have hpv := pickOf_bounds n 255 (by omega)
  have HPV := Lib.hid (fun w => pick_any n 255 w (by omega) _n1 _n2 (by omega))
  obtain ⟨vN, hvN⟩ : ∃ v : Nat, 1 + pickOf n 255 = v := ⟨(1 + pickOf n 255).toNat, by omega⟩
  have hv1 : 1 ≤ vN ∧ vN ≤ 255 := by omega
  have HPV2 : Hid (∀ w, Calls Tryz.prog 16 #[.int .i64 n, .int .i64 255] w fun e w' => e = .returned (.int .i64 ((vN : Int) - 1)) ∧ w = w') := Lib.hid (fun w => by have := HPV.out w; rwa [show pickOf n 255 = (vN : Int) - 1 by omega] at this)
  have HVE := Lib.hid (show (1 : Int) + ((vN : Int) - 1) = vN by omega)
  have hvw : IntKind.u8.wrap (vN : Int) = (vN : Int) := IntWalk.u8_in _ (by omega)
  have HN := Lib.hid (show -9223372036854775808 ≤ n ∧ n ≤ 9223372036854775807 from ⟨_n1, _n2⟩)
  obtain ⟨v8, hv8⟩ : ∃ v8 : UInt8, v8.toNat = vN := ⟨UInt8.ofNat vN, by simp; omega⟩
  have hv80 : v8 ≠ 0 := fun e => by rw [e] at hv8; simp at hv8; omega
  obtain ⟨P, c, Q, hRe, hPk⟩ : ∃ P c Q, R = P ++ c :: Q ∧ k = P.length := ⟨R.take k, R[k], R.drop (k + 1), part_at R k hkR, by rw [List.length_take]; omega⟩
  have hx1 := xor8 c v8
  have hx2 := xor8 (c ^^^ v8) v8
  rw [hv8] at hx1 hx2
  rw [xor_back] at hx2
  have c0 := hown.cell (i := k) (v := .int .u8 c.toNat) (by rw [hRe, hPk, bcells_append, List.append_assoc, List.getElem?_append_right (by simp)]; simp [bcells])
  have f0 := hown.free k (by rw [List.length_append, length_bcells]; omega)
  have HRE := Lib.hid hRe
  have HPKL := Lib.hid hPk
  have hce := xor_ne c v8 hv80
  have HV8 := Lib.hid hv8
  generalize c ^^^ v8 = c' at hx1 hx2 hce
  have HX1 := Lib.hid hx1
  have HX2 := Lib.hid hx2
  have HCE := Lib.hid hce
  clear hv hmi hf3 hR HBR hpb hk hpv HPV hvN hown hx2 hRe hPk hv80 hce hv8 hx1
  go_wp2_with fail
  refine HPK.out.mono ?_
  rintro e w' ⟨rfl, hw'⟩
  subst hw'
  go_wp2_with fail
  refine (HPV2.out _).mono ?_
  rintro e w' ⟨rfl, hw'⟩
  subst hw'
  clear HPK _n1 _n2
  go_wp2_with fail
  rw [HVE.out, HX1.out]
  have hown4 : Own (w3.setCell ⟨gb, k, none⟩ (.int .u8 c'.toNat)) gb 5 (bcells (P ++ c' :: Q) ++ rb) := by
    have h := HOWN.out.set k (.int .u8 c'.toNat)
    rw [HRE.out, bcells_set P Q c c' rb k HPKL.out] at h
    exact h
  have hl4 : (P ++ c' :: Q).length = R.length := by rw [HRE.out]; simp
  have hn4 : readOf (P ++ c' :: Q) = none := by
    obtain ⟨x, hx⟩ := HRD.out
    rw [HRE.out] at hx
    exact read_turned hx _ HCE.out
  have hk4 : Fr (fun b => b = gb) w3 (w3.setCell ⟨gb, k, none⟩ (.int .u8 c'.toNat)) := (Fr.refl _ _).setCell _ _ (fun _ => rfl)
  obtain ⟨w4, hw4⟩ : ∃ w4, w3.setCell ⟨gb, k, none⟩ (.int .u8 c'.toNat) = w4 := ⟨_, rfl⟩
  rw [hw4] at hown4 hk4 ⊢
  have HQ4 := Lib.hid (show Fr (fun b => w2.heap.size ≤ b) w2 w4 from (HF32.out.mono (fun _ h _ => h.elim)).step hk4 (fun b hb _ => by omega))
  have HF4 := Lib.hid (show Fr (fun _ => False) w w4 from HF2.out.step HQ4.out (fun b hb hl => by omega))
  have hz4 := hk4.size
  have HRR4 := Lib.hid (preplay_refused gm gd B _ 4000 gb cb R.length (P ++ c' :: Q) hl4 w4 (HMI.out.low hk4 (fun b hb => by omega) hgm hgd) (by omega) HCL.out (HG.out.keep HF4.out id) (HE.out.keep HF4.out)
    (isB_row hown4 (by omega) hc2) hn4)
  have HOWN4 := Lib.hid hown4
  clear hown4 hl4 hn4 hk4 hw4 c0 f0 HOWN HX1
  refine HRR4.out.mono ?_
  rintro e w5 ⟨rfl, hmi5, hf5⟩
  have HMI5 := Lib.hid hmi5
  have hown5 := HOWN4.out.keep hf5 (fun hb => by omega)
  have HQ5 := Lib.hid (HQ4.out.step hf5 (fun b hb _ => show w2.heap.size ≤ b by omega))
  have c5 := hown5.cell (i := k) (v := .int .u8 c'.toNat) (by rw [HPKL.out, bcells_append, List.append_assoc, List.getElem?_append_right (by simp)]; simp [bcells])
  have f5 := hown5.free k (by rw [List.length_append, length_bcells]; have := HPKL.out; simp; omega)
  have HOWN5 := Lib.hid hown5
  have hz5 := hf5.size
  clear hmi5 hf5 hown5 HRR4 HOWN4 HMI HQ4
  go_wp2_with fail
  rw [HX2.out]
  have hown6 : Own (w5.setCell ⟨gb, k, none⟩ (.int .u8 c.toNat)) gb 5 (bcells R ++ rb) := by
    have h := HOWN5.out.set k (.int .u8 c.toNat)
    rw [bcells_set P Q c' c rb k HPKL.out, ← HRE.out] at h
    exact h
  have hk6 : Fr (fun b => b = gb) w5 (w5.setCell ⟨gb, k, none⟩ (.int .u8 c.toNat)) := (Fr.refl _ _).setCell _ _ (fun _ => rfl)
  have hz6 := hk6.size
  generalize w5.setCell ⟨gb, k, none⟩ (.int .u8 c.toNat) = w6 at hown6 hk6 hz6 ⊢
  have HQ6 := Lib.hid (HQ5.out.step hk6 (fun b hb _ => show w2.heap.size ≤ b by omega))
  have HF6 := Lib.hid (show Fr (fun _ => False) w w6 from HF2.out.step HQ6.out (fun b hb hl => by omega))
  have hl7 : (R.take k).length = k := by rw [List.length_take]; omega
  have HRR6 := Lib.hid (preplay_refused gm gd B _ 4000 gb cb k (R.take k) hl7 w6 (HMI5.out.low hk6 (fun b hb => by omega) hgm hgd) (by omega) HCL.out (HG.out.keep HF6.out id) (HE.out.keep HF6.out)
    (isB_row_take k (by omega) hown6 hc1 hc2) (by obtain ⟨x, hx⟩ := HRD.out; exact read_cut hx k hkR))
  have HOWN6 := Lib.hid hown6
  clear hown6 hk6 hl7 c5 f5 HOWN5 HMI5 HQ5 HRE HPKL HX2 HCE
  refine HRR6.out.mono ?_
  rintro e w7 ⟨rfl, hmi7, hf7⟩
  have HMI7 := Lib.hid hmi7
  have HOWN7 := Lib.hid (HOWN6.out.keep hf7 (fun hb => by omega))
  have HQ7 := Lib.hid (HQ6.out.step hf7 (fun b hb _ => show w2.heap.size ≤ b by omega))
  have hz7 := hf7.size
  have HV7 := Lib.hid (show Vec w7 w2.heap.size 5 1 (.slice (some ⟨gb, 0, none⟩) R.length cb) R.length (bcells R) from ⟨by simp, .inr ⟨gb, cb, rb, rfl, hgb, HOWN7.out, hcl, hc1, hc2⟩⟩)
  clear hmi7 hf7 HRR6 HOWN6 HQ6 HF6
  have hb8 : bcells [v8] = [.int .u8 vN] := by rw [← HV8.out]; rfl
  have HB8 := Lib.hid hb8
  have hA : Fr (fun _ => False) w7 (w7.alloc (.cells #[.int .u8 vN] 5)) := (Fr.refl _ _).alloc _
  have HA := Lib.hid hA
  clear hb8 hA
  go_wp2_with (at_builtin; go_must (refine wpList_append_two rfl _ _ _ rfl w2.heap.size 5 1 1 elt_u8 (HV7.out.keep HA.out (fun _ _ h => h)) rfl (m := 1) (Reads.new _ _ _ _ (by simp) _ _) rfl rfl (by rw [← HB8.out]; exact bcells_one _) (by unfold maxLen; omega) (by omega) (by simp; omega) ?_); intro v8' w8 hv8 hf8 hd8)
  obtain ⟨g8, c8, r8, hq8, hg8, ho8, hcl8, hc81, hc82⟩ := hv8.row (by omega)
  subst hq8
  have hf8' : Fr (fun b => b = gb) _ w8 := hf8.mono (fun b hb _ => by simpa [Value.ownBlock] using hb.symm)
  obtain ⟨rb8, hown8⟩ : ∃ rb8, Own w8 gb 5 (bcells R ++ rb8) := by
    rcases hd8 with h | h
    · have hg : g8 = gb := by simpa [Value.ownBlock] using h
      subst hg
      exact ⟨_, by rw [List.append_assoc] at ho8; exact ho8⟩
    · exact ⟨rb, (HOWN7.out.keep HA.out id).keep h id⟩
  have hb8 : IsB w8 (.slice (some ⟨g8, 0, none⟩) (R ++ [v8]).length c8) (R ++ [v8]) := isB_row (by rw [bcells_append, HB8.out]; exact ho8) (by simpa using hc81) hc82
  have HQ8 := Lib.hid ((HQ7.out.step HA.out (fun _ h _ => h.elim)).step hf8' (fun b hb _ => show w2.heap.size ≤ b by omega))
  have HF8 := Lib.hid (show Fr (fun _ => False) w w8 from HF2.out.step HQ8.out (fun b hb hl => by omega))
  have hzA := HA.out.size
  have hz8 := hf8'.size
  have HRR8 := Lib.hid (preplay_refused gm gd B _ 4000 g8 c8 (R.length + 1) (R ++ [v8]) (by simp) w8 ((HMI7.out.keep0 HA.out).low hf8' (fun b hb => by omega) hgm hgd) (by omega) HCL.out (HG.out.keep HF8.out id) (HE.out.keep HF8.out) hb8
    (by obtain ⟨x, hx⟩ := HRD.out; exact read_more hx [v8] (by simp)))
  have HOWN8 := Lib.hid hown8
  clear hv8 hf8 hd8 ho8 hcl8 hf8' hown8 hb8 HV7 HOWN7 HMI7 HQ7
  refine HRR8.out.mono ?_
  rintro e w9 ⟨rfl, hmi9, hf9⟩
  have HOWN9 := Lib.hid (HOWN8.out.keep hf9 (fun hb => by omega))
  have HQ9 := Lib.hid (HQ8.out.step hf9 (fun b hb _ => show w2.heap.size ≤ b by omega))
  have hz9 := hf9.size
  have HK9 := Lib.hid (HKR.out.above HQ9.out (Nat.le_refl _) (fun _ h => h))
  have HH := Lib.hid (khas_any gm gd B (ref.map (·.1)) 4000 _ ref w.heap.size w9 hmi9 HK9.out.fils hr8)
  clear hmi9 hf9 HRR8 HOWN8 HQ8 HF8 HRD
  go_wp2_with fail
  refine HH.out.mono ?_
  rintro e w10 ⟨b10, rfl, hb10, -, hf10⟩
  obtain rfl : b10 = true := hb10.2 rfl
  have HOWN10 := Lib.hid (HOWN9.out.keep hf10 (fun hb => by omega))
  have HQ10 := Lib.hid (HQ9.out.step hf10 (fun b hb _ => show w2.heap.size ≤ b by omega))
  have HF10 := Lib.hid (show Fr (fun _ => False) w w10 from HF2.out.step HQ10.out (fun b hb hl => by omega))
  have hz10 := hf10.size
  have HK10 := Lib.hid (HKR.out.above HQ10.out (Nat.le_refl _) (fun _ h => h))
  clear hb10 hf10 HH HK9 HOWN9 HQ9
  by_cases hr0 : ref.length = 0
  · have z1 : ((ref.length : Int) == 0) = true := by simp [hr0]
    go_wp2_with fail
    go_ret
    exact ⟨rfl, HF10.out⟩
  have hr1 : 0 < ref.length := by omega
  have z1 : ((ref.length : Int) == 0) = false := by simp [hr0]
  go_wp2_with fail
  have hpi := pickOf_bounds n ref.length (by omega)
  have HPI := Lib.hid (fun w => pick_any n ref.length w (by omega) HN.out.1 HN.out.2 (by omega))
  obtain ⟨i, hi⟩ : ∃ i : Nat, pickOf n ref.length = i := ⟨(pickOf n ref.length).toNat, by omega⟩
  rw [hi] at HPI hpi
  have hil : i < ref.length := by omega
  obtain ⟨g0, rc0, hq0, e0, e1, hg0⟩ := HK10.out.fils.get i hil
  simp only [Value.slice.injEq, true_and] at hq0
  obtain ⟨rfl, rfl⟩ := hq0
  obtain ⟨x, hx⟩ : ∃ x, ref[i] = x := ⟨_, rfl⟩
  rw [hx] at e0 e1
  obtain ⟨⟨nm, dt⟩, dv⟩ := x
  dsimp only at e0 e1
  obtain ⟨L1, L2, hre, hL1⟩ : ∃ L1 L2, ref = L1 ++ (⟨nm, dt⟩, dv) :: L2 ∧ i = L1.length := ⟨ref.take i, ref.drop (i + 1), by rw [← hx, ← List.drop_eq_getElem_cons hil, List.take_append_drop], by rw [List.length_take]; omega⟩
  have hdl := HK10.out.data (⟨nm, dt⟩, dv) (by rw [← hx]; exact List.getElem_mem _)
  dsimp only at hdl
  have hd300 : dt.length ≤ 300 := (HR.out.ok ⟨nm, dt⟩ (by rw [List.mem_map]; exact ⟨(⟨nm, dt⟩, dv), by rw [← hx]; exact List.getElem_mem _, rfl⟩)).2
  have HREF := Lib.hid hre
  have HL1 := Lib.hid hL1
  obtain ⟨da, dc, rfl, -⟩ := hdl.shape
  have HDL := Lib.hid hdl
  clear hi hx hre hL1 hdl
  refine (HPI.out _).mono ?_
  rintro e w' ⟨rfl, hw'⟩
  subst hw'
  obtain ⟨nmB, hnmB⟩ : ∃ s : ByteArray, (⟨nm.toArray⟩ : ByteArray) = s := ⟨_, rfl⟩
  rw [hnmB] at e0
  have HNM := Lib.hid hnmB
  have HE0 := Lib.hid e0
  clear hnmB
  by_cases hdz : dt.length = 0
  · have z2 : ((dt.length : Int) == 0) = true := by simp [hdz]
    go_wp2_with fail
    go_ret
    exact ⟨rfl, HF10.out⟩
  have hd0 : 0 < dt.length := by omega
  have z2 : ((dt.length : Int) == 0) = false := by simp [hdz]
  obtain ⟨gd0, cd, rd, hqd, hgd0, hod, hcd, hc1d, hc2d⟩ := HDL.out.row hd0
  simp only [Value.slice.injEq, true_and] at hqd
  obtain ⟨rfl, rfl⟩ := hqd
  have hpm := pickOf_bounds n dt.length (by omega)
  have HPM := Lib.hid (fun w => pick_any n dt.length w (by omega) HN.out.1 HN.out.2 (by omega))
  obtain ⟨m, hm⟩ : ∃ m : Nat, pickOf n dt.length = m := ⟨(pickOf n dt.length).toNat, by omega⟩
  rw [hm] at HPM hpm
  have hml : m < dt.length := by omega
  obtain ⟨P2, c2, Q2, hdt, hmP⟩ : ∃ P2 c2 Q2, dt = P2 ++ c2 :: Q2 ∧ m = P2.length := ⟨dt.take m, dt[m], dt.drop (m + 1), part_at dt m hml, by rw [List.length_take]; omega⟩
  have hx3 := xor8 c2 v8
  rw [HV8.out] at hx3
  have hv80 : v8 ≠ 0 := fun e => by have := HV8.out; rw [e] at this; simp at this; omega
  have hce2 := xor_ne c2 v8 hv80
  generalize c2 ^^^ v8 = c3 at hx3 hce2
  have HX3 := Lib.hid hx3
  have HCE2 := Lib.hid hce2
  have c10 := hod.cell (i := m) (v := .int .u8 c2.toNat) (by rw [hdt, hmP, bcells_append, List.append_assoc, List.getElem?_append_right (by simp)]; simp [bcells])
  have f10 := hod.free m (by rw [List.length_append, length_bcells]; omega)
  have HOD := Lib.hid hod
  have HDT := Lib.hid hdt
  have HMP := Lib.hid hmP
  have hgd2 : gd0 < w2.heap.size := by
    have := (HKR.out.data (⟨nm, dt⟩, .slice (some ⟨gd0, 0, none⟩) dt.length dc) (by rw [HREF.out]; simp)).lt gd0 rfl
    omega
  clear hm hdt hmP hx3 hce2 hod hv80
  go_wp2_with fail
  refine (HPM.out _).mono ?_
  rintro e w' ⟨rfl, hw'⟩
  subst hw'
  clear HPI HPM
  go_wp2_with fail
  rw [HX3.out]
  have hk11 : Fr (fun b => b = gd0) w10 (w10.setCell ⟨gd0, m, none⟩ (.int .u8 c3.toNat)) := (Fr.refl _ _).setCell _ _ (fun _ => rfl)
  have hown11 : Own (w10.setCell ⟨gd0, m, none⟩ (.int .u8 c3.toNat)) gd0 5 (bcells (P2 ++ c3 :: Q2) ++ rd) := by
    have h := HOD.out.set m (.int .u8 c3.toNat)
    rw [HDT.out, bcells_set P2 Q2 c2 c3 rd m HMP.out] at h
    exact h
  have hz11 := hk11.size
  generalize w10.setCell ⟨gd0, m, none⟩ (.int .u8 c3.toNat) = w11 at hk11 hown11 hz11 ⊢
  have hl3 : (P2 ++ c3 :: Q2).length = dt.length := by rw [HDT.out]; simp
  have hdne : dgN (P2 ++ c3 :: Q2) ≠ dgN dt := by rw [HDT.out]; exact fun e => dgN_ne P2 Q2 c3 c2 (fun e => HCE2.out e.symm) e
  have hne : g0 ≠ gd0 := fun e => (HK10.out.vec.apartT HOD.out (by decide)) (by rw [e]; rfl)
  have hcell11 := hk11.cell HE0.out hne
  have hK11 : KFils w11 w.heap.size (.slice (some ⟨g0, 0, none⟩) ref.length rc) (L1 ++ (⟨nm, P2 ++ c3 :: Q2⟩, .slice (some ⟨gd0, 0, none⟩) dt.length dc) :: L2) := by
    have h10 : KFils w10 w.heap.size (.slice (some ⟨g0, 0, none⟩) ref.length rc) (L1 ++ (⟨nm, dt⟩, .slice (some ⟨gd0, 0, none⟩) dt.length dc) :: L2) := by rw [← HREF.out]; exact HK10.out
    exact h10.turn hl3 hk11 ⟨by rw [length_bcells, hl3]; omega, .inr ⟨gd0, dc, rd, rfl, hgd0, hown11, by rw [List.length_append, length_bcells, hl3]; rw [List.length_append, length_bcells] at hcd; exact hcd, hc1d, hc2d⟩⟩
  have hR11 : IsTree ((L1 ++ ((⟨nm, P2 ++ c3 :: Q2⟩ : Fil), Value.slice (some ⟨gd0, 0, none⟩) dt.length dc) :: L2).map (·.1)) := by
    have h := HR.out
    rw [HREF.out, List.map_append, List.map_cons] at h
    rw [List.map_append, List.map_cons]
    exact h.turn hl3
  have hplan : planK ((L1 ++ ((⟨nm, P2 ++ c3 :: Q2⟩ : Fil), Value.slice (some ⟨gd0, 0, none⟩) dt.length dc) :: L2).map (·.1)) 4000 R = .inl (.file ⟨nm.toArray⟩ 9) := by
    rw [← HRR.out]
    refine plan_basis HS.out HR.out HBB.out.1 HBB.out.2 4000 ?_
    rw [HREF.out]
    simp only [List.map_append, List.map_cons]
    exact difN_at _ ⟨nm, P2 ++ c3 :: Q2⟩ _ (entOf ⟨nm, dt⟩) _ rfl (fun h => hdne h.2)
  have hll : (L1 ++ ((⟨nm, P2 ++ c3 :: Q2⟩ : Fil), Value.slice (some ⟨gd0, 0, none⟩) dt.length dc) :: L2).length = ref.length := by rw [HREF.out]; simp
  generalize L1 ++ ((⟨nm, P2 ++ c3 :: Q2⟩ : Fil), Value.slice (some ⟨gd0, 0, none⟩) dt.length dc) :: L2 = ref2 at hK11 hR11 hplan hll
  have HF11 := Lib.hid (show Fr (fun _ => False) w w11 from HF10.out.step hk11 (fun b hb hl => by omega))
  have hown11b := HOWN10.out.keep hk11 (fun e => by omega)
  have hB11 := isB_row hown11b (by omega) hc2
  have HB11 := Lib.hid hB11
  have hrb8 : True := trivial
  have HN := Lib.hid (pnew_any _ ref2 w.heap.size 4000 w11 (HG.out.keep HF11.out id) hK11.fils (fun p hp => by have := (tree_data rfl hR11).2.1 p hp; omega) (fun p hp => by have := (tree_data rfl hR11).1 p hp; omega) (by omega))
  have hnn := newErr_none (room := 4000) hR11 (by omega) (by omega)
  rw [show (newErr (ref2.map (·.1)) 4000).k = 0 by rw [hnn]; rfl, show (newErr (ref2.map (·.1)) 4000).name = ByteArray.empty by rw [hnn]; rfl] at HN
  have HNN := Lib.hid hnn
  have HPL := Lib.hid hplan
  have HK11 := Lib.hid hK11
  have HC11 := Lib.hid hcell11
  clear hnn hplan hK11 hR11 hcell11 hown11 hk11 hown11b hB11 hl3 hdne hne c10 f10 HCL HKR HK10 HQ10 HF32 HX3 hrb8
  refine HN.out.mono ?_
  rintro e w12 ⟨p, rfl, hf12, hnp⟩
  obtain ⟨gm2, gd2, rfl, hgm2, hgd2', hmi12⟩ := hnp.1 HNN.out
  have HF12 := Lib.hid (HF11.out.step hf12 (fun _ h _ => h))
  have HCL2 := Lib.hid (clear_new (HG.out.keep HF11.out id) (HE.out.keep HF11.out) hgm2 hgd2')
  have hz12 := hf12.size
  have hrb := replay_bad (tr := ref2.map (·.1)) (room := 4000) 0 HPL.out
  have hrp := preplay_up gm2 gd2 w11.heap.size (ref2.map (·.1)) 4000 0 gb 0 cb R w12 hmi12 hz12 HCL2.out (HG.out.keep HF12.out id) (HE.out.keep HF12.out) (HB11.out.keep0 hf12)
  unfold PReplayP at hrp
  rw [hrb.1, hrb.2.1, hrb.2.2] at hrp
  have hnk : (Err.file ⟨nm.toArray⟩ 9).name = nmB := HNM.out
  rw [hnk, show (Err.file ⟨nm.toArray⟩ 9).k = 9 from rfl] at hrp
  have HRP := Lib.hid hrp
  have HK12 := Lib.hid (HK11.out.keep0 hf12)
  have HC12 := Lib.hid (hf12.cell HC11.out id)
  have HH12 := Lib.hid (held_mirAt hmi12)
  have hgm3 : g0 < w11.heap.size := World.block_lt_of_cell? w11 _ HC11.out
  clear hrb hrp hnk hnp hmi12 hf12
  go_wp2_with fail
  refine HRP.out.mono ?_
  rintro e w13 ⟨rfl, hmi13, hf13⟩
  have hK13 : KFils w13 w.heap.size (.slice (some ⟨g0, 0, none⟩) ref.length rc) ref2 := HK12.out.held hf13 HH12.out
  have HH := Lib.hid (khas_any gm2 gd2 w11.heap.size (ref2.map (·.1)) 4000 _ ref2 w.heap.size w13 hmi13 hK13.fils (by omega))
  have HC13 := Lib.hid (hf13.cell HC12.out (fun e => by rcases e with e | e <;> (dsimp only at e; omega)))
  have HF13 := Lib.hid (HF12.out.step hf13 (fun b hb hl => show False by rcases hb with rfl | rfl <;> omega))
  clear hK13 hmi13 hf13 HRP
  go_wp2_with fail
  refine HH.out.mono ?_
  rintro e w14 ⟨b14, rfl, hb14, -, hf14⟩
  obtain rfl : b14 = true := hb14.2 rfl
  have hc14 := hf14.cell HC13.out (fun e => by dsimp only at e; omega)
  have HF14 := Lib.hid (HF13.out.step hf14 (fun b hb hl => by omega))
  clear hb14 hf14 HH
  go_wp2_with fail
  go_ret
  exact ⟨rfl, HF14.out⟩
end Go.Proofs.YtlcdgbhigfgehabGreatDoor
/- What every card of this seat wants: closed facts, and what the listed variable errors.errorType gives a walk (after the guide's worked toy toyas). -/
namespace Go.Proofs.YtlcdgbhigfgehabGreatDoor
open Go.ChangeShapes Go.WideShapes Go.ChangeAt Go.RowKit

theorem cardOwn : ownKnob Tryz.prog.godebug = none := by kernel_rfl
theorem cardLaidOut : laidOutB Tryz.prog = true := by kernel_rfl
theorem cb_et : Tryz.prog.globalNamed "errors.errorType" = some 0 := by kernel_rfl
theorem cb_rt : (Tryz.prog.cutTypes.find? (·.1 == "internal/reflectlite.rtype")).map (·.2) = some 205 := by kernel_rfl
theorem cb_oneRow : ((List.range 311).filter fun t => Tryz.prog.rowNamed t [101, 114, 114, 111, 114]) = [60] := by kernel_rfl
theorem cb_size : Tryz.prog.types.size = 311 := by kernel_rfl
theorem cb_handle : typeHandle Tryz.prog 60 = .pointer (some ⟨2, 60, none⟩) := by kernel_rfl
theorem handle_of_met {W : World} {l : List (String × DataW Unit)} (hx : ("errors.errorType", Rows.laid_errors_errorType) ∈ l) (h' : handlesMet Tryz.prog l W) : ErrType W := by
  obtain ⟨name, u, ty, e1, e2, e3, e4, e5⟩ := h' _ hx
  have en : name = [101, 114, 114, 111, 114] := (Option.some.inj e1).symm
  subst en
  obtain rfl := Option.some.inj (cb_rt.symm.trans e2)
  have hm : ty ∈ (List.range 311).filter fun t => Tryz.prog.rowNamed t [101, 114, 114, 111, 114] := List.mem_filter.2 ⟨List.mem_range.2 (by rw [← cb_size]; exact e3), e4⟩
  rw [cb_oneRow] at hm
  obtain rfl := List.mem_singleton.1 hm
  rw [cb_handle] at e5
  simpa [ErrType] using World.var?_cell cb_et e5 0
theorem handle_of_laid {W : World} (h : laidMetH Tryz.prog [("errors.errorType", Rows.laid_errors_errorType)] W) : ErrType W := by
  have h' : laidMet Tryz.prog [] W ∧ handlesMet Tryz.prog [("errors.errorType", Rows.laid_errors_errorType)] W := h
  exact handle_of_met (List.mem_singleton.2 rfl) h'.2

/-- A world that meets the condition: the settled one, the variable's cell laid. -/
noncomputable def laidWorld (os : Os) : World :=
  let w0 := World.holding Tryz.prog os ⟨#[], #[], []⟩
  { w0 with heap := w0.heap.modify 0 fun
      | .cells _ t frozen => .cells #[.iface 205 (.agg #[.pointer (some ⟨2, 60, none⟩)])] t frozen
      | o => o }
theorem laidWorld_met (os : Os) (args : Array Value) : laidMetH Tryz.prog [("errors.errorType", Rows.laid_errors_errorType)] ((laidWorld os).forCall (fun _ _ => 0) ⟨#[], args, []⟩).memory :=
  laidMetH_of_parts (laidMet_nil _ _) (by kernel_rfl)
end Go.Proofs.YtlcdgbhigfgehabGreatDoor
/- What the cards want whose rows list the form's error too: what it gives a walk; a world that meets the condition. -/
namespace Go.Proofs.YtlcdgbhigfgehabGreatDoor
open Go.ChangeShapes Go.WideShapes Go.ChangeAt Go.RowKit

theorem cb_form : Tryz.prog.globalNamed "mirror/batch.errForm" = some 1 := by kernel_rfl
theorem cb_formT : (Tryz.prog.globals[1]?).map (·.type) = some 60 := by kernel_rfl
theorem handle_of_laidF {W : World} (h : laidMetH Tryz.prog [("errors.errorType", Rows.laid_errors_errorType), ("mirror/batch.errForm", Rows.laid_mirror_batch_errForm)] W) : ErrType W := by
  have h' : laidMet Tryz.prog [("mirror/batch.errForm", Rows.laid_mirror_batch_errForm)] W ∧ handlesMet Tryz.prog [("errors.errorType", Rows.laid_errors_errorType)] W := h
  exact handle_of_met (List.mem_singleton.2 rfl) h'.2
theorem form_of_laid {W : World} (h : laidMetH Tryz.prog [("errors.errorType", Rows.laid_errors_errorType), ("mirror/batch.errForm", Rows.laid_mirror_batch_errForm)] W) : ErrForm W := by
  have h' : laidMet Tryz.prog [("mirror/batch.errForm", Rows.laid_mirror_batch_errForm)] W ∧ handlesMet Tryz.prog [("errors.errorType", Rows.laid_errors_errorType)] W := h
  obtain ⟨ps, ⟨g1, t1, cs1, f1, p1, q1, hg1, ht1, hv1, hd1, _, _⟩, _, _⟩ := h'.1
  obtain rfl := Option.some.inj (cb_form.symm.trans hg1)
  obtain rfl := Option.some.inj (cb_formT.symm.trans ht1)
  obtain ⟨_, u, v, hcs, _, _⟩ := iface_of_trod Tryz.underlying60 hd1
  refine ⟨u, v, ?_⟩
  have := World.var?_cell hg1 hv1 0
  rw [Array.eq_one_of_toList hcs] at this
  simpa using this
/-- A world that meets the condition: the settled one, both variables' cells laid, the error behind all. -/
noncomputable def laidWorldF (os : Os) : World :=
  let w0 := laidWorld os
  { w0 with heap := (w0.heap.modify 1 fun
      | .cells _ t frozen => .cells #[.iface 279 (.pointer (some ⟨w0.heap.size, 0, none⟩))] t frozen
      | o => o).push (.cells #[.string ⟨#[110, 111, 32, 98, 97, 116, 99, 104]⟩] 300) }
theorem laidWorldF_met (os : Os) (args : Array Value) : laidMetH Tryz.prog [("errors.errorType", Rows.laid_errors_errorType), ("mirror/batch.errForm", Rows.laid_mirror_batch_errForm)] ((laidWorldF os).forCall (fun _ _ => 0) ⟨#[], args, []⟩).memory :=
  laidMetH_of_parts (laidMet_of_run' 8 (by kernel_rfl) (by kernel_rfl)) (by kernel_rfl)
end Go.Proofs.YtlcdgbhigfgehabGreatDoor
/- The law Broken's card: its row out of its walk; what the row lists is tied to the program's text. For every input. -/
namespace Go.Proofs.YtlcdgbhigfgehabGreatDoor
open Go.ChangeShapes Go.WideShapes Go.ChangeAt Go.RowKit
open Go.ChangeMaps (open_string shut_string)
set_option linter.unusedVariables false

theorem bulk_strs {H : Type} {x : DataW H} {z : List ByteArray} (h : x = .nil ∧ z = [] ∨ ∃ r, x = .slice (ChangeShapes.strs z) r) : True := trivial

set_option maxRecDepth 100000 in
theorem broken_contract (H : Type) (enc : TypeId × Value → H) (W : World) (base : Nat) (args : Array Value) (ds gs : List (DataW H)) (before : List MemPlace)
    (hval : ∀ (j : Nat) t v, Tryz.f4.params[j]? = some t → args[j]? = some v → Value.okWide Tryz.prog W .any base t v)
    (hW : DataW.Whole enc Tryz.prog Tryz.f4.params.toList Rows.brokenSpec.vars false W args.toList ds gs before) (hL : laidMetH Tryz.prog Rows.brokenRow.laid W) :
    Calls Tryz.prog 4 args W fun e W' => ∃ v, e = .returned v ∧ Rows.brokenSpec.post enc Tryz.prog Tryz.f4 false true false false W args v W' := by
  have hW' := hW
  obtain ⟨p, q, hA0, hV, rfl, hfz, hnd⟩ := hW
  have hA : DataW.TrodAll enc Tryz.prog W 0 (fun _ => true) true Tryz.f4.params.toList args.toList ds p := hA0
  rw [Tryz.params4] at hA hval
  obtain ⟨v0, vs0, d0, ds0, p0, q0, hargs, rfl, rfl, h0, r0⟩ := trodAll_cons hA
  obtain ⟨v1, vs1, d1, ds1, p1, q1, rfl, rfl, rfl, h1, r1⟩ := trodAll_cons r0
  obtain ⟨v2, vs2, d2, ds2, p2, q2, rfl, rfl, rfl, h2, r2⟩ := trodAll_cons r1
  obtain ⟨v3, vs3, d3, ds3, p3, q3, rfl, rfl, rfl, h3, r3⟩ := trodAll_cons r2
  obtain ⟨v4, vs4, d4, ds4, p4, q4, rfl, rfl, rfl, h4, r4⟩ := trodAll_cons r3
  obtain ⟨v5, vs5, d5, ds5, p5, q5, rfl, rfl, rfl, h5, r5⟩ := trodAll_cons r4
  obtain ⟨rfl, rfl, rfl⟩ := trodAll_nil r5
  obtain rfl : args = #[v0, v1, v2, v3, v4, v5] := by cases args; simp_all
  obtain ⟨rfl, rfl⟩ := trodVars_none hV
  have k0 := h0
  have lt0 : ∀ x ∈ p0, x.block < W.heap.size := by obtain ⟨m, hm⟩ := k0; exact DataW.trod_lt m _ _ _ hm
  obtain ⟨a0, len0, cap0, rfl⟩ := okWide_slice Tryz.underlying22 (hval 0 22 v0 rfl rfl)
  obtain ⟨fu0, hu0⟩ := h0
  obtain ⟨z0, w0, s0, l0, b0⟩ := strs_open Tryz.underlying22 Tryz.underlying9 (by kernel_rfl) hu0
  have hb0 : True := bulk_strs b0
  obtain ⟨a1, rfl, rfl, rfl, w1⟩ := open_int Tryz.underlying3 (hval 1 3 v1 rfl rfl) h1
  have k2 := h2
  have lt2 : ∀ x ∈ p2, x.block < W.heap.size := by obtain ⟨m, hm⟩ := k2; exact DataW.trod_lt m _ _ _ hm
  obtain ⟨a2, len2, cap2, rfl⟩ := okWide_slice Tryz.underlying22 (hval 2 22 v2 rfl rfl)
  obtain ⟨fu2, hu2⟩ := h2
  obtain ⟨z2, w2, s2, l2, b2⟩ := strs_open Tryz.underlying22 Tryz.underlying9 (by kernel_rfl) hu2
  have hb2 : True := bulk_strs b2
  obtain ⟨a3, rfl, rfl, rfl, w3⟩ := open_int Tryz.underlying3 (hval 3 3 v3 rfl rfl) h3
  obtain ⟨a4, rfl, rfl, rfl, w4⟩ := open_int Tryz.underlying3 (hval 4 3 v4 rfl rfl) h4
  obtain ⟨a5, rfl, rfl, rfl, w5⟩ := open_int Tryz.underlying3 (hval 5 3 v5 rfl rfl) h5
  clear hA0
  have hg := handle_of_laidF hL
  have he := form_of_laid hL
  refine (broken_walk a0 len0 cap0 z0 a1 a2 len2 cap2 z2 a3 a4 a5 W hg he ⟨w0, s0, l0⟩ (bounds_i64 w1).1 (bounds_i64 w1).2 ⟨w2, s2, l2⟩ (bounds_i64 w3).1 (bounds_i64 w3).2 (bounds_i64 w4).1 (bounds_i64 w4).2 (bounds_i64 w5).1 (bounds_i64 w5).2).mono fun e W' ⟨he, bel⟩ => ?_
  subst he
  have hbel := bel.none_below
  exact ⟨_, rfl, _, _, _, [], _, [], hW', trodAll_mk1 (shut_bool Tryz.underlying4 _), (trodAll_cons_mk (Below.trod cardLaidOut (by kernel_rfl) (of_decide_eq_true (by kernel_rfl)) k0 hbel lt0) (trodAll_cons_mk (shut_int Tryz.underlying3 w1) (trodAll_cons_mk (Below.trod cardLaidOut (by kernel_rfl) (of_decide_eq_true (by kernel_rfl)) k2 hbel lt2) (trodAll_cons_mk (shut_int Tryz.underlying3 w3) (trodAll_cons_mk (shut_int Tryz.underlying3 w4) (trodAll_cons_mk (shut_int Tryz.underlying3 w5) trodAll_mk0)))))), rfl, hbel.frame _, fun h => by cases h⟩

theorem broken_reads (os : Os) {H : Type} (enc : TypeId × Value → H) : ∃ places, DataW.whole enc Tryz.prog ((laidWorldF os).forCall (fun _ _ => 0) ⟨#[], #[.slice none 0 0, .int .i64 0, .slice none 0 0, .int .i64 0, .int .i64 0, .int .i64 0], []⟩).memory Tryz.f4.params.toList Rows.brokenSpec.vars false (#[.slice none 0 0, .int .i64 0, .slice none 0 0, .int .i64 0, .int .i64 0, .int .i64 0] : Array Value).toList 8 = some ([.nil, .lit (.int .i64 0), .nil, .lit (.int .i64 0), .lit (.int .i64 0), .lit (.int .i64 0)], [], places) :=
  ⟨[], by kernel_rfl⟩
set_option maxRecDepth 100000 in
theorem broken_lifted (os : Os) (started : os.Started) (H : Type) (enc : TypeId × Value → H) (F : Stop.Interp) :
    ReturnsInLeavingWide { calm := true } Tryz.checked os 4 .any ((OpenSpec.ofChange Rows.brokenSpec).preRow enc Tryz.prog Tryz.f4 Rows.brokenRow.domain false Rows.brokenRow.laid) ((OpenSpec.ofChange Rows.brokenSpec).postWith enc Tryz.prog Tryz.f4 F (outsideKept [.timePasses]) false true false) := by
  obtain ⟨places, hx⟩ := broken_reads os enc
  refine returnsInLeaving_of_row_time (C := Tryz.checked) (s := Rows.brokenSpec) cardOwn started (by kernel_rfl) Tryz.func4
    (witness_row_calm (enc := enc) (C := Tryz.checked) (s := OpenSpec.ofChange Rows.brokenSpec) (laidWorldF os) #[.slice none 0 0, .int .i64 0, .slice none 0 0, .int .i64 0, .int .i64 0, .int .i64 0] rfl (by kernel_rfl) (by kernel_rfl) (by kernel_rfl)
      (OpenSpec.preRow_of_cond 8 hx (by kernel_rfl) (fun k hk => by cases hk) (by kernel_rfl) (laidWorldF_met os _))) ?_
  intro W base args ds gs before hval hW hL
  exact broken_contract H enc W base args ds gs before hval hW hL
theorem broken_said : Rows.BrokenSaid :=
  OpenClaim.holds_of_wide_leaving_time 4 Tryz.f4 rfl rfl rfl rfl rfl rfl rfl ⟨rfl, rfl, rfl, rfl, rfl⟩ rfl rfl rfl rfl rfl (by kernel_rfl) Tryz.func4 (by kernel_rfl)
    (of_decide_eq_true (by kernel_rfl)) (by unfold Func.isWrapper; first | (rw [if_pos (by decide +kernel)]; kernel_rfl) | (rw [if_neg (by decide +kernel)]; exact ⟨rfl, rfl⟩))
    (fun os started H enc _ F => by rw [OpenClaim.pre_eq_preRow]; exact broken_lifted os started H enc F)
theorem broken_plain (f : FuncId) (fn : Func) (hf : Tryz.pinned.checked.prog.funcNamed "mirror/mirrorkeep.Broken" = some f) (hfn : Tryz.pinned.checked.prog.funcs[f]? = some fn) :
    true = Tryz.pinned.checked.prog.looks [] ∧ ∀ (j : Nat) t, fn.params[j]? = some t → Tryz.pinned.checked.prog.wantsStandIn t = false := by
  obtain rfl : f = 4 := Option.some.inj ((show Tryz.prog.funcNamed "mirror/mirrorkeep.Broken" = some 4 by kernel_rfl).symm.trans hf) |>.symm
  obtain rfl : fn = Tryz.f4 := (Option.some.inj (Tryz.func4.symm.trans hfn)).symm
  refine ⟨by kernel_rfl, fun j t ht => ?_⟩
  rw [Tryz.params4] at ht
  have hm := Array.mem_of_getElem? ht
  simp only [List.mem_toArray, List.mem_cons, List.not_mem_nil, or_false] at hm
  rcases hm with rfl | rfl | rfl | rfl | rfl | rfl
  · exact (show Tryz.prog.wantsStandIn 22 = false by kernel_rfl)
  · exact (show Tryz.prog.wantsStandIn 3 = false by kernel_rfl)
  · exact (show Tryz.prog.wantsStandIn 22 = false by kernel_rfl)
  · exact (show Tryz.prog.wantsStandIn 3 = false by kernel_rfl)
  · exact (show Tryz.prog.wantsStandIn 3 = false by kernel_rfl)
  · exact (show Tryz.prog.wantsStandIn 3 = false by kernel_rfl)

theorem broken_card : Rows.BrokenCardSaid :=
  holds_tied_goes_at .later true _ _ _ _ broken_said (by kernel_rfl) broken_row_tie rfl ⟨rfl, rfl⟩ (by kernel_rfl) rfl broken_plain (by kernel_rfl)
#print axioms broken_card
end Go.Proofs.YtlcdgbhigfgehabGreatDoor
