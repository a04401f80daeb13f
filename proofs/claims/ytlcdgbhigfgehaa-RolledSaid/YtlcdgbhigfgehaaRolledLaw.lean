/- The law Rolled: a weak sum that is moved on is the weak sum of the window moved on. For texts of any length and numbers of any size. -/
import Derived.Test.YtlcdgbhigfgehaaSumsWalk
import Derived.Test.YtlcdgbhigfgehaaVec
import Derived.Test.YtlcdgbhigfgehaaRoomy
import Derived.ProofKit
import Derived.OpenShut
import Derived.ShutString
import Derived.ChangeOld
namespace Go.Proofs.Ytlcdgbhigfgehaa
open Go.RowKit

theorem extract_tail (t : ByteArray) (c : UInt8) (l : List UInt8) (h : t.data.toList = c :: l) : (t.extract 1 t.size).data.toList = l := by
  have h1 : t.size = l.length + 1 := by rw [show t.size = t.data.toList.length by simp, h]; simp
  rw [ByteArray.data_extract, Array.toList_extract, h, h1]
  simp [List.extract_eq_take_drop]
theorem one3 : weakOf [3] = 196611 := by decide
set_option maxHeartbeats 1000000 in
theorem rolled_walk (s : ByteArray) (i : Int) (w : World) (_hs : s.size ≤ maxLen) :
    Calls Try.prog 3 #[.string s, .int .i64 i] w fun e w' => e = .returned (.bool true) ∧ Below w.heap.size w w' := by
  unfold maxLen at _hs
  go_enter Try.func3, Try.ntmps3
  go_wp2_with fail
  refine (clip_any _ _ 70000 _ (by omega)).mono ?_
  rintro e w' ⟨rfl, rfl⟩
  have hsz := clipOf_size s 70000
  generalize clipOf s 70000 = t at hsz ⊢
  clear _hs
  cases hl : t.data.toList with
  | nil =>
    have h0 : t.toList.isEmpty = true := by rw [ByteArray.toList_eq, hl]; rfl
    go_wp2_with fail
    refine (mweak_any _ [] _ (.inl ⟨rfl, rfl⟩)).mono ?_
    rintro e w' ⟨rfl, rfl⟩
    have hz : weakOf [] = 0 := by decide
    go_wp2_with fail
    go_ret
    exact ⟨rfl, Below.refl _ _⟩
  | cons c l =>
    have h0 : t.toList.isEmpty = false := by rw [ByteArray.toList_eq, hl]; rfl
    have hpos : 0 < t.size := by rw [show t.size = t.data.toList.length by simp, hl]; simp
    have hlen : l.length = t.size - 1 := by have : t.size = t.data.toList.length := by simp
                                            rw [this, hl]; simp
    have HL := Lib.hid hl
    have HN := Lib.hid hlen
    clear hl hlen
    go_wp2_with fail
    obtain ⟨cap, rest, w1, r1, r2, r3, r4, r5, r6, r7, -⟩ := run_bytes_from (P := Try.prog) w 9 25 5 t Try.underlying9 Try.underlying25 Try.underlying5 (by omega)
    rw [r1]
    clear r1
    have hb1 : IsB w1 (.slice (some ⟨w.heap.size, 0, none⟩) t.size cap) t.data.toList := by
      have := IsB.ofOwn0 (cap := cap) (l := t.data.toList) (rest := rest) r4 rfl (by simpa using r2) r3
      simpa using this
    have R5 := Lib.hid r5
    have R7 := Lib.hid r7
    clear r5 r7
    go_wp2_with fail
    refine (mweak_any _ _ _ hb1).mono ?_
    rintro e w' ⟨rfl, rfl⟩
    go_wp2_with fail
    have hw0 := weakOf_lt t.data.toList
    refine (mroll_any _ _ _ _ _ (by omega) (by omega) (by omega) (by have := t[0].toNat_lt; omega) (by omega) (by omega)).mono ?_
    rintro e w' ⟨rfl, rfl⟩
    clear hw0
    go_wp2_with fail
    have hsz2 : (t.extract 1 t.size).size = t.size - 1 := by simp
    obtain ⟨cap2, rest2, w2, q1, q2, q3, q4, q5, q6, q7, -⟩ := run_bytes_from (P := Try.prog) w1 9 25 5 (t.extract 1 t.size) Try.underlying9 Try.underlying25 Try.underlying5 (by omega)
    rw [q1]
    clear q1
    rw [hsz2] at q2 q5 ⊢
    have hv : Vec w2 w.heap.size 5 1 (.slice (some ⟨w1.heap.size, 0, none⟩) (t.size - 1) cap2) (t.size - 1) (bcells (t.extract 1 t.size).data.toList) := by
      refine ⟨by simp, .inr ⟨w1.heap.size, cap2, rest2, rfl, r6.size, q4, ?_, q2, q3⟩⟩
      rw [List.length_append, length_bcells, show (t.extract 1 t.size).data.toList.length = t.size - 1 by simp]; omega
    have HQ5 := Lib.hid q5
    have HQ7 := Lib.hid q7
    have HS := Lib.hid hsz2
    clear q5 q7 hsz2
    have hB : w.heap.size ≤ w2.heap.size := Nat.le_trans r6.size q6.size
    have HF : Fr (fun _ => False) w w2 := r6.step q6 (fun k hk hl => hk.elim)
    go_wp2_with (at_builtin; refine wpList_append_vec rfl _ _ _ rfl w.heap.size 5 1 1 elt_u8 (hv.keep (Fr.alloc (Fr.refl (fun _ => False) _) _) (fun _ _ h => h)) rfl (m := 1) (news := [.int .u8 (i % 256)]) (Reads.ofOwn (Own.alloc _ _ _) _ _) rfl rfl (by intro u hu; simp at hu; subst hu; rfl) (by unfold maxLen; omega) (by omega) (by simp; omega) ?_; intro v3 w3 hv3 hf3 hd3 hn3)
    have hl3 : t.size - 1 + 1 = (l ++ [UInt8.ofNat (i % 256).toNat]).length := by rw [List.length_append, HN.out]; rfl
    have hx3 : bcells (t.extract 1 t.size).data.toList ++ [Value.int IntKind.u8 (i % 256)] = bcells (l ++ [UInt8.ofNat (i % 256).toNat]) := by
      have hd : (t.extract 1 t.size).data.toList = l := by
        rw [extract_tail t c l HL.out]
      rw [hd, bcells_append]
      simp [bcells]
      omega
    rw [hl3, hx3] at hv3
    have hb3 := hv3.isB
    have HV3 := Lib.hid hv3
    clear hd3 hn3 hv3
    refine (mweak_any _ _ _ hb3).mono ?_
    rintro e w' ⟨rfl, rfl⟩
    go_wp2_with fail
    have hr : (rollOf (weakOf t.data.toList) (t.size : Int) (t[0].toNat : Int) (i % 256) == (weakOf (l ++ [UInt8.ofNat (i % 256).toNat]) : Int)) = true := by
      rw [beq_iff_eq, ← weakOf_roll c, HL.out]
      congr 1
      · have : t.size = l.length + 1 := by rw [HN.out]; omega
        rw [this]
      · have : t[0] = c := by
          have h : t.data.toList[0]? = some c := by rw [HL.out]; rfl
          have h2 : t.data.toList[0]? = some t[0] := by rw [List.getElem?_eq_getElem (by simpa using hpos)]; rfl
          rw [h2] at h
          exact Option.some.inj h
        rw [this]
      · simp; omega
    refine (mweak_any _ [3] _ (IsB.ofOwn0 (rest := []) (Own.alloc _ _ _) rfl (by decide) (by decide))).mono ?_
    rintro e w' ⟨rfl, rfl⟩
    have h3 := one3
    go_wp2_with fail
    go_ret
    refine ⟨rfl, (((HF.alloc _).step hf3 (fun k hk hl => ?_)).alloc _).none_below⟩
    simp [Value.ownBlock] at hk
    subst hk
    exact absurd hl (Nat.not_lt_of_le r6.size)

theorem rown : ownKnob Try.prog.godebug = none := by kernel_rfl

open Go.ChangeShapes Go.WideShapes Go.ChangeAt
open Go.ChangeMaps (open_string shut_string)
set_option maxRecDepth 100000 in
theorem rolled_lifted (os : Os) (started : os.Started) (H : Type) (enc : TypeId × Value → H) :
    ReturnsInHanded {} Try.checked os 3 .any (Rows.rolledSpec.pre6 enc Try.prog Try.f3 Rows.rolledRow.domain false) (Rows.rolledSpec.post enc Try.prog Try.f3 false true false false) := by
  refine returnsInHanded_of_change (C := Try.checked) rown started (by kernel_rfl) Try.func3
    (ChangeSpec.witness6 (enc := enc) (C := Try.checked) false ⟨#[], #[.string ByteArray.empty, .int .i64 0], []⟩ 8 (by kernel_rfl) (by kernel_rfl) (by kernel_rfl) (by kernel_rfl)) ?_
  intro W base args ds gs before hval0 hW hcnd _
  have hval : ∀ (j : Nat) t v, Try.f3.params[j]? = some t → args[j]? = some v → Value.okWide Try.prog W .any base t v := hval0
  have hW' := hW
  obtain ⟨p, q, hA0, hV, rfl, hfz, hnd⟩ := hW
  have hA : DataW.TrodAll enc Try.prog W 0 (fun _ => true) true Try.f3.params.toList args.toList ds p := hA0
  rw [Try.params3] at hA hval
  obtain ⟨v0, vs0, d0, ds0, p0, q0, hargs, rfl, rfl, h0, r0⟩ := trodAll_cons hA
  obtain ⟨v1, vs1, d1, ds1, p1, q1, rfl, rfl, rfl, h1, r1⟩ := trodAll_cons r0
  obtain ⟨rfl, rfl, rfl⟩ := trodAll_nil r1
  obtain rfl : args = #[v0, v1] := by cases args; simp_all
  obtain ⟨rfl, rfl⟩ := trodVars_none hV
  obtain ⟨s, rfl, rfl, rfl, hs⟩ := open_string Try.underlying9 (hval 0 9 v0 rfl rfl) h0
  obtain ⟨a1, rfl, rfl, rfl, w1⟩ := open_int Try.underlying3 (hval 1 3 v1 rfl rfl) h1
  clear hA0 hval0
  refine (rolled_walk s a1 W hs).mono fun e W' ⟨he, bel⟩ => ?_
  subst he
  exact ⟨_, rfl, _, _, _, [], _, [], hW', trodAll_mk1 (shut_bool Try.underlying4 _), (trodAll_cons_mk (shut_string Try.underlying9 hs) (trodAll_cons_mk (shut_int Try.underlying3 w1) trodAll_mk0)), rfl, bel.frame _, fun h => by cases h⟩

theorem rolled_over : Rows.rolledRow.holds Try.pinned (OpenSpec.ofChange Rows.rolledSpec) :=
  OpenClaim.holds_of_wide 3 Try.f3 rfl rfl rfl rfl rfl rfl rfl ⟨rfl, rfl, rfl, rfl, rfl⟩ rfl rfl rfl rfl rfl (by kernel_rfl) Try.func3 (by kernel_rfl)
    (of_decide_eq_true (by kernel_rfl)) (by unfold Func.isWrapper; first | (rw [if_pos (by decide +kernel)]; kernel_rfl) | (rw [if_neg (by decide +kernel)]; exact ⟨rfl, rfl⟩))
    (fun os started H enc _ => rolled_lifted os started H enc)

theorem rolled_holds : Rows.RolledSaid := rolled_over
#print axioms rolled_holds
end Go.Proofs.Ytlcdgbhigfgehaa
