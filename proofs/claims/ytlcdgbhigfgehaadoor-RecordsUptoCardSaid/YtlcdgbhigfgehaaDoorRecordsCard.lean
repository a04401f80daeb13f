/- The law Records's card: its row out of its walk; what the row lists is tied to the program's text. Where what is read is of bulk at most 1048576. -/
import Derived.Test.YtlcdgbhigfgehaaDoorRecords
import Derived.Test.YtlcdgbhigfgehaaDoorCardBase
namespace Go.Proofs.YtlcdgbhigfgehaaDoor
open Go.ChangeShapes Go.WideShapes Go.ChangeAt Go.RowKit
open Go.ChangeMaps (open_string shut_string)
set_option linter.unusedVariables false

theorem bulk_strsAll {H : Type} (z : List ByteArray) : Rows.uptoBulkAll (ChangeShapes.strs (H := H) z) = bulkOf z := by
  induction z with
  | nil => rfl
  | cons a l ih =>
    unfold bulkOf at ih ⊢
    rw [List.map_cons, List.sum_cons, ← ih]
    show Rows.uptoBulk (.lit (.string a.data.toList)) + _ = _
    simp [Rows.uptoBulk, ChangeShapes.strs]
theorem bulk_strs {H : Type} {x : DataW H} {z : List ByteArray} (h : x = .nil ∧ z = [] ∨ ∃ r, x = .slice (ChangeShapes.strs z) r) : bulkOf z ≤ Rows.uptoBulk x := by
  rcases h with ⟨rfl, rfl⟩ | ⟨r, rfl⟩
  · simp [bulkOf]
  · rw [show Rows.uptoBulk (.slice (ChangeShapes.strs z) r) = Rows.uptoBulkAll (ChangeShapes.strs (H := H) z) + Rows.uptoBulkAll r + 1 by simp [Rows.uptoBulk], bulk_strsAll]; omega

set_option maxRecDepth 100000 in
theorem records_contract (H : Type) (enc : TypeId × Value → H) (W : World) (base : Nat) (args : Array Value) (ds gs : List (DataW H)) (before : List MemPlace)
    (hval : ∀ (j : Nat) t v, Tryd.f9.params[j]? = some t → args[j]? = some v → Value.okWide Tryd.prog W .any base t v)
    (hW : DataW.Whole enc Tryd.prog Tryd.f9.params.toList Rows.recordsSpec.vars false W args.toList ds gs before) (hbulk : Rows.uptoBulkAll (ds ++ gs) ≤ 1048576) (hL : laidMetH Tryd.prog Rows.recordsUptoRow.laid W) :
    Calls Tryd.prog 9 args W fun e W' => ∃ v, e = .returned v ∧ Rows.recordsSpec.post enc Tryd.prog Tryd.f9 false true false false W args v W' := by
  have hW' := hW
  obtain ⟨p, q, hA0, hV, rfl, hfz, hnd⟩ := hW
  have hA : DataW.TrodAll enc Tryd.prog W 0 (fun _ => true) true Tryd.f9.params.toList args.toList ds p := hA0
  rw [Tryd.params9] at hA hval
  obtain ⟨v0, vs0, d0, ds0, p0, q0, hargs, rfl, rfl, h0, r0⟩ := trodAll_cons hA
  obtain ⟨v1, vs1, d1, ds1, p1, q1, rfl, rfl, rfl, h1, r1⟩ := trodAll_cons r0
  obtain ⟨v2, vs2, d2, ds2, p2, q2, rfl, rfl, rfl, h2, r2⟩ := trodAll_cons r1
  obtain ⟨v3, vs3, d3, ds3, p3, q3, rfl, rfl, rfl, h3, r3⟩ := trodAll_cons r2
  obtain ⟨v4, vs4, d4, ds4, p4, q4, rfl, rfl, rfl, h4, r4⟩ := trodAll_cons r3
  obtain ⟨rfl, rfl, rfl⟩ := trodAll_nil r4
  obtain rfl : args = #[v0, v1, v2, v3, v4] := by cases args; simp_all
  obtain ⟨rfl, rfl⟩ := trodVars_none hV
  have k0 := h0
  have lt0 : ∀ x ∈ p0, x.block < W.heap.size := by obtain ⟨m, hm⟩ := k0; exact DataW.trod_lt m _ _ _ hm
  obtain ⟨a0, len0, cap0, rfl⟩ := okWide_slice Tryd.underlying43 (hval 0 43 v0 rfl rfl)
  obtain ⟨fu0, hu0⟩ := h0
  obtain ⟨z0, w0, -, -, b0⟩ := strs_open Tryd.underlying43 Tryd.underlying9 (by kernel_rfl) hu0
  have hb0 : bulkOf z0 ≤ Rows.uptoBulk d0 := bulk_strs b0
  have k1 := h1
  have lt1 : ∀ x ∈ p1, x.block < W.heap.size := by obtain ⟨m, hm⟩ := k1; exact DataW.trod_lt m _ _ _ hm
  obtain ⟨a1, len1, cap1, rfl⟩ := okWide_slice Tryd.underlying43 (hval 1 43 v1 rfl rfl)
  obtain ⟨fu1, hu1⟩ := h1
  obtain ⟨z1, w1, -, -, b1⟩ := strs_open Tryd.underlying43 Tryd.underlying9 (by kernel_rfl) hu1
  have hb1 : bulkOf z1 ≤ Rows.uptoBulk d1 := bulk_strs b1
  have k2 := h2
  have lt2 : ∀ x ∈ p2, x.block < W.heap.size := by obtain ⟨m, hm⟩ := k2; exact DataW.trod_lt m _ _ _ hm
  obtain ⟨a2, len2, cap2, rfl⟩ := okWide_slice Tryd.underlying43 (hval 2 43 v2 rfl rfl)
  obtain ⟨fu2, hu2⟩ := h2
  obtain ⟨z2, w2, -, -, b2⟩ := strs_open Tryd.underlying43 Tryd.underlying9 (by kernel_rfl) hu2
  have hb2 : bulkOf z2 ≤ Rows.uptoBulk d2 := bulk_strs b2
  have k3 := h3
  have lt3 : ∀ x ∈ p3, x.block < W.heap.size := by obtain ⟨m, hm⟩ := k3; exact DataW.trod_lt m _ _ _ hm
  obtain ⟨a3, len3, cap3, rfl⟩ := okWide_slice Tryd.underlying43 (hval 3 43 v3 rfl rfl)
  obtain ⟨fu3, hu3⟩ := h3
  obtain ⟨z3, w3, -, -, b3⟩ := strs_open Tryd.underlying43 Tryd.underlying9 (by kernel_rfl) hu3
  have hb3 : bulkOf z3 ≤ Rows.uptoBulk d3 := bulk_strs b3
  obtain ⟨a4, rfl, rfl, rfl, w4⟩ := open_int Tryd.underlying3 (hval 4 3 v4 rfl rfl) h4
  clear hA0
  have hg := handle_of_laid hL
  refine (records_walk a0 len0 cap0 z0 a1 len1 cap1 z1 a2 len2 cap2 z2 a3 len3 cap3 z3 a4 W hg w0 w1 w2 w3 (bounds_i64 w4).1 (bounds_i64 w4).2 (by simp only [List.append_nil, Rows.uptoBulkAll] at hbulk; omega)).mono fun e W' ⟨he, bel⟩ => ?_
  subst he
  have hbel := bel.none_below
  exact ⟨_, rfl, _, _, _, [], _, [], hW', trodAll_mk1 (shut_bool Tryd.underlying4 _), (trodAll_cons_mk (Below.trod cardLaidOut (by kernel_rfl) (of_decide_eq_true (by kernel_rfl)) k0 hbel lt0) (trodAll_cons_mk (Below.trod cardLaidOut (by kernel_rfl) (of_decide_eq_true (by kernel_rfl)) k1 hbel lt1) (trodAll_cons_mk (Below.trod cardLaidOut (by kernel_rfl) (of_decide_eq_true (by kernel_rfl)) k2 hbel lt2) (trodAll_cons_mk (Below.trod cardLaidOut (by kernel_rfl) (of_decide_eq_true (by kernel_rfl)) k3 hbel lt3) (trodAll_cons_mk (shut_int Tryd.underlying3 w4) trodAll_mk0))))), rfl, hbel.frame _, fun h => by cases h⟩

theorem records_reads (os : Os) {H : Type} (enc : TypeId × Value → H) : ∃ places, DataW.whole enc Tryd.prog ((laidWorld os).forCall (fun _ _ => 0) ⟨#[], #[.slice none 0 0, .slice none 0 0, .slice none 0 0, .slice none 0 0, .int .i64 0], []⟩).memory Tryd.f9.params.toList Rows.recordsSpec.vars false (#[.slice none 0 0, .slice none 0 0, .slice none 0 0, .slice none 0 0, .int .i64 0] : Array Value).toList 8 = some ([.nil, .nil, .nil, .nil, .lit (.int .i64 0)], [], places) :=
  ⟨[], by kernel_rfl⟩
set_option maxRecDepth 100000 in
theorem records_lifted (os : Os) (started : os.Started) (H : Type) (enc : TypeId × Value → H) (F : Stop.Interp) :
    ReturnsInHanded {} Tryd.checked os 9 .any ((Rows.OpenSpec.upto Rows.recordsSpec).preRow enc Tryd.prog Tryd.f9 Rows.recordsUptoRow.domain false Rows.recordsUptoRow.laid) (((Rows.OpenSpec.upto Rows.recordsSpec).at F).post enc Tryd.prog Tryd.f9 false true false false) := by
  obtain ⟨places, hx⟩ := records_reads os enc
  refine returnsInHanded_of_row (C := Tryd.checked) (s := Rows.OpenSpec.upto Rows.recordsSpec) cardOwn started (by kernel_rfl) Tryd.func9
    (witness_row_at (enc := enc) (C := Tryd.checked) false (laidWorld os) #[.slice none 0 0, .slice none 0 0, .slice none 0 0, .slice none 0 0, .int .i64 0] rfl (by kernel_rfl) (by kernel_rfl) (by kernel_rfl)
      (OpenSpec.preRow_of_cond 8 hx (by kernel_rfl) (fun k hk => by cases hk; kernel_rfl) (by kernel_rfl) (laidWorld_met os _))) ?_
  intro W base args ds gs before hval hW _ hcond _ hL _ _
  exact records_contract H enc W base args ds gs before hval hW (of_decide_eq_true (hcond _ rfl)) hL
theorem records_said : Rows.RecordsUptoSaid :=
  OpenClaim.holds_of_cond 9 Tryd.f9 rfl rfl rfl rfl rfl rfl rfl ⟨rfl, rfl, rfl, rfl, rfl⟩ rfl rfl rfl rfl rfl (by kernel_rfl) Tryd.func9 (by kernel_rfl)
    (of_decide_eq_true (by kernel_rfl)) (by unfold Func.isWrapper; first | (rw [if_pos (by decide +kernel)]; kernel_rfl) | (rw [if_neg (by decide +kernel)]; exact ⟨rfl, rfl⟩))
    (fun os started H enc _ F => by rw [OpenClaim.pre_eq_preRow]; exact records_lifted os started H enc F)
theorem records_plain (f : FuncId) (fn : Func) (hf : Tryd.pinned.checked.prog.funcNamed "mirror/mirrorlaw.Records" = some f) (hfn : Tryd.pinned.checked.prog.funcs[f]? = some fn) :
    true = Tryd.pinned.checked.prog.looks [] ∧ ∀ (j : Nat) t, fn.params[j]? = some t → Tryd.pinned.checked.prog.wantsStandIn t = false := by
  obtain rfl : f = 9 := Option.some.inj ((show Tryd.prog.funcNamed "mirror/mirrorlaw.Records" = some 9 by kernel_rfl).symm.trans hf) |>.symm
  obtain rfl : fn = Tryd.f9 := (Option.some.inj (Tryd.func9.symm.trans hfn)).symm
  refine ⟨by kernel_rfl, fun j t ht => ?_⟩
  rw [Tryd.params9] at ht
  have hm := Array.mem_of_getElem? ht
  simp only [List.mem_toArray, List.mem_cons, List.not_mem_nil, or_false] at hm
  rcases hm with rfl | rfl | rfl | rfl | rfl
  · exact (show Tryd.prog.wantsStandIn 43 = false by kernel_rfl)
  · exact (show Tryd.prog.wantsStandIn 43 = false by kernel_rfl)
  · exact (show Tryd.prog.wantsStandIn 43 = false by kernel_rfl)
  · exact (show Tryd.prog.wantsStandIn 43 = false by kernel_rfl)
  · exact (show Tryd.prog.wantsStandIn 3 = false by kernel_rfl)

theorem records_card : Rows.RecordsUptoCardSaid :=
  Claim7.holds_tied_plain_at .later [] _ _ _ _ records_said (fun _ h => by cases h) (by kernel_rfl) (fun _ h => by cases h) recordsUpto_row_tie rfl ⟨rfl, rfl⟩ (by kernel_rfl) rfl records_plain (by kernel_rfl)
#print axioms records_card
end Go.Proofs.YtlcdgbhigfgehaaDoor
