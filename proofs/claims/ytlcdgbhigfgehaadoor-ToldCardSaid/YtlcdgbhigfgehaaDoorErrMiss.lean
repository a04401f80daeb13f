/- errors.As, a Kind at the target **api.FileError: false. -/
import Derived.Test.YtlcdgbhigfgehaaDoorErrors
namespace Go.Proofs.YtlcdgbhigfgehaaDoor
open Go.RowKit Go.Extern.Stop Go.Stop Go.Extern

theorem er_assignableKE (w : World) : (ReflectliteType.relation "AssignableTo" ReflectliteType.assignableTo #[.agg #[.pointer (some ⟨2, 23, none⟩)], .iface 164 (.agg #[.pointer (some ⟨2, 116, none⟩)])]).run Tryd.prog w = .ok (.bool false) w := by kernel_rfl
theorem er_assertAs (v : Value) (w : World) : (Instr.typeAssert (.iface 23 v) 88 169 true).run Tryd.prog w = .ok (.tuple #[.nilIface, .bool false]) w := run_typeAssert_lacksB Tryd.underlying169 (by kernel_rfl) (by kernel_rfl) v 88 w
theorem er_assertU (v : Value) (w : World) : (Instr.typeAssert (.iface 23 v) 88 172 true).run Tryd.prog w = .ok (.tuple #[.nilIface, .bool false]) w := run_typeAssert_lacksB Tryd.underlying172 (by kernel_rfl) (by kernel_rfl) v 88 w
theorem er_assertUs (v : Value) (w : World) : (Instr.typeAssert (.iface 23 v) 88 174 true).run Tryd.prog w = .ok (.tuple #[.nilIface, .bool false]) w := run_typeAssert_lacksB Tryd.underlying174 (by kernel_rfl) (by kernel_rfl) v 88 w
set_option maxRecDepth 100000 in
set_option maxHeartbeats 4000000 in
theorem as_miss (e : Int) (t : Addr) (w : World) (hg : ErrType w) :
    Calls Tryd.prog 56 #[.iface 23 (.int .i64 e), .iface 120 (.pointer (some t))] w fun ev w' => ev = .returned (.bool false) ∧ w' = asWorldE w t := by
  unfold ErrType at hg
  unfold asWorldE
  have h6 := @run_callFunc_extern Tryd.prog 68 _ (fun args => ReflectliteValue.unpack (args.getD 0 (.tuple #[]))) Tryd.func68 (by kernel_rfl) (by kernel_rfl) (by kernel_rfl) (by kernel_rfl)
  have h7 := @run_callFunc_extern Tryd.prog 69 _ (ReflectliteValue.methodAny (ReflectliteValue.valueError "reflectlite.Value.Type" 0) (fun t _ _ _ => ReflectliteType.toType t)) Tryd.func69 (by kernel_rfl) (by kernel_rfl) (by kernel_rfl) (by kernel_rfl)
  have h8 := @run_callFunc_extern Tryd.prog 70 _ (ReflectliteValue.method (ReflectliteValue.valueError "reflectlite.Value.IsNil" 0) ReflectliteValue.isNil) Tryd.func70 (by kernel_rfl) (by kernel_rfl) (by kernel_rfl) (by kernel_rfl)
  have h27 := @run_callFunc_extern Tryd.prog 109 _ (ReflectliteType.abiMethod fun t => do pure (.int .u8 (← Rtype.kind t))) Tryd.func109 (by kernel_rfl) (by kernel_rfl) (by kernel_rfl) (by kernel_rfl)
  have h37 := @run_callFunc_extern Tryd.prog 121 _ (ReflectliteType.method ReflectliteType.elem) Tryd.func121 (by kernel_rfl) (by kernel_rfl) (by kernel_rfl) (by kernel_rfl)
  have h38 := @run_callFunc_extern Tryd.prog 122 _ (ReflectliteType.relation "Implements" ReflectliteType.implements_) Tryd.func122 (by kernel_rfl) (by kernel_rfl) (by kernel_rfl) (by kernel_rfl)
  have h10 := @run_callFunc_extern Tryd.prog 88 _ ReflectliteType.typeOf Tryd.func88 (by kernel_rfl) (by kernel_rfl) (by kernel_rfl) (by kernel_rfl)
  have h35 := @run_callFunc_extern Tryd.prog 119 _ (ReflectliteType.relation "AssignableTo" ReflectliteType.assignableTo) Tryd.func119 (by kernel_rfl) (by kernel_rfl) (by kernel_rfl) (by kernel_rfl)
  have tO := er_typeOfK
  have mA := er_methodAssignableTo
  have a25 := er_assignableKE
  have f6 := er_valueOfPE
  have f7 := er_typePE
  have mK := er_methodKind
  have mE := er_methodElem
  have mI := er_methodImplements
  have k27 := er_kindPE
  have k25 := er_kindE
  have e27 := er_elemPE
  have i25 := er_implementsE
  have s1 := er_assertAs
  have s2 := er_assertU
  have s3 := er_assertUs
  have n8 := er_isNilPE ⟨w.heap.size, 0, none⟩ t ((w.alloc (.cells #[.pointer (some t)] 120)).alloc (.cells #[.pointer (some ⟨2, 120, none⟩), .pointer (some ⟨w.heap.size, 0, none⟩), .int .u64 150] 131)) (by simp)
  have hlt : 0 < w.heap.size := by
    rcases Nat.lt_or_ge 0 w.heap.size with h | h
    · exact h
    · simp [World.cell?, Array.getElem?_eq_none h] at hg
  have hg2 : ((w.alloc (.cells #[.pointer (some t)] 120)).alloc (.cells #[.pointer (some ⟨2, 120, none⟩), .pointer (some ⟨w.heap.size, 0, none⟩), .int .u64 150] 131)).cell? ⟨0, 0, none⟩ = some (.iface 164 (.agg #[.pointer (some ⟨2, 88, none⟩)])) := by
    rw [World.cell?_alloc_lt _ _ ⟨0, 0, none⟩ (by first | (simp; done) | (simp; omega)), World.cell?_alloc_lt _ _ ⟨0, 0, none⟩ hlt]; exact hg
  go_enter Tryd.func56, Tryd.ntmps56
  go_wp2
  refine wp_loop_rounds 1 ?_
  rw [rounds_succ]
  go_wp2
  go_ret
  exact ⟨rfl, rfl⟩
end Go.Proofs.YtlcdgbhigfgehaaDoor
