/- The reader of batches: what is told of a file. -/
import Derived.Test.YtlcdgbhigfgehabGreatDoorReader
import Derived.Test.YtlcdgbhigfgehabGreatDoorRange
namespace Go.Proofs.YtlcdgbhigfgehabGreatDoor
open Go.RowKit
set_option maxRecDepth 100000

theorem must_okb (v : Value) (w : World) (b : Bool) (hb : b = true) : Calls Tryz.prog 116 #[v, .bool b] w fun e w' => e = .returned (.tuple #[]) ∧ w = w' := by
  subst hb; exact must_ok v w
theorem must_badb (v : Value) (w : World) (T : TypeId) (u : Value) (h : w.cell? ⟨1, 0, none⟩ = some (.iface T u)) (b : Bool) (hb : b = false) :
    Calls Tryz.prog 116 #[v, .bool b] w fun e w' => e = .panicked [{ v := .iface T u, recovered := false }] ∧ w = w' := by
  subst hb; exact must_bad v w T u h
theorem number_small (w : World) (rb db dof dcap : Nat) (s : List UInt8) (p n : Nat) (c : Int) (hc : c = n) (F : Value) (h : RD w rb db dof dcap s p F) (hn : n ≤ 2) (hb : p + n ≤ s.length) :
    Calls Tryz.prog 118 #[.pointer (some ⟨rb, 0, none⟩), .int .i64 c] w fun e w' => e = .returned (.int .i64 (numOf ((s.drop p).take n))) ∧ RD w' rb db dof dcap s (p + n) F ∧ Fr (fun k => k = rb) w w' := by
  refine (number_ok w rb db dof dcap s p n c hc F h (by omega) hb).mono ?_
  rintro e w' ⟨rfl, h2⟩
  have := numOf_lt ((s.drop p).take n)
  have hl : ((s.drop p).take n).length = n := by simp; omega
  rw [hl] at this
  have h3 : 256 ^ n ≤ 65536 := by
    have : n = 0 ∨ n = 1 ∨ n = 2 := by omega
    rcases this with rfl | rfl | rfl <;> decide
  exact ⟨by rw [IntWalk.i64_in _ (by omega)], h2⟩
theorem numN_ok {n p : Nat} {s : List UInt8} (h : p + n ≤ s.length) : numN n (s.drop p) = some (numOf ((s.drop p).take n), s.drop (p + n)) := by
  unfold numN
  rw [if_neg (by simp; omega), List.drop_drop]
theorem numN_bad {n p : Nat} {s : List UInt8} (h : s.length < p + n) (hp : p ≤ s.length) : numN n (s.drop p) = none := by
  unfold numN
  rw [if_pos (by simp; omega)]
theorem takeN_ok {n p : Nat} {s : List UInt8} (h : p + n ≤ s.length) : takeN n (s.drop p) = some ((s.drop p).take n, s.drop (p + n)) := by
  unfold takeN
  rw [if_neg (by simp; omega), List.drop_drop]
theorem takeN_bad {n p : Nat} {s : List UInt8} (h : s.length < p + n) (hp : p ≤ s.length) : takeN n (s.drop p) = none := by
  unfold takeN
  rw [if_pos (by simp; omega)]
theorem num1_lt {p : Nat} {s : List UInt8} (h : p + 1 ≤ s.length) : numOf ((s.drop p).take 1) < 256 := by
  have := numOf_lt ((s.drop p).take 1)
  have hl : ((s.drop p).take 1).length = 1 := by simp; omega
  rw [hl] at this
  omega
theorem num2_lt {p : Nat} {s : List UInt8} (h : p + 2 ≤ s.length) : numOf ((s.drop p).take 2) < 65536 := by
  have := numOf_lt ((s.drop p).take 2)
  have hl : ((s.drop p).take 2).length = 2 := by simp; omega
  rw [hl] at this
  omega
theorem num8_lt {p : Nat} {s : List UInt8} (h : p + 8 ≤ s.length) : numOf ((s.drop p).take 8) < 18446744073709551616 := by
  have := numOf_lt ((s.drop p).take 8)
  have hl : ((s.drop p).take 8).length = 8 := by simp; omega
  rw [hl] at this
  omega
theorem run_behind (a b : ByteArray) (w : World) (t : TypeId) : (binOp .gtr t (.string a) (.string b)).run Tryz.prog w = .ok (.bool (behind a.data.toList b.data.toList)) w := by
  simp [binOp, Op.stringOp, behind, ByteArray.toList_eq]
theorem u64_i64 (n : Nat) (h : n < 18446744073709551616) : IntKind.u64.wrap (IntKind.i64.wrap (n : Int)) = (n : Int) := by
  have hw : ∀ n : Int, IntKind.u64.wrap n = n % 18446744073709551616 := fun n => by simp [IntKind.wrap, IntKind.bits, IntKind.signed]
  rw [hw, wrapI]
  split <;> omega
/-- What reading of a file's entry gives. -/
def EntPost (w : World) (rb db dof dcap : Nat) (s : List UInt8) (F : Value) (o : Option (Ent × List UInt8)) (e : Ending) (w' : World) : Prop :=
  Fr (fun k => k = rb) w w' ∧ match o with
  | none => e = .panicked [{ v := F, recovered := false }]
  | some (x, r) => ∃ p', e = .returned (.agg #[.string ⟨x.name.toArray⟩, .int .i64 x.size, .int .u64 x.dig]) ∧ r = s.drop p' ∧ RD w' rb db dof dcap s p' F
set_option maxHeartbeats 1500000 in
theorem entry_any (w : World) (rb db dof dcap : Nat) (s : List UInt8) (p : Nat) (T : TypeId) (u : Value) (h : RD w rb db dof dcap s p (.iface T u)) (last : ByteArray) (first : Bool) :
    Calls Tryz.prog 119 #[.pointer (some ⟨rb, 0, none⟩), .string last, .bool first] w (EntPost w rb db dof dcap s (.iface T u) (entN last.data.toList first (s.drop p))) := by
  have hle := h.le
  have hrb := h.own.lt
  have HD := Lib.hid h
  have hA : Fr (fun _ => False) w ((w.alloc (.cells #[.string ⟨#[]⟩, .int .i64 0, .int .u64 0] 152)).alloc (.cells #[.string ⟨#[]⟩, .int .i64 0, .int .u64 0] 152)) := ((Fr.refl _ _).alloc _).alloc _
  have hO : Own ((w.alloc (.cells #[.string ⟨#[]⟩, .int .i64 0, .int .u64 0] 152)).alloc (.cells #[.string ⟨#[]⟩, .int .i64 0, .int .u64 0] 152)) (w.heap.size + 1) 152 [.string ⟨#[]⟩, .int .i64 0, .int .u64 0] := by
    have := Own.alloc (w.alloc (.cells #[.string ⟨#[]⟩, .int .i64 0, .int .u64 0] 152)) #[.string ⟨#[]⟩, .int .i64 0, .int .u64 0] 152
    simpa using this
  have hOR : Own ((w.alloc (.cells #[.string ⟨#[]⟩, .int .i64 0, .int .u64 0] 152)).alloc (.cells #[.string ⟨#[]⟩, .int .i64 0, .int .u64 0] 152)) w.heap.size 152 [.string ⟨#[]⟩, .int .i64 0, .int .u64 0] :=
    (Own.alloc w #[.string ⟨#[]⟩, .int .i64 0, .int .u64 0] 152).keep ((Fr.refl (fun _ => False) _).alloc _) id
  have HOR := Lib.hid hOR
  clear hOR
  have HA := Lib.hid hA
  have HO := Lib.hid hO
  clear h hA hO
  have die : ∀ (W : World), Fr (fun k => k = rb ∨ k = w.heap.size + 1) ((w.alloc (.cells #[.string ⟨#[]⟩, .int .i64 0, .int .u64 0] 152)).alloc (.cells #[.string ⟨#[]⟩, .int .i64 0, .int .u64 0] 152)) W → entN last.data.toList first (s.drop p) = none →
      EntPost w rb db dof dcap s (.iface T u) (entN last.data.toList first (s.drop p)) (.panicked [{ v := .iface T u, recovered := false }]) W := by
    intro W hf hn
    rw [hn]
    exact ⟨(HA.out.mono (fun _ h _ => h.elim)).step hf (fun k h hl => by rcases h with h | h; exact h; omega), rfl⟩
  have DIE := Lib.hid die
  clear die
  by_cases a1 : s.length < p + 1
  · have HN := Lib.hid (show entN last.data.toList first (s.drop p) = none by unfold entN; rw [numN_bad (by omega) hle])
    go_enter Tryz.func119, Tryz.ntmps119
    go_wp2_with fail
    go_at_call 118; refine (number_bad _ rb db dof dcap s p 1 _ rfl T u (HD.out.keep HA.out id id id) (by omega) (by omega)).mono ?_
    rintro e w' ⟨rfl, hf⟩
    exact ⟨rfl, DIE.out _ (hf.mono (fun _ h _ => h.elim)) HN.out⟩
  replace a1 : p + 1 ≤ s.length := by omega
  have hk := num1_lt a1
  have e1 := numN_ok a1
  obtain ⟨k, hkk⟩ : ∃ k, numOf ((s.drop p).take 1) = k := ⟨_, rfl⟩
  have HKK := Lib.hid hkk
  rw [hkk] at hk e1
  have E1 := Lib.hid e1
  clear e1 hkk
  by_cases a2 : s.length < p + 1 + k
  · have HN := Lib.hid (show entN last.data.toList first (s.drop p) = none by unfold entN; rw [E1.out]; simp only; rw [takeN_bad (by omega) (by omega)])
    go_enter Tryz.func119, Tryz.ntmps119
    go_wp2_with fail
    go_at_call 118; refine (number_small _ rb db dof dcap s p 1 _ rfl _ (HD.out.keep HA.out id id id) (by omega) (by omega)).mono ?_
    rintro e w1 ⟨rfl, hr1, hf1⟩
    rw [HKK.out]
    go_wp2_with fail
    refine (take_bad _ rb db dof dcap s (p + 1) k T u hr1 (by omega) (by omega)).mono ?_
    rintro e w2 ⟨rfl, hf2⟩
    exact ⟨rfl, DIE.out _ ((hf1.mono (fun _ h _ => .inl h)).step hf2 (fun _ h _ => h.elim)) HN.out⟩
  replace a2 : p + 1 + k ≤ s.length := by omega
  have e2 := takeN_ok a2
  obtain ⟨nm, hnm⟩ : ∃ nm, (s.drop (p + 1)).take k = nm := ⟨_, rfl⟩
  have HNM := Lib.hid hnm
  rw [hnm] at e2
  have E2 := Lib.hid e2
  clear e2 hnm
  go_enter Tryz.func119, Tryz.ntmps119
  go_wp2_with fail
  go_at_call 118; refine (number_small _ rb db dof dcap s p 1 _ rfl _ (HD.out.keep HA.out id id id) (by omega) a1).mono ?_
  rintro e w1 ⟨rfl, hr1, hf1⟩
  rw [HKK.out]
  go_wp2_with fail
  refine (take_ok _ rb db dof dcap s (p + 1) k _ hr1 (by omega) a2).mono ?_
  rintro e w2 ⟨off, rfl, hb2, hr2, hf2⟩
  rw [HNM.out] at hb2
  have HF2 := Lib.hid (hf1.step hf2 (fun _ h _ => h))
  have HR2 := Lib.hid hr2
  have ho2 := HO.out.keep HF2.out (fun h => by omega)
  have HO2 := Lib.hid ho2
  have c0 := ho2.cell (i := 0) rfl
  have c1 := ho2.cell (i := 1) rfl
  have c2 := ho2.cell (i := 2) rfl
  have f0 := ho2.free 0 (by simp)
  have hcv := run_string_of (P := Tryz.prog) w2 25 9 5 _ _ Tryz.underlying25 Tryz.underlying5 Tryz.underlying9 hb2
  have hnl : nm.length = k := by
    rw [← HNM.out]; simp; omega
  obtain ⟨nb, hnb⟩ : ∃ nb : ByteArray, nb = ⟨nm.toArray⟩ := ⟨_, rfl⟩
  rw [← hnb] at hcv
  have hnbl : nb.data.toList = nm := by rw [hnb]
  have hnbs : nb.size ≤ 255 := by
    have : nb.data.toList.length = nb.size := by simp
    rw [hnbl] at this; omega
  have hna := Lib.hid (fun W => named_any nb W (by omega))
  rw [hnbl] at hna
  have HNB := Lib.hid hnb
  have HNBL := Lib.hid hnbl
  -- behind the store of the name
  have hs3 : Fr (fun k => k = w.heap.size + 1) w2 (w2.setCell ⟨w.heap.size + 1, 0, none⟩ (.string nb)) := (Fr.refl _ _).setCell _ _ (fun _ => rfl)
  have HR3 := Lib.hid (HR2.out.keep hs3 (by omega) (by have := hb2.lt0 db rfl; have := HD.out.bytes.lt0 db rfl; omega) (by have := HD.out.lay; omega))
  have HO3 := Lib.hid (HO2.out.set 0 (.string nb))
  have HF3 := Lib.hid (show Fr (fun k => k = rb ∨ k = w.heap.size + 1) ((w.alloc (.cells #[.string ⟨#[]⟩, .int .i64 0, .int .u64 0] 152)).alloc (.cells #[.string ⟨#[]⟩, .int .i64 0, .int .u64 0] 152)) (w2.setCell ⟨w.heap.size + 1, 0, none⟩ (.string nb)) from (HF2.out.mono (fun _ h _ => .inl h)).step hs3 (fun _ h _ => .inr h))
  clear hr1 hf1 hr2 hf2 hb2 ho2 hnb hnbl hs3
  go_wp2_with fail
  have c0' := HO3.out.cell (i := 0) rfl
  have c1' := HO3.out.cell (i := 1) rfl
  have c2' := HO3.out.cell (i := 2) rfl
  have f1' := HO3.out.free 1 (by simp)
  clear c0 c1 c2 f0 hcv
  generalize w2.setCell ⟨w.heap.size + 1, 0, none⟩ (.string nb) = w3 at *
  cases hN : isName nm with
  | false =>
    have HN := Lib.hid (show entN last.data.toList first (s.drop p) = none by unfold entN; rw [E1.out]; simp only; rw [E2.out]; simp only; rw [hN]; rfl)
    rw [hN] at hna
    go_wp2_with fail
    refine (hna.out w3).mono ?_
    rintro e w' ⟨rfl, rfl⟩
    go_wp2_with fail
    go_at_call 116; refine (must_bad _ _ T u HR3.out.form).mono ?_
    rintro e w' ⟨rfl, rfl⟩
    exact ⟨rfl, DIE.out _ HF3.out HN.out⟩
  | true =>
    rw [hN] at hna
    have hE3 : entN last.data.toList first (s.drop p) = (if (first || behind nm last.data.toList) = false then none else
        match numN 2 (s.drop (p + 1 + k)) with
        | none => none
        | some (sz, r) => if 300 < sz then none else match numN 8 r with | none => none | some (d, r) => some (⟨nm, sz, d⟩, r)) := by
      unfold entN
      rw [E1.out]; simp only; rw [E2.out]; simp only; rw [hN, Bool.true_and]
      split
      · rfl
      · rfl
    have E3 := Lib.hid hE3
    clear hE3
    cases first with
    | true =>
      go_wp2_with fail
      refine (hna.out w3).mono ?_
      rintro e w' ⟨rfl, rfl⟩
      have E4 := Lib.hid (show entN last.data.toList true (s.drop p) = (match numN 2 (s.drop (p + 1 + k)) with
          | none => none
          | some (sz, r) => if 300 < sz then none else match numN 8 r with | none => none | some (d, r) => some (⟨nm, sz, d⟩, r)) by rw [E3.out]; simp)
      go_wp2_with fail
      go_at_call 116; refine (must_ok _ _).mono ?_
      rintro e w' ⟨rfl, rfl⟩
      by_cases a3 : s.length < p + 1 + k + 2
      · have HN := Lib.hid (show entN last.data.toList true (s.drop p) = none by rw [E4.out, numN_bad a3 (by omega)])
        go_wp2_with fail
        go_at_call 118; refine (number_bad _ rb db dof dcap s (p + 1 + k) 2 _ rfl T u HR3.out (by omega) (by omega)).mono ?_
        rintro e w' ⟨rfl, hf⟩
        exact ⟨rfl, DIE.out _ (HF3.out.step hf (fun _ h _ => h.elim)) HN.out⟩
      replace a3 : p + 1 + k + 2 ≤ s.length := by omega
      have hz := num2_lt a3
      have e5 := numN_ok a3
      obtain ⟨sz, hsz⟩ : ∃ sz, numOf ((s.drop (p + 1 + k)).take 2) = sz := ⟨_, rfl⟩
      have HSZ := Lib.hid hsz
      rw [hsz] at hz e5
      have E5 := Lib.hid e5
      clear e5 hsz
      go_wp2_with fail
      go_at_call 118; refine (number_small _ rb db dof dcap s (p + 1 + k) 2 _ rfl _ HR3.out (by omega) a3).mono ?_
      rintro e w4 ⟨rfl, hr4, hf4⟩
      rw [HSZ.out]
      have HO4 := Lib.hid (HO3.out.keep hf4 (by omega))
      have d0 := HO4.out.cell (i := 0) rfl
      have d1 := HO4.out.cell (i := 1) rfl
      have d2 := HO4.out.cell (i := 2) rfl
      have df := HO4.out.free 1 (by simp)
      have hs5 : Fr (fun k => k = w.heap.size + 1) w4 (w4.setCell ⟨w.heap.size + 1, 1, none⟩ (.int .i64 sz)) := (Fr.refl _ _).setCell _ _ (fun _ => rfl)
      have HR5 := Lib.hid (hr4.keep hs5 (by omega) (by have := HD.out.bytes.lt0 db rfl; omega) (by have := HD.out.lay; omega))
      have HO5 := Lib.hid (HO4.out.set 1 (.int .i64 sz))
      have HF5 := Lib.hid ((HF3.out.step hf4 (fun _ h _ => .inl h)).step hs5 (fun _ h _ => .inr h))
      clear hr4 hf4 hs5 c0' c1' c2' f1'
      go_wp2_with fail
      have g0 := HO5.out.cell (i := 0) rfl
      have g1 := HO5.out.cell (i := 1) rfl
      have g2 := HO5.out.cell (i := 2) rfl
      clear d0 d1 d2 df
      generalize w4.setCell ⟨w.heap.size + 1, 1, none⟩ (.int .i64 sz) = w5 at *
      by_cases a4 : 300 < sz
      · have HN := Lib.hid (show entN last.data.toList true (s.drop p) = none by rw [E4.out, E5.out]; simp only; rw [if_pos a4])
        go_wp2_with fail
        go_at_call 116; refine (must_badb _ _ T u HR5.out.form _ (decide_eq_false (by omega))).mono ?_
        rintro e w' ⟨rfl, rfl⟩
        exact ⟨rfl, DIE.out _ HF5.out HN.out⟩
      go_wp2_with fail
      go_at_call 116; refine (must_okb _ _ _ (decide_eq_true (by omega))).mono ?_
      rintro e w' ⟨rfl, rfl⟩
      by_cases a5 : s.length < p + 1 + k + 2 + 8
      · have HN := Lib.hid (show entN last.data.toList true (s.drop p) = none by rw [E4.out, E5.out]; simp only; rw [if_neg a4, numN_bad a5 (by omega)])
        go_wp2_with fail
        go_at_call 118; refine (number_bad _ rb db dof dcap s (p + 1 + k + 2) 8 _ rfl T u HR5.out (by omega) (by omega)).mono ?_
        rintro e w' ⟨rfl, hf⟩
        exact ⟨rfl, DIE.out _ (HF5.out.step hf (fun _ h _ => h.elim)) HN.out⟩
      replace a5 : p + 1 + k + 2 + 8 ≤ s.length := by omega
      have hd := num8_lt a5
      have e6 := numN_ok a5
      obtain ⟨dg, hdg⟩ : ∃ dg, numOf ((s.drop (p + 1 + k + 2)).take 8) = dg := ⟨_, rfl⟩
      have HDG := Lib.hid hdg
      rw [hdg] at hd e6
      have HE := Lib.hid (show entN last.data.toList true (s.drop p) = some (⟨nm, sz, dg⟩, s.drop (p + 1 + k + 2 + 8)) by rw [E4.out, E5.out]; simp only; rw [if_neg a4, e6])
      clear e6 hdg
      go_wp2_with fail
      go_at_call 118; refine (number_ok _ rb db dof dcap s (p + 1 + k + 2) 8 _ rfl _ HR5.out (by omega) a5).mono ?_
      rintro e w6 ⟨rfl, hr6, hf6⟩
      rw [HDG.out]
      have HO6 := Lib.hid (HO5.out.keep hf6 (by omega))
      have k0 := HO6.out.cell (i := 0) rfl
      have k1 := HO6.out.cell (i := 1) rfl
      have k2 := HO6.out.cell (i := 2) rfl
      have kf := HO6.out.free 2 (by simp)
      have hcu := u64_i64 dg hd
      have HR6 := Lib.hid (HOR.out.keep (HF5.out.step hf6 (fun _ h _ => .inl h)) (by omega))
      have r0 := HR6.out.cell (i := 0) rfl
      have r1 := HR6.out.cell (i := 1) rfl
      have r2 := HR6.out.cell (i := 2) rfl
      have rf0 := HR6.out.free 0 (by simp)
      have rf1 := HR6.out.free 1 (by simp)
      have rf2 := HR6.out.free 2 (by simp)
      have HRD6 := Lib.hid hr6
      have HF6 := Lib.hid hf6
      clear hr6 hf6 g0 g1 g2
      go_wp2_with fail
      have hq7 : Fr (fun k => k = w.heap.size ∨ k = w.heap.size + 1) w6 ((((w6.setCell ⟨w.heap.size + 1, 2, none⟩ (.int .u64 dg)).setCell ⟨w.heap.size, 0, none⟩ (.string nb)).setCell ⟨w.heap.size, 1, none⟩ (.int .i64 sz)).setCell ⟨w.heap.size, 2, none⟩ (.int .u64 dg)) :=
        ((((Fr.refl _ _).setCell _ _ (fun _ => .inr rfl)).setCell _ _ (fun _ => .inl rfl)).setCell _ _ (fun _ => .inl rfl)).setCell _ _ (fun _ => .inl rfl)
      have hr7 := (((HR6.out.keep ((Fr.refl (fun k => k = w.heap.size + 1) w6).setCell ⟨w.heap.size + 1, 2, none⟩ (.int .u64 dg) (fun _ => rfl)) (by omega)).set 0 (.string nb)).set 1 (.int .i64 sz)).set 2 (.int .u64 dg)
      obtain ⟨fr7, hg7, -⟩ := hr7
      refine bodyPost_ret (results_cell_row (P := Tryz.prog) rfl _ _ w.heap.size _ _ fr7 _ rfl hg7 Tryz.underlying152 rfl (by kernel_rfl)) rfl ?_
      rw [HE.out]
      have hrb2 : 1 < w.heap.size := by have := HD.out.lay; omega
      have hdb2 : db < w.heap.size := HD.out.bytes.lt0 db rfl
      refine ⟨(((HA.out.mono (fun _ h _ => h.elim)).step (HF5.out.step HF6.out (fun _ h _ => .inl h)) (fun k h hl => by rcases h with h | h; exact h; omega)).step hq7 (fun k h hl => by rcases h with h | h <;> omega)), p + 1 + k + 2 + 8, ?_, rfl, HRD6.out.keep hq7 (by omega) (by omega) (by omega)⟩
      rw [← HNB.out]
      rfl
    | false =>
      have hgt := run_behind nb last w3 9
      rw [HNBL.out] at hgt
      cases hB : behind nm last.data.toList with
      | false =>
        have HN := Lib.hid (show entN last.data.toList false (s.drop p) = none by rw [E3.out, hB]; rfl)
        rw [hB] at hgt
        go_wp2_with fail
        refine (hna.out w3).mono ?_
        rintro e w' ⟨rfl, rfl⟩
        go_wp2_with fail
        go_at_call 116; refine (must_bad _ _ T u HR3.out.form).mono ?_
        rintro e w' ⟨rfl, rfl⟩
        exact ⟨rfl, DIE.out _ HF3.out HN.out⟩
      | true =>
        rw [hB] at hgt
        have E3' := E3.out
        rw [hB] at E3'
        have E4 := Lib.hid (show entN last.data.toList false (s.drop p) = (match numN 2 (s.drop (p + 1 + k)) with
            | none => none
            | some (sz, r) => if 300 < sz then none else match numN 8 r with | none => none | some (d, r) => some (⟨nm, sz, d⟩, r)) by rw [E3']; simp)
        clear E3'
        go_wp2_with fail
        refine (hna.out w3).mono ?_
        rintro e w' ⟨rfl, rfl⟩
        go_wp2_with fail
        go_at_call 116; refine (must_ok _ _).mono ?_
        rintro e w' ⟨rfl, rfl⟩
        by_cases a3 : s.length < p + 1 + k + 2
        · have HN := Lib.hid (show entN last.data.toList false (s.drop p) = none by rw [E4.out, numN_bad a3 (by omega)])
          go_wp2_with fail
          go_at_call 118; refine (number_bad _ rb db dof dcap s (p + 1 + k) 2 _ rfl T u HR3.out (by omega) (by omega)).mono ?_
          rintro e w' ⟨rfl, hf⟩
          exact ⟨rfl, DIE.out _ (HF3.out.step hf (fun _ h _ => h.elim)) HN.out⟩
        replace a3 : p + 1 + k + 2 ≤ s.length := by omega
        have hz := num2_lt a3
        have e5 := numN_ok a3
        obtain ⟨sz, hsz⟩ : ∃ sz, numOf ((s.drop (p + 1 + k)).take 2) = sz := ⟨_, rfl⟩
        have HSZ := Lib.hid hsz
        rw [hsz] at hz e5
        have E5 := Lib.hid e5
        clear e5 hsz
        go_wp2_with fail
        go_at_call 118; refine (number_small _ rb db dof dcap s (p + 1 + k) 2 _ rfl _ HR3.out (by omega) a3).mono ?_
        rintro e w4 ⟨rfl, hr4, hf4⟩
        rw [HSZ.out]
        have HO4 := Lib.hid (HO3.out.keep hf4 (by omega))
        have d0 := HO4.out.cell (i := 0) rfl
        have d1 := HO4.out.cell (i := 1) rfl
        have d2 := HO4.out.cell (i := 2) rfl
        have df := HO4.out.free 1 (by simp)
        have hs5 : Fr (fun k => k = w.heap.size + 1) w4 (w4.setCell ⟨w.heap.size + 1, 1, none⟩ (.int .i64 sz)) := (Fr.refl _ _).setCell _ _ (fun _ => rfl)
        have HR5 := Lib.hid (hr4.keep hs5 (by omega) (by have := HD.out.bytes.lt0 db rfl; omega) (by have := HD.out.lay; omega))
        have HO5 := Lib.hid (HO4.out.set 1 (.int .i64 sz))
        have HF5 := Lib.hid ((HF3.out.step hf4 (fun _ h _ => .inl h)).step hs5 (fun _ h _ => .inr h))
        clear hr4 hf4 hs5 c0' c1' c2' f1'
        go_wp2_with fail
        have g0 := HO5.out.cell (i := 0) rfl
        have g1 := HO5.out.cell (i := 1) rfl
        have g2 := HO5.out.cell (i := 2) rfl
        clear d0 d1 d2 df
        generalize w4.setCell ⟨w.heap.size + 1, 1, none⟩ (.int .i64 sz) = w5 at *
        by_cases a4 : 300 < sz
        · have HN := Lib.hid (show entN last.data.toList false (s.drop p) = none by rw [E4.out, E5.out]; simp only; rw [if_pos a4])
          go_wp2_with fail
          go_at_call 116; refine (must_badb _ _ T u HR5.out.form _ (decide_eq_false (by omega))).mono ?_
          rintro e w' ⟨rfl, rfl⟩
          exact ⟨rfl, DIE.out _ HF5.out HN.out⟩
        go_wp2_with fail
        go_at_call 116; refine (must_okb _ _ _ (decide_eq_true (by omega))).mono ?_
        rintro e w' ⟨rfl, rfl⟩
        by_cases a5 : s.length < p + 1 + k + 2 + 8
        · have HN := Lib.hid (show entN last.data.toList false (s.drop p) = none by rw [E4.out, E5.out]; simp only; rw [if_neg a4, numN_bad a5 (by omega)])
          go_wp2_with fail
          go_at_call 118; refine (number_bad _ rb db dof dcap s (p + 1 + k + 2) 8 _ rfl T u HR5.out (by omega) (by omega)).mono ?_
          rintro e w' ⟨rfl, hf⟩
          exact ⟨rfl, DIE.out _ (HF5.out.step hf (fun _ h _ => h.elim)) HN.out⟩
        replace a5 : p + 1 + k + 2 + 8 ≤ s.length := by omega
        have hd := num8_lt a5
        have e6 := numN_ok a5
        obtain ⟨dg, hdg⟩ : ∃ dg, numOf ((s.drop (p + 1 + k + 2)).take 8) = dg := ⟨_, rfl⟩
        have HDG := Lib.hid hdg
        rw [hdg] at hd e6
        have HE := Lib.hid (show entN last.data.toList false (s.drop p) = some (⟨nm, sz, dg⟩, s.drop (p + 1 + k + 2 + 8)) by rw [E4.out, E5.out]; simp only; rw [if_neg a4, e6])
        clear e6 hdg
        go_wp2_with fail
        go_at_call 118; refine (number_ok _ rb db dof dcap s (p + 1 + k + 2) 8 _ rfl _ HR5.out (by omega) a5).mono ?_
        rintro e w6 ⟨rfl, hr6, hf6⟩
        rw [HDG.out]
        have HO6 := Lib.hid (HO5.out.keep hf6 (by omega))
        have k0 := HO6.out.cell (i := 0) rfl
        have k1 := HO6.out.cell (i := 1) rfl
        have k2 := HO6.out.cell (i := 2) rfl
        have kf := HO6.out.free 2 (by simp)
        have hcu := u64_i64 dg hd
        have HR6 := Lib.hid (HOR.out.keep (HF5.out.step hf6 (fun _ h _ => .inl h)) (by omega))
        have r0 := HR6.out.cell (i := 0) rfl
        have r1 := HR6.out.cell (i := 1) rfl
        have r2 := HR6.out.cell (i := 2) rfl
        have rf0 := HR6.out.free 0 (by simp)
        have rf1 := HR6.out.free 1 (by simp)
        have rf2 := HR6.out.free 2 (by simp)
        have HRD6 := Lib.hid hr6
        have HF6 := Lib.hid hf6
        clear hr6 hf6 g0 g1 g2
        go_wp2_with fail
        have hq7 : Fr (fun k => k = w.heap.size ∨ k = w.heap.size + 1) w6 ((((w6.setCell ⟨w.heap.size + 1, 2, none⟩ (.int .u64 dg)).setCell ⟨w.heap.size, 0, none⟩ (.string nb)).setCell ⟨w.heap.size, 1, none⟩ (.int .i64 sz)).setCell ⟨w.heap.size, 2, none⟩ (.int .u64 dg)) :=
          ((((Fr.refl _ _).setCell _ _ (fun _ => .inr rfl)).setCell _ _ (fun _ => .inl rfl)).setCell _ _ (fun _ => .inl rfl)).setCell _ _ (fun _ => .inl rfl)
        have hr7 := (((HR6.out.keep ((Fr.refl (fun k => k = w.heap.size + 1) w6).setCell ⟨w.heap.size + 1, 2, none⟩ (.int .u64 dg) (fun _ => rfl)) (by omega)).set 0 (.string nb)).set 1 (.int .i64 sz)).set 2 (.int .u64 dg)
        obtain ⟨fr7, hg7, -⟩ := hr7
        refine bodyPost_ret (results_cell_row (P := Tryz.prog) rfl _ _ w.heap.size _ _ fr7 _ rfl hg7 Tryz.underlying152 rfl (by kernel_rfl)) rfl ?_
        rw [HE.out]
        have hrb2 : 1 < w.heap.size := by have := HD.out.lay; omega
        have hdb2 : db < w.heap.size := HD.out.bytes.lt0 db rfl
        refine ⟨(((HA.out.mono (fun _ h _ => h.elim)).step (HF5.out.step HF6.out (fun _ h _ => .inl h)) (fun k h hl => by rcases h with h | h; exact h; omega)).step hq7 (fun k h hl => by rcases h with h | h <;> omega)), p + 1 + k + 2 + 8, ?_, rfl, HRD6.out.keep hq7 (by omega) (by omega) (by omega)⟩
        rw [← HNB.out]
        rfl
end Go.Proofs.YtlcdgbhigfgehabGreatDoor
