/- The reader of batches: must, take, number, and what a name is. -/
import Derived.Test.YtlcdgbhigfgehabGreatDoorVec
import Derived.Test.YtlcdgbhigfgehabGreatDoorRecPure
import Derived.Test.YtlcdgbhigfgehabGreatDoorProg
import Derived.Lib.Hide
import Derived.WalkSpells
import Derived.Deep.QuietTactic
import Derived.Deep.RegionWith
import Derived.StillTailTactics
import Derived.Laws.BitsLemmas
namespace Go.Proofs.YtlcdgbhigfgehabGreatDoor
open Go.RowKit
set_option maxRecDepth 100000

theorem wrapI (n : Int) : IntKind.i64.wrap n = if n % 18446744073709551616 ≥ 9223372036854775808 then n % 18446744073709551616 - 18446744073709551616 else n % 18446744073709551616 := by
  simp [IntKind.wrap, IntKind.bits, IntKind.signed]
theorem wrapI_step (m : Int) (c : Nat) (hc : c < 256) : Go.bits .or .i64 (IntKind.i64.wrap (IntKind.i64.wrap m * 256)) (c : Int) = IntKind.i64.wrap (m * 256 + c) := by
  have h1 : IntKind.i64.wrap (IntKind.i64.wrap m * 256) = IntKind.i64.wrap (m * 256) := by
    rw [wrapI m]
    split <;> (rw [wrapI, wrapI]; omega)
  rw [h1]
  unfold Go.bits
  show IntKind.i64.wrap (((BitVec.ofInt 64 (IntKind.i64.wrap (m * 256)) ||| BitVec.ofInt 64 (c : Int)).toNat : Nat) : Int) = _
  rw [BitVec.toNat_or, BitVec.toNat_ofInt, BitVec.toNat_ofInt]
  have e1 : ((IntKind.i64.wrap (m * 256)) % ((2 ^ 64 : Nat) : Int)).toNat = 256 * ((m % 72057594037927936).toNat) := by
    rw [wrapI]
    have : ((2 ^ 64 : Nat) : Int) = 18446744073709551616 := by decide
    rw [this]
    split <;> omega
  have e2 : ((c : Int) % ((2 ^ 64 : Nat) : Int)).toNat = c := by
    have : ((2 ^ 64 : Nat) : Int) = 18446744073709551616 := by decide
    rw [this]; omega
  rw [e1, e2, ← Nat.two_pow_add_eq_or_of_lt (i := 8) hc]
  rw [wrapI, wrapI]
  have : ((2 ^ 8 * (m % 72057594037927936).toNat + c : Nat) : Int) % 18446744073709551616 = (m * 256 + c) % 18446744073709551616 := by omega
  rw [this]

/-- A reader: the struct at rb over bytes s at place p; F: what it throws. -/
structure RD (w : World) (rb db dof dcap : Nat) (s : List UInt8) (p : Nat) (F : Value) : Prop where
  own : Own w rb 224 [.slice (some ⟨db, dof, none⟩) s.length dcap, .int .i64 p]
  bytes : IsB w (.slice (some ⟨db, dof, none⟩) s.length dcap) s
  le : p ≤ s.length
  form : w.cell? ⟨1, 0, none⟩ = some F
  lay : 1 < rb
theorem RD.keep {w w1 : World} {S : Nat → Prop} {rb db dof dcap : Nat} {s : List UInt8} {p : Nat} {F : Value} (h : RD w rb db dof dcap s p F) (k : Fr S w w1) (h1 : ¬ S rb) (h2 : ¬ S db) (h3 : ¬ S 1) : RD w1 rb db dof dcap s p F := by
  refine ⟨h.own.keep k h1, h.bytes.keep k (fun b hb => by simp [Value.ownBlock] at hb; subst hb; exact h2), h.le, k.cell h.form h3, h.lay⟩
theorem RD.apart {w : World} {rb db dof dcap : Nat} {s : List UInt8} {p : Nat} {F : Value} (h : RD w rb db dof dcap s p F) : db ≠ rb := by
  intro e
  exact h.bytes.apart h.own (by decide) (by rw [e]; rfl)
/-- The place is another. -/
theorem RD.at_ {w : World} {rb db dof dcap : Nat} {s : List UInt8} {p : Nat} {F : Value} (h : RD w rb db dof dcap s p F) (q : Nat) (hq : q ≤ s.length) (x : Int) (hx : x = q) :
    RD (w.setCell ⟨rb, 1, none⟩ (.int .i64 x)) rb db dof dcap s q F ∧ Fr (fun k => k = rb) w (w.setCell ⟨rb, 1, none⟩ (.int .i64 x)) := by
  subst hx
  have hs : Fr (fun k => k = rb) w (w.setCell ⟨rb, 1, none⟩ (.int .i64 q)) := (Fr.refl _ _).setCell _ _ (fun _ => rfl)
  refine ⟨⟨h.own.set 1 _, h.bytes.keep hs (fun b hb => by simp [Value.ownBlock] at hb; subst hb; exact h.apart), hq, hs.cell h.form (fun e => ?_), h.lay⟩, hs⟩
  have := h.lay
  change 1 = rb at e
  omega

theorem must_ok (v : Value) (w : World) : Calls Tryz.prog 116 #[v, .bool true] w fun e w' => e = .returned (.tuple #[]) ∧ w = w' := by
  go_enter Tryz.func116, Tryz.ntmps116
  go_wp2
  go_end0
  exact ⟨rfl, rfl⟩
theorem must_bad (v : Value) (w : World) (T : TypeId) (u : Value) (h : w.cell? ⟨1, 0, none⟩ = some (.iface T u)) :
    Calls Tryz.prog 116 #[v, .bool false] w fun e w' => e = .panicked [{ v := .iface T u, recovered := false }] ∧ w = w' := by
  go_enter Tryz.func116, Tryz.ntmps116
  go_wp2
  exact ⟨rfl, rfl, rfl⟩
set_option maxHeartbeats 200000 in
theorem take_bad (w : World) (rb db dof dcap : Nat) (s : List UInt8) (p n : Nat) (T : TypeId) (u : Value) (h : RD w rb db dof dcap s p (.iface T u)) (hn : n ≤ 1000) (hb : s.length < p + n) :
    Calls Tryz.prog 117 #[.pointer (some ⟨rb, 0, none⟩), .int .i64 n] w fun e w' => e = .panicked [{ v := .iface T u, recovered := false }] ∧ Fr (fun _ => False) w w' := by
  have x0 := h.own.cell (i := 0) rfl
  have x1 := h.own.cell (i := 1) rfl
  have hle := h.le
  have hm := h.bytes.len
  have hf := h.form
  have HF := Lib.hid hf
  have hmu := Lib.hid (fun m => (must_bad (.pointer (some ⟨rb, 0, none⟩)) (w.drewN m) T u (by simpa using hf)))
  have hsub : IntKind.i64.wrap ((s.length : Int) - p) = (s.length : Int) - p := IntWalk.i64_in _ (by unfold maxLen at hm; omega)
  have hno : ¬ ((n : Int) ≤ (s.length : Int) - p) := by omega
  have hno2 : (s.length : Int) - p < (n : Int) := by omega
  have hno3 : decide ((n : Int) ≤ (s.length : Int) - p) = false := by simpa using hno
  clear h hf
  go_enter Tryz.func117, Tryz.ntmps117
  go_wp2_with fail
  go_still_tail 13, (by kernel_rfl)
  change wpList _ _ _ _ _ w.drew
  have hf2 : w.drew.cell? ⟨1, 0, none⟩ = some (.iface T u) := by simpa using HF.out
  have HF2 := Lib.hid hf2
  have hd : Fr (fun _ => False) w w.drew := (Fr.refl _ _).drew
  clear hf2
  generalize w.drew = w2 at *
  go_wp2_with fail
  refine (must_bad _ _ T u HF2.out).mono ?_
  rintro e w' ⟨rfl, rfl⟩
  exact ⟨rfl, rfl, hd⟩
/-- The next n bytes. -/
theorem take_ok (w : World) (rb db dof dcap : Nat) (s : List UInt8) (p n : Nat) (F : Value) (h : RD w rb db dof dcap s p F) (hn : n ≤ 1000) (hb : p + n ≤ s.length) :
    Calls Tryz.prog 117 #[.pointer (some ⟨rb, 0, none⟩), .int .i64 n] w fun e w' => ∃ off, e = .returned (.slice (some ⟨db, off, none⟩) n n) ∧
      IsB w' (.slice (some ⟨db, off, none⟩) n n) ((s.drop p).take n) ∧ RD w' rb db dof dcap s (p + n) F ∧ Fr (fun k => k = rb) w w' := by
  have x0 := h.own.cell (i := 0) rfl
  have x1 := h.own.cell (i := 1) rfl
  have xf := h.own.free 1 (by simp)
  have hle := h.le
  have hm := h.bytes.len
  have hsub : IntKind.i64.wrap ((s.length : Int) - p) = (s.length : Int) - p := IntWalk.i64_in _ (by unfold maxLen at hm; omega)
  have hno : (n : Int) ≤ (s.length : Int) - p := by omega
  have hpn : IntKind.i64.wrap ((p : Int) + n) = (p : Int) + n := IntWalk.i64_in _ (by unfold maxLen at hm; omega)
  have hno3 : decide ((n : Int) ≤ (s.length : Int) - p) = true := by simpa using hno
  have H := Lib.hid h
  clear h
  go_enter Tryz.func117, Tryz.ntmps117
  go_wp2_with fail
  go_quiet ((go_at_call 116; exact Calls.quiet_of_same ((must_ok _ _).mono (fun _ _ h => ⟨h.1, h.2.symm⟩))))
  go_wp2_with fail
  have hd : Fr (fun _ => False) w (w.drewN nq) := (Fr.refl _ _).drewN nq
  obtain ⟨q1, q2⟩ := (H.out.keep hd id id id).at_ (p + n) hb ((p : Int) + n) (by omega)
  have hall : Fr (fun k => k = rb) w ((w.drewN nq).setCell ⟨rb, 1, none⟩ (.int .i64 ((p : Int) + n))) := (hd.mono (fun _ h _ => h.elim)).step q2 (fun _ h _ => h)
  clear x0 x1 xf q2 hd
  generalize (w.drewN nq).setCell ⟨rb, 1, none⟩ (.int .i64 ((p : Int) + n)) = w3 at *
  have x0 := q1.own.cell (i := 0) rfl
  have x1 := q1.own.cell (i := 1) rfl
  have hpart := q1.bytes.part p (p + n) n (by omega) (by omega) (by omega) (by unfold maxLen at hm ⊢; omega)
  rw [show p + n - p = n by omega] at hpart
  have hcc := q1.bytes.shape
  obtain ⟨a, c, hq, hc1, hc2⟩ := hcc
  simp only [Value.slice.injEq] at hq
  obtain ⟨-, -, rfl⟩ := hq
  have HP := Lib.hid hpart
  have HQ := Lib.hid q1
  have HA := Lib.hid hall
  clear hpart q1 hall hsub hno hno3
  unfold maxLen at hc2 hm
  have w1 : IntKind.i64.wrap ((p : Int) + n - n) = (p : Int) := by rw [show (p : Int) + n - n = p by omega]; exact IntWalk.i64_in _ (by omega)
  have i0 : (0 : Int) ≤ (p : Int) := by omega
  have i1 : (p : Int) ≤ (p : Int) + n := by omega
  have i2 : (p : Int) + n ≤ (s.length : Int) := by omega
  have i3 : (p : Int) + n ≤ (dcap : Int) := by omega
  have i4 : ((p : Int) + n).toNat = p + n := by omega
  have i5 : (p : Int) + n - n = p := by omega
  have i6 : p + n - p = n := by omega
  by_cases hn0 : n = 0
  · subst hn0
    have hp0 := HQ.out.bytes.part 0 0 0 (by omega) (by omega) (by omega) (by unfold maxLen; omega)
    have HP0 := Lib.hid hp0
    clear hp0
    go_quiet (fail)
    go_wp2_with fail
    go_ret
    exact ⟨dof, rfl, by simpa using HP0.out.keep0 ((Fr.refl _ _).drewN nq), HQ.out.keep ((Fr.refl (fun _ => False) _).drewN _) id id id, HA.out.drewN _⟩
  go_quiet (fail)
  go_wp2_with fail
  go_ret
  exact ⟨dof + p, rfl, HP.out.keep0 ((Fr.refl _ _).drewN _), HQ.out.keep ((Fr.refl (fun _ => False) _).drewN _) id id id, HA.out.drewN _⟩
set_option maxHeartbeats 1000000 in
theorem number_bad (w : World) (rb db dof dcap : Nat) (s : List UInt8) (p n : Nat) (c : Int) (hc : c = n) (T : TypeId) (u : Value) (h : RD w rb db dof dcap s p (.iface T u)) (hn : n ≤ 1000) (hb : s.length < p + n) :
    Calls Tryz.prog 118 #[.pointer (some ⟨rb, 0, none⟩), .int .i64 c] w fun e w' => e = .panicked [{ v := .iface T u, recovered := false }] ∧ Fr (fun _ => False) w w' := by
  subst hc
  have H := Lib.hid (take_bad w rb db dof dcap s p n T u h hn hb)
  clear h
  go_enter Tryz.func118, Tryz.ntmps118
  go_wp2_with fail
  refine H.out.mono ?_
  rintro e w' ⟨rfl, h2⟩
  exact ⟨rfl, rfl, h2⟩
set_option maxHeartbeats 1000000 in
theorem number_ok (w : World) (rb db dof dcap : Nat) (s : List UInt8) (p n : Nat) (c : Int) (hc : c = n) (F : Value) (h : RD w rb db dof dcap s p F) (hn : n ≤ 1000) (hb : p + n ≤ s.length) :
    Calls Tryz.prog 118 #[.pointer (some ⟨rb, 0, none⟩), .int .i64 c] w fun e w' => e = .returned (.int .i64 (IntKind.i64.wrap (numOf ((s.drop p).take n)))) ∧ RD w' rb db dof dcap s (p + n) F ∧ Fr (fun k => k = rb) w w' := by
  subst hc
  have H := Lib.hid (take_ok w rb db dof dcap s p n F h hn hb)
  have hlen : ((s.drop p).take n).length = n := by simp; omega
  clear h
  go_enter Tryz.func118, Tryz.ntmps118
  go_wp2_with fail
  refine H.out.mono ?_
  rintro e w' ⟨off, rfl, hi, hr, hf⟩
  have HR := Lib.hid hr
  have HF := Lib.hid hf
  obtain ⟨seg, hseg⟩ : ∃ seg, (s.drop p).take n = seg := ⟨_, rfl⟩
  rw [hseg] at hi hlen
  have HSEG := Lib.hid hseg
  clear hseg
  have HL := Lib.hid hlen
  have hcell : ∀ k, k < n → w'.cell? ⟨db, off + k, none⟩ = some (.int .u8 (seg.getD k 0).toNat) := by
    intro k hk
    rcases hi.cases with ⟨h1, -⟩ | ⟨b, off', cap, h1, -, -, h2⟩
    · simp at h1
    · simp only [Value.slice.injEq, Option.some.injEq, Addr.mk.injEq, and_true] at h1
      obtain ⟨⟨rfl, rfl⟩, -, -⟩ := h1
      exact h2 k (by omega)
  have HC := Lib.hid hcell
  clear hr hf hi hcell hlen
  go_wp2_with fail
  go_loop [5, 12] (fun x i => ∃ k : Nat, k ≤ n ∧ i = .int .i64 k ∧ x = .int .i64 (IntKind.i64.wrap (numOf (seg.take k)))) (fun _ i => n - (intOf i).toNat)
  case atStart => exact ⟨0, Nat.zero_le _, rfl, rfl⟩
  case round =>
    obtain ⟨k, hk, rfl, rfl⟩ := hrel
    by_cases hlt : k < n
    · have hcell := HC.out k hlt
      have hst : Go.bits .or .i64 (IntKind.i64.wrap (IntKind.i64.wrap (numOf (seg.take k)) * 256)) ((seg.getD k 0).toNat : Int) = IntKind.i64.wrap (numOf (seg.take (k + 1))) := by
        rw [wrapI_step _ _ (by have := (seg.getD k 0).toNat_lt; omega), show seg.getD k 0 = seg[k]'(by rw [HL.out]; exact hlt) from by rw [List.getD_eq_getElem?_getD, List.getElem?_eq_getElem (by rw [HL.out]; exact hlt)]; rfl, take_snoc _ _ (by rw [HL.out]; exact hlt), numOf_snoc]
        congr 1
        simp
        omega
      have HST := Lib.hid hst
      clear hst
      go_wp2
      rw [w64_byte]
      have HST2 : Go.bits .or .i64 (wrap64 (wrap64 (numOf (seg.take k) : Int) * 256)) ((seg.getD k 0).toNat : Int) = IntKind.i64.wrap (numOf (seg.take (k + 1))) := by rw [← IntWalk.i64_left, ← IntWalk.i64_left]; exact HST.out
      exact ⟨⟨k + 1, by omega, by go_num, congrArg (Value.int .i64) HST2⟩, by simp [intOf]; omega⟩
    · obtain rfl : k = n := by omega
      go_wp2
      go_ret
      exact ⟨by rw [HSEG.out, List.take_of_length_le (by rw [HL.out]; omega)]; rfl, HR.out, HF.out⟩

set_option maxHeartbeats 4000000 in
theorem named_any (s : ByteArray) (w : World) (hs : s.size ≤ 1000000) :
    Calls Tryz.prog 74 #[.string s] w fun e w' => e = .returned (.bool (isName s.data.toList)) ∧ w = w' := by
  have hsl : s.data.toList.length = s.size := by simp
  have hse : s.toList = s.data.toList := ByteArray.toList_eq s
  by_cases h0 : s.size = 0
  · have he : s.toList.isEmpty = true := by rw [hse, List.isEmpty_iff]; exact List.length_eq_zero_iff.1 (by omega)
    have hn : isName s.data.toList = false := by unfold isName; rw [hsl]; simp; omega
    have HN := Lib.hid hn
    clear hn hse hsl
    go_enter Tryz.func74, Tryz.ntmps74
    go_wp2_with fail
    go_ret
    exact ⟨by rw [HN.out]; rfl, rfl⟩
  have he : s.toList.isEmpty = false := by
    rw [hse]
    cases h : s.data.toList with
    | nil => rw [h] at hsl; simp at hsl; omega
    | cons a l => rfl
  by_cases h12 : 12 < s.size
  · have hn : isName s.data.toList = false := by unfold isName; rw [hsl]; simp; omega
    have HN := Lib.hid hn
    clear hn hse hsl
    go_enter Tryz.func74, Tryz.ntmps74
    go_wp2_with fail
    go_ret
    exact ⟨by rw [HN.out]; rfl, rfl⟩
  have h12' : ¬ (12 : Int) < (s.size : Int) := by omega
  have HSL := Lib.hid hsl
  clear hse hsl
  go_enter Tryz.func74, Tryz.ntmps74
  go_wp2_with fail
  go_loop [14] (fun i => ∃ k : Nat, k ≤ s.size ∧ i = .int .i64 k ∧ ∀ j, j < k → nameByte (s.data.toList.getD j 0) = true) (fun i => s.size - (intOf i).toNat)
  case atStart => exact ⟨0, Nat.zero_le _, rfl, fun j h => by omega⟩
  case round =>
    obtain ⟨k, hk, rfl, hall⟩ := hrel
    have HALL := Lib.hid hall
    clear hall
    by_cases hlt : k < s.size
    · obtain ⟨c, hc⟩ : ∃ c, s[k] = c := ⟨_, rfl⟩
      have hcd : s.data.toList.getD k 0 = c := by
        rw [← hc, List.getD_eq_getElem?_getD, List.getElem?_eq_getElem (by rw [HSL.out]; exact hlt)]; rfl
      have hgood : nameByte c = true → ∀ j, j < k + 1 → nameByte (s.data.toList.getD j 0) = true := fun h j hj => by
        by_cases hjk : j = k
        · subst hjk; rw [hcd]; exact h
        · exact HALL.out j (by omega)
      have hbad : nameByte c = false → isName s.data.toList = false := fun h => by
        have : s.data.toList.all nameByte = false := by
          rw [List.all_eq_false]
          exact ⟨s.data.toList.getD k 0, by rw [List.getD_eq_getElem?_getD, List.getElem?_eq_getElem (by rw [HSL.out]; exact hlt)]; exact List.getElem_mem _, by rw [hcd, h]; simp⟩
        unfold isName
        rw [this]; simp
      have HGOOD := Lib.hid hgood
      have HBAD := Lib.hid hbad
      have hcl := c.toNat_lt
      clear hgood hbad hcd
      have hcase : c.toNat < 46 ∨ c.toNat = 46 ∨ c.toNat = 47 ∨ (48 ≤ c.toNat ∧ c.toNat ≤ 57) ∨ (57 < c.toNat ∧ c.toNat < 97) ∨ (97 ≤ c.toNat ∧ c.toNat ≤ 122) ∨ 122 < c.toNat := by omega
      rcases hcase with hx | hx | hx | hx | hx | hx | hx
      · have d0 : ¬ (97 : Int) ≤ (c.toNat : Int) := by omega
        have d1 : ¬ (48 : Int) ≤ (c.toNat : Int) := by omega
        have d2 : ((c.toNat : Int) == 46) = false := by rw [beq_eq_false_iff_ne]; omega
        have d3 : ((c.toNat : Int) == 47) = false := by rw [beq_eq_false_iff_ne]; omega
        have HB := Lib.hid (HBAD.out (by simp [nameByte]; omega))
        clear hx
        go_wp2_with fail
        go_ret
        exact ⟨by rw [HB.out]; rfl, rfl⟩
      · have d0 : ¬ (97 : Int) ≤ (c.toNat : Int) := by omega
        have d1 : ¬ (48 : Int) ≤ (c.toNat : Int) := by omega
        have d2 : ((c.toNat : Int) == 46) = true := by rw [beq_iff_eq]; omega
        have HG := Lib.hid (HGOOD.out (by simp [nameByte]; omega))
        clear hx
        go_wp2_with fail
        exact ⟨⟨k + 1, by omega, by go_num, HG.out⟩, by simp [intOf]; omega⟩
      · have d0 : ¬ (97 : Int) ≤ (c.toNat : Int) := by omega
        have d1 : ¬ (48 : Int) ≤ (c.toNat : Int) := by omega
        have d2 : ((c.toNat : Int) == 46) = false := by rw [beq_eq_false_iff_ne]; omega
        have d3 : ((c.toNat : Int) == 47) = true := by rw [beq_iff_eq]; omega
        have HG := Lib.hid (HGOOD.out (by simp [nameByte]; omega))
        clear hx
        go_wp2_with fail
        exact ⟨⟨k + 1, by omega, by go_num, HG.out⟩, by simp [intOf]; omega⟩
      · have d0 : ¬ (97 : Int) ≤ (c.toNat : Int) := by omega
        have d1 : (48 : Int) ≤ (c.toNat : Int) := by omega
        have d2 : (c.toNat : Int) ≤ 57 := by omega
        have HG := Lib.hid (HGOOD.out (by simp [nameByte]; omega))
        clear hx
        go_wp2_with fail
        exact ⟨⟨k + 1, by omega, by go_num, HG.out⟩, by simp [intOf]; omega⟩
      · have d0 : ¬ (97 : Int) ≤ (c.toNat : Int) := by omega
        have d1 : (48 : Int) ≤ (c.toNat : Int) := by omega
        have d2 : ¬ (c.toNat : Int) ≤ 57 := by omega
        have d3 : ((c.toNat : Int) == 46) = false := by rw [beq_eq_false_iff_ne]; omega
        have d4 : ((c.toNat : Int) == 47) = false := by rw [beq_eq_false_iff_ne]; omega
        have HB := Lib.hid (HBAD.out (by simp [nameByte]; omega))
        clear hx
        go_wp2_with fail
        go_ret
        exact ⟨by rw [HB.out]; rfl, rfl⟩
      · have d0 : (97 : Int) ≤ (c.toNat : Int) := by omega
        have d1 : (c.toNat : Int) ≤ 122 := by omega
        have HG := Lib.hid (HGOOD.out (by simp [nameByte]; omega))
        clear hx
        go_wp2_with fail
        exact ⟨⟨k + 1, by omega, by go_num, HG.out⟩, by simp [intOf]; omega⟩
      · have d0 : (97 : Int) ≤ (c.toNat : Int) := by omega
        have d1 : ¬ (c.toNat : Int) ≤ 122 := by omega
        have d2 : (48 : Int) ≤ (c.toNat : Int) := by omega
        have d3 : ¬ (c.toNat : Int) ≤ 57 := by omega
        have d4 : ((c.toNat : Int) == 46) = false := by rw [beq_eq_false_iff_ne]; omega
        have d5 : ((c.toNat : Int) == 47) = false := by rw [beq_eq_false_iff_ne]; omega
        have HB := Lib.hid (HBAD.out (by simp [nameByte]; omega))
        clear hx
        go_wp2_with fail
        go_ret
        exact ⟨by rw [HB.out]; rfl, rfl⟩
    · obtain rfl : k = s.size := by omega
      have hn : isName s.data.toList = true := by
        unfold isName
        have : s.data.toList.all nameByte = true := by
          rw [List.all_eq_true]
          intro x hx
          obtain ⟨j, hj, rfl⟩ := List.getElem_of_mem hx
          have := HALL.out j (by rw [← HSL.out]; exact hj)
          rwa [List.getD_eq_getElem?_getD, List.getElem?_eq_getElem hj] at this
        rw [this, HSL.out]
        simp; omega
      have HN := Lib.hid hn
      clear hn
      go_wp2_with fail
      go_ret
      exact ⟨by rw [HN.out]; rfl, rfl⟩
end Go.Proofs.YtlcdgbhigfgehabGreatDoor
