/- The document's reader of batches: number, text, must. -/
import Derived.Test.YtlcdgbhigfgehabGreatDoorVec
import Derived.Test.YtlcdgbhigfgehabGreatDoorRecPure
import Derived.Test.YtlcdgbhigfgehabGreatDoorProg
import Derived.Lib.Hide
import Derived.WalkSpells
import Derived.Deep.QuietTactic
namespace Go.Proofs.YtlcdgbhigfgehabGreatDoor
open Go.RowKit
set_option maxRecDepth 100000

/-- The document's reader: the struct at rb over the text s at place p; is all well? -/
structure RR (w : World) (rb : Nat) (s : ByteArray) (p : Nat) (ok : Bool) : Prop where
  own : Own w rb 272 [.string s, .int .i64 p, .bool ok]
  le : p ≤ s.size
theorem RR.keep {w w1 : World} {S : Nat → Prop} {rb : Nat} {s : ByteArray} {p : Nat} {ok : Bool} (h : RR w rb s p ok) (k : Fr S w w1) (h1 : ¬ S rb) : RR w1 rb s p ok := ⟨h.own.keep k h1, h.le⟩
theorem RR.ok_ {w : World} {rb : Nat} {s : ByteArray} {p : Nat} {ok : Bool} (h : RR w rb s p ok) (b : Bool) : RR (w.setCell ⟨rb, 2, none⟩ (.bool b)) rb s p b ∧ Fr (fun k => k = rb) w (w.setCell ⟨rb, 2, none⟩ (.bool b)) :=
  ⟨⟨h.own.set 2 _, h.le⟩, (Fr.refl _ _).setCell _ _ (fun _ => rfl)⟩
theorem RR.at_ {w : World} {rb : Nat} {s : ByteArray} {p : Nat} {ok : Bool} (h : RR w rb s p ok) (q : Nat) (hq : q ≤ s.size) (x : Int) (hx : x = q) : RR (w.setCell ⟨rb, 1, none⟩ (.int .i64 x)) rb s q ok ∧ Fr (fun k => k = rb) w (w.setCell ⟨rb, 1, none⟩ (.int .i64 x)) := by
  subst hx
  exact ⟨⟨h.own.set 1 _, hq⟩, (Fr.refl _ _).setCell _ _ (fun _ => rfl)⟩

set_option maxHeartbeats 1000000 in
theorem rmust_any (w : World) (rb : Nat) (s : ByteArray) (p : Nat) (ok b : Bool) (h : RR w rb s p ok) :
    Calls Tryz.prog 153 #[.pointer (some ⟨rb, 0, none⟩), .bool b] w fun e w' => e = .returned (.tuple #[]) ∧ RR w' rb s p (ok && b) ∧ Fr (fun k => k = rb) w w' := by
  have x2 := h.own.cell (i := 2) rfl
  have xf := h.own.free 2 (by simp)
  have H := Lib.hid h
  clear h
  cases ok with
  | true =>
    go_enter Tryz.func153, Tryz.ntmps153
    go_wp2_with fail
    go_end0
    obtain ⟨q1, q2⟩ := H.out.ok_ b
    exact ⟨rfl, by simpa using q1, q2⟩
  | false =>
    go_enter Tryz.func153, Tryz.ntmps153
    go_wp2_with fail
    go_end0
    obtain ⟨q1, q2⟩ := H.out.ok_ false
    exact ⟨rfl, by simpa using q1, q2⟩
set_option maxHeartbeats 1000000 in
theorem rtext_bad (w : World) (rb : Nat) (s : ByteArray) (p n : Nat) (c : Int) (hc : c = n) (ok : Bool) (h : RR w rb s p ok) (hs : s.size ≤ 1000000) (hn : n ≤ 1000000) (hb : ok = false ∨ s.size < p + n) :
    Calls Tryz.prog 152 #[.pointer (some ⟨rb, 0, none⟩), .int .i64 c] w fun e w' => e = .returned (.string ⟨#[]⟩) ∧ RR w' rb s p false ∧ Fr (fun k => k = rb) w w' := by
  subst hc
  have x0 := h.own.cell (i := 0) rfl
  have x1 := h.own.cell (i := 1) rfl
  have x2 := h.own.cell (i := 2) rfl
  have xf := h.own.free 2 (by simp)
  have hle := h.le
  have H := Lib.hid h
  clear h
  have hsub : IntKind.i64.wrap ((s.size : Int) - p) = (s.size : Int) - p := IntWalk.i64_in _ (by omega)
  cases ok with
  | true =>
    have hb2 : s.size < p + n := by
      rcases hb with h | h
      · cases h
      · exact h
    have hlt : (s.size : Int) - p < n := by omega
    clear hb
    go_enter Tryz.func152, Tryz.ntmps152
    go_wp2_with fail
    go_quiet (fail)
    go_wp2_with fail
    go_ret
    obtain ⟨q1, q2⟩ := (H.out.keep ((Fr.refl (fun _ => False) w).drewN nq) id).ok_ false
    exact ⟨rfl, q1, (((Fr.refl (fun _ => False) w).drewN nq).mono (fun _ h _ => h.elim)).step q2 (fun _ h _ => h)⟩
  | false =>
    clear hb
    go_enter Tryz.func152, Tryz.ntmps152
    go_wp2_with fail
    go_quiet (fail)
    go_wp2_with fail
    go_ret
    obtain ⟨q1, q2⟩ := (H.out.keep ((Fr.refl (fun _ => False) w).drewN nq) id).ok_ false
    exact ⟨rfl, q1, (((Fr.refl (fun _ => False) w).drewN nq).mono (fun _ h _ => h.elim)).step q2 (fun _ h _ => h)⟩
set_option maxHeartbeats 1000000 in
theorem rnum_bad (w : World) (rb : Nat) (s : ByteArray) (p n : Nat) (c : Int) (hc : c = n) (ok : Bool) (h : RR w rb s p ok) (hs : s.size ≤ 1000000) (hn : n ≤ 1000000) (hb : ok = false ∨ s.size < p + n) :
    Calls Tryz.prog 154 #[.pointer (some ⟨rb, 0, none⟩), .int .i64 c] w fun e w' => e = .returned (.int .u64 0) ∧ RR w' rb s p false ∧ Fr (fun k => k = rb) w w' := by
  subst hc
  have x0 := h.own.cell (i := 0) rfl
  have x1 := h.own.cell (i := 1) rfl
  have x2 := h.own.cell (i := 2) rfl
  have xf := h.own.free 2 (by simp)
  have hle := h.le
  have H := Lib.hid h
  clear h
  have hsub : IntKind.i64.wrap ((s.size : Int) - p) = (s.size : Int) - p := IntWalk.i64_in _ (by omega)
  cases ok with
  | true =>
    have hb2 : s.size < p + n := by
      rcases hb with h | h
      · cases h
      · exact h
    have hlt : (s.size : Int) - p < n := by omega
    clear hb
    go_enter Tryz.func154, Tryz.ntmps154
    go_wp2_with fail
    go_quiet (fail)
    go_wp2_with fail
    go_ret
    obtain ⟨q1, q2⟩ := (H.out.keep ((Fr.refl (fun _ => False) w).drewN nq) id).ok_ false
    exact ⟨rfl, q1, (((Fr.refl (fun _ => False) w).drewN nq).mono (fun _ h _ => h.elim)).step q2 (fun _ h _ => h)⟩
  | false =>
    clear hb
    go_enter Tryz.func154, Tryz.ntmps154
    go_wp2_with fail
    go_quiet (fail)
    go_wp2_with fail
    go_ret
    obtain ⟨q1, q2⟩ := (H.out.keep ((Fr.refl (fun _ => False) w).drewN nq) id).ok_ false
    exact ⟨rfl, q1, (((Fr.refl (fun _ => False) w).drewN nq).mono (fun _ h _ => h.elim)).step q2 (fun _ h _ => h)⟩
set_option maxHeartbeats 1000000 in
theorem rtext_ok (w : World) (rb : Nat) (s : ByteArray) (p n : Nat) (c : Int) (hc : c = n) (h : RR w rb s p true) (hs : s.size ≤ 1000000) (hb : p + n ≤ s.size) :
    Calls Tryz.prog 152 #[.pointer (some ⟨rb, 0, none⟩), .int .i64 c] w fun e w' => e = .returned (.string ⟨((s.data.toList.drop p).take n).toArray⟩) ∧ RR w' rb s (p + n) true ∧ Fr (fun k => k = rb) w w' := by
  subst hc
  have x0 := h.own.cell (i := 0) rfl
  have x1 := h.own.cell (i := 1) rfl
  have x2 := h.own.cell (i := 2) rfl
  have xf := h.own.free 1 (by simp)
  have hle := h.le
  have H := Lib.hid h
  clear h
  have hsub : IntKind.i64.wrap ((s.size : Int) - p) = (s.size : Int) - p := IntWalk.i64_in _ (by omega)
  have hadd : IntKind.i64.wrap ((p : Int) + n) = (p : Int) + n := IntWalk.i64_in _ (by omega)
  have hlt : ¬ (s.size : Int) - p < n := by omega
  have i0 : (0 : Int) ≤ (p : Int) := by omega
  have i1 : (p : Int) ≤ (p : Int) + n := by omega
  have i2 : (p : Int) + n ≤ (s.size : Int) := by omega
  have i4 : ((p : Int) + n).toNat = p + n := by omega
  have hse : s.extract p (p + n) = ⟨((s.data.toList.drop p).take n).toArray⟩ := by
    apply ByteArray.ext
    apply Array.ext'
    simp
  have HSE := Lib.hid hse
  clear hse
  go_enter Tryz.func152, Tryz.ntmps152
  go_wp2_with fail
  go_quiet (fail)
  generalize nq = m1 at *
  go_wp2_with fail
  go_quiet (fail)
  go_wp2_with fail
  go_ret
  have hd : Fr (fun _ => False) w (w.drewN (m1 + nq)) := (Fr.refl _ _).drewN _
  obtain ⟨q1, q2⟩ := (H.out.keep hd id).at_ (p + n) hb ((p : Int) + n) (by omega)
  exact ⟨by rw [← HSE.out]; rfl, q1, (hd.mono (fun _ h _ => h.elim)).step q2 (fun _ h _ => h)⟩
theorem wrapU8 (m : Nat) (c : UInt8) (h : m < 72057594037927936) : IntKind.u64.wrap (256 * (m : Int) + IntKind.u64.wrap (c.toNat : Int)) = ((256 * m + c.toNat : Nat) : Int) := by
  have hw : ∀ n : Int, IntKind.u64.wrap n = n % 18446744073709551616 := fun n => by simp [IntKind.wrap, IntKind.bits, IntKind.signed]
  have hc := c.toNat_lt
  rw [hw, hw]
  omega
set_option maxHeartbeats 1000000 in
theorem rnum_ok (w : World) (rb : Nat) (s : ByteArray) (p n : Nat) (c : Int) (hc : c = n) (h : RR w rb s p true) (hs : s.size ≤ 1000000) (hn : n ≤ 8) (hb : p + n ≤ s.size) :
    Calls Tryz.prog 154 #[.pointer (some ⟨rb, 0, none⟩), .int .i64 c] w fun e w' => e = .returned (.int .u64 (numOf ((s.data.toList.drop p).take n))) ∧ RR w' rb s (p + n) true ∧ Fr (fun k => k = rb) w w' := by
  subst hc
  have x0 := h.own.cell (i := 0) rfl
  have x1 := h.own.cell (i := 1) rfl
  have x2 := h.own.cell (i := 2) rfl
  have xf := h.own.free 1 (by simp)
  have hle := h.le
  have H := Lib.hid h
  clear h
  have hsub : IntKind.i64.wrap ((s.size : Int) - p) = (s.size : Int) - p := IntWalk.i64_in _ (by omega)
  have hadd : IntKind.i64.wrap ((p : Int) + n) = (p : Int) + n := IntWalk.i64_in _ (by omega)
  have hlt : ¬ (s.size : Int) - p < n := by omega
  have hsl : s.data.toList.length = s.size := by simp
  obtain ⟨seg, hseg⟩ : ∃ seg, (s.data.toList.drop p).take n = seg := ⟨_, rfl⟩
  have hlen : seg.length = n := by rw [← hseg]; simp; omega
  have HG := Lib.hid (show ∀ k (hk : k < n) (hk2 : p + k < s.size), s[p + k] = seg.getD k 0 from fun k hk hk2 => by
    rw [← hseg, List.getD_eq_getElem?_getD, List.getElem?_take_of_lt hk, List.getElem?_drop, List.getElem?_eq_getElem (by rw [hsl]; exact hk2)]
    rfl)
  have HSEG := Lib.hid hseg
  have HL := Lib.hid hlen
  clear hseg hlen hsl
  go_enter Tryz.func154, Tryz.ntmps154
  go_wp2_with fail
  go_quiet (fail)
  go_wp2_with fail
  rename_i m1
  go_loopw [5, 6] (fun x i wr => ∃ k : Nat, k ≤ n ∧ i = .int .i64 k ∧ x = .int .u64 (numOf (seg.take k)) ∧ Fr (fun _ => False) w wr) (fun _ i _ => n - (intOf i).toNat)
  case atStart => exact ⟨0, Nat.zero_le _, rfl, rfl, (Fr.refl _ _).drewN _⟩
  case round =>
    obtain ⟨k, hk, rfl, rfl, hfr⟩ := hrel
    have HFR := Lib.hid hfr
    have HRw := Lib.hid (H.out.keep hfr id)
    have y0 := HRw.out.own.cell (i := 0) rfl
    have y1 := HRw.out.own.cell (i := 1) rfl
    have y2 := HRw.out.own.cell (i := 2) rfl
    have yf := HRw.out.own.free 1 (by simp)
    clear hfr
    by_cases hkn : k < n
    · have hkb : numOf (seg.take k) < 72057594037927936 := by
        have h1 := numOf_lt (seg.take k)
        have h2 : (seg.take k).length = k := by rw [List.length_take, HL.out]; omega
        rw [h2] at h1
        have h3 : 256 ^ k ≤ 256 ^ 7 := Nat.pow_le_pow_right (by omega) (by omega)
        omega
      have hst := wrapU8 (numOf (seg.take k)) (seg.getD k 0) hkb
      have hnx : 256 * numOf (seg.take k) + (seg.getD k 0).toNat = numOf (seg.take (k + 1)) := by
        rw [take_snoc _ _ (by rw [HL.out]; exact hkn), numOf_snoc, List.getD_eq_getElem?_getD, List.getElem?_eq_getElem (by rw [HL.out]; exact hkn)]
        rfl
      rw [hnx] at hst
      have HST := Lib.hid hst
      have hpk : IntKind.i64.wrap ((p : Int) + k) = (p : Int) + k := IntWalk.i64_in _ (by omega)
      have hin : p + k < s.size := by omega
      have j0 : (0 : Int) ≤ (p : Int) + k := by omega
      have j1 : (p : Int) + k < (s.size : Int) := by omega
      have j2 : ((p : Int) + k).toNat = p + k := by omega
      have hch := HG.out k hkn hin
      clear hst hnx
      go_wp2_with fail
      go_quiet (fail)
      go_wp2_with fail
      exact ⟨⟨k + 1, by omega, by go_num, congrArg (Value.int .u64) HST.out, HFR.out.drewN _⟩, by simp [intOf]; omega⟩
    · obtain rfl : k = n := by omega
      go_wp2_with fail
      go_ret
      obtain ⟨q1, q2⟩ := HRw.out.at_ (p + k) hb ((p : Int) + k) (by omega)
      exact ⟨by rw [HSEG.out, List.take_of_length_le (by rw [HL.out]; omega)]; rfl, q1, (HFR.out.mono (fun _ h _ => h.elim)).step q2 (fun _ h _ => h)⟩
end Go.Proofs.YtlcdgbhigfgehabGreatDoor
