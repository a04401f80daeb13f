/- The walk of alike: two lists of the same tokens are alike. -/
import Derived.Test.YtlcdgbhigfgehabGreatDoorToks
import Derived.Test.YtlcdgbhigfgehabGreatDoorRoomy
import Derived.WalkSpells
import Derived.WalkLawsBesides
namespace Go.Proofs.YtlcdgbhigfgehabGreatDoor
open Go.RowKit
set_option maxRecDepth 100000


theorem spoilt_nil (w : World) :
    Calls Tryz.prog 104 #[.slice none 0 0] w fun e w' => e = .returned (.tuple #[]) ∧ w = w' := by
  go_enter Tryz.func104, Tryz.ntmps104
  go_wp2
  refine wp_loop_rounds 1 ?_
  rw [rounds_succ]
  go_wp2
  go_end0
  exact ⟨rfl, rfl⟩
set_option maxHeartbeats 1000000 in
theorem spoilt_row (g n cap : Nat) (xs : List Value) (w : World) (ho : Own w g 5 xs) (hx : xs.length = cap) (hn : n ≤ cap) (hm : cap ≤ maxLen) :
    Calls Tryz.prog 104 #[.slice (some ⟨g, 0, none⟩) n cap] w fun e w' => e = .returned (.tuple #[]) ∧
      (∃ ys, Own w' g 5 ys ∧ ys.length = cap ∧ ∀ j, j < cap → ys[j]? = some (.int .u8 99)) ∧ Fr (fun k => k = g) w w' := by
  unfold maxLen at hm
  go_enter Tryz.func104, Tryz.ntmps104
  go_wp2
  go_loopw [3] (fun i wr => ∃ (k : Nat) (ys : List Value), k ≤ cap ∧ i = .int .i64 k ∧ Own wr g 5 ys ∧ ys.length = cap ∧ (∀ j, j < k → ys[j]? = some (.int .u8 99)) ∧ Fr (fun k => k = g) w wr) (fun i _ => cap - (intOf i).toNat)
  case atStart => exact ⟨0, xs, Nat.zero_le _, rfl, ho, hx, fun j hj => by omega, Fr.refl _ _⟩
  case round =>
    obtain ⟨k, ys, hk, rfl, hy, hl, hall, hfr⟩ := hrel
    by_cases hlt : k < cap
    · have c1 := hy.cell (i := k) (List.getElem?_eq_getElem (by omega))
      have f1 := hy.free k (by omega)
      have HA := Lib.hid hall
      have HY := Lib.hid hy
      have HL := Lib.hid hl
      have HF := Lib.hid hfr
      clear hall hy hfr
      go_wp2_with fail
      refine ⟨⟨k + 1, ys.set k (.int .u8 99), by omega, by go_num, HY.out.set k _, by simpa using HL.out, fun j hj => ?_, HF.out.setCell _ _ (fun _ => rfl)⟩, by simp [intOf]; omega⟩
      by_cases hjk : j = k
      · subst hjk; rw [List.getElem?_set_self (by rw [HL.out]; omega)]
      · rw [List.getElem?_set_ne (fun h => hjk h.symm)]; exact HA.out j (by omega)
    · obtain rfl : k = cap := by omega
      have HA := Lib.hid hall
      have HY := Lib.hid hy
      have HL := Lib.hid hl
      have HF := Lib.hid hfr
      clear hall hy hl hfr
      go_wp2_with fail
      go_end0
      exact ⟨rfl, ⟨ys, HY.out, HL.out, HA.out⟩, HF.out⟩
end Go.Proofs.YtlcdgbhigfgehabGreatDoor
