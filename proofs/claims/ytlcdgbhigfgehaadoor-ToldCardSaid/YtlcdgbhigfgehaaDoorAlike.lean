/- The walk of alike: two lists of the same tokens are alike. -/
import Derived.Test.YtlcdgbhigfgehaaDoorToks
import Derived.Test.YtlcdgbhigfgehaaDoorRoomy
import Derived.WalkSpells
import Derived.WalkLawsBesides
namespace Go.Proofs.YtlcdgbhigfgehaaDoor
open Go.RowKit
set_option maxRecDepth 100000

set_option maxHeartbeats 1000000 in
theorem alike_any (v1 v2 : Value) (l1 l2 : List (Tok × Value)) (B1 B2 : Nat) (w : World) (h1 : Toks w B1 v1 l1) (h2 : Toks w B2 v2 l2) (he : l1.map (·.1) = l2.map (·.1)) :
    Calls Tryd.prog 16 #[v1, v2] w fun e w' => e = .returned (.bool true) ∧ Fr (fun _ => False) w w' := by
  have hlen : l1.length = l2.length := by have := congrArg List.length he; simpa using this
  have hL := h1.vec.len
  unfold maxLen at hL
  rcases h1.vec.cases with ⟨rfl, h0, -⟩ | ⟨g1, c1, r1, rfl, -⟩
  · obtain ⟨a2, cap2, rfl, -⟩ := h2.vec.shape
    rw [← hlen, h0]
    go_enter Tryd.func16, Tryd.ntmps16
    go_wp2
    refine wp_loop_rounds 1 ?_
    rw [rounds_succ]
    go_wp2
    go_ret
    exact ⟨rfl, Fr.refl _ _⟩
  · rcases h2.vec.cases with ⟨rfl, h0, -⟩ | ⟨g2, c2, r2, rfl, -⟩
    · rw [hlen, h0]
      go_enter Tryd.func16, Tryd.ntmps16
      go_wp2
      refine wp_loop_rounds 1 ?_
      rw [rounds_succ]
      go_wp2
      go_ret
      exact ⟨rfl, Fr.refl _ _⟩
    · have H1 := Lib.hid h1
      have H2 := Lib.hid h2
      have HE := Lib.hid he
      rw [← hlen]
      have HL := Lib.hid hlen
      generalize hn : l1.length = n at hL ⊢
      have HN := Lib.hid hn
      clear h1 h2 he hlen hn
      go_enter Tryd.func16, Tryd.ntmps16
      go_wp2
      go_loopw [5] (fun i wr => ∃ k : Nat, k ≤ n ∧ i = .int .i64 k ∧ Fr (fun _ => False) w wr) (fun i _ => n - (intOf i).toNat)
      case atStart => exact ⟨0, Nat.zero_le _, rfl, Fr.refl _ _⟩
      case round =>
        obtain ⟨k, hk, rfl, hfr⟩ := hrel
        by_cases hlt : k < n
        · have e1 := H1.out.keep0 hfr
          have e2 := H2.out.keep0 hfr
          have hk1 : k < l1.length := by rw [HN.out]; exact hlt
          have hk2 : k < l2.length := by rw [← HL.out, HN.out]; exact hlt
          obtain ⟨g1', c1', q1, x1, y1, z1⟩ := e1.get k hk1
          obtain ⟨g2', c2', q2, x2, y2, z2⟩ := e2.get k hk2
          simp only [Value.slice.injEq, Option.some.injEq, Addr.mk.injEq, and_true] at q1 q2
          obtain ⟨rfl, -, rfl⟩ := q1
          obtain ⟨rfl, -, rfl⟩ := q2
          have hsame : l1[k].1 = l2[k].1 := by
            have h := congrArg (fun l => l[k]?) HE.out
            simp only [List.getElem?_map, List.getElem?_eq_getElem hk1, List.getElem?_eq_getElem hk2, Option.map_some] at h
            exact Option.some.inj h
          have d1 := e1.data l1[k] (List.getElem_mem hk1)
          have d2 := e2.data l2[k] (List.getElem_mem hk2)
          rw [← hsame] at x2 y2 d2
          have u1 := run_string_ofN (P := Tryd.prog) wr 25 9 5 _ _ Tryd.underlying25 Tryd.underlying5 Tryd.underlying9 d1
          have u2 := run_string_ofN (P := Tryd.prog) wr 25 9 5 _ _ Tryd.underlying25 Tryd.underlying5 Tryd.underlying9 d2
          generalize l1[k].1 = t at *
          generalize l1[k].2 = dv1 at *
          generalize l2[k].2 = dv2 at *
          have HF := Lib.hid hfr
          clear e1 e2 d1 d2 hsame hk1 hk2 hfr
          go_wp2_with fail
          go_quiet (fail)
          go_wp2_with fail
          exact ⟨⟨k + 1, by omega, by go_num, HF.out.drewN _⟩, by simp [intOf]; omega⟩
        · obtain rfl : k = n := by omega
          go_wp2
          go_ret
          exact ⟨rfl, hfr⟩

theorem spoilt_nil (w : World) :
    Calls Tryd.prog 19 #[.slice none 0 0] w fun e w' => e = .returned (.tuple #[]) ∧ w = w' := by
  go_enter Tryd.func19, Tryd.ntmps19
  go_wp2
  refine wp_loop_rounds 1 ?_
  rw [rounds_succ]
  go_wp2
  go_end0
  exact ⟨rfl, rfl⟩
set_option maxHeartbeats 1000000 in
theorem spoilt_row (g n cap : Nat) (xs : List Value) (w : World) (ho : Own w g 5 xs) (hx : xs.length = cap) (hn : n ≤ cap) (hm : cap ≤ maxLen) :
    Calls Tryd.prog 19 #[.slice (some ⟨g, 0, none⟩) n cap] w fun e w' => e = .returned (.tuple #[]) ∧
      (∃ ys, Own w' g 5 ys ∧ ys.length = cap ∧ ∀ j, j < cap → ys[j]? = some (.int .u8 99)) ∧ Fr (fun k => k = g) w w' := by
  unfold maxLen at hm
  go_enter Tryd.func19, Tryd.ntmps19
  go_wp2
  go_loopw [3] (fun i wr => ∃ (k : Nat) (ys : List Value), k ≤ cap ∧ i = .int .i64 k ∧ Own wr g 5 ys ∧ ys.length = cap ∧ (∀ j, j < k → ys[j]? = some (.int .u8 99)) ∧ Fr (fun k => k = g) w wr) (fun i _ => cap - (intOf i).toNat)
  case atStart => exact ⟨0, xs, Nat.zero_le _, rfl, ho, hx, fun j hj => by omega, Fr.refl _ _⟩
  case round =>
    obtain ⟨k, ys, hk, rfl, hy, hl, hall, hfr⟩ := hrel
    by_cases hlt : k < cap
    · have c1 := hy.cell (i := k) (List.getElem?_eq_getElem (by omega))
      have f1 := hy.free k (by omega)
      have HA := Lib.hid hall
      have HY := Lib.hid hy
      have HL := Lib.hid hl
      have HF := Lib.hid hfr
      clear hall hy hfr
      go_wp2_with fail
      refine ⟨⟨k + 1, ys.set k (.int .u8 99), by omega, by go_num, HY.out.set k _, by simpa using HL.out, fun j hj => ?_, HF.out.setCell _ _ (fun _ => rfl)⟩, by simp [intOf]; omega⟩
      by_cases hjk : j = k
      · subst hjk; rw [List.getElem?_set_self (by rw [HL.out]; omega)]
      · rw [List.getElem?_set_ne (fun h => hjk h.symm)]; exact HA.out j (by omega)
    · obtain rfl : k = cap := by omega
      have HA := Lib.hid hall
      have HY := Lib.hid hy
      have HL := Lib.hid hl
      have HF := Lib.hid hfr
      clear hall hy hl hfr
      go_wp2_with fail
      go_end0
      exact ⟨rfl, ⟨ys, HY.out, HL.out, HA.out⟩, HF.out⟩
end Go.Proofs.YtlcdgbhigfgehaaDoor
