/- The walks of roomy and still: bytes with two of spare room behind; do they read as they did? -/
import Derived.Test.YtlcdgbhigfgehabGreatDoorVec
import Derived.Test.YtlcdgbhigfgehabGreatDoorRows
import Derived.WalkSpells
import Derived.WalkLawsBesides
namespace Go.Proofs.YtlcdgbhigfgehabGreatDoor
open Go.RowKit
set_option maxRecDepth 100000

theorem info_u8 : (Tryz.prog.info? 5).map (fun i => (i.zero, i.size, i.bytes)) = some (some (.int .u8 0), 1, 1) := by kernel_rfl
theorem size_u8 : (Tryz.prog.info? 5).map (·.size) = some 1 := by kernel_rfl
theorem elt_u8 : Elt Tryz.prog 25 5 1 1 := Elt.mk Tryz.underlying25 info_u8 rfl
/-- What roomy gives: the text's bytes, 77 and 88 behind them. -/
def roomyCells (l : List UInt8) : List Value := bcells l ++ [.int .u8 77, .int .u8 88]
/-- A row of noughts. -/
def zrow (n : Nat) : Array Value := madeCells #[.int .u8 0] n
theorem size_zrow (n : Nat) : (zrow n).toList.length = n := by simp [zrow, madeCells]

theorem run_make_bytes (n : Nat) (c : Int) (hc : c = n) (hn : n ≤ 281474976710656) (w : World) :
    (Instr.makeSlice 25 (.int .i64 c) (.int .i64 c)).run Tryz.prog w = .ok (.slice (some ⟨w.heap.size, 0, none⟩) n n) (w.alloc (.cells (zrow n) 5)) := by
  subst hc
  obtain ⟨i, hi, hz0, hz1, hz2⟩ := info_parts info_u8
  have h := run_make (P := Tryz.prog) w 25 5 i _ Tryz.underlying25 hi hz0 .i64 .i64 n n (by omega) (Int.le_refl _) (by rw [hz2]; omega) (by omega)
  rw [hz1] at h
  simpa [zrow, Value.cells] using h

theorem two_left (l : List UInt8) (z : List Value) (hz : z.length = l.length + 2) :
    ∃ x y, z.take 0 ++ bcells l ++ z.drop (0 + l.length) = bcells l ++ [x, y] := by
  obtain ⟨d, hd⟩ : ∃ d, d = z.drop (0 + l.length) := ⟨_, rfl⟩
  have hl : d.length = 2 := by rw [hd]; simp; omega
  rw [← hd]
  match d, hl with
  | [x, y], _ => exact ⟨x, y, by simp⟩
theorem put_77 (l : List UInt8) (x y : Value) (n : Nat) (hn : n = l.length) : ((bcells l ++ [x, y]).set n (.int .u8 77)).set (n + 1) (.int .u8 88) = roomyCells l := by
  subst hn
  simp [roomyCells, List.set_append_right]

set_option maxHeartbeats 400000 in
theorem roomy_any (s : ByteArray) (w : World) (hs : s.size ≤ 140737488355328) :
    Calls Tryz.prog 105 #[.string s] w fun e w' => ∃ g, e = .returned (.slice (some ⟨g, 0, none⟩) s.size (s.size + 2)) ∧ w.heap.size ≤ g ∧
      Own w' g 5 (roomyCells s.data.toList) ∧ Fr (fun _ => False) w w' := by
  have hmk := run_make_bytes (s.size + 2) (s.size + 2) (by omega) (by omega)
  go_enter Tryz.func105, Tryz.ntmps105
  go_wp2_with fail
  clear hmk
  obtain ⟨w1, r1, r2, r3, r4, -⟩ := run_copy_text (P := Tryz.prog) (w.alloc (.cells (zrow (s.size + 2)) 5)) 25 9 3 5 w.heap.size 0 (s.size + 2) (s.size + 2) s _ 5 Tryz.underlying25 size_u8 (Own.alloc _ _ _) (by omega) (by rw [size_zrow]; omega)
  rw [r1]
  obtain ⟨x, y, hxy⟩ := two_left s.data.toList (zrow (s.size + 2)).toList (by rw [size_zrow]; simp)
  rw [show s.data.toList.length = s.size by simp] at hxy
  rw [hxy] at r2
  clear hxy r1
  have hl : (bcells s.data.toList ++ [x, y]).length = s.size + 2 := by simp
  have h1 : w1.cell? ⟨w.heap.size, s.size, none⟩ = some x := r2.cell (by simp)
  have f1 : w1.frozen? ⟨w.heap.size, s.size, none⟩ = false := r2.free _ (by omega)
  have h2 : (w1.setCell ⟨w.heap.size, s.size, none⟩ (.int .u8 77)).cell? ⟨w.heap.size, s.size + 1, none⟩ = some y := by
    rw [World.cell?_setCell_other _ _ _ _ (by simp)]; exact r2.cell (by rw [List.getElem?_append_right (by simp)]; simp)
  have f2 : w1.frozen? ⟨w.heap.size, s.size + 1, none⟩ = false := r2.free _ (by omega)
  clear hl
  have HF : Fr (fun _ => False) w w1 := (Fr.alloc (Fr.refl _ w) _).step r3 (fun k hk hl => by omega)
  go_wp2_with fail
  go_ret
  refine ⟨_, rfl, Nat.le_refl _, ?_, ?_⟩
  · have := (r2.set s.size (.int .u8 77)).set (s.size + 1) (.int .u8 88)
    rwa [put_77 _ _ _ _ (by simp)] at this
  · exact (HF.setCell _ _ (fun h => by simp at h)).setCell _ _ (fun h => by simp at h)

/-- What is handed over to still: the text's bytes, 77 and 88 behind them. -/
def StillOk (w : World) (v : Value) (s : ByteArray) : Prop := ∃ g, v = .slice (some ⟨g, 0, none⟩) s.size (s.size + 2) ∧ Own w g 5 (roomyCells s.data.toList)
theorem roomy_isB {w : World} {g : Nat} {s : ByteArray} (hs : s.size ≤ 140737488355328) (hg : Own w g 5 (roomyCells s.data.toList)) :
    IsB w (.slice (some ⟨g, 0, none⟩) s.size (s.size + 2)) s.data.toList := by
  have := IsB.ofOwn0 (cap := s.size + 2) (l := s.data.toList) (rest := [.int .u8 77, .int .u8 88]) hg rfl (by simp) (by simp only [maxLen]; omega)
  simpa using this

set_option maxHeartbeats 400000 in
theorem still_any (s : ByteArray) (g : Nat) (w : World) (hs : s.size ≤ 140737488355328) (hg : Own w g 5 (roomyCells s.data.toList)) :
    Calls Tryz.prog 106 #[.slice (some ⟨g, 0, none⟩) s.size (s.size + 2), .string s] w fun e w' => e = .returned (.bool true) ∧ w = w' := by
  have hcv := run_string_of (P := Tryz.prog) w 25 9 5 _ _ Tryz.underlying25 Tryz.underlying5 Tryz.underlying9 (roomy_isB hs hg)
  rw [ba_eq] at hcv
  have c1 : w.cell? ⟨g, s.size, none⟩ = some (.int .u8 77) := hg.cell (by simp [roomyCells])
  have c2 : w.cell? ⟨g, s.size + 1, none⟩ = some (.int .u8 88) := hg.cell (by simp only [roomyCells]; rw [List.getElem?_append_right (by simp)]; simp)
  go_enter Tryz.func106, Tryz.ntmps106
  go_wp2_with fail
  go_ret
  exact ⟨rfl, rfl⟩
end Go.Proofs.YtlcdgbhigfgehabGreatDoor
