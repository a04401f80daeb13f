/- The fronts of Read: mirror.Read, plain.Read. -/
import Derived.Test.YtlcdgbhigfgehaaDoorBRead
import Derived.Test.YtlcdgbhigfgehaaDoorPlainApply
namespace Go.Proofs.YtlcdgbhigfgehaaDoor
open Go.RowKit
set_option maxRecDepth 100000

/-- What a Batch that came out says. -/
def Says (w : World) (B : Nat) (s : List UInt8) (b0 b1 b2 : Value) : Prop := match readOf s with
  | none => b0 = .int .i64 0 ∧ b1 = .slice none 0 0 ∧ b2 = .slice none 0 0
  | some x => ∃ mt, b0 = .int .i64 x.block ∧ Vec w B 61 3 b1 x.basis.length (entCells x.basis) ∧ Targs w B b2 mt ∧ mt.map (·.t) = x.targs
theorem Says.keep {w w1 : World} {B B' : Nat} {s : List UInt8} {b0 b1 b2 : Value} {S : Nat → Prop} (h : Says w B s b0 b1 b2) (k : Fr S w w1) (hS : ∀ b, S b → b < B) (hB : B' ≤ B) : Says w1 B' s b0 b1 b2 := by
  unfold Says at h ⊢
  cases hr : readOf s with
  | none => rw [hr] at h; exact h
  | some x =>
    rw [hr] at h
    obtain ⟨mt, h1, h2, h3, h4⟩ := h
    exact ⟨mt, h1, (h2.keep k (fun b hb hs => by have := (h2.lt b hb).1; have := hS b hs; omega)).mono hB, (h3.below k hS).lift hB, h4⟩
def okK (s : List UInt8) : Int := if (readOf s).isSome then 0 else 5
theorem RdPost.says {w w' : World} {s : List UInt8} {e : Ending} (h : RdPost w s e w') : ∃ b0 b1 b2, e = .returned (.tuple #[.agg #[b0, b1, b2], kindErr (okK s)]) ∧ (∃ n a1 m1 c1 a2 m2 c2, b0 = .int .i64 n ∧ b1 = .slice a1 m1 c1 ∧ b2 = .slice a2 m2 c2) ∧ Says w' w.heap.size s b0 b1 b2 ∧ Fr (fun _ => False) w w' := by
  obtain ⟨xv, ev, rfl, hf, hm⟩ := h
  unfold Says okK
  cases hr : readOf s with
  | none =>
    rw [hr] at hm
    obtain ⟨rfl, rfl⟩ := hm
    exact ⟨_, _, _, rfl, ⟨_, _, _, _, _, _, _, rfl, rfl, rfl⟩, ⟨rfl, rfl, rfl⟩, hf⟩
  | some x =>
    rw [hr] at hm
    obtain ⟨bv, tv, mt, rfl, rfl, h1, h2, h3⟩ := hm
    obtain ⟨a1, c1, e1, -⟩ := h1.shape
    obtain ⟨a2, c2, e2, -⟩ := h2.vec.shape
    exact ⟨_, _, _, rfl, ⟨_, _, _, _, _, _, _, rfl, e1, e2⟩, ⟨mt, rfl, h1, h2, h3⟩, hf⟩
theorem mread_results (t : Array Value) (g : Nat) (w : World) (b0 b1 b2 : Value) (h2 : t.getD 2 undef = .pointer (some ⟨g, 0, none⟩)) (hx : Own w g 55 [b0, b1, b2]) :
    (results Tryd.f41 t).run Tryd.prog w = .ok (.tuple #[.agg #[b0, b1, b2], t.getD 3 undef]) w := by
  have x0 := hx.cell (i := 0) rfl
  have x1 := hx.cell (i := 1) rfl
  have x2 := hx.cell (i := 2) rfl
  have h2' : t[2]?.getD undef = .pointer (some ⟨g, 0, none⟩) := by simpa using h2
  simp [results, h2', asAddr, x0, x1, x2, go_sem]
def MRdPost (w : World) (s : List UInt8) (r : Value) (e : Ending) (w' : World) : Prop := ∃ b0 b1 b2, e = .returned (.tuple #[.agg #[b0, b1, b2], r]) ∧ (∃ n a1 m1 c1 a2 m2 c2, b0 = .int .i64 n ∧ b1 = .slice a1 m1 c1 ∧ b2 = .slice a2 m2 c2) ∧ Says w' w.heap.size s b0 b1 b2 ∧ Fr (fun _ => False) w w'
set_option maxHeartbeats 1000000 in
theorem mread_any (w : World) (db dof dcap : Nat) (s : List UInt8) (T : TypeId) (u : Value) (hb : IsB w (.slice (some ⟨db, dof, none⟩) s.length dcap) s) (hf : w.cell? ⟨1, 0, none⟩ = some (.iface T u)) :
    Calls Tryd.prog 41 #[.slice (some ⟨db, dof, none⟩) s.length dcap] w (MRdPost w s (kindErr (okK s))) := by
  have hA : Fr (fun _ => False) w (w.alloc (.cells #[.int .i64 0, .slice none 0 0, .slice none 0 0] 55)) := (Fr.refl _ _).alloc _
  have H := Lib.hid (bread_any (w.alloc (.cells #[.int .i64 0, .slice none 0 0, .slice none 0 0] 55)) db dof dcap s T u (hb.keep0 hA) (hA.cell hf id))
  have HO := Lib.hid (Own.alloc w #[.int .i64 0, .slice none 0 0, .slice none 0 0] 55)
  have HA := Lib.hid hA
  clear hb hf hA
  go_enter Tryd.func41, Tryd.ntmps41
  go_wp2_with fail
  refine H.out.mono ?_
  rintro e w1 hp
  obtain ⟨b0, b1, b2, rfl, ⟨n, a1, m1, c1, a2, m2, c2, rfl, rfl, rfl⟩, hs, hf1⟩ := hp.says
  have ho1 := HO.out.keep hf1 id
  have x0 := ho1.cell (i := 0) rfl
  have x1 := ho1.cell (i := 1) rfl
  have x2 := ho1.cell (i := 2) rfl
  have f0 := ho1.free 0 (by simp)
  have f1 := ho1.free 1 (by simp)
  have f2 := ho1.free 2 (by simp)
  have HS := Lib.hid hs
  have HF1 := Lib.hid hf1
  have HO1 := Lib.hid ho1
  clear hp hs hf1 ho1
  go_wp2_with fail
  have ho2 := ((HO1.out.set 0 (.int .i64 n)).set 1 (.slice a1 m1 c1)).set 2 (.slice a2 m2 c2)
  have hq : Fr (fun k => k = w.heap.size) w1 (((w1.setCell ⟨w.heap.size, 0, none⟩ (.int .i64 n)).setCell ⟨w.heap.size, 1, none⟩ (.slice a1 m1 c1)).setCell ⟨w.heap.size, 2, none⟩ (.slice a2 m2 c2)) :=
    (((Fr.refl (fun k => k = w.heap.size) w1).setCell ⟨w.heap.size, 0, none⟩ (.int .i64 n) (fun _ => rfl)).setCell ⟨w.heap.size, 1, none⟩ (.slice a1 m1 c1) (fun _ => rfl)).setCell ⟨w.heap.size, 2, none⟩ (.slice a2 m2 c2) (fun _ => rfl)
  refine bodyPost_ret (mread_results _ w.heap.size _ _ _ _ rfl ho2) rfl ?_
  have hsz : (w.alloc (.cells #[.int .i64 0, .slice none 0 0, .slice none 0 0] 55)).heap.size = w.heap.size + 1 := by simp
  refine ⟨_, _, _, rfl, ⟨_, _, _, _, _, _, _, rfl, rfl, rfl⟩, HS.out.keep hq (fun b hb => by omega) (by omega), (HA.out.step HF1.out (fun _ h _ => h)).step hq (fun k hk hl => by omega)⟩
theorem pread_results (t : Array Value) (g : Nat) (w : World) (b0 b1 b2 : Value) (h2 : t.getD 2 undef = .pointer (some ⟨g, 0, none⟩)) (hx : Own w g 55 [b0, b1, b2]) :
    (results Tryd.f24 t).run Tryd.prog w = .ok (.tuple #[.agg #[b0, b1, b2], t.getD 3 undef]) w := by
  have x0 := hx.cell (i := 0) rfl
  have x1 := hx.cell (i := 1) rfl
  have x2 := hx.cell (i := 2) rfl
  have h2' : t[2]?.getD undef = .pointer (some ⟨g, 0, none⟩) := by simpa using h2
  simp [results, h2', asAddr, x0, x1, x2, go_sem]
set_option maxHeartbeats 1000000 in
theorem pread_any (w : World) (hg : ErrType w) (db dof dcap : Nat) (s : List UInt8) (T : TypeId) (u : Value) (hb : IsB w (.slice (some ⟨db, dof, none⟩) s.length dcap) s) (hf : w.cell? ⟨1, 0, none⟩ = some (.iface T u)) :
    Calls Tryd.prog 24 #[.slice (some ⟨db, dof, none⟩) s.length dcap] w (MRdPost w s (.int .i64 (okK s))) := by
  have hA : Fr (fun _ => False) w (w.alloc (.cells #[.int .i64 0, .slice none 0 0, .slice none 0 0] 55)) := (Fr.refl _ _).alloc _
  have H := Lib.hid (mread_any (w.alloc (.cells #[.int .i64 0, .slice none 0 0, .slice none 0 0] 55)) db dof dcap s T u (hb.keep0 hA) (hA.cell hf id))
  have HO := Lib.hid (Own.alloc w #[.int .i64 0, .slice none 0 0, .slice none 0 0] 55)
  have HA := Lib.hid hA
  obtain ⟨K, hK⟩ : ∃ K, okK s = K := ⟨_, rfl⟩
  rw [hK] at H ⊢
  clear hb hf hA hK
  go_enter Tryd.func24, Tryd.ntmps24
  go_wp2_with fail
  refine H.out.mono ?_
  rintro e w1 ⟨b0, b1, b2, rfl, ⟨n, a1, m1, c1, a2, m2, c2, rfl, rfl, rfl⟩, hs, hf1⟩
  have hF2 := hf1.alloc (.cells #[.int .i64 n, .slice a1 m1 c1, .slice a2 m2 c2] 55)
  have HG2 := Lib.hid (hg.keep (HA.out.step hF2 (fun _ h _ => h)) id)
  have HB := Lib.hid (Own.alloc w1 #[.int .i64 n, .slice a1 m1 c1, .slice a2 m2 c2] 55)
  have HS := Lib.hid (hs.keep ((Fr.refl (fun _ => False) w1).alloc (.cells #[.int .i64 n, .slice a1 m1 c1, .slice a2 m2 c2] 55)) (fun _ h => h.elim) (Nat.le_refl _))
  have HF2 := Lib.hid hF2
  have HO2 := Lib.hid (HO.out.keep hF2 id)
  have hz1 := hf1.size
  have hsz : (w.alloc (.cells #[.int .i64 0, .slice none 0 0, .slice none 0 0] 55)).heap.size = w.heap.size + 1 := by simp
  clear hs hf1 hF2 hg
  go_wp2_with fail
  refine (told_kindErr K _ HG2.out).mono ?_
  rintro e w3 ⟨rfl, h3⟩
  have hb3 := HB.out.keep h3 id
  have z0 := hb3.cell (i := 0) rfl
  have z1 := hb3.cell (i := 1) rfl
  have z2 := hb3.cell (i := 2) rfl
  have ho3 := HO2.out.keep h3 id
  have x0 := ho3.cell (i := 0) rfl
  have x1 := ho3.cell (i := 1) rfl
  have x2 := ho3.cell (i := 2) rfl
  have f0 := ho3.free 0 (by simp)
  have f1 := ho3.free 1 (by simp)
  have f2 := ho3.free 2 (by simp)
  have HO3 := Lib.hid ho3
  have H3 := Lib.hid h3
  clear hb3 ho3 h3
  go_wp2_with fail
  have ho2 := ((HO3.out.set 0 (.int .i64 n)).set 1 (.slice a1 m1 c1)).set 2 (.slice a2 m2 c2)
  have hq : Fr (fun k => k = w.heap.size) w3 (((w3.setCell ⟨w.heap.size, 0, none⟩ (.int .i64 n)).setCell ⟨w.heap.size, 1, none⟩ (.slice a1 m1 c1)).setCell ⟨w.heap.size, 2, none⟩ (.slice a2 m2 c2)) :=
    (((Fr.refl (fun k => k = w.heap.size) w3).setCell ⟨w.heap.size, 0, none⟩ (.int .i64 n) (fun _ => rfl)).setCell ⟨w.heap.size, 1, none⟩ (.slice a1 m1 c1) (fun _ => rfl)).setCell ⟨w.heap.size, 2, none⟩ (.slice a2 m2 c2) (fun _ => rfl)
  refine bodyPost_ret (pread_results _ w.heap.size _ _ _ _ rfl ho2) rfl ?_
  refine ⟨_, _, _, rfl, ⟨_, _, _, _, _, _, _, rfl, rfl, rfl⟩, (HS.out.keep H3.out (fun _ h => h.elim) (Nat.le_refl _)).keep hq (fun b hb => by omega) (by omega), ((HA.out.step HF2.out (fun _ h _ => h)).step H3.out (fun _ h _ => h)).step hq (fun k hk hl => by omega)⟩
end Go.Proofs.YtlcdgbhigfgehaaDoor
