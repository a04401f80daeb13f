/- api.Told: an error's kind and its file's name, out of errors.As's contracts. -/
import Derived.Test.YtlcdgbhigfgehabGreatDoorErrMiss
import Derived.WalkSpells
import Derived.WalkLawsBesides
namespace Go.Proofs.YtlcdgbhigfgehabGreatDoor
open Go.RowKit

/-- An error as this program makes them: none, a kind, a file's. -/
inductive Err where
  | none
  | kind (k : Int)
  | file (name : ByteArray) (k : Int)
def Err.k : Err → Int
  | .none => 0
  | .kind k => k
  | .file _ k => k
def Err.name : Err → ByteArray
  | .file n _ => n
  | _ => ByteArray.empty
/-- The value v is this error. -/
def IsErr (w : World) (v : Value) : Err → Prop
  | .none => v = .nilIface
  | .kind k => v = .iface 30 (.int .i64 k)
  | .file n k => ∃ g, v = .iface 84 (.pointer (some ⟨g, 0, none⟩)) ∧ Own w g 88 [.string n, .int .i64 k]

theorem ErrType.keep {w w' : World} {S : Nat → Prop} (h : ErrType w) (k : Fr S w w') (hS : ¬ S 0) : ErrType w' := k.cell h hS
theorem fr_asE (w : World) (t : Addr) : Fr (fun _ => False) w (asWorldE w t) := (((Fr.refl _ _).alloc _).alloc _).alloc _
theorem fr_asK (w : World) (t : Addr) : Fr (fun _ => False) w (asWorldK w t) := (((Fr.refl _ _).alloc _).alloc _).alloc _
theorem as_missF (e : Int) (t : Addr) (w : World) (hg : ErrType w) :
    Calls Tryz.prog 33 #[.iface 30 (.int .i64 e), .iface 86 (.pointer (some t))] w fun ev w' => ev = .returned (.bool false) ∧ Fr (fun _ => False) w w' :=
  (as_miss e t w hg).mono fun _ _ ⟨h1, h2⟩ => ⟨h1, h2 ▸ fr_asE w t⟩
theorem as_hitKF (e : Int) (t : Addr) (old : Value) (w : World) (hg : ErrType w) (ht0 : w.cell? t = some old) (hf0 : w.frozen? t = false) :
    Calls Tryz.prog 33 #[.iface 30 (.int .i64 e), .iface 89 (.pointer (some t))] w fun ev w' => ev = .returned (.bool true) ∧ Fr (fun k => k = t.block) w w' ∧ w'.cell? t = some (.int .i64 e) := by
  refine (as_hitK e t old w hg ht0 hf0).mono fun ev w' ⟨h1, h2⟩ => ?_
  subst h2
  have hb := World.block_lt_of_cell? w t ht0
  have hF : Fr (fun _ => False) w ((asWorldK w t).alloc (.cells #[.int .i64 e] 30)) := (fr_asK w t).alloc _
  exact ⟨h1, (hF.mono (fun _ h _ => h.elim)).setCell _ _ (fun _ => rfl), World.cell?_setCell_same _ _ _ (hF.cell ht0 id)⟩
theorem as_hitEF (e : Addr) (t : Addr) (old : Value) (w : World) (hg : ErrType w) (ht0 : w.cell? t = some old) (hf0 : w.frozen? t = false) :
    Calls Tryz.prog 33 #[.iface 84 (.pointer (some e)), .iface 86 (.pointer (some t))] w fun ev w' => ev = .returned (.bool true) ∧ Fr (fun k => k = t.block) w w' ∧ w'.cell? t = some (.pointer (some e)) := by
  refine (as_hitE e t old w hg ht0 hf0).mono fun ev w' ⟨h1, h2⟩ => ?_
  subst h2
  have hb := World.block_lt_of_cell? w t ht0
  have hF : Fr (fun _ => False) w ((asWorldE w t).alloc (.cells #[.pointer (some e)] 84)) := (fr_asE w t).alloc _
  exact ⟨h1, (hF.mono (fun _ h _ => h.elim)).setCell _ _ (fun _ => rfl), World.cell?_setCell_same _ _ _ (hF.cell ht0 id)⟩
theorem ErrType.lt {w : World} (h : ErrType w) : 0 < w.heap.size := World.block_lt_of_cell? w _ h

set_option maxHeartbeats 1000000 in
theorem told_none (w : World) :
    Calls Tryz.prog 23 #[.nilIface] w fun e w' => e = .returned (.tuple #[.int .i64 0, .string ByteArray.empty]) ∧ Fr (fun _ => False) w w' := by
  go_enter Tryz.func23, Tryz.ntmps23
  go_wp2_with fail
  refine (as_nil _ _).mono ?_
  rintro e w' ⟨rfl, rfl⟩
  go_wp2_with fail
  refine (as_nil _ _).mono ?_
  rintro e w' ⟨rfl, rfl⟩
  go_wp2_with fail
  go_ret2
  exact ⟨rfl, ((Fr.refl _ _).alloc _).alloc _⟩

set_option maxHeartbeats 1000000 in
theorem told_kind (k : Int) (w : World) (hg : ErrType w) :
    Calls Tryz.prog 23 #[.iface 30 (.int .i64 k)] w fun e w' => e = .returned (.tuple #[.int .i64 k, .string ByteArray.empty]) ∧ Fr (fun _ => False) w w' := by
  go_enter Tryz.func23, Tryz.ntmps23
  go_wp2_with fail
  have h0 := hg.lt
  have hF1 : Fr (fun _ => False) w (w.alloc (.cells #[.pointer none] 84)) := (Fr.refl _ _).alloc _
  refine (as_missF k _ _ (hg.keep hF1 id)).mono ?_
  rintro e w1 ⟨rfl, hf⟩
  have hF2 : Fr (fun _ => False) w w1 := hF1.step hf (fun _ h _ => h)
  clear hF1 hf
  go_wp2_with fail
  have hF3 : Fr (fun _ => False) w (w1.alloc (.cells #[.int .i64 0] 30)) := hF2.alloc _
  have hsz := hF2.size
  refine (as_hitKF k _ (.int .i64 0) _ (hg.keep hF3 id) (by simp) (by simp)).mono ?_
  rintro e w2 ⟨rfl, hf, hc⟩
  go_wp2_with fail
  go_ret2
  exact ⟨rfl, hF3.step hf (fun k hk hl => by have hk' : k = w1.heap.size := hk; omega)⟩

set_option maxHeartbeats 1000000 in
theorem told_file (g : Nat) (n : ByteArray) (k : Int) (w : World) (hg : ErrType w) (ho : Own w g 88 [.string n, .int .i64 k]) :
    Calls Tryz.prog 23 #[.iface 84 (.pointer (some ⟨g, 0, none⟩))] w fun e w' => e = .returned (.tuple #[.int .i64 k, .string n]) ∧ Fr (fun _ => False) w w' := by
  go_enter Tryz.func23, Tryz.ntmps23
  go_wp2_with fail
  have h0 := hg.lt
  have hl := ho.lt
  have hF1 : Fr (fun _ => False) w (w.alloc (.cells #[.pointer none] 84)) := (Fr.refl _ _).alloc _
  refine (as_hitEF ⟨g, 0, none⟩ _ (.pointer none) _ (hg.keep hF1 id) (by simp) (by simp)).mono ?_
  rintro e w2 ⟨rfl, hf, hc⟩
  have hF3 : Fr (fun _ => False) w w2 := hF1.step hf (fun k hk hl => by have hk' : k = w.heap.size := hk; omega)
  have ho2 := ho.keep hF3 id
  have c0 : w2.cell? ⟨g, 0, none⟩ = some (.string n) := ho2.cell rfl
  have c1 : w2.cell? ⟨g, 1, none⟩ = some (.int .i64 k) := ho2.cell rfl
  clear hF1 hf
  go_wp2_with fail
  go_quiet (fail)
  go_wp2_with fail
  go_ret2
  exact ⟨rfl, hF3.drewN _⟩

theorem told_any (v : Value) (x : Err) (w : World) (hg : ErrType w) (h : IsErr w v x) :
    Calls Tryz.prog 23 #[v] w fun e w' => e = .returned (.tuple #[.int .i64 x.k, .string x.name]) ∧ Fr (fun _ => False) w w' := by
  cases x with
  | none => obtain rfl := h; exact told_none w
  | kind k => obtain rfl := h; exact told_kind k w hg
  | file n k => obtain ⟨g, rfl, ho⟩ := h; exact told_file g n k w hg ho
end Go.Proofs.YtlcdgbhigfgehabGreatDoor
