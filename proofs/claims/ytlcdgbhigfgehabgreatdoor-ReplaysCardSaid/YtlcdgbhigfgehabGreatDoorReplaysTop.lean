/- MRep2, WAt, Replayed, Broke2, Opened, Listed, Lists, ListsT, ListsR, Step, StepF, StepP, StepA, StepN, Small, Plays, Ops, ReplaysW, LeaveS, CardBase, CardBaseF, ReplaysCard in one text. -/
import Derived.Test.YtlcdgbhigfgehabGreatDoorMirAll
import Derived.Test.YtlcdgbhigfgehabGreatDoorRepOne
import Derived.Deep.CutBlock
import Derived.Deep.AppendLies
import Derived.Test.YtlcdgbhigfgehabGreatDoorUpTo
import Derived.StillTailTactics
import Derived.Deep.RegionHeld3
import Derived.Deep.Slices
import Derived.Deep.Fields
import Derived.ChangeSame
import Derived.SizedLaws
import Derived.Test.YtlcdgbhigfgehabGreatDoorErrors
import Derived.Test.YtlcdgbhigfgehabGreatDoorCards
import Derived.Test.YtlcdgbhigfgehabGreatDoorTie
import Derived.ProofKit
import Derived.OpenShut
import Derived.ShutString
import Derived.ChangeOld
import Derived.LaidHandle
import Derived.Deep.DeepHandedRow
import Derived.SevenTiedAt
import Derived.Deep.DeepWitnessRowRef
import Derived.LaidLaws
/- A mirror's Replay, told once more: where its tree lies then. -/
namespace Go.Proofs.YtlcdgbhigfgehabGreatDoor
open Go.RowKit Go.MuLone
set_option maxRecDepth 100000
set_option maxHeartbeats 1000000 in
theorem mreplay_down2 (gm gd B : Nat) (tr : List Fil) (room crash : Int) (v : Value) (w : World) (h : MirAt w B gm gd tr room true) :
    Calls Tryz.prog 24 #[.pointer (some ⟨gm, 0, none⟩), v, .int .i64 crash] w fun e w' => e = .returned (.iface 30 (.int .i64 7)) ∧ MirAt w' B gm gd tr room true ∧ Fr (fun b => b = gm) w w' := by
  have hA : Fr (fun _ => False) w (w.alloc (.cells #[.pointer (some ⟨gm, 0, none⟩)] 26)) := (Fr.refl _ _).alloc _
  have hO := Own.alloc w #[.pointer (some ⟨gm, 0, none⟩)] 26
  have hm : MirC (w.alloc (.cells #[.pointer (some ⟨gm, 0, none⟩)] 26)) gm gd 0 room true := Own.keep h.mir hA id
  have hlt := Own.lt h.mir
  obtain ⟨ga, hga⟩ : ∃ ga, w.heap.size = ga := ⟨_, rfl⟩
  rw [hga] at hO hlt
  obtain ⟨h1, k1⟩ := hm.lock 1
  have x0 := Own.cell hm (i := 0) rfl
  have f0 := Own.free hm 0 (by simp)
  have y0 := (hO.keep k1 (by omega)).cell (i := 0) rfl
  have x4 := Own.cell h1 (i := 4) rfl
  have H := Lib.hid h
  have HA := Lib.hid hA
  have H1 := Lib.hid h1
  have K1 := Lib.hid k1
  clear h hA hO hm h1 k1
  go_enter_defers Tryz.func24, Tryz.ntmps24
  go_wp2_with fail
  generalize w.alloc (.cells #[.pointer (some ⟨gm, 0, none⟩)] 26) = wA at *
  refine (lock_free muLib ⟨gm, 0, none⟩ _ x0 f0).mono ?_
  rintro e w' ⟨rfl, rfl⟩
  generalize wA.setCell ⟨gm, 0, none⟩ (.int .i32 1) = w1 at *
  go_wp2_with fail
  refine leaves_cons (f := 35) (args := #[.pointer (some ⟨gm, 0, none⟩)]) (by simp) (by simp [go_sem]) ?_
  refine (unlock_deferred muLib ⟨gm, 0, none⟩ .returning _ (Own.cell H1.out (i := 0) rfl) (Own.free H1.out 0 (by simp))).mono ?_
  rintro e u' w'' ⟨rfl, rfl, rfl⟩
  have h2 := H1.out.lock 0
  have hk := (HA.out.mono (S' := fun b => b = gm) (fun _ h _ => h.elim)).step (K1.out.step h2.2 (fun _ h _ => h)) (fun _ h _ => h)
  exact ⟨_, results_tmp rfl _ _ _, rfl, ⟨h2.1, H.out.disk.held hk (held_mir H.out.mir) (fun e => H.out.ne e.symm), H.out.tree, H.out.rm⟩, hk⟩
/-- From which block on the tree lies behind a replay: a new one from the heap's size on. -/
def newB (tr : List Fil) (room : Int) (b : List UInt8) (crash : Int) (B n : Nat) : Nat := match planK tr room b with
  | .inl _ => B
  | .inr l => if 1 ≤ crash ∧ crash ≤ l.length + 2 then B else n
theorem newB_bad {tr : List Fil} {room : Int} {b : List UInt8} {e : Err} (crash : Int) (B n : Nat) (h : planK tr room b = .inl e) : newB tr room b crash B n = B := by unfold newB; rw [h]
theorem newB_good {tr : List Fil} {room : Int} {b : List UInt8} {l : List Fil} (crash : Int) (B n : Nat) (h : planK tr room b = .inr l) : newB tr room b crash B n = if 1 ≤ crash ∧ crash ≤ l.length + 2 then B else n := by unfold newB; rw [h]
theorem newB_le {tr : List Fil} {room : Int} {b : List UInt8} {crash : Int} {B n : Nat} (h : B ≤ n) : B ≤ newB tr room b crash B n := by
  unfold newB
  split
  · exact Nat.le_refl _
  · split
    · exact Nat.le_refl _
    · exact h
theorem DiskL.inj {w : World} {gd : Nat} {live live' : Int} {x y x' y' : Value} {s c s' c' : Int} (h : DiskL w gd live x y s c) (h' : DiskL w gd live' x' y' s' c') : x = x' := by
  have key : ∀ {a b c d : Value} {i j s t s' t' : Int}, DiskAt w gd a b i s t → DiskAt w gd c d j s' t' → a = c ∧ b = d ∧ i = j := fun h1 h2 => by
    have := Own.eq h1 h2
    simp at this
    exact ⟨this.1, this.2.1, this.2.2.1⟩
  rcases h with ⟨-, h⟩ | ⟨-, h⟩ <;> rcases h' with ⟨-, h'⟩ | ⟨-, h'⟩ <;> have e := key h h'
  · exact e.1
  · exact absurd e.2.2 (by decide)
  · exact absurd e.2.2 (by decide)
  · exact e.2.1
/-- Does the tree stay where it lies? -/
def keptK (tr : List Fil) (room : Int) (b : List UInt8) (crash : Int) : Prop := match planK tr room b with
  | .inl _ => True
  | .inr l => 1 ≤ crash ∧ crash ≤ l.length + 2
theorem kept_good {tr : List Fil} {room : Int} {b : List UInt8} {l : List Fil} {crash : Int} (h : planK tr room b = .inr l) (hk : keptK tr room b crash) : 1 ≤ crash ∧ crash ≤ l.length + 2 := by unfold keptK at hk; rw [h] at hk; exact hk
/-- The tree's slot is as it was. -/
def StaysX (w : World) (gd : Nat) (K : Prop) (w' : World) : Prop := K → ∀ live x y s c, DiskL w gd live x y s c → ∃ live' y' s' c', DiskL w' gd live' x y' s' c'
theorem StaysX.before {w w1 w' : World} {gd : Nat} {K : Prop} {S : Nat → Prop} (h : StaysX w1 gd K w') (k : Fr S w w1) (hg : ¬ S gd) : StaysX w gd K w' := fun hK live x y s c hd => h hK live x y s c (hd.keep k hg)
theorem StaysX.after {w w1 w' : World} {gd : Nat} {K : Prop} {S : Nat → Prop} (h : StaysX w gd K w1) (k : Fr S w1 w') (hg : ¬ S gd) : StaysX w gd K w' := fun hK live x y s c hd => by
  obtain ⟨l', y', s', c', h1⟩ := h hK live x y s c hd
  exact ⟨l', y', s', c', h1.keep k hg⟩
def ReplayP2 (gm gd B : Nat) (tr : List Fil) (room : Int) (b : List UInt8) (crash : Int) (w : World) (e : Ending) (w' : World) : Prop :=
  ∃ y, e = .returned y ∧ IsErr w' y (replayE tr room b crash) ∧ MirAt w' (newB tr room b crash B w.heap.size) gm gd (replayT tr room b crash) room (replayD tr room b crash) ∧ Fr (fun b => b = gm ∨ b = gd) w w' ∧ StaysX w gd (keptK tr room b crash) w'
set_option maxHeartbeats 1000000 in
theorem mreplay_up2 (gm gd B : Nat) (tr : List Fil) (room crash : Int) (db dof dcap : Nat) (bs : List UInt8) (w : World) (h : MirAt w B gm gd tr room false) (hB : B ≤ w.heap.size) (hcl : Clear gm gd) (hf : ErrForm w)
    (hb : IsB w (.slice (some ⟨db, dof, none⟩) bs.length dcap) bs) :
    Calls Tryz.prog 24 #[.pointer (some ⟨gm, 0, none⟩), .slice (some ⟨db, dof, none⟩) bs.length dcap, .int .i64 crash] w (ReplayP2 gm gd B tr room bs crash w) := by
  have hmf : ∀ (fn : Fn) (first cap : Array Value) (w : World), (Instr.makeFunc fn first cap).run Tryz.prog w = .ok (.func fn first cap) w := fun _ _ _ _ => rfl
  have hA : Fr (fun _ => False) w (w.alloc (.cells #[.pointer (some ⟨gm, 0, none⟩)] 26)) := (Fr.refl _ _).alloc _
  have hO := Own.alloc w #[.pointer (some ⟨gm, 0, none⟩)] 26
  have hm : MirC (w.alloc (.cells #[.pointer (some ⟨gm, 0, none⟩)] 26)) gm gd 0 room false := Own.keep h.mir hA id
  have hlt := Own.lt h.mir
  have hzA := hA.size
  have hsA : (w.alloc (.cells #[.pointer (some ⟨gm, 0, none⟩)] 26)).heap.size = w.heap.size + 1 := by simp
  obtain ⟨ga, hga⟩ : ∃ ga, w.heap.size = ga := ⟨_, rfl⟩
  rw [hga] at hO hlt hsA
  obtain ⟨h1, k1⟩ := hm.lock 1
  have x0 := Own.cell hm (i := 0) rfl
  have f0 := Own.free hm 0 (by simp)
  have hO1 := hO.keep k1 (by omega)
  have y0 := hO1.cell (i := 0) rfl
  have x4 := Own.cell h1 (i := 4) rfl
  have H := Lib.hid h
  have hne := h.ne
  obtain ⟨T, u, hu⟩ := hf
  have HK1 := Lib.hid ((hA.mono (S' := fun b => b = gm) (fun _ h _ => h.elim)).step k1 (fun _ h _ => h))
  have HO1 := Lib.hid hO1
  have H1 := Lib.hid h1
  obtain ⟨live, x, y, s, c, m, hd, hk, hmm, hy⟩ := h.part
  obtain rfl := hy rfl
  have HMM := Lib.hid hmm
  have HIN := Lib.hid (fun l0 x0 y0 s0 c0 (h0 : DiskL w gd l0 x0 y0 s0 c0) => DiskL.inj hd h0)
  have HD1 := Lib.hid (hd.keep HK1.out (fun e => hne e.symm))
  have HKF1 := Lib.hid (hk.held HK1.out (held_mir h.mir))
  have HPL := Lib.hid (plan_any gm gd B tr 1 room false live x _ s c m db dof dcap bs T u _ h1 HD1.out HKF1.out hmm h.tree h.rm (hb.keep HK1.out ((held_mir h.mir).isB hb)) (HK1.out.cell hu (fun e => hcl.mf e.symm)))
  clear h hA hO hm h1 k1 hO1 hd hk hmm hy hb hu
  go_enter_defers Tryz.func24, Tryz.ntmps24
  go_wp2_with fail
  generalize w.alloc (.cells #[.pointer (some ⟨gm, 0, none⟩)] 26) = wA at *
  refine (lock_free muLib ⟨gm, 0, none⟩ _ x0 f0).mono ?_
  rintro e w' ⟨rfl, rfl⟩
  have hz1 := HK1.out.size
  generalize wA.setCell ⟨gm, 0, none⟩ (.int .i32 1) = w1 at *
  go_wp2_with fail
  refine HPL.out.mono ?_
  rintro e w2 ⟨px, py, rfl, hf2, hpm⟩
  cases hpk : planK tr room bs with
  | inl er =>
    have HR := Lib.hid (replay_bad crash hpk)
    have HNB := Lib.hid (newB_bad crash B w.heap.size hpk)
    have hne2 := plan_ne hpk
    rw [hpk] at hpm
    obtain ⟨rfl, hie⟩ := hpm
    obtain ⟨eT, eu, rfl⟩ := hie.iface hne2
    have HIE := Lib.hid hie
    have HF2 := Lib.hid hf2
    have y0' := (HO1.out.keep hf2 id).cell (i := 0) rfl
    clear hie hpk hf2 hne2
    go_wp2_with fail
    have hA2 := (Fr.refl (fun _ => False) w2).alloc (.cells #[.slice none 0 0] 23)
    have h3 : MirC (w2.alloc (.cells #[.slice none 0 0] 23)) gm gd 1 room false := Own.keep H1.out (HF2.out.step hA2 (fun _ h _ => h)) id
    refine leaves_cons (f := 35) (args := #[.pointer (some ⟨gm, 0, none⟩)]) (by simp) (by simp [go_sem]) ?_
    refine (unlock_deferred muLib ⟨gm, 0, none⟩ .returning _ (Own.cell h3 (i := 0) rfl) (Own.free h3 0 (by simp))).mono ?_
    rintro e u' w'' ⟨rfl, rfl, rfl⟩
    have h4 := MirC.lock h3 0
    have hk := (HK1.out.step (HF2.out.step hA2 (fun _ h _ => h)) (fun _ h _ => h.elim)).step h4.2 (fun _ h _ => h)
    refine ⟨_, results_tmp rfl _ _ _, _, rfl, ?_, ?_, hk.mono (fun _ h _ => .inl h), fun _ live x y s c hd => ⟨live, y, s, c, hd.keep hk (fun e => hne e.symm)⟩⟩
    · rw [HR.out.1]; exact (HIE.out.keepH hA2 (Held.none _)).keepH h4.2 (held_mir h3)
    · rw [HR.out.2.1, HR.out.2.2, HNB.out]; exact ⟨h4.1, H.out.disk.held hk (held_mir H.out.mir) (fun e => hne e.symm), H.out.tree, H.out.rm⟩
  | inr l =>
    have HR := Lib.hid (replay_good crash hpk)
    have HNB := Lib.hid (newB_good crash B w.heap.size hpk)
    have HPK0 := Lib.hid hpk
    have HTR := Lib.hid (plan_tree hpk)
    rw [hpk] at hpm
    obtain ⟨rfl, m2, hk2, rfl⟩ := hpm
    obtain ⟨pa, pc, rfl, -⟩ := hk2.vec.shape
    have hA2 := (Fr.refl (fun _ => False) w2).alloc (.cells #[.slice pa m2.length pc] 23)
    have HF3 := Lib.hid (hf2.step hA2 (fun _ h _ => h))
    have HL3 := Lib.hid (Own.alloc w2 #[.slice pa m2.length pc] 23)
    have HK3 := Lib.hid ((hk2.keep0 hA2).lift (B' := w.heap.size) (by omega))
    have h8 : m2.length ≤ 8 := by have := HTR.out.len; simpa using this
    have hz2 := hf2.size
    have hz3 := hA2.size
    clear hpk hf2 hA2 hk2 x4 y0
    go_upto_region 8 with fail
    obtain ⟨gl, hgl⟩ : ∃ gl, w2.heap.size = gl := ⟨_, rfl⟩
    rw [hgl] at HL3 ⊢
    clear hgl
    generalize w2.alloc (.cells #[.slice pa m2.length pc] 23) = w3 at *
    have hO3 := HO1.out.keep HF3.out id
    have hM3 : MirC w3 gm gd 1 room false := Own.keep H1.out HF3.out id
    have hnga : ¬ ga = gm := own_ne hO3 hM3 (by decide)
    obtain ⟨dxs, hdo⟩ := (HD1.out.keep HF3.out id).own
    have hngd : ¬ ga = gd := own_ne hO3 hdo (by decide)
    have y0 := hO3.cell (i := 0) rfl
    have m2c := Own.cell hM3 (i := 2) rfl
    have HO3 := Lib.hid hO3
    have HM3 := Lib.hid hM3
    have HD3 := Lib.hid (HD1.out.keep HF3.out id)
    have HRD := Lib.hid (rdo_any gl ga gm gd _ m2 w.heap.size live x s c crash 1 room false w3.drew (HL3.out.keep (Fr.drew (Fr.refl (fun _ => False) w3)) id) (hO3.keep (Fr.drew (Fr.refl (fun _ => False) w3)) id) (Own.keep hM3 (Fr.drew (Fr.refl (fun _ => False) w3)) id) (HD3.out.keep (Fr.drew (Fr.refl (fun _ => False) w3)) id) (HK3.out.keep0 (Fr.drew (Fr.refl (fun _ => False) w3))) (by show _ ≤ w3.heap.size; omega) h8)
    clear hO3 hM3 hdo HO1 H1 HD1 HL3 HK3
    refine wp_region_noPanic ?_
    go_region_law
      (go_simp; go_at_call 37; refine HRD.out.mono ?_; rintro e w5 ⟨b, rfl, hr⟩; have hf5 := ((Fr.refl (fun _ => False) w3).drew.mono (S' := fun b => b = gd) (fun _ h _ => h.elim)).step hr.1 (fun _ h _ => h); have z := Own.keep HM3.out hf5 hne; have z4 := Own.cell z (i := 4) rfl; have zf4 := Own.free z 4 (by simp); have HZ := Lib.hid (show MirC w5 gm gd 1 room false from z); have HWR := Lib.hid hr; have HF5 := Lib.hid hf5; have zo := HO3.out.keep hf5 hngd; have y0 := zo.cell (i := 0) rfl; have HO5 := Lib.hid zo; clear z hr hf5 zo)
    all_goals
      refine NoPanic.normal ?_
      cases b
      · have h6 := HZ.out.mark false
        have y4 := Own.cell h6.1 (i := 4) rfl
        have y0 := (HO5.out.keep h6.2 hnga).cell (i := 0) rfl
        have h7 := h6.1.lock 0
        have hall : Fr (fun b => b = gm ∨ b = gd) w3 ((w5.setCell ⟨gm, 4, none⟩ (.bool false)).setCell ⟨gm, 0, none⟩ (.int .i32 0)) := ((HF5.out.mono (S' := fun b => b = gm ∨ b = gd) (fun _ h _ => .inr h)).step h6.2 (fun _ h _ => .inl h)).step h7.2 (fun _ h _ => .inl h)
        have HALL := Lib.hid hall
        have H6 := Lib.hid h6
        have H7 := Lib.hid h7
        have h67 : Fr (fun b => b = gm) w5 ((w5.setCell ⟨gm, 4, none⟩ (.bool false)).setCell ⟨gm, 0, none⟩ (.int .i32 0)) := h6.2.step h7.2 (fun _ h _ => h)
        have H67 := Lib.hid h67
        have hfin : Fr (fun b => b = gm ∨ b = gd) w ((w5.setCell ⟨gm, 4, none⟩ (.bool false)).setCell ⟨gm, 0, none⟩ (.int .i32 0)) := ((HK1.out.step HF3.out (fun _ h _ => h.elim)).mono (S' := fun b => b = gm ∨ b = gd) (fun _ h _ => .inl h)).step hall (fun _ h _ => h)
        have HFIN := Lib.hid hfin
        clear h7 hall h6 h67 hfin
        go_wp2_with fail
        refine leaves_cons (f := 35) (args := #[.pointer (some ⟨gm, 0, none⟩)]) (by simp) (by simp [go_sem]) ?_
        refine (unlock_deferred muLib ⟨gm, 0, none⟩ .returning _ (Own.cell H6.out.1 (i := 0) rfl) (Own.free H6.out.1 0 (by simp))).mono ?_
        rintro e u' w'' ⟨rfl, rfl, rfl⟩
        rcases HWR.out.2 with ⟨hb, -⟩ | ⟨hb, -⟩ | ⟨-, hc, y', s', hd', hk'⟩
        · cases hb
        · cases hb
        have hc' : ¬ (1 ≤ crash ∧ crash ≤ ((m2.map (·.1)).length : Int) + 3) := by rw [List.length_map]; exact hc
        have hc2 : ¬ (1 ≤ crash ∧ crash ≤ ((m2.map (·.1)).length : Int) + 2) := by omega
        refine ⟨_, results_tmp rfl _ _ _, _, rfl, ?_, ?_, HFIN.out, fun hK => absurd (kept_good HPK0.out hK) hc2⟩
        · rw [HR.out.1, if_neg hc']; rfl
        · rw [HR.out.2.1, HR.out.2.2, HNB.out, if_neg hc2, if_neg hc2, decide_eq_false hc']
          exact ⟨H7.out.1, ⟨1 - live, y', .slice none 0 0, s', crash, m2, hd'.keep H67.out (fun e => hne e.symm), hk'.held H67.out (held_mir HZ.out), rfl, fun _ => rfl⟩, HTR.out, H.out.rm⟩
      · have h6 := HZ.out.mark true
        have y4 := Own.cell h6.1 (i := 4) rfl
        have y0 := (HO5.out.keep h6.2 hnga).cell (i := 0) rfl
        have h7 := h6.1.lock 0
        have hall : Fr (fun b => b = gm ∨ b = gd) w3 ((w5.setCell ⟨gm, 4, none⟩ (.bool true)).setCell ⟨gm, 0, none⟩ (.int .i32 0)) := ((HF5.out.mono (S' := fun b => b = gm ∨ b = gd) (fun _ h _ => .inr h)).step h6.2 (fun _ h _ => .inl h)).step h7.2 (fun _ h _ => .inl h)
        have HALL := Lib.hid hall
        have H6 := Lib.hid h6
        have H7 := Lib.hid h7
        have h67 : Fr (fun b => b = gm) w5 ((w5.setCell ⟨gm, 4, none⟩ (.bool true)).setCell ⟨gm, 0, none⟩ (.int .i32 0)) := h6.2.step h7.2 (fun _ h _ => h)
        have H67 := Lib.hid h67
        have hfin : Fr (fun b => b = gm ∨ b = gd) w ((w5.setCell ⟨gm, 4, none⟩ (.bool true)).setCell ⟨gm, 0, none⟩ (.int .i32 0)) := ((HK1.out.step HF3.out (fun _ h _ => h.elim)).mono (S' := fun b => b = gm ∨ b = gd) (fun _ h _ => .inl h)).step hall (fun _ h _ => h)
        have HFIN := Lib.hid hfin
        clear h7 hall h6 h67 hfin
        go_wp2_with fail
        refine leaves_cons (f := 35) (args := #[.pointer (some ⟨gm, 0, none⟩)]) (by simp) (by simp [go_sem]) ?_
        refine (unlock_deferred muLib ⟨gm, 0, none⟩ .returning _ (Own.cell H6.out.1 (i := 0) rfl) (Own.free H6.out.1 0 (by simp))).mono ?_
        rintro e u' w'' ⟨rfl, rfl, rfl⟩
        rcases HWR.out.2 with ⟨-, c1, c2, y', s', hd'⟩ | ⟨-, hc, y', s', hd', hk'⟩ | ⟨hb, -⟩
        · have hc' : 1 ≤ crash ∧ crash ≤ ((m2.map (·.1)).length : Int) + 3 := by rw [List.length_map]; omega
          have hc2 : 1 ≤ crash ∧ crash ≤ ((m2.map (·.1)).length : Int) + 2 := by rw [List.length_map]; omega
          refine ⟨_, results_tmp rfl _ _ _, _, rfl, ?_, ?_, HFIN.out, fun _ l0 x0 y0 s0 c0 h0 => ⟨live, y', s', crash, by rw [← HIN.out l0 x0 y0 s0 c0 h0]; exact hd'.keep H67.out (fun e => hne e.symm)⟩⟩
          · rw [HR.out.1, if_pos hc']; rfl
          · rw [HR.out.2.1, HR.out.2.2, HNB.out, if_pos hc2, if_pos hc2, decide_eq_true hc']
            exact ⟨H7.out.1, ⟨live, x, y', s', crash, m, hd'.keep H67.out (fun e => hne e.symm), (HKF1.out.keep0 HF3.out).held HALL.out (held_both HM3.out HD3.out), HMM.out, fun e => (by cases e)⟩, H.out.tree, H.out.rm⟩
        · have hc' : 1 ≤ crash ∧ crash ≤ ((m2.map (·.1)).length : Int) + 3 := by rw [List.length_map]; omega
          have hc2 : ¬ (1 ≤ crash ∧ crash ≤ ((m2.map (·.1)).length : Int) + 2) := by rw [List.length_map]; omega
          refine ⟨_, results_tmp rfl _ _ _, _, rfl, ?_, ?_, HFIN.out, fun hK => absurd (kept_good HPK0.out hK) hc2⟩
          · rw [HR.out.1, if_pos hc']; rfl
          · rw [HR.out.2.1, HR.out.2.2, HNB.out, if_neg hc2, if_neg hc2, decide_eq_true hc']
            exact ⟨H7.out.1, ⟨1 - live, y', x, s', crash, m2, hd'.keep H67.out (fun e => hne e.symm), hk'.held H67.out (held_mir HZ.out), rfl, fun e => (by cases e)⟩, HTR.out, H.out.rm⟩
        · cases hb
theorem MirAt.lift {w : World} {B B' gm gd : Nat} {tr : List Fil} {room : Int} {down : Bool} (h : MirAt w B gm gd tr room down) (hB : B' ≤ B) : MirAt w B' gm gd tr room down := ⟨h.mir, h.disk.lift hB, h.tree, h.rm⟩
def PReplayP2 (gm gd B : Nat) (tr : List Fil) (room : Int) (b : List UInt8) (crash : Int) (w : World) (e : Ending) (w' : World) : Prop :=
  e = .returned (.tuple #[.int .i64 (replayE tr room b crash).k, .string (replayE tr room b crash).name]) ∧ MirAt w' (newB tr room b crash B w.heap.size) gm gd (replayT tr room b crash) room (replayD tr room b crash) ∧ Fr (fun b => b = gm ∨ b = gd) w w' ∧ StaysX w gd (keptK tr room b crash) w'
set_option maxHeartbeats 1000000 in
theorem preplay_up2 (gm gd B : Nat) (tr : List Fil) (room crash : Int) (db dof dcap : Nat) (bs : List UInt8) (w : World) (h : MirAt w B gm gd tr room false) (hB : B ≤ w.heap.size) (hcl : Clear gm gd) (hg : ErrType w) (hf : ErrForm w)
    (hb : IsB w (.slice (some ⟨db, dof, none⟩) bs.length dcap) bs) :
    Calls Tryz.prog 12 #[.pointer (some ⟨gm, 0, none⟩), .slice (some ⟨db, dof, none⟩) bs.length dcap, .int .i64 crash] w (PReplayP2 gm gd B tr room bs crash w) := by
  have H := Lib.hid (mreplay_up2 gm gd B tr room crash db dof dcap bs w h hB hcl hf hb)
  unfold ReplayP2 at H
  unfold PReplayP2
  obtain ⟨E, hE⟩ : ∃ E, replayE tr room bs crash = E := ⟨_, rfl⟩
  obtain ⟨D, hD⟩ : ∃ D, replayD tr room bs crash = D := ⟨_, rfl⟩
  obtain ⟨T, hT⟩ : ∃ T, replayT tr room bs crash = T := ⟨_, rfl⟩
  obtain ⟨NB, hNB⟩ : ∃ NB, newB tr room bs crash B w.heap.size = NB := ⟨_, rfl⟩
  rw [hE, hD, hT, hNB] at H ⊢
  clear h hb hE hD hT hNB hf
  go_enter Tryz.func12, Tryz.ntmps12
  go_wp2_with fail
  refine H.out.mono ?_
  rintro e w1 ⟨y, rfl, h1, h2, h3, h4⟩
  have HT := Lib.hid (told_any y E w1 (hg.keep h3 (fun e => by rcases e with e | e; exact hcl.mt e.symm; exact hcl.dt e.symm)) h1)
  have H2 := Lib.hid h2
  have H3 := Lib.hid h3
  have H4 := Lib.hid h4
  clear h1 h2 h3 h4
  go_wp2_with fail
  refine HT.out.mono ?_
  rintro e w2 ⟨rfl, hf⟩
  go_wp2_with fail
  go_ret2
  exact ⟨rfl, H2.out.keep0 hf, H3.out.step hf (fun _ h _ => h.elim), H4.out.after hf id⟩
set_option maxHeartbeats 1000000 in
theorem preplay_down2 (gm gd B : Nat) (tr : List Fil) (room crash : Int) (v : Value) (w : World) (h : MirAt w B gm gd tr room true) (hcl : Clear gm gd) (hg : ErrType w) :
    Calls Tryz.prog 12 #[.pointer (some ⟨gm, 0, none⟩), v, .int .i64 crash] w fun e w' => e = .returned (.tuple #[.int .i64 7, .string ByteArray.empty]) ∧ MirAt w' B gm gd tr room true ∧ Fr (fun b => b = gm) w w' := by
  have H := Lib.hid (mreplay_down2 gm gd B tr room crash v w h)
  clear h
  go_enter Tryz.func12, Tryz.ntmps12
  go_wp2_with fail
  refine H.out.mono ?_
  rintro e w1 ⟨rfl, h2, h3⟩
  have HT := Lib.hid (told_kind 7 w1 (hg.keep h3 (fun e => hcl.mt e.symm)))
  have H2 := Lib.hid h2
  have H3 := Lib.hid h3
  clear h2 h3
  go_wp2_with fail
  refine HT.out.mono ?_
  rintro e w2 ⟨rfl, hf⟩
  go_wp2_with fail
  go_ret2
  exact ⟨rfl, H2.out.keep0 hf, H3.out.step hf (fun _ h _ => h.elim)⟩
end Go.Proofs.YtlcdgbhigfgehabGreatDoor
/- The law's world in memory: what the script has made. -/
namespace Go.Proofs.YtlcdgbhigfgehabGreatDoor
open Go.RowKit
set_option maxRecDepth 100000

/-- The blocks of S are rows of types that P tells. -/
def Only (w : World) (S : Nat → Prop) (P : TypeId → Prop) : Prop := ∀ b, S b → ∃ T xs, Own w b T xs ∧ P T
section
variable {w w1 : World} {S : Nat → Prop} {P : TypeId → Prop} {B sz n : Nat} {T : TypeId} {v : Value} {xs : List Value}
theorem own_type {g : Nat} {T' : TypeId} {ys : List Value} (a : Own w g T xs) (b : Own w g T' ys) : T = T' := by
  obtain ⟨_, h1, _⟩ := a
  obtain ⟨_, h2, _⟩ := b
  rw [h1] at h2
  simp at h2
  exact h2.2.1
theorem Only.vec (h : Vec w B T sz v n xs) : Only w (fun k => v.ownBlock = some k) (fun t => t = T) := fun b hb => by
  rcases h.2 with ⟨rfl, _⟩ | ⟨g, cap, rest, rfl, _, ho, _⟩
  · simp [Value.ownBlock] at hb
  · have : g = b := by simpa [Value.ownBlock] using hb
    subst this
    exact ⟨T, _, ho, rfl⟩
theorem Only.one {g : Nat} (h : Own w g T xs) : Only w (fun b => b = g) (fun t => t = T) := fun b hb => by subst hb; exact ⟨T, _, h, rfl⟩
theorem Own.keepO {g : Nat} (h : Own w g T xs) (k : Fr S w w1) (hS : Only w S P) (hT : ¬ P T) : Own w1 g T xs :=
  h.keep k (fun hs => by obtain ⟨T', ys, ho, hp⟩ := hS g hs; exact hT (own_type ho h ▸ hp))
theorem Vec.offO (h : Vec w B T sz v n xs) (hS : Only w S P) (hT : ¬ P T) : ∀ b, v.ownBlock = some b → ¬ S b := fun b hb hs => by
  obtain ⟨T', ys, ho, hp⟩ := hS b hs
  exact h.apartT ho (fun e => hT (e ▸ hp)) hb
theorem Vec.keepO (h : Vec w B T sz v n xs) (k : Fr S w w1) (hS : Only w S P) (hT : ¬ P T) : Vec w1 B T sz v n xs := h.keep k (h.offO hS hT)
theorem KFils.keepO {l : List (Fil × Value)} (h : KFils w B v l) (k : Fr S w w1) (hS : Only w S P) (h1 : ¬ P 37) (h2 : ¬ P 5) : KFils w1 B v l :=
  h.keep k (h.vec.offO hS h1) (fun p hp => (h.data p hp).offO hS h2)
theorem MirAt.keepO {gm gd : Nat} {tr : List Fil} {room : Int} {down : Bool} (h : MirAt w B gm gd tr room down) (k : Fr S w w1) (hS : Only w S P) (hm : ¬ S gm) (hd : ¬ S gd) (h1 : ¬ P 37) (h2 : ¬ P 5) : MirAt w1 B gm gd tr room down := by
  refine ⟨Own.keep h.mir k hm, ?_, h.tree, h.rm⟩
  obtain ⟨live, x, y, s, c, m, h3, h4, h5, h6⟩ := h.disk
  exact ⟨live, x, y, s, c, m, h3.keep k hd, h4.keepO k hS h1 h2, h5, h6⟩
/-- A slice of bytes all of which, the spare room too, are the caller's. -/
def Full (w : World) (v : Value) : Prop := v = .slice none 0 0 ∨ ∃ g n cap, v = .slice (some ⟨g, 0, none⟩) n cap ∧ n ≤ cap ∧ cap ≤ maxLen ∧ ∃ xs : List Value, Own w g 5 xs ∧ xs.length = cap ∧ ∀ j, j < cap → xs[j]? = some (.int .u8 99)
theorem Full.keep (h : Full w v) (k : Fr S w w1) (hv : ∀ b, v.ownBlock = some b → ¬ S b) : Full w1 v := by
  rcases h with h | ⟨g, n, cap, rfl, h1, h2, xs, h3, h4⟩
  · exact .inl h
  · exact .inr ⟨g, n, cap, rfl, h1, h2, xs, h3.keep k (hv g rfl), h4⟩
theorem Full.keepO (h : Full w v) (k : Fr S w w1) (hS : Only w S P) (hT : ¬ P 5) : Full w1 v := by
  rcases h with h | ⟨g, n, cap, rfl, h1, h2, xs, h3, h4⟩
  · exact .inl h
  · exact .inr ⟨g, n, cap, rfl, h1, h2, xs, h3.keepO k hS hT, h4⟩
end
/-- A mirror on both sides. -/
structure GM where
  gm : Nat
  gd : Nat
  gr : Nat
  tv : Value
  hv : Value
  tr : List Fil
  th : List Fil
  pt : List Fil
  room : Int
  down : Bool
structure GMAt (w : World) (B : Nat) (x : GM) : Prop where
  mir : MirAt w B x.gm x.gd x.pt x.room x.down
  ref : RMirC w x.gr x.tv x.room x.down x.hv
  t : Refs w B x.tv x.tr
  h : Refs w B x.hv x.th
  same : x.down = false → x.tr = x.pt
  next : x.down = true → x.th = x.pt
  lo : B ≤ x.gm ∧ B ≤ x.gd ∧ B ≤ x.gr
/-- A mirror's three blocks. -/
def GM.own (x : GM) (b : Nat) : Prop := b = x.gm ∨ b = x.gd ∨ b = x.gr
def mirType (t : TypeId) : Prop := t = 99 ∨ t = 162 ∨ t = 203
section
variable {w w1 : World} {S : Nat → Prop} {P : TypeId → Prop} {B : Nat} {x : GM}
theorem GMAt.only (h : GMAt w B x) : Only w x.own mirType := fun b hb => by
  rcases hb with rfl | rfl | rfl
  · exact ⟨_, _, h.mir.mir, .inl rfl⟩
  · obtain ⟨xs, ho⟩ := h.mir.disk.own
    exact ⟨_, xs, ho, .inr (.inl rfl)⟩
  · exact ⟨_, _, h.ref, .inr (.inr rfl)⟩
theorem GMAt.keepS (h : GMAt w B x) (k : Fr S w w1) (hS : Only w S P) (hb : ∀ b, x.own b → ¬ S b) (h1 : ¬ P 37) (h2 : ¬ P 5) (ht : ∀ b, x.tv.ownBlock = some b ∨ x.hv.ownBlock = some b → ¬ S b) : GMAt w1 B x :=
  ⟨h.mir.keepO k hS (hb _ (.inl rfl)) (hb _ (.inr (.inl rfl))) h1 h2, Own.keep h.ref k (hb _ (.inr (.inr rfl))), Vec.keep h.t k (fun b e => ht b (.inl e)), Vec.keep h.h k (fun b e => ht b (.inr e)), h.same, h.next, h.lo⟩
theorem GMAt.keepT (h : GMAt w B x) (k : Fr S w w1) (hS : Only w S P) (hm : ¬ P 99) (hd : ¬ P 162) (hr : ¬ P 203) (h1 : ¬ P 37) (h2 : ¬ P 5) (ht : ∀ b, x.tv.ownBlock = some b ∨ x.hv.ownBlock = some b → ¬ S b) : GMAt w1 B x :=
  h.keepS k hS (fun b hb hs => by
    obtain ⟨T, xs, ho, hp⟩ := hS b hs
    obtain ⟨T', ys, ho', hp'⟩ := h.only b hb
    have := own_type ho ho'
    subst this
    rcases hp' with e | e | e <;> subst e
    · exact hm hp
    · exact hd hp
    · exact hr hp) h1 h2 ht
theorem GMAt.keep0 (h : GMAt w B x) (k : Fr (fun _ => False) w w1) : GMAt w1 B x :=
  h.keepS k (P := fun _ => False) (fun _ h => h.elim) (fun _ _ h => h) id id (fun _ _ h => h)
theorem GMAt.clear {w0 : World} (h : GMAt w B x) (hB : B = w0.heap.size) (hg : ErrType w0) (he : ErrForm w0) : Clear x.gm x.gd := clear_new hg he (hB ▸ h.lo.1) (hB ▸ h.lo.2.1)
end
/-- All that the script has made; the values that lie there. -/
structure WSt where
  now : List Fil
  nv : Value
  trees : List (Value × List Fil)
  tv : Value
  bat : List ByteArray
  bv : Value
  ms : List GM
  mv : Value
  out : List Value
  ov : Value
def pairCells (l : List GM) : List Value := l.flatMap fun x => [.pointer (some ⟨x.gm, 0, none⟩), .pointer (some ⟨x.gr, 0, none⟩)]
theorem pairCells_snoc (l : List GM) (x : GM) : pairCells (l ++ [x]) = pairCells l ++ [.pointer (some ⟨x.gm, 0, none⟩), .pointer (some ⟨x.gr, 0, none⟩)] := by simp [pairCells]
@[simp] theorem length_pairCells (l : List GM) : (pairCells l).length = l.length * 2 := by
  induction l with
  | nil => rfl
  | cons x l ih => simp [pairCells] at ih ⊢; omega
theorem pairCells_get (l : List GM) (i : Nat) (h : i < l.length) : (pairCells l)[i * 2]? = some (.pointer (some ⟨l[i].gm, 0, none⟩)) ∧ (pairCells l)[i * 2 + 1]? = some (.pointer (some ⟨l[i].gr, 0, none⟩)) := by
  induction l generalizing i with
  | nil => simp at h
  | cons x l ih =>
    have hc : pairCells (x :: l) = .pointer (some ⟨x.gm, 0, none⟩) :: .pointer (some ⟨x.gr, 0, none⟩) :: pairCells l := rfl
    rw [hc]
    cases i with
    | zero => simp
    | succ i =>
      have := ih i (by simpa using h)
      simp only [Nat.add_mul, Nat.one_mul, List.getElem_cons_succ]
      refine ⟨?_, ?_⟩
      · rw [show i * 2 + 2 = (i * 2) + 1 + 1 from rfl]; simpa using this.1
      · rw [show i * 2 + 2 + 1 = (i * 2 + 1) + 1 + 1 from by omega]; simpa using this.2
structure WAt (w : World) (B gw N : Nat) (s : WSt) : Prop where
  own : Own w gw 79 [s.nv, s.tv, s.bv, s.mv, s.ov]
  gwB : B ≤ gw
  now : Refs w B s.nv s.now
  tree : Vec w B 74 1 s.tv s.trees.length (s.trees.map (·.1))
  each : ∀ p ∈ s.trees, Refs w B p.1 p.2
  off : ∀ p ∈ s.trees, ∀ b, p.1.ownBlock = some b → s.nv.ownBlock ≠ some b
  bat : Vec w B 9 1 s.bv s.bat.length (s.bat.map .string)
  mirs : Vec w B 125 2 s.mv s.ms.length (pairCells s.ms)
  mir : ∀ x ∈ s.ms, GMAt w B x
  mof : ∀ x ∈ s.ms, ∀ b, x.tv.ownBlock = some b ∨ x.hv.ownBlock = some b → s.nv.ownBlock ≠ some b
  two : s.ms.Pairwise fun x y => ∀ b, x.own b → ¬ y.own b
  out : Vec w B 25 1 s.ov s.out.length s.out
  full : ∀ v ∈ s.out, Full w v
  sizes : (∀ f ∈ s.now, f.name.length ≤ 100000 ∧ f.data.length ≤ 100000) ∧ (∀ p ∈ s.trees, ∀ f ∈ p.2, f.name.length ≤ 100000 ∧ f.data.length ≤ 100000) ∧ (∀ t ∈ s.bat, t.size ≤ 1000000)
  count : s.now.length ≤ N ∧ s.trees.length ≤ N ∧ (∀ p ∈ s.trees, p.2.length ≤ N) ∧ s.bat.length ≤ N ∧ s.ms.length ≤ N ∧ s.out.length ≤ 8 * N
section
variable {w w1 : World} {S : Nat → Prop} {P : TypeId → Prop} {B gw N : Nat} {s : WSt}
theorem WAt.more (h : WAt w B gw N s) : WAt w B gw (N + 1) s :=
  { h with count := by obtain ⟨c1, c2, c3, c4, c5, c6⟩ := h.count; exact ⟨by omega, by omega, fun p hp => by have := c3 p hp; omega, by omega, by omega, by omega⟩ }
theorem WAt.keep0 (h : WAt w B gw N s) (k : Fr (fun _ => False) w w1) : WAt w1 B gw N s :=
  { h with
    own := h.own.keep k id, now := Vec.keep h.now k (fun _ _ h => h), tree := h.tree.keep k (fun _ _ h => h), each := fun p hp => Vec.keep (h.each p hp) k (fun _ _ h => h), bat := h.bat.keep k (fun _ _ h => h),
    mirs := h.mirs.keep k (fun _ _ h => h), mir := fun x hx => (h.mir x hx).keep0 k, out := h.out.keep k (fun _ _ h => h), full := fun v hv => (h.full v hv).keep k (fun _ _ h => h) }
/-- A step in blocks of a type that is none of the law's own. -/
structure Tame (P : TypeId → Prop) : Prop where
  m : ¬ P 99
  d : ¬ P 162
  r : ¬ P 203
  f : ¬ P 37
  u : ¬ P 5
theorem GMAt.tame {x : GM} (h : GMAt w B x) (k : Fr S w w1) (hS : Only w S P) (hP : Tame P) (ht : ∀ b, x.tv.ownBlock = some b ∨ x.hv.ownBlock = some b → ¬ S b) : GMAt w1 B x := h.keepT k hS hP.m hP.d hP.r hP.f hP.u ht
theorem GMAt.tame' {x : GM} (h : GMAt w B x) (k : Fr S w w1) (hS : Only w S P) (hP : Tame P) (ht : ¬ P 188) : GMAt w1 B x :=
  h.tame k hS hP (fun b hb => by
    rcases hb with e | e
    · exact Vec.offO h.t hS ht b e
    · exact Vec.offO h.h hS ht b e)
theorem tame_world : Tame (fun t => t = 79) := ⟨by decide, by decide, by decide, by decide, by decide⟩
theorem tame_refs : Tame (fun t => t = 188) := ⟨by decide, by decide, by decide, by decide, by decide⟩
theorem tame_trees : Tame (fun t => t = 74) := ⟨by decide, by decide, by decide, by decide, by decide⟩
theorem tame_bat : Tame (fun t => t = 9) := ⟨by decide, by decide, by decide, by decide, by decide⟩
theorem tame_pair : Tame (fun t => t = 125) := ⟨by decide, by decide, by decide, by decide, by decide⟩
theorem tame_out : Tame (fun t => t = 25) := ⟨by decide, by decide, by decide, by decide, by decide⟩
/-- A field of the world's own is set. -/
theorem WAt.field (h : WAt w B gw N s) (i : Nat) (v : Value) (s' : WSt) (hs : ([s.nv, s.tv, s.bv, s.mv, s.ov] : List Value).set i v = [s'.nv, s'.tv, s'.bv, s'.mv, s'.ov])
    (hnow : Refs w B s'.nv s'.now) (htree : Vec w B 74 1 s'.tv s'.trees.length (s'.trees.map (·.1))) (heach : ∀ p ∈ s'.trees, Refs w B p.1 p.2) (hoff : ∀ p ∈ s'.trees, ∀ b, p.1.ownBlock = some b → s'.nv.ownBlock ≠ some b)
    (hbat : Vec w B 9 1 s'.bv s'.bat.length (s'.bat.map .string)) (hmirs : Vec w B 125 2 s'.mv s'.ms.length (pairCells s'.ms)) (hmir : ∀ x ∈ s'.ms, GMAt w B x)
    (hmof : ∀ x ∈ s'.ms, ∀ b, x.tv.ownBlock = some b ∨ x.hv.ownBlock = some b → s'.nv.ownBlock ≠ some b) (htwo : s'.ms.Pairwise fun x y => ∀ b, x.own b → ¬ y.own b)
    (hout : Vec w B 25 1 s'.ov s'.out.length s'.out) (hfull : ∀ v ∈ s'.out, Full w v)
    (hsz : (∀ f ∈ s'.now, f.name.length ≤ 100000 ∧ f.data.length ≤ 100000) ∧ (∀ p ∈ s'.trees, ∀ f ∈ p.2, f.name.length ≤ 100000 ∧ f.data.length ≤ 100000) ∧ (∀ t ∈ s'.bat, t.size ≤ 1000000)) {N' : Nat}
    (hc : s'.now.length ≤ N' ∧ s'.trees.length ≤ N' ∧ (∀ p ∈ s'.trees, p.2.length ≤ N') ∧ s'.bat.length ≤ N' ∧ s'.ms.length ≤ N' ∧ s'.out.length ≤ 8 * N') : WAt (w.setCell ⟨gw, i, none⟩ v) B gw N' s' := by
  have k : Fr (fun b => b = gw) w (w.setCell ⟨gw, i, none⟩ v) := (Fr.refl _ _).setCell _ _ (fun _ => rfl)
  have hS := Only.one h.own
  refine ⟨?_, h.gwB, Vec.keepO hnow k hS (by decide), htree.keepO k hS (by decide), fun p hp => Vec.keepO (heach p hp) k hS (by decide), hoff, hbat.keepO k hS (by decide), hmirs.keepO k hS (by decide), fun x hx => (hmir x hx).tame' k hS tame_world (by decide), hmof, htwo, hout.keepO k hS (by decide), fun v hv => (hfull v hv).keepO k hS (by decide), hsz, hc⟩
  rw [← hs]
  exact h.own.set i v
end
end Go.Proofs.YtlcdgbhigfgehabGreatDoor
/- replayed: a mirror and the document's replay alike. -/
namespace Go.Proofs.YtlcdgbhigfgehabGreatDoor
open Go.RowKit
set_option maxRecDepth 100000

/-- The same mirror, behind a step of its own. -/
def SameM (w : World) (B : Nat) (x : GM) (w' : World) : Prop := ∃ x' : GM, x'.gm = x.gm ∧ x'.gd = x.gd ∧ x'.gr = x.gr ∧ GMAt w' B x' ∧
  (∀ b, x'.tv.ownBlock = some b ∨ x'.hv.ownBlock = some b → x.tv.ownBlock = some b ∨ x.hv.ownBlock = some b ∨ w.heap.size ≤ b) ∧ Fr x.own w w'
theorem SameM.before {w w1 w' : World} {B : Nat} {x : GM} (h : SameM w1 B x w') (k : Fr (fun _ => False) w w1) : SameM w B x w' := by
  obtain ⟨x', h1, h2, h3, h4, h5, h6⟩ := h
  exact ⟨x', h1, h2, h3, h4, fun b hb => by rcases h5 b hb with h | h | h; exact .inl h; exact .inr (.inl h); exact .inr (.inr (Nat.le_trans k.size h)), (k.mono (fun _ h _ => h.elim)).step h6 (fun _ h _ => h)⟩
theorem SameM.after {w w1 w' : World} {B : Nat} {x : GM} (h : SameM w B x w1) (k : Fr (fun _ => False) w1 w') : SameM w B x w' := by
  obtain ⟨x', h1, h2, h3, h4, h5, h6⟩ := h
  exact ⟨x', h1, h2, h3, h4.keep0 k, h5, h6.step k (fun _ h _ => h.elim)⟩
/-- The rows of one slice of files read the same in two worlds. -/
theorem rows_same {w w2 : World} {S : Nat → Prop} {B B2 : Nat} {v : Value} {l m : List (Fil × Value)} (h : KFils w B v l) (h2 : KFils w2 B2 v m) (k : Fr S w w2) (hS : ∀ b, v.ownBlock = some b → ¬ S b) : ∀ q ∈ m, ∃ p ∈ l, q.2 = p.2 := by
  intro q hq
  obtain ⟨a, c, rfl, -⟩ := h.vec.shape
  obtain ⟨a2, c2, hq2, -⟩ := h2.vec.shape
  simp only [Value.slice.injEq] at hq2
  obtain ⟨rfl, hlen, rfl⟩ := hq2
  obtain ⟨i, hi, rfl⟩ := List.getElem_of_mem hq
  obtain ⟨g, cap, e1, -, c1, -⟩ := h.fils.get i (by omega)
  obtain ⟨g2, cap2, e2, -, c2', -⟩ := h2.fils.get i hi
  simp only [Value.slice.injEq] at e1 e2
  have hgg : g = g2 := by have := e1.1.symm.trans e2.1; simpa using this
  subst hgg
  have := k.cell c1 (hS g (by rw [e1.1]; rfl))
  rw [this] at c2'
  exact ⟨l[i], List.getElem_mem _, by simpa using c2'.symm⟩
/-- A mirror whose rows avoid a row of bytes that turns. -/
theorem MirAt.aside {w w1 : World} {B gm gd gb : Nat} {tr : List Fil} {room : Int} {down : Bool} {xs : List Value} (h : MirAt w B gm gd tr room down) (ho : Own w gb 5 xs) (k : Fr (fun b => b = gb) w w1)
    (hr : ∀ live x y s c m, DiskL w gd live x y s c → KFils w B x m → ∀ p ∈ m, p.2.ownBlock ≠ some gb) : MirAt w1 B gm gd tr room down := by
  refine ⟨Own.keep h.mir k (own_ne h.mir ho (by decide)), ?_, h.tree, h.rm⟩
  obtain ⟨live, x, y, s, c, m, h3, h4, h5, h6⟩ := h.disk
  obtain ⟨ys, hd⟩ := h3.own
  exact ⟨live, x, y, s, c, m, h3.keep k (own_ne hd ho (by decide)), h4.keep k (fun b hb e => h4.vec.apartT ho (by decide) (e ▸ hb)) (fun p hp b hb e => hr live x y s c m h3 h4 p hp (e ▸ hb)), h5, h6⟩
theorem mir_off {w w1 w2 w3 : World} {B NB gm gd gb : Nat} {tr T : List Fil} {room room2 : Int} {down D : Bool} {K : Prop} {xs : List Value} (h : MirAt w B gm gd tr room down) (k1 : Fr (fun _ => False) w w1) (hx : StaysX w1 gd K w2) (hm2 : MirAt w2 NB gm gd T room2 D)
    (k2 : Fr (fun b => b = gm ∨ b = gd) w1 w2) (hNB : K ∨ w1.heap.size ≤ NB) (hgb : w.heap.size ≤ gb ∧ gb < w1.heap.size) (ho : Own w2 gb 5 xs) (k3 : Fr (fun b => b = gb) w2 w3) : MirAt w3 NB gm gd T room2 D := by
  refine hm2.aside ho k3 fun l2 x2 y2 s2 c2 m2 hd2 hk2 p hp hb => ?_
  rcases hNB with hK | hN
  · obtain ⟨live, x, y, s, c, m, hd, hk, -, -⟩ := h.disk
    obtain ⟨l', y', s', c', hd'⟩ := hx hK _ _ _ _ _ (hd.keep k1 id)
    have e := DiskL.inj hd2 hd'
    subst e
    have hh : Held w (fun b => b = gm ∨ b = gd) := fun b hb => by
      rcases hb with rfl | rfl
      · exact .inl ⟨_, h.mir⟩
      · obtain ⟨ys, o⟩ := hd.own
        exact .inr ⟨ys, o⟩
    obtain ⟨q, hq, e⟩ := rows_same hk hk2 ((k1.mono (S' := fun b => b = gm ∨ b = gd) (fun _ h _ => h.elim)).step k2 (fun _ h _ => h)) (hh.vec hk.vec (by decide) (by decide)) p hp
    rw [e] at hb
    have := ((hk.data q hq).lt gb hb).2
    omega
  · have := ((hk2.data p hp).lt gb hb).1
    omega
set_option maxHeartbeats 2000000 in
theorem replayed_any (w0 : World) (B : Nat) (x : GM) (s : ByteArray) (crash : Int) (w : World) (hB : B = w0.heap.size) (hg : ErrType w0) (he : ErrForm w0) (hf : Fr (fun _ => False) w0 w) (h : GMAt w B x) (hs : s.size ≤ 1000000) :
    Calls Tryz.prog 58 #[.agg #[.pointer (some ⟨x.gm, 0, none⟩), .pointer (some ⟨x.gr, 0, none⟩)], .string s, .int .i64 crash] w fun e w' => e = .returned (.bool true) ∧ SameM w B x w' := by
  have H := Lib.hid h
  have HG := Lib.hid hg
  have HE := Lib.hid he
  have HF := Lib.hid hf
  have HCL := Lib.hid (h.clear hB hg he)
  have hlo := h.lo
  have hz0 := hf.size
  clear h hg he hf
  go_enter Tryz.func58, Tryz.ntmps58
  go_wp2_with fail
  have hA : Fr (fun _ => False) w (w.alloc (.cells #[.pointer (some ⟨x.gm, 0, none⟩), .pointer (some ⟨x.gr, 0, none⟩)] 125)) := (Fr.refl _ _).alloc _
  have HP := Lib.hid (Own.alloc w #[.pointer (some ⟨x.gm, 0, none⟩), .pointer (some ⟨x.gr, 0, none⟩)] 125)
  have HA := Lib.hid hA
  obtain ⟨gp, hgp⟩ : ∃ gp, w.heap.size = gp := ⟨_, rfl⟩
  have HGP := Lib.hid hgp
  have hzA := hA.size
  have hgpA := HP.out.lt
  rw [hgp] at HP hgpA ⊢
  clear hA hgp
  generalize w.alloc (.cells #[.pointer (some ⟨x.gm, 0, none⟩), .pointer (some ⟨x.gr, 0, none⟩)] 125) = wA at *
  refine (roomy_any s wA (by omega)).mono ?_
  rintro e w1 ⟨gb, rfl, hgb, hob, hf1⟩
  have HF1 := Lib.hid (HA.out.step hf1 (fun _ h _ => h))
  have HP1 := Lib.hid (HP.out.keep hf1 id)
  have HOB := Lib.hid hob
  have hz1 := hf1.size
  have hgbl := hob.lt
  have p0 := HP1.out.cell (i := 0) rfl
  have hsl : s.data.toList.length = s.size := by simp
  have hib : IsB w1 (.slice (some ⟨gb, 0, none⟩) s.data.toList.length (s.size + 2)) s.data.toList := IsB.ofOwn0 (cap := s.size + 2) (l := s.data.toList) (rest := [.int .u8 77, .int .u8 88]) hob rfl (by omega) (by unfold maxLen; omega)
  have HIB := Lib.hid hib
  have H1 := Lib.hid (H.out.keep0 HF1.out)
  have HSL := Lib.hid hsl
  have hg1 := HG.out.keep (HF.out.step HF1.out (fun _ h _ => h)) id
  have he1 := HE.out.keep (HF.out.step HF1.out (fun _ h _ => h))
  have hzw : w.heap.size = gp := HGP.out
  clear hib hf1 hob hsl HP HA
  have hrr : x.gr ≠ x.gm ∧ x.gr ≠ x.gd := by
    obtain ⟨xs, ho⟩ := H1.out.mir.disk.own
    exact ⟨own_ne H1.out.ref H1.out.mir.mir (by decide), own_ne H1.out.ref ho (by decide)⟩
  cases hd : x.down with
  | true =>
    have hmir := H1.out.mir
    have href := H1.out.ref
    rw [hd] at hmir href
    have HRP := Lib.hid (preplay_down2 x.gm x.gd B x.pt x.room crash (.slice (some ⟨gb, 0, none⟩) s.size (s.size + 2)) w1 hmir HCL.out hg1)
    have HREF := Lib.hid href
    have HD := Lib.hid hd
    clear hmir href hd hg1 he1
    go_wp2_with fail
    refine HRP.out.mono ?_
    rintro e w2 ⟨rfl, hmi2, hf2⟩
    have HMI2 := Lib.hid hmi2
    have hS : Only w1 (fun b => b = x.gm) mirType := fun b hb => H1.out.only b (.inl hb)
    have HOB2 := Lib.hid (HOB.out.keepO hf2 hS (by unfold mirType; decide))
    have HST := Lib.hid (still_any s gb w2 (by omega) HOB2.out)
    have HF2 := Lib.hid hf2
    have HP2 := Lib.hid (HP1.out.keepO hf2 hS (by unfold mirType; decide))
    have HR2 := Lib.hid (show RMirC w2 x.gr x.tv x.room true x.hv from Own.keep HREF.out hf2 hrr.1)
    have HT2 := Lib.hid (Vec.keepO H1.out.t hf2 hS (by unfold mirType; decide))
    have HH2 := Lib.hid (Vec.keepO H1.out.h hf2 hS (by unfold mirType; decide))
    clear hmi2 hf2 hS HRP
    go_wp2_with fail
    refine HST.out.mono ?_
    rintro e w' ⟨rfl, hw'⟩
    subst hw'
    clear HST
    go_wp2_with fail
    refine (spoilt_row gb s.size (s.size + 2) _ w2 HOB2.out (by simp [roomyCells]) (by omega) (by unfold maxLen; omega)).mono ?_
    rintro e w3 ⟨rfl, -, hf3⟩
    have hS3 := Only.one HOB2.out
    have hsx : StaysX w1 x.gd True w2 := fun _ live x' y' s' c' hd' => ⟨live, y', s', c', hd'.keep HF2.out (fun e => H1.out.mir.ne e.symm)⟩
    have HM3 := Lib.hid (mir_off (K := True) H.out.mir HF1.out hsx HMI2.out (HF2.out.mono (fun _ h _ => .inl h)) (.inl trivial) ⟨by omega, hgbl⟩ HOB2.out hf3)
    have HR3 := Lib.hid (Own.keepO HR2.out hf3 hS3 (by decide))
    have HT3 := Lib.hid (Vec.keepO HT2.out hf3 hS3 (by decide))
    have HH3 := Lib.hid (Vec.keepO HH2.out hf3 hS3 (by decide))
    have p1 := (HP2.out.keepO hf3 hS3 (by decide)).cell (i := 1) rfl
    have HF3 := Lib.hid (show Fr x.own w w3 from (((HF1.out.mono (S' := x.own) (fun _ h _ => h.elim)).step HF2.out (fun b hb _ => .inl hb)).step hf3 (fun b hb hl => by omega)))
    have HRD := Lib.hid (rreplay_down x.gr x.tv x.hv x.room crash s w3 HR3.out)
    clear hf3 hS3 hsx
    go_wp2_with fail
    refine HRD.out.mono ?_
    rintro e w4 ⟨rfl, hw4⟩
    subst hw4
    go_wp2_with fail
    go_ret
    refine ⟨rfl, { x with down := true }, rfl, rfl, rfl, ⟨HM3.out, HR3.out, HT3.out, HH3.out, fun h => (by cases h), fun _ => H.out.next HD.out, hlo⟩, fun b hb => ?_, HF3.out⟩
    rcases hb with h | h
    · exact .inl h
    · exact .inr (.inl h)
  | false =>
    have hmir := H1.out.mir
    have href := H1.out.ref
    rw [hd] at hmir href
    have hsame := H.out.same hd
    have hrp := preplay_up2 x.gm x.gd B x.pt x.room crash gb 0 (s.size + 2) s.data.toList w1 hmir (by omega) HCL.out hg1 he1 HIB.out
    rw [HSL.out] at hrp
    have HRP := Lib.hid hrp
    have HREF := Lib.hid href
    have hnb : keptK x.pt x.room s.data.toList crash ∨ w1.heap.size ≤ newB x.pt x.room s.data.toList crash B w1.heap.size := by
      unfold keptK newB
      split
      · exact .inl trivial
      · split
        · rename_i h; exact .inl h
        · exact .inr (Nat.le_refl _)
    have HNB := Lib.hid hnb
    have hnb2 : B ≤ newB x.pt x.room s.data.toList crash B w1.heap.size := newB_le (by omega)
    have HNB2 := Lib.hid hnb2
    have hrm := hmir.rm
    have htr := hmir.tree
    have HTR := Lib.hid htr
    have HSA := Lib.hid hsame
    clear hmir href hd hg1 he1 hrp hnb hnb2 hsame htr
    unfold PReplayP2 at HRP
    obtain ⟨EK, hEK⟩ : ∃ E, replayE x.pt x.room s.data.toList crash = E := ⟨_, rfl⟩
    obtain ⟨TT, hTT⟩ : ∃ E, replayT x.pt x.room s.data.toList crash = E := ⟨_, rfl⟩
    obtain ⟨DD, hDD⟩ : ∃ E, replayD x.pt x.room s.data.toList crash = E := ⟨_, rfl⟩
    obtain ⟨NB, hNBB⟩ : ∃ E, newB x.pt x.room s.data.toList crash B w1.heap.size = E := ⟨_, rfl⟩
    rw [hEK, hTT, hDD, hNBB] at HRP
    rw [hNBB] at HNB HNB2
    have HEK := Lib.hid hEK
    have HTT := Lib.hid hTT
    have HDD := Lib.hid hDD
    clear hEK hTT hDD hNBB
    go_wp2_with fail
    refine HRP.out.mono ?_
    rintro e w2 ⟨rfl, hmi2, hf2, hsx⟩
    have HMI2 := Lib.hid hmi2
    have HSX := Lib.hid hsx
    have hS : Only w1 (fun b => b = x.gm ∨ b = x.gd) mirType := fun b hb => H1.out.only b (by rcases hb with e | e; exact .inl e; exact .inr (.inl e))
    have HOB2 := Lib.hid (HOB.out.keepO hf2 hS (by unfold mirType; decide))
    have HST := Lib.hid (still_any s gb w2 (by omega) HOB2.out)
    have HF2 := Lib.hid hf2
    have HP2 := Lib.hid (HP1.out.keepO hf2 hS (by unfold mirType; decide))
    have HR2 := Lib.hid (show RMirC w2 x.gr x.tv x.room false x.hv from Own.keep HREF.out hf2 (fun e => by rcases e with e | e; exact hrr.1 e; exact hrr.2 e))
    have HT2 := Lib.hid (Vec.keepO H1.out.t hf2 hS (by unfold mirType; decide))
    have HH2 := Lib.hid (Vec.keepO H1.out.h hf2 hS (by unfold mirType; decide))
    have hz2 := hf2.size
    clear hmi2 hf2 hS HRP hsx
    go_wp2_with fail
    refine HST.out.mono ?_
    rintro e w' ⟨rfl, hw'⟩
    subst hw'
    clear HST
    go_wp2_with fail
    refine (spoilt_row gb s.size (s.size + 2) _ w2 HOB2.out (by simp [roomyCells]) (by omega) (by unfold maxLen; omega)).mono ?_
    rintro e w3 ⟨rfl, -, hf3⟩
    have hS3 := Only.one HOB2.out
    have HM3 := Lib.hid ((mir_off H.out.mir HF1.out HSX.out HMI2.out HF2.out HNB.out ⟨by omega, hgbl⟩ HOB2.out hf3).lift HNB2.out)
    have HR3 := Lib.hid (Own.keepO HR2.out hf3 hS3 (by decide))
    have HT3 := Lib.hid (Vec.keepO HT2.out hf3 hS3 (by decide))
    have HH3 := Lib.hid (Vec.keepO HH2.out hf3 hS3 (by decide))
    have p1 := (HP2.out.keepO hf3 hS3 (by decide)).cell (i := 1) rfl
    have hz3 := hf3.size
    have HF3 := Lib.hid (show Fr x.own w w3 from (((HF1.out.mono (S' := x.own) (fun _ h _ => h.elim)).step HF2.out (fun b hb _ => by rcases hb with e | e; exact .inl e; exact .inr (.inl e))).step hf3 (fun b hb hl => by omega)))
    have hrd := rreplay_up B x.gr x.tv x.hv x.tr x.th x.room crash s w3 HR3.out HT3.out HH3.out (HSA.out ▸ HTR.out) hs (by omega) hrm
    unfold RRepQ at hrd
    rw [HSA.out, HEK.out, HTT.out, HDD.out] at hrd
    have HRD := Lib.hid hrd
    clear hf3 hS3 hrd
    go_wp2_with fail
    refine HRD.out.mono ?_
    rintro e w4 ⟨rfl, hf4, tv', hv', tr', th', hm4, ht4, hh4, hsa4, hnx4, hbl4⟩
    have HF4 := Lib.hid hf4
    have HM4 := Lib.hid hm4
    have HT4 := Lib.hid ht4
    have HH4 := Lib.hid hh4
    have HQ4 := Lib.hid (And.intro hsa4 (And.intro hnx4 hbl4))
    clear hf4 hm4 ht4 hh4 hsa4 hnx4 hbl4 HRD
    go_wp2_with fail
    go_ret
    refine ⟨rfl, { x with tv := tv', hv := hv', tr := tr', th := th', pt := TT, down := DD }, rfl, rfl, rfl, ⟨HM3.out.keepO HF4.out (Only.one HR3.out) (Ne.symm hrr.1) (Ne.symm hrr.2) (by decide) (by decide), HM4.out, HT4.out, HH4.out, HQ4.out.1, HQ4.out.2.1, hlo⟩, fun b hb => ?_, HF3.out.step HF4.out (fun b hb _ => .inr (.inr hb))⟩
    rcases HQ4.out.2.2 b hb with h | h | h
    · exact .inl h
    · exact .inr (.inl h)
    · exact .inr (.inr (by omega))
end Go.Proofs.YtlcdgbhigfgehabGreatDoor
/- For the law Broken: a batch that lies ahead of its mirror; bytes turned. -/
namespace Go.Proofs.YtlcdgbhigfgehabGreatDoor
open Go.RowKit
set_option maxRecDepth 100000

section
variable {w w1 : World} {S : Nat → Prop} {B : Nat} {v : Value} {l : List (Fil × Value)}
theorem KFils.low (h : KFils w B v l) (k : Fr S w w1) (hS : ∀ b, S b → b < B) : KFils w1 B v l :=
  h.keep k (fun b hb hs => by have := (h.vec.lt b hb).1; have := hS b hs; omega) (fun p hp b hb hs => by have := ((h.data p hp).lt b hb).1; have := hS b hs; omega)
theorem MirAt.low {gm gd : Nat} {tr : List Fil} {room : Int} {down : Bool} (h : MirAt w B gm gd tr room down) (k : Fr S w w1) (hS : ∀ b, S b → b < B) (hm : B ≤ gm) (hg : B ≤ gd) : MirAt w1 B gm gd tr room down := by
  refine ⟨Own.keep h.mir k (fun hs => by have := hS _ hs; omega), ?_, h.tree, h.rm⟩
  obtain ⟨live, x, y, s, c, m, h1, h2, h3, h4⟩ := h.disk
  exact ⟨live, x, y, s, c, m, h1.keep k (fun hs => by have := hS _ hs; omega), h2.low k hS, h3, h4⟩
/-- One file's data is turned in its row. -/
theorem KFils.turn {L1 L2 : List (Fil × Value)} {nm dt dt' : List UInt8} {g c : Nat} (h : KFils w B v (L1 ++ (⟨nm, dt⟩, .slice (some ⟨g, 0, none⟩) dt.length c) :: L2)) (hl : dt'.length = dt.length) (k : Fr (fun b => b = g) w w1)
    (hv : Vec w1 B 5 1 (.slice (some ⟨g, 0, none⟩) dt.length c) dt.length (bcells dt')) : KFils w1 B v (L1 ++ (⟨nm, dt'⟩, .slice (some ⟨g, 0, none⟩) dt.length c) :: L2) := by
  have hown : Vec w B 5 1 (.slice (some ⟨g, 0, none⟩) dt.length c) dt.length (bcells dt) := h.data (⟨nm, dt⟩, _) (by simp)
  refine ⟨?_, ?_, ?_⟩
  · have h1 := h.vec.keep k (fun b hb e => h.vec.apartV hown (by decide) b hb (by rw [e]; rfl))
    have e1 : filCells (L1 ++ (⟨nm, dt'⟩, .slice (some ⟨g, 0, none⟩) dt.length c) :: L2) = filCells (L1 ++ (⟨nm, dt⟩, .slice (some ⟨g, 0, none⟩) dt.length c) :: L2) := by simp [filCells, filRow]
    have e2 : (L1 ++ ((⟨nm, dt'⟩ : Fil), Value.slice (some ⟨g, 0, none⟩) dt.length c) :: L2).length = (L1 ++ ((⟨nm, dt⟩ : Fil), Value.slice (some ⟨g, 0, none⟩) dt.length c) :: L2).length := by simp
    rw [e1, e2]; exact h1
  · intro p hp
    have h2 := h.two
    rw [List.pairwise_append, List.pairwise_cons] at h2
    rcases List.mem_append.1 hp with hp | hp
    · exact (h.data p (by simp [hp])).keep k (fun b hb e => h2.2.2 p hp _ (List.mem_cons_self ..) b hb (by rw [e]; rfl))
    · rcases List.mem_cons.1 hp with rfl | hp
      · show Vec w1 B 5 1 (.slice (some ⟨g, 0, none⟩) dt.length c) dt'.length (bcells dt')
        rw [hl]; exact hv
      · exact (h.data p (by simp [hp])).keep k (fun b hb e => h2.2.1.1 p hp b (by rw [e]; rfl) hb)
  · have h2 := h.two
    rw [List.pairwise_append, List.pairwise_cons] at h2 ⊢
    refine ⟨h2.1, ⟨fun p hp => h2.2.1.1 p hp, h2.2.1.2⟩, fun p hp q hq => ?_⟩
    rcases List.mem_cons.1 hq with rfl | hq
    · exact h2.2.2 p hp (⟨nm, dt⟩, .slice (some ⟨g, 0, none⟩) dt.length c) (List.mem_cons_self ..)
    · exact h2.2.2 p hp q (List.mem_cons_of_mem _ hq)
end
theorem IsTree.turn {l1 l2 : List Fil} {nm dt dt' : List UInt8} (h : IsTree (l1 ++ ⟨nm, dt⟩ :: l2)) (hl : dt'.length = dt.length) : IsTree (l1 ++ ⟨nm, dt'⟩ :: l2) := by
  refine ⟨fun f hf => ?_, ?_, by have := h.len; simp at this ⊢; omega⟩
  · rcases List.mem_append.1 hf with hf | hf
    · exact h.ok f (by simp [hf])
    · rcases List.mem_cons.1 hf with rfl | hf
      · have := h.ok ⟨nm, dt⟩ (by simp)
        exact ⟨this.1, by have := this.2; dsimp only at this ⊢; omega⟩
      · exact h.ok f (by simp [hf])
  · have h2 := h.up
    rw [List.pairwise_append, List.pairwise_cons] at h2 ⊢
    refine ⟨h2.1, ⟨fun p hp => h2.2.1.1 p hp, h2.2.1.2⟩, fun p hp q hq => ?_⟩
    rcases List.mem_cons.1 hq with rfl | hq
    · exact h2.2.2 p hp ⟨nm, dt⟩ (List.mem_cons_self ..)
    · exact h2.2.2 p hp q (List.mem_cons_of_mem _ hq)
theorem dgN_ne (p q : List UInt8) (c d : UInt8) (h : c ≠ d) : dgN (p ++ c :: q) ≠ dgN (p ++ d :: q) := fun e => dgOf_ne p q c d h (by rw [← dgN_int, ← dgN_int, e])
/-- A list of bytes parted at a place. -/
theorem part_at (l : List UInt8) (k : Nat) (h : k < l.length) : l = l.take k ++ l[k] :: l.drop (k + 1) := by
  rw [← List.drop_eq_getElem_cons h, List.take_append_drop]
theorem bcells_set (p q : List UInt8) (c d : UInt8) (r : List Value) (k : Nat) (hk : k = p.length) : (bcells (p ++ c :: q) ++ r).set k (.int .u8 d.toNat) = bcells (p ++ d :: q) ++ r := by
  subst hk
  simp [bcells, List.set_append]
theorem flat_len {α : Type} (l : List α) (f : α → List UInt8) (n : Nat) (h : ∀ a ∈ l, (f a).length ≤ n) : (l.flatMap f).length ≤ n * l.length := by
  induction l with
  | nil => simp
  | cons a l ih =>
    have h1 := h a (by simp)
    have h2 := ih (fun b hb => h b (by simp [hb]))
    rw [List.flatMap_cons, List.length_append, List.length_cons, Nat.mul_succ]; omega
theorem recOf_len {src ref : List Fil} {blk : Nat} (hb : 1 ≤ blk) (hs : IsTree src) (hr : IsTree ref) : (recOf src ref blk).length ≤ 1000000 := by
  have n12 : ∀ f : Fil, isName f.name = true → f.name.length ≤ 12 := fun f h => by
    unfold isName at h
    simp at h
    omega
  have h1 := flat_len ref entB 23 (fun f hf => entB_length f (n12 f (hr.ok f hf).1))
  have h2 := flat_len src (targB ref blk) 77200 (fun f hf => targB_length ref blk hb f (n12 f (hs.ok f hf).1) (hs.ok f hf).2)
  have l1 := hr.len
  have l2 := hs.len
  unfold recOf recBody headB
  simp only [List.length_append, List.length_cons, List.length_nil, length_putN]
  omega
/-- As BroughtP; the batch lies ahead of the mirror. -/
def BroughtP2 (w : World) (src ref : List Fil) (blk : Nat) (room : Int) (e : Ending) (w' : World) : Prop := ∃ bv gm gd B, e = .returned (.tuple #[bv, .pointer (some ⟨gm, 0, none⟩), .bool true]) ∧
  Vec w' w.heap.size 5 1 bv (recOf src ref blk).length (bcells (recOf src ref blk)) ∧ 0 < (recOf src ref blk).length ∧ w.heap.size ≤ B ∧ (∀ b, bv.ownBlock = some b → b < B) ∧ B ≤ gm ∧ B ≤ gd ∧ MirAt w' B gm gd ref room false ∧ Fr (fun _ => False) w w'
set_option maxHeartbeats 2000000 in
theorem kbrought2_any (v0 v1 : Value) (src ref : List (Fil × Value)) (B : Nat) (block room : Int) (w : World) (hg : ErrType w) (h0 : Fils w B v0 src) (h1 : Fils w B v1 ref) (hs : IsTree (src.map (·.1))) (hr : IsTree (ref.map (·.1)))
    (b1 : -9223372036854775808 ≤ block) (b2 : block ≤ 9223372036854775807) (r1 : 0 ≤ room) (r2 : room ≤ 1048576) (blk : Nat) (hblk : 1 + pickOf block 64 = blk) :
    Calls Tryz.prog 10 #[v0, v1, .int .i64 block, .int .i64 room] w (BroughtP2 w (src.map (·.1)) (ref.map (·.1)) blk room) := by
  have hpb := pickOf_bounds block 64 (by omega)
  have hbb : 1 ≤ blk ∧ blk ≤ 64 := by omega
  have HPK := Lib.hid (pick_any block 64 w (by omega) b1 b2 (by omega))
  have hpr := precord_any v0 v1 src ref B blk w hg h0 h1 (small_tree hs) (small_tree hr)
  have hne : recErr blk (src.map (·.1)) (ref.map (·.1)) = .none := recErr_no hbb.1 hbb.2 hs hr
  rw [show (recErr blk (src.map (·.1)) (ref.map (·.1))).k = 0 by rw [hne]; rfl, show (recErr blk (src.map (·.1)) (ref.map (·.1))).name = ByteArray.empty by rw [hne]; rfl] at hpr
  have HPR := Lib.hid hpr
  have HNE := Lib.hid hne
  have HBE := Lib.hid hblk
  have H1 := Lib.hid h1
  have HR := Lib.hid hr
  have hre := newErr_none hr r1 r2
  have HRE := Lib.hid hre
  have hrt := tree_data rfl hr
  have HRT := Lib.hid hrt
  obtain ⟨a0, c0, rfl, -⟩ := h0.vec.shape
  obtain ⟨a1, c1, rfl, -⟩ := h1.vec.shape
  generalize pickOf block 64 = pk at *
  clear hpr hne h0 h1 hs hr hre hrt hblk b1 b2 hpb
  have hpk2 : wrap64 (1 + pk) = 1 + pk := IntWalk.wrap64_in _ (by have := HBE.out; omega)
  go_enter Tryz.func10, Tryz.ntmps10
  go_wp2_with fail
  refine HPK.out.mono ?_
  rintro e w' ⟨rfl, rfl⟩
  go_wp2_with fail
  rw [HBE.out]
  refine HPR.out.mono ?_
  rintro e w3 ⟨x, rfl, hf3, hx⟩
  have hv := hx.good HNE.out
  rw [Int.toNat_natCast] at hv
  obtain ⟨R, hR⟩ : ∃ R, recOf (src.map (·.1)) (ref.map (·.1)) blk = R := ⟨_, rfl⟩
  have hrl : 0 < R.length := by rw [← hR]; exact recOf_pos _ _ _
  rw [hR] at hv
  have HRP := Lib.hid hR
  obtain ⟨gb, cb, rb, hqb, -, -, -⟩ := hv.row hrl
  subst hqb
  have HV := Lib.hid hv
  have HF3 := Lib.hid hf3
  have HN := Lib.hid (pnew_any _ ref B room w3 (hg.keep hf3 id) (H1.out.keep0 hf3) (fun p hp => by have := HRT.out.2.1 p hp; omega) (fun p hp => by have := HRT.out.1 p hp; omega) (by have := HRT.out.2.2; omega))
  rw [show (newErr (ref.map (·.1)) room).k = 0 by rw [HRE.out]; rfl, show (newErr (ref.map (·.1)) room).name = ByteArray.empty by rw [HRE.out]; rfl] at HN
  have hz3 := hf3.size
  clear hx hv hf3 hR HPR hg
  go_wp2_with fail
  refine HN.out.mono ?_
  rintro e w4 ⟨p, rfl, hf4, hnp⟩
  obtain ⟨gm, gd, rfl, hgm, hgd, hmi⟩ := hnp.1 HRE.out
  have HMI := Lib.hid hmi
  have HF4 := Lib.hid hf4
  have HV4 := Lib.hid (HV.out.keep hf4 (fun _ _ h => h))
  have z1 : decide ((R.length : Int) > 0) = true := by simp; omega
  clear hnp hmi hf4
  go_wp2_with fail
  go_ret3
  refine ⟨_, gm, gd, w3.heap.size, rfl, by rw [HRP.out]; exact HV4.out, by rw [HRP.out]; exact hrl, hz3, fun b hb => (HV.out.lt b hb).2, hgm, hgd, HMI.out, HF3.out.step HF4.out (fun _ h _ => h)⟩
end Go.Proofs.YtlcdgbhigfgehabGreatDoor
/- opened: a mirror more, on both sides. -/
namespace Go.Proofs.YtlcdgbhigfgehabGreatDoor
open Go.RowKit
set_option maxRecDepth 100000

/-- A slice of bytes whose whole row is the caller's. -/
def RowU (w : World) (v : Value) : Prop := v = .slice none 0 0 ∨ ∃ g n cap, v = .slice (some ⟨g, 0, none⟩) n cap ∧ n ≤ cap ∧ cap ≤ maxLen ∧ ∃ xs : List Value, Own w g 5 xs ∧ xs.length = cap
theorem Vec.rowU {w : World} {B n : Nat} {v : Value} {xs : List Value} (h : Vec w B 5 1 v n xs) : RowU w v := by
  rcases h.2 with ⟨rfl, _⟩ | ⟨g, cap, rest, rfl, h1, h2, h3, h4, h5⟩
  · exact .inl rfl
  · exact .inr ⟨g, n, cap, rfl, h4, h5, _, h2, by omega⟩
theorem RowU.keep {w w1 : World} {S : Nat → Prop} {v : Value} (h : RowU w v) (k : Fr S w w1) (hv : ∀ b, v.ownBlock = some b → ¬ S b) : RowU w1 v := by
  rcases h with h | ⟨g, n, cap, rfl, h1, h2, xs, h3, h4⟩
  · exact .inl h
  · exact .inr ⟨g, n, cap, rfl, h1, h2, xs, h3.keep k (hv g rfl), h4⟩
theorem RowU.keepO {w w1 : World} {S : Nat → Prop} {P : TypeId → Prop} {v : Value} (h : RowU w v) (k : Fr S w w1) (hS : Only w S P) (hT : ¬ P 5) : RowU w1 v := by
  rcases h with h | ⟨g, n, cap, rfl, h1, h2, xs, h3, h4⟩
  · exact .inl h
  · exact .inr ⟨g, n, cap, rfl, h1, h2, xs, h3.keepO k hS hT, h4⟩
theorem RowU.shape {w : World} {v : Value} (h : RowU w v) : ∃ a n c, v = .slice a n c := by
  rcases h with rfl | ⟨g, n, cap, rfl, _⟩
  · exact ⟨_, _, _, rfl⟩
  · exact ⟨_, _, _, rfl⟩
theorem RowU.only {w : World} {v : Value} (h : RowU w v) : Only w (fun b => v.ownBlock = some b) (fun t => t = 5) := fun b hb => by
  rcases h with rfl | ⟨g, n, cap, rfl, h1, h2, xs, h3, h4⟩
  · simp [Value.ownBlock] at hb
  · have : g = b := by simpa [Value.ownBlock] using hb
    subst this
    exact ⟨_, xs, h3, rfl⟩
theorem Full.rowU {w : World} {v : Value} (h : Full w v) : RowU w v := by
  rcases h with h | ⟨g, n, cap, rfl, h1, h2, xs, h3, h4, -⟩
  · exact .inl h
  · exact .inr ⟨g, n, cap, rfl, h1, h2, xs, h3, h4⟩
theorem spoilt_any (v : Value) (w : World) (h : RowU w v) : Calls Tryz.prog 104 #[v] w fun e w' => e = .returned (.tuple #[]) ∧ Full w' v ∧ Fr (fun b => v.ownBlock = some b) w w' := by
  rcases h with rfl | ⟨g, n, cap, rfl, h1, h2, xs, h3, h4⟩
  · refine (spoilt_nil w).mono ?_
    rintro e w' ⟨rfl, rfl⟩
    exact ⟨rfl, .inl rfl, Fr.refl _ _⟩
  · refine (spoilt_row g n cap xs w h3 h4 h1 h2).mono ?_
    rintro e w' ⟨rfl, ⟨ys, h5, h6, h7⟩, h8⟩
    exact ⟨rfl, .inr ⟨g, n, cap, rfl, h1, h2, ys, h5, h6, h7⟩, h8.mono (fun b hb _ => by rw [hb]; rfl)⟩
/-- Another row, while one is spoilt. -/
theorem RowU.turn {w w1 : World} {u v : Value} (h : RowU w u) (hv : RowU w v) (hf : Full w1 v) (k : Fr (fun b => v.ownBlock = some b) w w1) : RowU w1 u := by
  rcases h with h | ⟨g, n, cap, rfl, h1, h2, xs, h3, h4⟩
  · exact .inl h
  · by_cases hb : v.ownBlock = some g
    · rcases hv with rfl | ⟨g', n', cap', rfl, -, -, xs', h3', h4'⟩
      · simp [Value.ownBlock] at hb
      · have : g' = g := by simpa [Value.ownBlock] using hb
        subst this
        rcases hf with hf | ⟨g2, n2, cap2, hq, -, -, ys, h5, h6, -⟩
        · simp at hf
        · simp only [Value.slice.injEq, Option.some.injEq, Addr.mk.injEq, and_true] at hq
          obtain ⟨rfl, -, rfl⟩ := hq
          have e := Own.eq h3 h3'
          subst e
          exact .inr ⟨g', n, cap, rfl, h1, h2, ys, h5, by omega⟩
    · exact .inr ⟨g, n, cap, rfl, h1, h2, xs, h3.keep k hb, h4⟩
/-- A mirror has taken a step of its own. -/
theorem WAt.mirStep {w w1 : World} {B gw N : Nat} {s : WSt} (h : WAt w B gw N s) (i : Nat) (hi : i < s.ms.length) (hx : SameM w B s.ms[i] w1) : ∃ s', WAt w1 B gw N s' := by
  obtain ⟨x', e1, e2, e3, hg, hbl, k⟩ := hx
  have hO := (h.mir s.ms[i] (List.getElem_mem _)).only
  have hset : pairCells (s.ms.set i x') = pairCells s.ms := by
    unfold pairCells
    rw [List.flatMap_def, List.flatMap_def, List.map_set]
    congr 1
    apply List.ext_getElem (by simp)
    intro j h1 h2
    by_cases hj : i = j
    · subst hj; simp [e1, e3]
    · rw [List.getElem_set_ne hj]
  have hmem : ∀ y ∈ s.ms.set i x', y = x' ∨ ∃ j, ∃ hj : j < s.ms.length, j ≠ i ∧ y = s.ms[j] := fun y hy => by
    obtain ⟨j, hj, rfl⟩ := List.getElem_of_mem hy
    have hj' : j < s.ms.length := by simpa using hj
    by_cases hij : i = j
    · subst hij; left; simp
    · right; exact ⟨j, hj', fun e => hij e.symm, by rw [List.getElem_set_ne hij]⟩
  have hown : ∀ b, x'.own b ↔ (s.ms[i]).own b := fun b => by unfold GM.own; rw [e1, e2, e3]
  have htwo : ∀ j (hj : j < s.ms.length), j ≠ i → ∀ b, (s.ms[j]).own b → ¬ (s.ms[i]).own b := fun j hj hne b hb hb2 => by
    have h2 := List.pairwise_iff_getElem.1 h.two
    rcases Nat.lt_or_gt_of_ne hne with hlt | hlt
    · exact h2 j i hj hi hlt b hb hb2
    · exact h2 i j hi hj hlt b hb2 hb
  refine ⟨{ s with ms := s.ms.set i x' }, ⟨h.own.keepO k hO (by unfold mirType; decide), h.gwB, Vec.keepO h.now k hO (by unfold mirType; decide), h.tree.keepO k hO (by unfold mirType; decide), fun p hp => Vec.keepO (h.each p hp) k hO (by unfold mirType; decide), h.off, h.bat.keepO k hO (by unfold mirType; decide), ?_, fun y hy => ?_, fun y hy b hb => ?_, ?_, h.out.keepO k hO (by unfold mirType; decide), fun v hv => (h.full v hv).keepO k hO (by unfold mirType; decide), h.sizes, ?_⟩⟩
  · show Vec w1 B _ 2 s.mv (s.ms.set i x').length (pairCells (s.ms.set i x'))
    rw [hset, List.length_set]; exact h.mirs.keepO k hO (by unfold mirType; decide)
  · rcases hmem y hy with rfl | ⟨j, hj, hne, rfl⟩
    · exact hg
    · exact (h.mir _ (List.getElem_mem _)).keepS k hO (fun b hb => htwo j hj hne b hb) (by unfold mirType; decide) (by unfold mirType; decide) (fun b hb hs => by
        obtain ⟨T, xs, ho, hp⟩ := hO b hs
        rcases hb with hb | hb
        · exact (Vec.offO (h.mir _ (List.getElem_mem hj)).t hO (by unfold mirType; decide)) b hb hs
        · exact (Vec.offO (h.mir _ (List.getElem_mem hj)).h hO (by unfold mirType; decide)) b hb hs)
  · rcases hmem y hy with rfl | ⟨j, hj, hne, rfl⟩
    · rcases hbl b hb with hb | hb | hb
      · exact h.mof _ (List.getElem_mem _) b (.inl hb)
      · exact h.mof _ (List.getElem_mem _) b (.inr hb)
      · intro e
        have := (Vec.lt h.now b e).2
        omega
    · exact h.mof _ (List.getElem_mem _) b hb
  · show (s.ms.set i x').Pairwise _
    rw [List.pairwise_iff_getElem]
    intro a c ha hc hac b hb
    have ha' : a < s.ms.length := by simpa using ha
    have hc' : c < s.ms.length := by simpa using hc
    have h2 := List.pairwise_iff_getElem.1 h.two a c ha' hc' hac b
    by_cases h3 : i = a
    · subst h3
      have h4 : i ≠ c := by omega
      simp only [List.getElem_set_self] at hb
      rw [List.getElem_set_ne h4]
      exact h2 ((hown b).1 hb)
    · rw [List.getElem_set_ne h3] at hb
      by_cases h4 : i = c
      · subst h4
        simp only [List.getElem_set_self]
        exact fun hb2 => h2 hb ((hown b).1 hb2)
      · rw [List.getElem_set_ne h4]
        exact h2 hb
  · obtain ⟨c1, c2, c3, c4, c5, c6⟩ := h.count
    exact ⟨c1, c2, c3, c4, by show (s.ms.set i x').length ≤ N; rw [List.length_set]; exact c5, c6⟩
theorem newErr_k {l : List Fil} {room : Int} (h : newErr l room ≠ .none) : (newErr l room).k ≠ 0 := by
  unfold newErr at h ⊢
  split
  · simp only [Err.k]; omega
  · rename_i h1
    rw [h1] at h
    simp only at h
    split
    · simp only [Err.k]; omega
    · rename_i h2
      exact absurd (by simp [h2]) h
/-- What a step of the law's world comes to. -/
def StepQ (w0 : World) (B gw N : Nat) (e : Ending) (w' : World) : Prop := e = .returned (.bool true) ∧ (∃ s', WAt w' B gw (N + 1) s') ∧ Fr (fun _ => False) w0 w'
/-- A pair is pushed. -/
theorem WAt.pushPair {w w1 : World} {B gw N : Nat} {s : WSt} {v' : Value} {x : GM} (h : WAt w B gw N s) (hv : Vec w1 B 125 2 v' (s.ms.length + 1) (pairCells s.ms ++ [.pointer (some ⟨x.gm, 0, none⟩), .pointer (some ⟨x.gr, 0, none⟩)]))
    (k : Fr (fun b => s.mv.ownBlock = some b) w w1) (hx : GMAt w1 B x) (hof : ∀ b, x.tv.ownBlock = some b ∨ x.hv.ownBlock = some b → s.nv.ownBlock ≠ some b) (hnew : ∀ y ∈ s.ms, ∀ b, y.own b → ¬ x.own b) :
    WAt (w1.setCell ⟨gw, 3, none⟩ v') B gw (N + 1) { s with ms := s.ms ++ [x], mv := v' } := by
  have hS := Only.vec h.mirs
  obtain ⟨c1, c2, c3, c4, c5, c6⟩ := h.count
  have h1 : Own w1 gw 79 [s.nv, s.tv, s.bv, s.mv, s.ov] := h.own.keepO k hS (by decide)
  have k2 : Fr (fun b => b = gw) w1 (w1.setCell ⟨gw, 3, none⟩ v') := (Fr.refl _ _).setCell _ _ (fun _ => rfl)
  have hS2 := Only.one h1
  have hms : ∀ y ∈ s.ms ++ [x], GMAt w1 B y := fun y hy => by
    rcases List.mem_append.1 hy with hy | hy
    · exact (h.mir y hy).tame' k hS tame_pair (by decide)
    · obtain rfl := List.mem_singleton.1 hy; exact hx
  refine ⟨h1.set 3 v', h.gwB, Vec.keepO (Vec.keepO h.now k hS (by decide)) k2 hS2 (by decide), (h.tree.keepO k hS (by decide)).keepO k2 hS2 (by decide), fun p hp => Vec.keepO (Vec.keepO (h.each p hp) k hS (by decide)) k2 hS2 (by decide), h.off, (h.bat.keepO k hS (by decide)).keepO k2 hS2 (by decide), ?_, fun y hy => (hms y hy).tame' k2 hS2 tame_world (by decide), fun y hy b hb => ?_, ?_, (h.out.keepO k hS (by decide)).keepO k2 hS2 (by decide), fun v hv => ((h.full v hv).keepO k hS (by decide)).keepO k2 hS2 (by decide), h.sizes, by dsimp only; omega, by dsimp only; omega, fun p hp => by have := c3 p hp; omega, by dsimp only; omega, by simp; omega, by dsimp only; omega⟩
  · show Vec _ B _ 2 v' (s.ms ++ [x]).length (pairCells (s.ms ++ [x]))
    rw [List.length_append, pairCells_snoc]; exact hv.keepO k2 hS2 (by decide)
  · rcases List.mem_append.1 hy with hy | hy
    · exact h.mof y hy b hb
    · obtain rfl := List.mem_singleton.1 hy; exact hof b hb
  · rw [List.pairwise_append]
    refine ⟨h.two, List.pairwise_singleton _ _, fun y hy z hz b hb => ?_⟩
    obtain rfl := List.mem_singleton.1 hz
    exact hnew y hy b hb
theorem elt_pair : Elt Tryz.prog 76 125 2 16 := Elt.mk Tryz.underlying76 (z := .agg #[.pointer none, .pointer none]) (by kernel_rfl) rfl
theorem pair_one (a b : Option Addr) : ∀ u ∈ [Value.pointer a, .pointer b], u.oneCell' = true := by
  intro u hu
  simp at hu
  rcases hu with rfl | rfl <;> rfl
/-- The files that were handed over, while the caller writes into them: their row, their data's rows. -/
structure Spoils (w : World) (lo hi g n : Nat) (vs : List Value) : Prop where
  row : ∃ xs : List Value, Own w g 37 xs ∧ n * 2 ≤ xs.length ∧ ∀ i (h : i < vs.length), xs[i * 2 + 1]? = some vs[i]
  data : ∀ v ∈ vs, RowU w v
  at_ : ∀ v ∈ vs, ∀ b, v.ownBlock = some b → lo ≤ b ∧ b < hi
  len : vs.length = n
theorem Spoils.spoil {w w1 : World} {lo hi g n : Nat} {vs : List Value} {v : Value} (h : Spoils w lo hi g n vs) (hv : RowU w v) (hf : Full w1 v) (k : Fr (fun b => v.ownBlock = some b) w w1) : Spoils w1 lo hi g n vs := by
  obtain ⟨xs, ho, hx⟩ := h.row
  exact ⟨⟨xs, ho.keepO k hv.only (by decide), hx⟩, fun u hu => (h.data u hu).turn hv hf k, h.at_, h.len⟩
theorem Spoils.name {w : World} {lo hi g n : Nat} {vs : List Value} (h : Spoils w lo hi g n vs) (i : Nat) (u : Value) : Spoils (w.setCell ⟨g, i * 2, none⟩ u) lo hi g n vs := by
  obtain ⟨xs, ho, hl, hx⟩ := h.row
  have k : Fr (fun b => b = g) w (w.setCell ⟨g, i * 2, none⟩ u) := (Fr.refl _ _).setCell _ _ (fun _ => rfl)
  refine ⟨⟨xs.set (i * 2) u, ho.set _ _, by simpa using hl, fun j hj => ?_⟩, fun v hv => (h.data v hv).keepO k (Only.one ho) (by decide), h.at_, h.len⟩
  rw [List.getElem?_set_ne (by omega)]
  exact hx j hj
set_option maxHeartbeats 4000000 in
theorem opened_any (w0 : World) (B gw N : Nat) (s : WSt) (lv : Value) (l : List Fil) (room : Int) (w : World) (hB : B = w0.heap.size) (hg : ErrType w0) (he : ErrForm w0) (hf : Fr (fun _ => False) w0 w) (h : WAt w B gw N s) (hl : (lv, l) ∈ s.trees) (hN : N < 65536) :
    Calls Tryz.prog 54 #[.pointer (some ⟨gw, 0, none⟩), lv, .int .i64 room] w (StepQ w0 B gw N) := by
  have hB1 : B ≤ w0.heap.size := by omega
  have hB2 : w0.heap.size ≤ B := by omega
  clear hB
  have H := Lib.hid h
  have HG := Lib.hid hg
  have HE := Lib.hid he
  have HF := Lib.hid hf
  have HLM := Lib.hid hl
  have hz0 := hf.size
  have HL := Lib.hid (show Refs w B lv l from h.each _ hl)
  have hsz : ∀ f ∈ l, f.name.length ≤ 100000 ∧ f.data.length ≤ 100000 := h.sizes.2.1 _ hl
  have HSZ := Lib.hid hsz
  have hll : l.length ≤ 65536 := by have := h.count.2.2.1 _ hl; dsimp only at this; omega
  obtain ⟨la, lc, rfl, -⟩ := Vec.shape HL.out
  clear h hg he hf hl hsz
  go_enter Tryz.func54, Tryz.ntmps54
  go_wp2_with fail
  refine (files_any _ l B w HL.out (fun f hf => by have := (HSZ.out f hf).2; omega) (by omega)).mono ?_
  rintro e w1 ⟨fv, m, rfl, hm, hla, hf1⟩
  obtain ⟨fa, fc, rfl, -⟩ := hla.vec.shape
  have HML := Lib.hid (show m.length = l.length by rw [← hm]; simp)
  have hml6 : m.length ≤ 65536 := by have := HML.out; omega
  have HM := Lib.hid hm
  have HLA := Lib.hid hla
  have HF1 := Lib.hid hf1
  have hfl : Fils w1 w.heap.size (.slice fa m.length fc) m := hla.fils (fun p hp => by have := (HSZ.out p.1 (by rw [← hm]; exact List.mem_map_of_mem hp)).2; omega)
  have hz1 := hf1.size
  have hpn := pnew_any _ m w.heap.size room w1 (HG.out.keep (HF.out.step hf1 (fun _ h _ => h)) id) hfl (fun p hp => by have := (HSZ.out p.1 (by rw [← hm]; exact List.mem_map_of_mem hp)).1; omega) (fun p hp => by have := (HSZ.out p.1 (by rw [← hm]; exact List.mem_map_of_mem hp)).2; omega) (by omega)
  rw [hm] at hpn
  have HPN := Lib.hid hpn
  clear hm hla hf1 hfl hpn
  go_wp2_with fail
  refine HPN.out.mono ?_
  rintro e w2 ⟨p, rfl, hf2, hnp⟩
  have HF2 := Lib.hid (HF1.out.step hf2 (fun _ h _ => h))
  have HF12 := Lib.hid hf2
  have HNP := Lib.hid hnp
  have hz2 := hf2.size
  clear hf2 hnp HPN
  obtain ⟨E, hE⟩ : ∃ E, newErr l room = E := ⟨_, rfl⟩
  have HEE := Lib.hid hE
  rw [hE]
  clear hE
  go_wp2_with fail
  refine (kept_any _ _ m l _ B w2 (HLA.out.keep0 HF12.out) (Vec.keep HL.out HF2.out (fun _ _ h => h)) HM.out (fun f hf => by have := (HSZ.out f hf).2; omega)).mono ?_
  rintro e w3 ⟨rfl, hf3⟩
  have HF3 := Lib.hid (HF2.out.step hf3 (fun _ h _ => h))
  have HF13 := Lib.hid (HF12.out.step hf3 (fun _ h _ => h))
  have HF23 := Lib.hid hf3
  have hz3 := hf3.size
  clear hf3
  go_wp2_with fail
  refine (rnew_any _ l B room w3 (Vec.keep HL.out HF3.out (fun _ _ h => h)) (fun f hf => by have := (HSZ.out f hf).1; omega) (fun f hf => by have := (HSZ.out f hf).2; omega)).mono ?_
  rintro e w4 ⟨q, rfl, hf4, hrn⟩
  have HRN := Lib.hid hrn
  have HF4 := Lib.hid (HF3.out.step hf4 (fun _ h _ => h))
  have HF14 := Lib.hid (HF13.out.step hf4 (fun _ h _ => h))
  have HF24 := Lib.hid (HF23.out.step hf4 (fun _ h _ => h))
  have hz4 := hf4.size
  rw [HEE.out]
  clear hf4 hrn
  by_cases hEn : E = .none
  · subst hEn
    obtain ⟨gm, gd, rfl, hgm, hgd, hmi⟩ := HNP.out.1 HEE.out
    obtain ⟨gr, rfl, hgr, hmr⟩ := HRN.out.1 HEE.out
    rw [show Err.none.k = 0 from rfl, show Err.none.name = ByteArray.empty from rfl]
    have HMI4 := Lib.hid (hmi.keep0 HF24.out)
    have HMR := Lib.hid hmr
    have hgml := Own.lt hmi.mir
    clear hmi hmr
    have hga : ∃ ga, 0 < m.length → fa = some ⟨ga, 0, none⟩ ∧ Spoils w4 w.heap.size w1.heap.size ga m.length (m.map (·.2)) := by
      rcases Nat.eq_zero_or_pos m.length with h0 | h0
      · exact ⟨0, fun h => by omega⟩
      · obtain ⟨ga, ca, ra, hqa, hBa, hoa, hla1, -⟩ := HLA.out.vec.row h0
        simp only [Value.slice.injEq, true_and] at hqa
        refine ⟨ga, fun _ => ⟨hqa.1, ⟨⟨_, hoa.keep HF14.out id, by rw [List.length_append, length_filCells]; omega, fun i hi => ?_⟩, fun v hv => ?_, fun v hv b hb => ?_, by simp⟩⟩⟩
        · have hi' : i < m.length := by simpa using hi
          rw [List.getElem?_append_left (by rw [length_filCells]; omega), (filCells_get m i hi').2, List.getElem_map]
        · obtain ⟨p, hp, rfl⟩ := List.mem_map.1 hv
          obtain ⟨g, e, hg, ho⟩ := HLA.out.data p hp
          have hd := (HSZ.out p.1 (by rw [← HM.out]; exact List.mem_map_of_mem hp)).2
          exact .inr ⟨g, p.1.data.length, p.1.data.length + 2, e, by omega, by unfold maxLen; omega, _, ho.keep HF14.out id, by simp [roomyCells]⟩
        · obtain ⟨p, hp, rfl⟩ := List.mem_map.1 hv
          obtain ⟨g, e, hg, ho⟩ := HLA.out.data p hp
          rw [e] at hb
          have : g = b := by simpa [Value.ownBlock] using hb
          subst this
          exact ⟨hg, ho.lt⟩
    obtain ⟨ga, hga⟩ := hga
    have HGA := Lib.hid hga
    clear hga hgml
    go_wp2_with fail
    go_loopw [15] (fun iv wr => ∃ k : Nat, k ≤ m.length ∧ iv = .int .i64 k ∧ Fr (fun b => w.heap.size ≤ b ∧ b < w1.heap.size) w4 wr ∧ (0 < m.length → Spoils wr w.heap.size w1.heap.size ga m.length (m.map (·.2)))) (fun iv _ => m.length - (intOf iv).toNat)
    case atStart => exact ⟨0, Nat.zero_le _, rfl, Fr.refl _ _, fun h => (HGA.out h).2⟩
    case round =>
      obtain ⟨k, hk, rfl, hfr, hsp⟩ := hrel
      have HFR := Lib.hid hfr
      have HSP := Lib.hid hsp
      have hwz := hfr.size
      clear hfr hsp
      by_cases hlt : k < m.length
      · obtain rfl := (HGA.out (by omega)).1
        have hsp := HSP.out (by omega)
        obtain ⟨xs, hox, hxl, hxc⟩ := hsp.row
        have hkl : k < (m.map (·.2)).length := by simpa using hlt
        have d1 := hox.cell (hxc k hkl)
        have hru := hsp.data _ (List.getElem_mem hkl)
        have hat := hsp.at_ _ (List.getElem_mem hkl)
        obtain ⟨dv, hdv⟩ : ∃ dv, (m.map (·.2))[k] = dv := ⟨_, rfl⟩
        rw [hdv] at d1 hru hat
        have HSP2 := Lib.hid hsp
        have HRU := Lib.hid hru
        have HAT := Lib.hid hat
        obtain ⟨da, dn, dc, rfl⟩ := hru.shape
        clear hox hxl hxc hkl hru hat hdv hsp
        go_wp2_with fail
        refine (spoilt_any _ wr HRU.out).mono ?_
        rintro e w5 ⟨rfl, hfu, hf5⟩
        have hsp5 := HSP2.out.spoil HRU.out hfu hf5
        obtain ⟨xs, hox, hxl, hxc⟩ := hsp5.row
        obtain ⟨u1, e1⟩ : ∃ u, w5.cell? ⟨ga, k * 2, none⟩ = some u := ⟨_, hox.cell (i := k * 2) (List.getElem?_eq_getElem (by omega))⟩
        have f1 := hox.free (k * 2) (by omega)
        have hgl := hox.lt
        have HSP5 := Lib.hid hsp5
        have HF5 := Lib.hid hf5
        have HXL := Lib.hid (show w.heap.size ≤ ga ∧ ga < w1.heap.size from by
          obtain ⟨ga', ca, ra, hqa, hBa, hoa, -⟩ := HLA.out.vec.row (by omega)
          simp only [Value.slice.injEq, Option.some.injEq, Addr.mk.injEq, and_true, true_and] at hqa
          obtain ⟨rfl, -⟩ := hqa
          exact ⟨hBa, hoa.lt⟩)
        clear hfu hf5 hsp5 hox hxl hxc
        go_wp2_with fail
        exact ⟨⟨k + 1, by omega, by go_num, (HFR.out.step HF5.out (fun b hb _ => HAT.out b hb)).setCell ⟨ga, k * 2, none⟩ _ (fun _ => HXL.out), fun _ => HSP5.out.name k _⟩, by simp [intOf]; omega⟩
      · obtain rfl : k = m.length := by omega
        have hf5 : Fr (fun _ => False) w wr := HF4.out.step HFR.out (fun b hb hl => by have := hb.1; omega)
        have HW5 := Lib.hid (H.out.keep0 hf5)
        have c3 := HW5.out.own.cell (i := 3) rfl
        have f3 := HW5.out.own.free 3 (by simp)
        have hx : GMAt wr B ⟨gm, gd, gr, .slice la l.length lc, .slice none 0 0, l, [], l, room, false⟩ :=
          ⟨(HMI4.out.low HFR.out (fun b hb => hb.2) hgm hgd).lift (by omega), Own.keep HMR.out HFR.out (fun hb => by have h2 : gr < w1.heap.size := hb.2; omega), Vec.keep HL.out hf5 (fun _ _ h => h), Vec.nil _ _ _ _, fun _ => rfl, fun h => (by cases h), by dsimp only; omega⟩
        have HX := Lib.hid hx
        have HF5 := Lib.hid hf5
        obtain ⟨sma, smc, hsm, -⟩ := HW5.out.mirs.shape
        have hn5 := HW5.out.count.2.2.2.2.1
        have hmr := HW5.out.mirs
        rw [hsm] at c3 hmr
        have HMRV := Lib.hid hmr
        have HSM := Lib.hid hsm
        clear hx hf5 hsm hmr
        go_wp2_with (at_builtin; go_must (refine wpList_append_vec rfl _ _ _ rfl B 125 2 16 elt_pair (HMRV.out.keep ((Fr.refl (fun _ => False) _).alloc _) (fun _ _ h => h)) rfl (m := 1) (Reads.new _ _ _ _ (by simp) _ _) rfl rfl (pair_one _ _) (by unfold maxLen; omega) (by omega) (by simp; omega) ?_); intro v9 w9 hv9 hf9 hd9 hn9; have hk9 := (((Fr.refl (fun _ => False) wr).alloc _).mono (S' := fun b => (Value.slice sma s.ms.length smc).ownBlock = some b) (fun _ h _ => h.elim)).step hf9 (fun _ h _ => h); have z9 := HW5.out.own.keepO hk9 (Only.vec HMRV.out) (by decide); have y9 := z9.cell (i := 3) rfl; have g9 := z9.free 3 (by simp); obtain ⟨a9, q9, hs9, -⟩ := hv9.shape; subst hs9; have HV9 := Lib.hid hv9; have HF9 := Lib.hid hf9; have HK9 := Lib.hid hk9; clear hv9 hf9 hd9 hn9 z9 hk9)
        go_ret
        have hp := WAt.pushPair (v' := .slice a9 (s.ms.length + 1) q9) HW5.out HV9.out (by rw [HSM.out]; exact HK9.out) ((HX.out.keep0 ((Fr.refl (fun _ => False) _).alloc _)).tame' HF9.out (Only.vec (HMRV.out.keep ((Fr.refl (fun _ => False) _).alloc _) (fun _ _ h => h))) tame_pair (by decide)) (fun b hb => by
          rcases hb with hb | hb
          · exact HW5.out.off _ HLM.out b hb
          · simp [Value.ownBlock] at hb) (fun y hy b hb hb2 => by
          obtain ⟨T, xs, ho, -⟩ := (H.out.mir y hy).only b hb
          have := ho.lt
          rcases hb2 with e | e | e <;> (dsimp only at e; omega))
        refine ⟨rfl, ⟨_, hp⟩, ?_⟩
        have h1 : Fr (fun _ => False) w0 wr := HF.out.step HF5.out (fun _ h _ => h)
        have h2 : Fr (fun _ => False) w0 w9 := h1.step HK9.out (fun b hb hl => by have := (HMRV.out.lt b hb).1; omega)
        exact h2.setCell ⟨gw, 3, none⟩ _ (fun h => by have := H.out.gwB; dsimp only at h; omega)
  · have hk := newErr_k (l := l) (room := room) (by rw [HEE.out]; exact hEn)
    rw [HEE.out] at hk
    obtain rfl := HNP.out.2 (by rw [HEE.out]; exact hEn)
    obtain ⟨EK, hEK⟩ : ∃ k, E.k = k := ⟨_, rfl⟩
    rw [hEK] at hk ⊢
    have z1 : (EK != 0) = true := by simpa using hk
    have HNB := Lib.hid (HRN.out.2 (by rw [HEE.out]; exact hEn))
    clear hEK hEn hk
    go_wp2_with fail
    go_ret
    exact ⟨rfl, ⟨s, (H.out.keep0 HF4.out).more⟩, HF.out.step HF4.out (fun _ h _ => h)⟩
end Go.Proofs.YtlcdgbhigfgehabGreatDoor
/- listed: Files, on both sides; the caller writes into what came out. -/
namespace Go.Proofs.YtlcdgbhigfgehabGreatDoor
open Go.RowKit
set_option maxRecDepth 100000

/-- The blocks that Files and the caller write into. -/
def LstS (gm gw : Nat) (ov : Value) (b : Nat) : Prop := b = gm ∨ b = gw ∨ ov.ownBlock = some b
def lstType (t : TypeId) : Prop := t = 99 ∨ t = 79 ∨ t = 25
theorem WAt.lstOnly {w : World} {B gw N : Nat} {s : WSt} (h : WAt w B gw N s) (i : Nat) (hi : i < s.ms.length) : Only w (LstS s.ms[i].gm gw s.ov) lstType := fun b hb => by
  rcases hb with rfl | rfl | hb
  · exact ⟨_, _, (h.mir _ (List.getElem_mem hi)).mir.mir, .inl rfl⟩
  · exact ⟨_, _, h.own, .inr (.inl rfl)⟩
  · obtain ⟨T, xs, ho, e⟩ := Only.vec h.out b hb
    exact ⟨T, xs, ho, .inr (.inr e)⟩
/-- What came out is the caller's. -/
theorem WAt.lst {w w1 : World} {B gw N : Nat} {s : WSt} (h : WAt w B gw N s) (i : Nat) (hi : i < s.ms.length) (k : Fr (LstS s.ms[i].gm gw s.ov) w w1) {ov' : Value} {news : List Value} (hn : news.length ≤ 8)
    (ho : Own w1 gw 79 [s.nv, s.tv, s.bv, s.mv, ov']) (hm : MirC w1 s.ms[i].gm s.ms[i].gd 0 s.ms[i].room s.ms[i].down) (hv : Vec w1 B 25 1 ov' (s.out ++ news).length (s.out ++ news)) (hf : ∀ v ∈ news, Full w1 v) :
    WAt w1 B gw (N + 1) { s with out := s.out ++ news, ov := ov' } := by
  have hS := h.lstOnly i hi
  obtain ⟨c1, c2, c3, c4, c5, c6⟩ := h.count
  refine ⟨ho, h.gwB, Vec.keepO h.now k hS (by unfold lstType; decide), h.tree.keepO k hS (by unfold lstType; decide), fun p hp => Vec.keepO (h.each p hp) k hS (by unfold lstType; decide), h.off, h.bat.keepO k hS (by unfold lstType; decide), h.mirs.keepO k hS (by unfold lstType; decide), fun y hy => ?_, h.mof, h.two, hv, fun v hv' => ?_, h.sizes, by dsimp only; omega, by dsimp only; omega, fun p hp => by have := c3 p hp; omega, by dsimp only; omega, by dsimp only; omega, by simp; omega⟩
  · have hy0 := h.mir y hy
    have hx0 := h.mir _ (List.getElem_mem hi)
    have hgd : ∀ z : GM, GMAt w B z → ¬ LstS s.ms[i].gm gw s.ov z.gd := fun z hz hb => by
      obtain ⟨ys, od⟩ := hz.mir.disk.own
      obtain ⟨T, xs, o2, e⟩ := hS _ hb
      have := own_type o2 od
      subst this
      exact absurd e (by unfold lstType; decide)
    have hgr : ∀ z : GM, GMAt w B z → ¬ LstS s.ms[i].gm gw s.ov z.gr := fun z hz hb => by
      obtain ⟨T, xs, o2, e⟩ := hS _ hb
      have := own_type o2 hz.ref
      subst this
      exact absurd e (by unfold lstType; decide)
    have hdisk : ∀ z : GM, GMAt w B z → DskT w1 B z.gd z.pt (!z.down) := fun z hz => by
      obtain ⟨live, x, y, s1, c, m, h3, h4, h5, h6⟩ := hz.mir.disk
      exact ⟨live, x, y, s1, c, m, h3.keep k (hgd z hz), h4.keepO k hS (by unfold lstType; decide) (by unfold lstType; decide), h5, h6⟩
    have hmir : MirC w1 y.gm y.gd 0 y.room y.down := by
      obtain ⟨j, hj, rfl⟩ := List.getElem_of_mem hy
      by_cases hij : i = j
      · subst hij; exact hm
      · refine Own.keep hy0.mir.mir k (fun hb => ?_)
        have h2 := List.pairwise_iff_getElem.1 h.two
        have hne : s.ms[j].gm ≠ s.ms[i].gm := fun e => by
          rcases Nat.lt_or_gt_of_ne hij with hlt | hlt
          · exact h2 i j hi hj hlt _ (.inl rfl) (.inl e.symm)
          · exact h2 j i hj hi hlt _ (.inl rfl) (.inl e)
        rcases hb with e | e | e
        · exact hne e
        · exact own_ne hy0.mir.mir h.own (by decide) e
        · exact (h.out.apartT hy0.mir.mir (by decide)) e
    exact ⟨⟨hmir, hdisk y hy0, hy0.mir.tree, hy0.mir.rm⟩, Own.keep hy0.ref k (hgr y hy0), Vec.keepO hy0.t k hS (by unfold lstType; decide), Vec.keepO hy0.h k hS (by unfold lstType; decide), hy0.same, hy0.next, hy0.lo⟩
  · rcases List.mem_append.1 hv' with hv' | hv'
    · exact (h.full v hv').keepO k hS (by unfold lstType; decide)
    · exact hf v hv'
theorem elt_out : Elt Tryz.prog 77 25 1 24 := Elt.mk Tryz.underlying77 (z := .slice none 0 0) (by kernel_rfl) rfl
theorem slice_one (a : Option Addr) (n c : Nat) : ∀ u ∈ [Value.slice a n c], u.oneCell' = true := by
  intro u hu
  simp at hu
  subst hu; rfl
/-- While the caller takes the data, one file's behind the other: k are taken, kf are written into. -/
structure LInv (w wr : World) (B gw : Nat) (s : WSt) (x : GM) (v : Value) (m : List (Fil × Value)) (k kf : Nat) (ov : Value) : Prop where
  fr : Fr (LstS x.gm gw s.ov) w wr
  own : Own wr gw 79 [s.nv, s.tv, s.bv, s.mv, ov]
  mir : MirC wr x.gm x.gd 0 x.room x.down
  vec : Vec wr B 25 1 ov (s.out ++ (m.take k).map (·.2)).length (s.out ++ (m.take k).map (·.2))
  blk : ∀ b, ov.ownBlock = some b → s.ov.ownBlock = some b ∨ w.heap.size ≤ b
  full : ∀ p ∈ m.take kf, Full wr p.2
  row : Vec wr w.heap.size 37 2 v m.length (filCells m)
  data : ∀ p ∈ m, RowU wr p.2
  two : m.Pairwise fun p q => ∀ k, p.2.ownBlock = some k → q.2.ownBlock ≠ some k
  at_ : ∀ p ∈ m, ∀ b, p.2.ownBlock = some b → w.heap.size ≤ b
section
variable {w wr w1 : World} {B gw : Nat} {s : WSt} {x : GM} {v : Value} {m : List (Fil × Value)} {k kf : Nat} {ov : Value}
theorem LInv.spoil (h : LInv w wr B gw s x v m k k ov) (hk : k < m.length) (hf : Full w1 m[k].2) (kk : Fr (fun b => (m[k].2).ownBlock = some b) wr w1) : LInv w w1 B gw s x v m k (k + 1) ov := by
  have hm := List.getElem_mem hk
  have hS := (h.data _ hm).only
  refine ⟨h.fr.step kk (fun b hb hl => by have := h.at_ _ hm b hb; omega), h.own.keepO kk hS (by decide), Own.keepO h.mir kk hS (by decide), h.vec.keepO kk hS (by decide), h.blk, fun p hp => ?_, h.row.keepO kk hS (by decide), fun p hp => (h.data p hp).turn (h.data _ hm) hf kk, h.two, h.at_⟩
  rw [List.take_succ_eq_append_getElem hk] at hp
  rcases List.mem_append.1 hp with hp | hp
  · refine (h.full p hp).keep kk (fun b hb hb2 => ?_)
    obtain ⟨j, hj, rfl⟩ := List.getElem_of_mem hp
    have hjk : j < k := by simpa using Nat.lt_of_lt_of_le hj (List.length_take_le _ _)
    have h2 := List.pairwise_iff_getElem.1 h.two j k (by omega) hk hjk
    rw [List.getElem_take] at hb
    exact h2 b hb hb2
  · obtain rfl := List.mem_singleton.1 hp; exact hf
theorem LInv.quiet (h : LInv w wr B gw s x v m k kf ov) (kk : Fr (fun _ => False) wr w1) : LInv w w1 B gw s x v m k kf ov :=
  ⟨h.fr.step kk (fun _ h _ => h.elim), h.own.keep kk id, Own.keep h.mir kk id, h.vec.keep kk (fun _ _ h => h), h.blk, fun p hp => (h.full p hp).keep kk (fun _ _ h => h), h.row.keep kk (fun _ _ h => h), fun p hp => (h.data p hp).keep kk (fun _ _ h => h), h.two, h.at_⟩
theorem LInv.push (h : LInv w wr B gw s x v m k (k + 1) ov) (hk : k < m.length) {ov' : Value} (hgw : gw < w.heap.size) (hv : Vec w1 B 25 1 ov' ((s.out ++ (m.take k).map (·.2)).length + 1) (s.out ++ (m.take k).map (·.2) ++ [m[k].2])) (kk : Fr (fun b => ov.ownBlock = some b) wr w1)
    (hd : ov'.ownBlock = ov.ownBlock ∨ ∃ g, ov'.ownBlock = some g ∧ wr.heap.size ≤ g) : LInv w (w1.setCell ⟨gw, 4, none⟩ ov') B gw s x v m (k + 1) (k + 1) ov' := by
  have hS := Only.vec h.vec
  have ho := h.own.keepO kk hS (by decide)
  have k2 : Fr (fun b => b = gw) w1 (w1.setCell ⟨gw, 4, none⟩ ov') := (Fr.refl _ _).setCell _ _ (fun _ => rfl)
  have hS2 := Only.one ho
  have e : s.out ++ (m.take (k + 1)).map (·.2) = s.out ++ (m.take k).map (·.2) ++ [m[k].2] := by rw [List.take_succ_eq_append_getElem hk, List.map_append, List.append_assoc]; rfl
  refine ⟨(h.fr.step kk (fun b hb hl => ?_)).step k2 (fun b hb _ => .inr (.inl hb)), ho.set 4 ov', Own.keepO (Own.keepO h.mir kk hS (by decide)) k2 hS2 (by decide), ?_, fun b hb => ?_, fun p hp => ((h.full p hp).keepO kk hS (by decide)).keepO k2 hS2 (by decide), (h.row.keepO kk hS (by decide)).keepO k2 hS2 (by decide), fun p hp => ((h.data p hp).keepO kk hS (by decide)).keepO k2 hS2 (by decide), h.two, h.at_⟩
  · rcases h.blk b hb with h1 | h1
    · exact .inr (.inr h1)
    · omega
  · rw [e, List.length_append, List.length_singleton]; exact hv.keepO k2 hS2 (by decide)
  · rcases hd with hd | ⟨g, hg, hz⟩
    · exact h.blk b (hd ▸ hb)
    · rw [hg] at hb
      cases hb
      exact .inr (Nat.le_trans h.fr.size hz)
/-- All taken: what is left to do is the world's. -/
theorem LInv.done (h : LInv w wr B gw s x v m m.length m.length ov) {g : Nat} (ho : ∃ xs, Own wr g 37 xs) (hg : w.heap.size ≤ g) (kk : Fr (fun b => b = g) wr w1) :
    Fr (LstS x.gm gw s.ov) w w1 ∧ Own w1 gw 79 [s.nv, s.tv, s.bv, s.mv, ov] ∧ MirC w1 x.gm x.gd 0 x.room x.down ∧ Vec w1 B 25 1 ov (s.out ++ m.map (·.2)).length (s.out ++ m.map (·.2)) ∧ ∀ u ∈ m.map (·.2), Full w1 u := by
  obtain ⟨xs, ho⟩ := ho
  have hS := Only.one ho
  have hv := h.vec
  rw [List.take_length] at hv
  refine ⟨h.fr.step kk (fun b hb hl => by omega), h.own.keepO kk hS (by decide), Own.keepO h.mir kk hS (by decide), hv.keepO kk hS (by decide), fun u hu => ?_⟩
  obtain ⟨p, hp, rfl⟩ := List.mem_map.1 hu
  exact (h.full p (by rw [List.take_length]; exact hp)).keepO kk hS (by decide)
end
set_option maxHeartbeats 4000000 in
theorem listed_any (w0 : World) (B gw N : Nat) (s : WSt) (i : Nat) (hi : i < s.ms.length) (w : World) (hB : B = w0.heap.size) (hg : ErrType w0) (he : ErrForm w0) (hf : Fr (fun _ => False) w0 w) (h : WAt w B gw N s) (hN : N < 65536) :
    Calls Tryz.prog 57 #[.pointer (some ⟨gw, 0, none⟩), .agg #[.pointer (some ⟨s.ms[i].gm, 0, none⟩), .pointer (some ⟨s.ms[i].gr, 0, none⟩)]] w (StepQ w0 B gw N) := by
  have HX0 := Lib.hid (h.mir _ (List.getElem_mem hi))
  have HCL := Lib.hid (HX0.out.clear hB hg he)
  have HONLY := Lib.hid (h.lstOnly i hi)
  have HMS := Lib.hid (fun w1 => h.mirStep (w1 := w1) i hi)
  have HLST := Lib.hid (fun w1 ov' news => h.lst (w1 := w1) (ov' := ov') (news := news) i hi)
  obtain ⟨x, hx⟩ : ∃ x, s.ms[i] = x := ⟨_, rfl⟩
  rw [hx] at HX0 HCL HONLY HMS HLST ⊢
  have hB1 : B ≤ w0.heap.size := by omega
  have hB2 : w0.heap.size ≤ B := by omega
  have H := Lib.hid h
  have HG := Lib.hid hg
  have HF := Lib.hid hf
  have hz0 := hf.size
  have hlo := HX0.out.lo
  clear hB h hg he hf hx
  have hrr : x.gr ≠ x.gm ∧ x.gr ≠ x.gd := by
    obtain ⟨xs, ho⟩ := HX0.out.mir.disk.own
    exact ⟨own_ne HX0.out.ref HX0.out.mir.mir (by decide), own_ne HX0.out.ref ho (by decide)⟩
  go_enter Tryz.func57, Tryz.ntmps57
  go_wp2_with fail
  have hA : Fr (fun _ => False) w (w.alloc (.cells #[.pointer (some ⟨x.gm, 0, none⟩), .pointer (some ⟨x.gr, 0, none⟩)] 125)) := (Fr.refl _ _).alloc _
  have HP := Lib.hid (Own.alloc w #[.pointer (some ⟨x.gm, 0, none⟩), .pointer (some ⟨x.gr, 0, none⟩)] 125)
  have HA := Lib.hid hA
  obtain ⟨gp, hgp⟩ : ∃ gp, w.heap.size = gp := ⟨_, rfl⟩
  have HGP := Lib.hid hgp
  have hzA := hA.size
  have hgpA := HP.out.lt
  rw [hgp] at HP hgpA ⊢
  clear hA hgp
  generalize w.alloc (.cells #[.pointer (some ⟨x.gm, 0, none⟩), .pointer (some ⟨x.gr, 0, none⟩)] 125) = wA at *
  have HXA := Lib.hid (HX0.out.keep0 HA.out)
  cases hd : x.down with
  | true =>
    have hmir := HXA.out.mir
    have href := HXA.out.ref
    rw [hd] at hmir href
    have HFD := Lib.hid (pfiles_down x.gm x.gd B x.pt x.room wA (HG.out.keep (HF.out.step HA.out (fun _ h _ => h)) id) HCL.out.mt hmir)
    have HREF := Lib.hid href
    have HD := Lib.hid hd
    clear hmir href hd
    refine HFD.out.mono ?_
    rintro e w1 ⟨rfl, hmi, hf1⟩
    have hS : Only wA (fun b => b = x.gm) mirType := fun b hb => HXA.out.only b (.inl hb)
    have hp1 := HP.out.keepO hf1 hS (by unfold mirType; decide)
    have p1 := hp1.cell (i := 1) rfl
    have hr1 : RMirC w1 x.gr x.tv x.room true x.hv := Own.keep HREF.out hf1 hrr.1
    have r2 := Own.cell hr1 (i := 2) rfl
    have hsm : SameM w B x w1 := ⟨x, rfl, rfl, rfl, ⟨by rw [HD.out]; exact hmi, by rw [HD.out]; exact hr1, Vec.keepO HXA.out.t hf1 hS (by unfold mirType; decide), Vec.keepO HXA.out.h hf1 hS (by unfold mirType; decide), HX0.out.same, HX0.out.next, hlo⟩, fun b hb => by rcases hb with h | h; exact .inl h; exact .inr (.inl h), (HA.out.mono (fun _ h _ => h.elim)).step hf1 (fun b hb _ => .inl hb)⟩
    have HSM := Lib.hid hsm
    have HF1 := Lib.hid (show Fr (fun _ => False) w w1 ∨ True from .inr trivial)
    have hnil := fun (W : World) (a : Option Addr) (m c : Nat) => Lib.run_eql_slice_nil (P := Tryz.prog) W 23 37 a m c 0 0 Tryz.underlying23
    have HFR := Lib.hid (show Fr (fun _ => False) w0 w1 from HF.out.step ((HA.out.mono (S' := fun b => b = x.gm) (fun _ h _ => h.elim)).step hf1 (fun _ h _ => h)) (fun b hb hl => by omega))
    clear hmi hf1 hS hp1 hr1 hsm HF1
    go_wp2_with fail
    go_ret
    obtain ⟨s', hs'⟩ := HMS.out w1 HSM.out
    exact ⟨rfl, ⟨s', hs'.more⟩, HFR.out⟩
  | false =>
    have hmir := HXA.out.mir
    have href := HXA.out.ref
    have hsame := HX0.out.same hd
    rw [hd] at hmir href
    have HFU := Lib.hid (pfiles_up x.gm x.gd B x.pt x.room wA hmir)
    have HREF := Lib.hid href
    have HD := Lib.hid hd
    have HTREE := Lib.hid hmir.tree
    clear hmir href hd
    refine HFU.out.mono ?_
    rintro e w1 ⟨v, m, rfl, hm, hk, hmi, hf1⟩
    have hm8 : m.length ≤ 8 := (tree_data hm HTREE.out).2.2
    obtain ⟨va, vc, rfl, -⟩ := hk.vec.shape
    have hS : Only wA (fun b => b = x.gm) mirType := fun b hb => HXA.out.only b (.inl hb)
    have HP1 := Lib.hid (HP.out.keepO hf1 hS (by unfold mirType; decide))
    have hr1 : RMirC w1 x.gr x.tv x.room false x.hv := Own.keep HREF.out hf1 hrr.1
    have ht : Refs w1 B x.tv (m.map (·.1)) := by rw [hm, ← hsame]; exact Vec.keepO HXA.out.t hf1 hS (by unfold mirType; decide)
    obtain ⟨ta, tc, htv, -⟩ := Vec.shape ht
    rw [List.length_map] at htv
    rw [htv] at hr1 ht
    have HT := Lib.hid ht
    have HTV := Lib.hid htv
    have HK := Lib.hid hk
    have HMI := Lib.hid hmi
    have HR1 := Lib.hid hr1
    have HF1 := Lib.hid (show Fr (fun b => b = x.gm) w w1 from (HA.out.mono (S' := fun b => b = x.gm) (fun _ h _ => h.elim)).step hf1 (fun _ h _ => h))
    have hz1 := HF1.out.size
    have p1 := HP1.out.cell (i := 1) rfl
    have r2 := Own.cell hr1 (i := 2) rfl
    have r0 := Own.cell hr1 (i := 0) rfl
    clear hm hk hmi hf1 hS hr1 ht htv hsame HXA HFU HREF HA HP
    have z0 : ((m.length : Int) != (m.length : Int)) = false := by simp
    go_wp2_with fail
    clear p1 r2 r0
    go_loopw [7] (fun iv wr => ∃ k : Nat, k ≤ m.length ∧ iv = .int .i64 k ∧ ∃ n, wr = w1.drewN n) (fun iv _ => m.length - (intOf iv).toNat)
    case atStart => exact ⟨0, Nat.zero_le _, rfl, 0, rfl⟩
    case round =>
      obtain ⟨k, hk, rfl, hdr⟩ := hrel
      have HDR := Lib.hid hdr
      have hD1 : Fr (fun _ => False) w1 wr := Fr.of_drew hdr
      clear hdr
      by_cases hlt : k < m.length
      · have p1 := (HP1.out.keep hD1 id).cell (i := 1) rfl
        have r0 := Own.cell (Own.keep HR1.out hD1 id) (i := 0) rfl
        have hkr := HK.out.keep0 hD1
        obtain ⟨g, cap, hq, e0, e1, -⟩ := hkr.fils.get k hlt
        simp only [Value.slice.injEq, true_and] at hq
        obtain ⟨rfl, rfl⟩ := hq
        have hlt2 : k < (m.map (·.1)).length := by simpa using hlt
        have hrg := Refs.get (w := wr) (B := B) (l := m.map (·.1)) (v := .slice ta (m.map (·.1)).length tc) (by rw [List.length_map]; exact Vec.keep HT.out hD1 (fun _ _ h => h)) k hlt2
        obtain ⟨g2, cap2, hq2, f0, f1, -⟩ := hrg
        simp only [Value.slice.injEq, true_and] at hq2
        obtain ⟨rfl, rfl⟩ := hq2
        rw [List.getElem_map] at f0 f1
        have hib := hkr.fils.data m[k] (List.getElem_mem _)
        obtain ⟨da, dc, hdv, -⟩ := hib.shape
        rw [hdv] at e1 hib
        have hcv := run_string_ofN (P := Tryz.prog) wr 25 9 5 _ _ Tryz.underlying25 Tryz.underlying5 Tryz.underlying9 hib
        obtain ⟨nmB, hnm⟩ : ∃ s : ByteArray, (⟨m[k].1.name.toArray⟩ : ByteArray) = s := ⟨_, rfl⟩
        obtain ⟨dtB, hdt⟩ : ∃ s : ByteArray, (⟨m[k].1.data.toArray⟩ : ByteArray) = s := ⟨_, rfl⟩
        rw [hnm] at e0 f0
        rw [hdt] at f1 hcv
        generalize m[k].1.data.length = dl at *
        clear hib hdv hnm hdt hlt2 hkr hD1
        go_wp2_with fail
        go_quiet (fail)
        go_wp2_with fail
        exact ⟨⟨k + 1, by omega, by go_num, drew_step HDR.out ⟨_, rfl⟩⟩, by simp [intOf]; omega⟩
      · obtain rfl : k = m.length := by omega
        clear hk
        have HK2 := Lib.hid (HK.out.keep0 hD1)
        have HF2 := Lib.hid (HF1.out.step hD1 (fun _ h _ => h.elim))
        have HMI2 := Lib.hid (HMI.out.keep0 hD1)
        have hz2 := hD1.size
        clear hD1
        obtain ⟨w2, hw2⟩ : ∃ w2, w2 = wr := ⟨_, rfl⟩
        subst hw2
        have hinv : LInv w w2 B gw s x (.slice va m.length vc) m 0 0 s.ov :=
          ⟨HF2.out.mono (fun b hb _ => .inl hb), H.out.own.keep HF2.out (fun e => own_ne H.out.own HX0.out.mir.mir (by decide) e), by rw [HD.out]; exact HMI2.out.mir, by
            rw [List.take_zero, List.map_nil, List.append_nil]; exact H.out.out.keep HF2.out (fun b hb e => H.out.out.apartT HX0.out.mir.mir (by decide) (e ▸ hb)),
            fun b hb => .inl hb, fun p hp => by simp at hp, HK2.out.vec.mono (by omega), fun p hp => (HK2.out.data p hp).rowU, HK2.out.two, fun p hp b hb => by have := ((HK2.out.data p hp).lt b hb).1; omega⟩
        have HINV := Lib.hid hinv
        have hgw := H.out.own.lt
        have hn5 := H.out.count.2.2.2.2.2
        have hob := H.out.out.len
        clear hinv
        go_wp2_with fail
        go_loopw [8, 9] (fun iv _o wr => ∃ (k : Nat) (ov : Value), k ≤ m.length ∧ iv = .int .i64 k ∧ LInv w wr B gw s x (.slice va m.length vc) m k k ov) (fun iv _ _ => m.length - (intOf iv).toNat)
        case atStart => exact ⟨0, _, Nat.zero_le _, rfl, HINV.out⟩
        case round =>
          obtain ⟨k, ov, hk, rfl, hinv⟩ := hrel
          have HI := Lib.hid hinv
          clear hinv
          by_cases hlt : k < m.length
          · obtain ⟨gl, cl, rl, hql, hBl, hol, hll, -⟩ := HI.out.row.row (by omega)
            simp only [Value.slice.injEq, true_and] at hql
            obtain ⟨rfl, rfl⟩ := hql
            have d1 := hol.cell (i := k * 2 + 1) (by rw [List.getElem?_append_left (by rw [length_filCells]; omega), (filCells_get m k hlt).2])
            have hru := HI.out.data _ (List.getElem_mem hlt)
            have HSPO := Lib.hid (fun w1 => HI.out.spoil (w1 := w1) hlt)
            have HPUSH := Lib.hid (fun w5 ov' (h : LInv w w5 B gw s x (.slice (some ⟨gl, 0, none⟩) m.length vc) m k (k + 1) ov) w6 => h.push (w1 := w6) (ov' := ov') hlt hgw)
            obtain ⟨dv, hdv⟩ : ∃ dv, m[k].2 = dv := ⟨_, rfl⟩
            have HDV := Lib.hid hdv
            rw [hdv] at d1 hru HSPO HPUSH
            obtain ⟨da, dn, dc, hdq⟩ := hru.shape
            subst hdq
            have HRU := Lib.hid hru
            clear hol hll hru hdv
            go_wp2_with fail
            refine (spoilt_any _ wr HRU.out).mono ?_
            rintro e w5 ⟨rfl, hfu, hf5⟩
            have hI5 := HSPO.out w5 hfu hf5
            have HI5 := Lib.hid hI5
            obtain ⟨L, hL⟩ : ∃ L, (s.out ++ (m.take k).map (·.2)).length = L := ⟨_, rfl⟩
            have hLb : L ≤ 600000 := by rw [← hL, List.length_append, List.length_map]; have := List.length_take_le k m; omega
            have HLL := Lib.hid hL
            have hvec := hI5.vec
            rw [hL] at hvec
            obtain ⟨oa, oc, rfl, -⟩ := hvec.shape
            have HVEC := Lib.hid hvec
            obtain ⟨gl2, cl2, rl2, hql2, hBl2, hol2, -⟩ := hI5.row.row (by omega)
            simp only [Value.slice.injEq, Option.some.injEq, Addr.mk.injEq, and_true, true_and] at hql2
            obtain ⟨rfl, rfl⟩ := hql2
            have hd5 : w5.cell? ⟨gl, k * 2 + 1, none⟩ = some (.slice da dn dc) := hol2.cell (by rw [List.getElem?_append_left (by rw [length_filCells]; omega), (filCells_get m k hlt).2, HDV.out])
            have x1 : w5.drew.cell? ⟨gl, k * 2 + 1, none⟩ = some (.slice da dn dc) := by simpa using hd5
            have o1 := (hI5.own.keep (Fr.drew (Fr.refl (fun _ => False) w5)) id).cell (i := 4) rfl
            have hIA : Fr (fun _ => False) w5 (w5.alloc (.cells #[.slice da dn dc] 25)).drew := ((Fr.refl _ _).alloc _).drew
            have o2 := (hI5.own.keep hIA id).cell (i := 4) rfl
            have hwz5 := hI5.fr.size
            clear hfu hf5 hI5 hvec hL hol2 hd5 hIA
            go_upto_region 15 with fail
            go_region_law
              (first
                | (rw [if_pos (by rfl)]; refine wp_append_vec (.tmp 96) (.tmp 102) 77 rfl B 25 1 24 elt_out (v := .slice oa L oc) (n := L) (xs := s.out ++ (m.take k).map (·.2)) (HVEC.out.keep (by first | exact (Fr.refl (fun _ => False) _).drew.alloc _ | exact ((Fr.refl (fun _ => False) _).alloc _).drew) (fun _ _ h => h)) rfl (m := 1) (Reads.new _ _ _ _ (by simp) _ _) rfl rfl (slice_one _ _ _) (by unfold maxLen; omega) (by omega) (by simp; omega) ?_; intro v6 w6 hv6 hf6 hd6; obtain ⟨a6, c6, hs6, -⟩ := hv6.shape; subst hs6; have HV6 := Lib.hid hv6; have HF6 := Lib.hid hf6; have HD6 := Lib.hid hd6; clear hv6 hf6 hd6))
            all_goals
              have hk6 : Fr (fun b => (Value.slice oa L oc).ownBlock = some b) w5 w6 := by
                first
                  | exact (((Fr.refl (fun _ => False) w5).drew.alloc _).mono (fun _ h _ => h.elim)).step HF6.out (fun _ h _ => h)
                  | exact (((Fr.refl (fun _ => False) w5).alloc _).drew.mono (fun _ h _ => h.elim)).step HF6.out (fun _ h _ => h)
              have hd6 : (Value.slice a6 (L + 1) c6).ownBlock = (Value.slice oa L oc).ownBlock ∨ ∃ g, (Value.slice a6 (L + 1) c6).ownBlock = some g ∧ w5.heap.size ≤ g := by
                rcases HD6.out with h | ⟨g, h, hz⟩
                · exact .inl h
                · exact .inr ⟨g, h, by simp at hz; omega⟩
              have z6 := HI5.out.own.keepO hk6 (Only.vec HVEC.out) (by decide)
              have y6 := z6.cell (i := 4) rfl
              have g6 := z6.free 4 (by simp)
              have hp6 := HPUSH.out w5 (.slice a6 (L + 1) c6) HI5.out w6 (by rw [HLL.out]; exact HV6.out) hk6 hd6
              have HP6 := Lib.hid hp6
              clear hk6 hd6 z6 hp6 x1 o1 o2
              go_wp2_with fail
              exact ⟨⟨k + 1, _, by omega, by go_num, HP6.out⟩, by simp [intOf]; omega⟩
          · obtain rfl : k = m.length := by omega
            have hfin : ∀ wE, (Fr (LstS x.gm gw s.ov) w wE ∧ Own wE gw 79 [s.nv, s.tv, s.bv, s.mv, ov] ∧ MirC wE x.gm x.gd 0 x.room x.down ∧ Vec wE B 25 1 ov (s.out ++ m.map (·.2)).length (s.out ++ m.map (·.2)) ∧ ∀ u ∈ m.map (·.2), Full wE u) → StepQ w0 B gw N (.returned (.bool true)) wE := fun wE ⟨f1, f2, f3, f4, f5⟩ => by
              refine ⟨rfl, ⟨_, HLST.out wE ov (m.map (·.2)) f1 (by rw [List.length_map]; exact hm8) f2 f3 f4 f5⟩, HF.out.step f1 (fun b hb hl => ?_)⟩
              rcases hb with rfl | rfl | hb
              · omega
              · have := H.out.gwB; omega
              · have := (H.out.out.lt b hb).1; omega
            have HFIN := Lib.hid hfin
            clear hfin
            rcases HI.out.row.cases with ⟨hq, h0, -⟩ | ⟨gl, cl, rl, hq, hBl, hol, hll, hlc, hlm⟩
            · simp only [Value.slice.injEq] at hq
              obtain ⟨rfl, h0', rfl⟩ := hq
              have z5 : decide ((m.length : Int) < (m.length : Int)) = false := by simp
              have z6 : decide ((0 : Int) < (0 : Int)) = false := by simp
              go_wp2_with fail
              refine wp_loop_rounds 1 ?_
              rw [rounds_succ]
              go_wp2_with fail
              go_ret
              have hv := HI.out.vec
              rw [List.take_length] at hv
              exact HFIN.out wr ⟨HI.out.fr, HI.out.own, HI.out.mir, hv, fun u hu => by
                obtain ⟨p, hp, rfl⟩ := List.mem_map.1 hu
                exact HI.out.full p (by rw [List.take_length]; exact hp)⟩
            · simp only [Value.slice.injEq, true_and] at hq
              obtain ⟨rfl, rfl⟩ := hq
              have HDONE := Lib.hid (fun w1 => HI.out.done (w1 := w1) (g := gl) ⟨_, hol⟩ hBl)
              have HOL := Lib.hid hol
              have HLL := Lib.hid hll
              unfold maxLen at hlm
              obtain ⟨w3, hw3⟩ : ∃ w3, w3 = wr := ⟨_, rfl⟩
              subst hw3
              clear hol hll
              go_wp2_with fail
              go_loopw [11] (fun iv wr => ∃ (j : Nat) (ys : List Value), j ≤ vc ∧ iv = .int .i64 j ∧ Own wr gl 37 ys ∧ ys.length = vc * 2 ∧ Fr (fun b => b = gl) w3 wr) (fun iv _ => vc - (intOf iv).toNat)
              case atStart => exact ⟨0, _, Nat.zero_le _, rfl, HOL.out, HLL.out, Fr.refl _ _⟩
              case round =>
                obtain ⟨j, ys, hj, rfl, hoy, hyl, hfr⟩ := hrel
                have HOY := Lib.hid hoy
                have HYL := Lib.hid hyl
                have HFR := Lib.hid hfr
                by_cases hlt : j < vc
                · have c0 := hoy.cell (i := j * 2) (List.getElem?_eq_getElem (by omega))
                  have c1 := hoy.cell (i := j * 2 + 1) (List.getElem?_eq_getElem (by omega))
                  have g0 := hoy.free (j * 2) (by omega)
                  have g1 := hoy.free (j * 2 + 1) (by omega)
                  obtain ⟨u0, hu0⟩ : ∃ u, ys[j * 2]'(by omega) = u := ⟨_, rfl⟩
                  obtain ⟨u1, hu1⟩ : ∃ u, ys[j * 2 + 1]'(by omega) = u := ⟨_, rfl⟩
                  rw [hu0] at c0
                  rw [hu1] at c1
                  clear hu0 hu1 hoy hyl hfr
                  go_wp2_with fail
                  exact ⟨⟨j + 1, _, by omega, by go_num, (HOY.out.set (j * 2) _).set (j * 2 + 1) _, by rw [List.length_set, List.length_set]; exact HYL.out, (HFR.out.setCell ⟨gl, j * 2, none⟩ _ (fun _ => rfl)).setCell ⟨gl, j * 2 + 1, none⟩ _ (fun _ => rfl)⟩, by simp [intOf]; omega⟩
                · obtain rfl : j = vc := by omega
                  clear hoy hyl hfr
                  go_wp2_with fail
                  go_ret
                  exact HFIN.out _ (HDONE.out _ HFR.out)
end Go.Proofs.YtlcdgbhigfgehabGreatDoor
/- lists: a step that makes trees and batches. -/
namespace Go.Proofs.YtlcdgbhigfgehabGreatDoor
open Go.RowKit
set_option maxRecDepth 100000

section
variable {w w1 : World} {B gw N : Nat} {s : WSt} {v' : Value}
theorem WAt.pushNow (h : WAt w B gw N s) (f : Fil) (hv : Vec w1 B 188 2 v' (s.now.length + 1) (refCells s.now ++ refRow f)) (k : Fr (fun b => s.nv.ownBlock = some b) w w1)
    (hd : v'.ownBlock = s.nv.ownBlock ∨ ∃ g, v'.ownBlock = some g ∧ w.heap.size ≤ g) (hf : f.name.length ≤ 100000 ∧ f.data.length ≤ 100000) : WAt (w1.setCell ⟨gw, 0, none⟩ v') B gw (N + 1) { s with now := s.now ++ [f], nv := v' } := by
  have hS := Only.vec h.now
  obtain ⟨c1, c2, c3, c4, c5, c6⟩ := h.count
  have hoff : ∀ b, (b < w.heap.size) → s.nv.ownBlock ≠ some b → v'.ownBlock ≠ some b := fun b hb hn e => by
    rcases hd with hd | ⟨g, hg, hz⟩
    · exact hn (hd ▸ e)
    · rw [hg] at e; cases e; omega
  have hv2 : Refs w1 B v' (s.now ++ [f]) := by unfold Refs; rw [List.length_append, refCells_snoc]; exact hv
  have h1 : Own w1 gw 79 [s.nv, s.tv, s.bv, s.mv, s.ov] := h.own.keepO k hS (by decide)
  have k2 : Fr (fun b => b = gw) w1 (w1.setCell ⟨gw, 0, none⟩ v') := (Fr.refl _ _).setCell _ _ (fun _ => rfl)
  have hS2 := Only.one h1
  refine ⟨h1.set 0 v', h.gwB, Vec.keepO hv2 k2 hS2 (by decide), (h.tree.keepO k hS (by decide)).keepO k2 hS2 (by decide), fun p hp => Vec.keepO (Vec.keep (h.each p hp) k (fun b hb e => h.off p hp b hb e)) k2 hS2 (by decide), fun p hp b hb => hoff b (Vec.lt (h.each p hp) b hb).2 (h.off p hp b hb),
    (h.bat.keepO k hS (by decide)).keepO k2 hS2 (by decide), (h.mirs.keepO k hS (by decide)).keepO k2 hS2 (by decide), fun y hy => ((h.mir y hy).tame k hS tame_refs (fun b hb e => h.mof y hy b hb e)).tame' k2 hS2 tame_world (by decide), fun y hy b hb => hoff b ?_ (h.mof y hy b hb), h.two,
    (h.out.keepO k hS (by decide)).keepO k2 hS2 (by decide), fun v hv => ((h.full v hv).keepO k hS (by decide)).keepO k2 hS2 (by decide), ⟨fun g hg => ?_, h.sizes.2.1, h.sizes.2.2⟩, by simp; omega, by dsimp only; omega, fun p hp => by have := c3 p hp; omega, by dsimp only; omega, by dsimp only; omega, by dsimp only; omega⟩
  · rcases hb with hb | hb
    · exact (Vec.lt (h.mir y hy).t b hb).2
    · exact (Vec.lt (h.mir y hy).h b hb).2
  · rcases List.mem_append.1 hg with hg | hg
    · exact h.sizes.1 g hg
    · obtain rfl := List.mem_singleton.1 hg; exact hf
theorem WAt.pushTree (h : WAt w B gw N s) (hv : Vec w1 B 74 1 v' (s.trees.length + 1) (s.trees.map (·.1) ++ [s.nv])) (k : Fr (fun b => s.tv.ownBlock = some b) w w1) :
    WAt ((w1.setCell ⟨gw, 1, none⟩ v').setCell ⟨gw, 0, none⟩ (.slice none 0 0)) B gw (N + 1) { s with trees := s.trees ++ [(s.nv, s.now)], tv := v', now := [], nv := .slice none 0 0 } := by
  have hS := Only.vec h.tree
  obtain ⟨c1, c2, c3, c4, c5, c6⟩ := h.count
  have h1 : Own w1 gw 79 [s.nv, s.tv, s.bv, s.mv, s.ov] := h.own.keepO k hS (by decide)
  have k2 : Fr (fun b => b = gw) w1 ((w1.setCell ⟨gw, 1, none⟩ v').setCell ⟨gw, 0, none⟩ (.slice none 0 0)) := ((Fr.refl (fun b => b = gw) _).setCell ⟨gw, 1, none⟩ _ (fun _ => rfl)).setCell ⟨gw, 0, none⟩ _ (fun _ => rfl)
  have hS2 := Only.one h1
  have hno : ∀ b, (Value.slice none 0 0).ownBlock ≠ some b := fun b e => by simp [Value.ownBlock] at e
  refine ⟨(h1.set 1 v').set 0 (.slice none 0 0), h.gwB, Vec.nil _ _ _ _, ?_, fun p hp => ?_, fun p hp b _ => hno b, (h.bat.keepO k hS (by decide)).keepO k2 hS2 (by decide), (h.mirs.keepO k hS (by decide)).keepO k2 hS2 (by decide),
    fun y hy => ((h.mir y hy).tame' k hS tame_trees (by decide)).tame' k2 hS2 tame_world (by decide), fun y hy b _ => hno b, h.two, (h.out.keepO k hS (by decide)).keepO k2 hS2 (by decide), fun v hv => ((h.full v hv).keepO k hS (by decide)).keepO k2 hS2 (by decide),
    ⟨fun g hg => by simp at hg, fun p hp => ?_, h.sizes.2.2⟩, by simp, by simp; omega, fun p hp => ?_, by dsimp only; omega, by dsimp only; omega, by dsimp only; omega⟩
  · have := hv.keepO k2 hS2 (by decide)
    simpa using this
  · rcases List.mem_append.1 hp with hp | hp
    · exact Vec.keepO (Vec.keepO (h.each p hp) k hS (by decide)) k2 hS2 (by decide)
    · obtain rfl := List.mem_singleton.1 hp
      exact Vec.keepO (Vec.keepO h.now k hS (by decide)) k2 hS2 (by decide)
  · rcases List.mem_append.1 hp with hp | hp
    · exact h.sizes.2.1 p hp
    · obtain rfl := List.mem_singleton.1 hp; exact h.sizes.1
  · rcases List.mem_append.1 hp with hp | hp
    · have := c3 p hp; omega
    · obtain rfl := List.mem_singleton.1 hp; dsimp only; omega
theorem WAt.pushBat (h : WAt w B gw N s) (t : ByteArray) (hv : Vec w1 B 9 1 v' (s.bat.length + 1) (s.bat.map .string ++ [.string t])) (k : Fr (fun b => s.bv.ownBlock = some b) w w1) (ht : t.size ≤ 1000000) :
    WAt (w1.setCell ⟨gw, 2, none⟩ v') B gw (N + 1) { s with bat := s.bat ++ [t], bv := v' } := by
  have hS := Only.vec h.bat
  obtain ⟨c1, c2, c3, c4, c5, c6⟩ := h.count
  have h1 : Own w1 gw 79 [s.nv, s.tv, s.bv, s.mv, s.ov] := h.own.keepO k hS (by decide)
  have k2 : Fr (fun b => b = gw) w1 (w1.setCell ⟨gw, 2, none⟩ v') := (Fr.refl _ _).setCell _ _ (fun _ => rfl)
  have hS2 := Only.one h1
  refine ⟨h1.set 2 v', h.gwB, Vec.keepO (Vec.keepO h.now k hS (by decide)) k2 hS2 (by decide), (h.tree.keepO k hS (by decide)).keepO k2 hS2 (by decide), fun p hp => Vec.keepO (Vec.keepO (h.each p hp) k hS (by decide)) k2 hS2 (by decide), h.off, ?_, (h.mirs.keepO k hS (by decide)).keepO k2 hS2 (by decide),
    fun y hy => ((h.mir y hy).tame' k hS tame_bat (by decide)).tame' k2 hS2 tame_world (by decide), h.mof, h.two, (h.out.keepO k hS (by decide)).keepO k2 hS2 (by decide), fun v hv => ((h.full v hv).keepO k hS (by decide)).keepO k2 hS2 (by decide),
    ⟨h.sizes.1, h.sizes.2.1, fun u hu => ?_⟩, by dsimp only; omega, by dsimp only; omega, fun p hp => by have := c3 p hp; omega, by simp; omega, by dsimp only; omega, by dsimp only; omega⟩
  · have := hv.keepO k2 hS2 (by decide)
    simpa using this
  · rcases List.mem_append.1 hu with hu | hu
    · exact h.sizes.2.2 u hu
    · obtain rfl := List.mem_singleton.1 hu; exact ht
end
theorem elt_trees : Elt Tryz.prog 75 74 1 24 := Elt.mk Tryz.underlying75 (z := .slice none 0 0) (by kernel_rfl) rfl
theorem elt_strs : Elt Tryz.prog 22 9 1 16 := Elt.mk Tryz.underlying22 (z := .string ⟨#[]⟩) (by kernel_rfl) rfl
theorem string_one (t : ByteArray) : ∀ u ∈ [Value.string t], u.oneCell' = true := by
  intro u hu
  simp at hu
  subst hu; rfl
/-- One step of a script. -/
structure OpR where
  kind : Int
  a : Int
  b : Int
  c : Int
  s : ByteArray
  t : ByteArray
structure OpOk (o : OpR) : Prop where
  a : -9223372036854775808 ≤ o.a ∧ o.a ≤ 9223372036854775807
  b : -9223372036854775808 ≤ o.b ∧ o.b ≤ 9223372036854775807
  c : -9223372036854775808 ≤ o.c ∧ o.c ≤ 9223372036854775807
  s : o.s.size ≤ 65536
  t : o.t.size ≤ 65536
def OpR.cells (o : OpR) : List Value := [.int .i64 o.kind, .int .i64 o.a, .int .i64 o.b, .int .i64 o.c, .string o.s, .string o.t]
def ListsQ (w0 : World) (B gw N : Nat) (s : WSt) (is : Bool) (e : Ending) (w' : World) : Prop := e = .returned (.tuple #[.bool is, .bool true]) ∧ (if is then ∃ s', WAt w' B gw (N + 1) s' else WAt w' B gw N s) ∧ Fr (fun _ => False) w0 w'
--GEN
set_option maxHeartbeats 4000000 in
theorem lists_none (w0 : World) (B gw N : Nat) (s : WSt) (kd oa ob oc : Int) (os ot : ByteArray) (w : World) (hk : kd ≠ 1 ∧ kd ≠ 2 ∧ kd ≠ 3 ∧ kd ≠ 4 ∧ kd ≠ 5) (hB : B = w0.heap.size) (hg : ErrType w0) (hf : Fr (fun _ => False) w0 w) (h : WAt w B gw N s) (ho : OpOk ⟨kd, oa, ob, oc, os, ot⟩) (hN : N < 65536) :
    Calls Tryz.prog 53 #[.pointer (some ⟨gw, 0, none⟩), .agg #[.int .i64 kd, .int .i64 oa, .int .i64 ob, .int .i64 oc, .string os, .string ot]] w (ListsQ w0 B gw N s false) := by
  have hB1 : B ≤ w0.heap.size := by omega
  have hB2 : w0.heap.size ≤ B := by omega
  have H := Lib.hid h
  have HG := Lib.hid hg
  have HF := Lib.hid hf
  have hz0 := hf.size
  have hsz1 := ho.s
  have hsz2 := ho.t
  have ha := ho.a
  have hb := ho.b
  have hc := ho.c
  dsimp only at hsz1 hsz2 ha hb hc
  have hgwB := h.gwB
  clear hB h hg hf ho
  obtain ⟨k1, k2, k3, k4, k5⟩ := hk
  go_enter Tryz.func53, Tryz.ntmps53
  go_wp2_with fail
  go_ret2
  exact ⟨rfl, by simpa using H.out.keep0 ((Fr.refl _ _).alloc _), HF.out.step ((Fr.refl (fun _ => False) _).alloc _) (fun _ h _ => h)⟩
set_option maxHeartbeats 4000000 in
theorem lists_file (w0 : World) (B gw N : Nat) (s : WSt) (kd oa ob oc : Int) (os ot : ByteArray) (w : World) (hk : kd = 1) (hB : B = w0.heap.size) (hg : ErrType w0) (hf : Fr (fun _ => False) w0 w) (h : WAt w B gw N s) (ho : OpOk ⟨kd, oa, ob, oc, os, ot⟩) (hN : N < 65536) :
    Calls Tryz.prog 53 #[.pointer (some ⟨gw, 0, none⟩), .agg #[.int .i64 kd, .int .i64 oa, .int .i64 ob, .int .i64 oc, .string os, .string ot]] w (ListsQ w0 B gw N s true) := by
  have hB1 : B ≤ w0.heap.size := by omega
  have hB2 : w0.heap.size ≤ B := by omega
  have H := Lib.hid h
  have HG := Lib.hid hg
  have HF := Lib.hid hf
  have hz0 := hf.size
  have hsz1 := ho.s
  have hsz2 := ho.t
  have ha := ho.a
  have hb := ho.b
  have hc := ho.c
  dsimp only at hsz1 hsz2 ha hb hc
  have hgwB := h.gwB
  clear hB h hg hf ho
  subst hk
  go_enter Tryz.func53, Tryz.ntmps53
  go_wp2_with fail
  have hA : Fr (fun _ => False) w (w.alloc (.cells #[.int .i64 1, .int .i64 oa, .int .i64 ob, .int .i64 oc, .string os, .string ot] 81)) := (Fr.refl _ _).alloc _
  have HP := Lib.hid (Own.alloc w #[.int .i64 1, .int .i64 oa, .int .i64 ob, .int .i64 oc, .string os, .string ot] 81)
  obtain ⟨gp, hgp⟩ : ∃ gp, w.heap.size = gp := ⟨_, rfl⟩
  have hzA := hA.size
  have hgpA := HP.out.lt
  have HW := Lib.hid (H.out.keep0 hA)
  have HFA := Lib.hid (HF.out.step hA (fun _ h _ => h))
  rw [hgp] at HP hgpA ⊢
  clear hA
  generalize w.alloc (.cells #[.int .i64 1, .int .i64 oa, .int .i64 ob, .int .i64 oc, .string os, .string ot] 81) = wA at *
  have hnow := HW.out.now
  obtain ⟨na, nc, hnv, -⟩ := Vec.shape hnow
  rw [hnv] at hnow
  have HV := Lib.hid hnow
  have HNV := Lib.hid hnv
  have hown := HW.out.own
  rw [hnv] at hown
  have hn := HW.out.count.1
  have o1 := (hown.keep (Fr.drew (Fr.refl (fun _ => False) wA)) id).cell (i := 0) rfl
  have o2 := fun (X : Obj) => (hown.keep (((Fr.refl (fun _ => False) wA).alloc X).drew) id).cell (i := 0) rfl
  have o3 := o2 (.cells #[.string os, .string ot] 188)
  have q1 := (HP.out.keep (Fr.drew (Fr.refl (fun _ => False) wA)) id).cell (i := 4) rfl
  have q2 := (HP.out.keep (Fr.drew (Fr.refl (fun _ => False) wA)) id).cell (i := 5) rfl
  clear hnow hnv hown o2
  go_upto_region 4 with fail
  go_region_law (first | (rw [if_pos (by rfl)]; refine wp_append_vec (.tmp 27) (.tmp 33) 74 rfl B 188 2 32 elt_ref (v := Value.slice na s.now.length nc) (n := s.now.length) (xs := refCells s.now) (HV.out.keep (by first | exact (Fr.refl (fun _ => False) _).drew.alloc _ | exact ((Fr.refl (fun _ => False) _).alloc _).drew) (fun _ _ h => h)) rfl (m := 1) (Reads.new _ _ _ _ (by simp) _ _) rfl rfl (ref_one _ _) (by unfold maxLen; omega) (by omega) (by simp; omega) ?_; intro v6 w6 hv6 hf6 hd6; obtain ⟨a6, c6, hs6, -⟩ := hv6.shape; subst hs6; have HV6 := Lib.hid hv6; have HF6 := Lib.hid hf6; have HD6 := Lib.hid hd6; clear hv6 hf6 hd6))
  all_goals
    have hk6 : Fr (fun b => (Value.slice na s.now.length nc).ownBlock = some b) wA w6 := by
      first
        | exact (((Fr.refl (fun _ => False) wA).drew.alloc _).mono (fun _ h _ => h.elim)).step HF6.out (fun _ h _ => h)
        | exact (((Fr.refl (fun _ => False) wA).alloc _).drew.mono (fun _ h _ => h.elim)).step HF6.out (fun _ h _ => h)
    have hd6 : (Value.slice a6 (s.now.length + 1) c6).ownBlock = (Value.slice na s.now.length nc).ownBlock ∨ ∃ g, (Value.slice a6 (s.now.length + 1) c6).ownBlock = some g ∧ wA.heap.size ≤ g := by
      rcases HD6.out with h | ⟨g, h, hz⟩
      · exact .inl h
      · exact .inr ⟨g, h, by simp at hz; omega⟩
    have z6 := HW.out.own.keepO hk6 (Only.vec HV.out) (by decide)
    have y6 := z6.cell (i := 0) rfl
    have g6 := z6.free 0 (by simp)
    have HFF := Lib.hid (show Fr (fun _ => False) w0 w6 from HFA.out.step hk6 (fun b hb hl => by have := (HV.out.lt b hb).1; omega))
    have hp := WAt.pushNow (v' := .slice a6 (s.now.length + 1) c6) HW.out ⟨os.data.toList, ot.data.toList⟩ (by
      have := HV6.out
      rwa [show refRow (⟨os.data.toList, ot.data.toList⟩ : Fil) = [.string os, .string ot] from by unfold refRow; rw [ba_eq, ba_eq]]) (by rw [HNV.out]; exact hk6) (by rw [HNV.out]; exact hd6) ⟨by simp; omega, by simp; omega⟩
    have HPP := Lib.hid hp
    rw [HNV.out] at y6
    clear hk6 hd6 z6 hp o1 o3 q1 q2
    go_wp2_with fail
    go_ret2
    exact ⟨rfl, by simpa using ⟨_, HPP.out⟩, HFF.out.setCell ⟨gw, 0, none⟩ _ (fun h => by dsimp only at h; omega)⟩
set_option maxHeartbeats 4000000 in
theorem lists_tree (w0 : World) (B gw N : Nat) (s : WSt) (kd oa ob oc : Int) (os ot : ByteArray) (w : World) (hk : kd = 2) (hB : B = w0.heap.size) (hg : ErrType w0) (hf : Fr (fun _ => False) w0 w) (h : WAt w B gw N s) (ho : OpOk ⟨kd, oa, ob, oc, os, ot⟩) (hN : N < 65536) :
    Calls Tryz.prog 53 #[.pointer (some ⟨gw, 0, none⟩), .agg #[.int .i64 kd, .int .i64 oa, .int .i64 ob, .int .i64 oc, .string os, .string ot]] w (ListsQ w0 B gw N s true) := by
  have hB1 : B ≤ w0.heap.size := by omega
  have hB2 : w0.heap.size ≤ B := by omega
  have H := Lib.hid h
  have HG := Lib.hid hg
  have HF := Lib.hid hf
  have hz0 := hf.size
  have hsz1 := ho.s
  have hsz2 := ho.t
  have ha := ho.a
  have hb := ho.b
  have hc := ho.c
  dsimp only at hsz1 hsz2 ha hb hc
  have hgwB := h.gwB
  clear hB h hg hf ho
  subst hk
  go_enter Tryz.func53, Tryz.ntmps53
  go_wp2_with fail
  have hA : Fr (fun _ => False) w (w.alloc (.cells #[.int .i64 2, .int .i64 oa, .int .i64 ob, .int .i64 oc, .string os, .string ot] 81)) := (Fr.refl _ _).alloc _
  have HP := Lib.hid (Own.alloc w #[.int .i64 2, .int .i64 oa, .int .i64 ob, .int .i64 oc, .string os, .string ot] 81)
  obtain ⟨gp, hgp⟩ : ∃ gp, w.heap.size = gp := ⟨_, rfl⟩
  have hzA := hA.size
  have hgpA := HP.out.lt
  have HW := Lib.hid (H.out.keep0 hA)
  have HFA := Lib.hid (HF.out.step hA (fun _ h _ => h))
  rw [hgp] at HP hgpA ⊢
  clear hA
  generalize w.alloc (.cells #[.int .i64 2, .int .i64 oa, .int .i64 ob, .int .i64 oc, .string os, .string ot] 81) = wA at *
  have htr := HW.out.tree
  obtain ⟨ta, tc, htv, -⟩ := htr.shape
  rw [htv] at htr
  have HV := Lib.hid htr
  have HNV := Lib.hid htv
  have hown := HW.out.own
  obtain ⟨na, nc, hnv, -⟩ := Vec.shape HW.out.now
  have HNN := Lib.hid hnv
  rw [htv, hnv] at hown
  have HOWN := Lib.hid hown
  have hn := HW.out.count.2.1
  have o1 := (hown.keep (Fr.drew (Fr.refl (fun _ => False) wA)) id).cell (i := 1) rfl
  have o4 := (hown.keep (Fr.drew (Fr.refl (fun _ => False) wA)) id).cell (i := 0) rfl
  have o3 := (hown.keep (((Fr.refl (fun _ => False) wA).alloc (.cells #[.slice na s.now.length nc] 74)).drew) id).cell (i := 1) rfl
  clear htr htv hnv hown
  go_upto_region 7 with fail
  go_region_law (first | (rw [if_pos (by rfl)]; refine wp_append_vec (.tmp 44) (.tmp 49) 75 rfl B 74 1 24 elt_trees (v := Value.slice ta s.trees.length tc) (n := s.trees.length) (xs := s.trees.map (·.1)) (HV.out.keep (by first | exact (Fr.refl (fun _ => False) _).drew.alloc _ | exact ((Fr.refl (fun _ => False) _).alloc _).drew) (fun _ _ h => h)) rfl (m := 1) (Reads.new _ _ _ _ (by simp) _ _) rfl rfl (slice_one _ _ _) (by unfold maxLen; omega) (by omega) (by simp; omega) ?_; intro v6 w6 hv6 hf6 hd6; obtain ⟨a6, c6, hs6, -⟩ := hv6.shape; subst hs6; have HV6 := Lib.hid hv6; have HF6 := Lib.hid hf6; have HD6 := Lib.hid hd6; clear hv6 hf6 hd6))
  all_goals
    have hk6 : Fr (fun b => (Value.slice ta s.trees.length tc).ownBlock = some b) wA w6 := by
      first
        | exact (((Fr.refl (fun _ => False) wA).drew.alloc _).mono (fun _ h _ => h.elim)).step HF6.out (fun _ h _ => h)
        | exact (((Fr.refl (fun _ => False) wA).alloc _).drew.mono (fun _ h _ => h.elim)).step HF6.out (fun _ h _ => h)
    have hd6 : (Value.slice a6 (s.trees.length + 1) c6).ownBlock = (Value.slice ta s.trees.length tc).ownBlock ∨ ∃ g, (Value.slice a6 (s.trees.length + 1) c6).ownBlock = some g ∧ wA.heap.size ≤ g := by
      rcases HD6.out with h | ⟨g, h, hz⟩
      · exact .inl h
      · exact .inr ⟨g, h, by simp at hz; omega⟩
    have z6 := HW.out.own.keepO hk6 (Only.vec HV.out) (by decide)
    have y6 := z6.cell (i := 1) rfl
    have g6 := z6.free 1 (by simp)
    have HFF := Lib.hid (show Fr (fun _ => False) w0 w6 from HFA.out.step hk6 (fun b hb hl => by have := (HV.out.lt b hb).1; omega))
    have hp := WAt.pushTree (v' := .slice a6 (s.trees.length + 1) c6) HW.out (by rw [HNN.out]; exact HV6.out) (by rw [HNV.out]; exact hk6)
    have HPP := Lib.hid hp
    have z7 := HOWN.out.keepO hk6 (Only.vec HV.out) (by decide)
    have y7 := z7.cell (i := 0) rfl
    have g7 := z7.free 0 (by simp)
    have y8 := z7.cell (i := 1) rfl
    clear hk6 hd6 z6 hp o1 o3 o4 y6 z7
    go_wp2_with fail
    go_ret2
    exact ⟨rfl, by simpa using ⟨_, HPP.out⟩, (HFF.out.setCell ⟨gw, 1, none⟩ _ (fun h => by dsimp only at h; omega)).setCell ⟨gw, 0, none⟩ _ (fun h => by dsimp only at h; omega)⟩
set_option maxHeartbeats 4000000 in
theorem lists_bytes (w0 : World) (B gw N : Nat) (s : WSt) (kd oa ob oc : Int) (os ot : ByteArray) (w : World) (hk : kd = 4) (hB : B = w0.heap.size) (hg : ErrType w0) (hf : Fr (fun _ => False) w0 w) (h : WAt w B gw N s) (ho : OpOk ⟨kd, oa, ob, oc, os, ot⟩) (hN : N < 65536) :
    Calls Tryz.prog 53 #[.pointer (some ⟨gw, 0, none⟩), .agg #[.int .i64 kd, .int .i64 oa, .int .i64 ob, .int .i64 oc, .string os, .string ot]] w (ListsQ w0 B gw N s true) := by
  have hB1 : B ≤ w0.heap.size := by omega
  have hB2 : w0.heap.size ≤ B := by omega
  have H := Lib.hid h
  have HG := Lib.hid hg
  have HF := Lib.hid hf
  have hz0 := hf.size
  have hsz1 := ho.s
  have hsz2 := ho.t
  have ha := ho.a
  have hb := ho.b
  have hc := ho.c
  dsimp only at hsz1 hsz2 ha hb hc
  have hgwB := h.gwB
  clear hB h hg hf ho
  subst hk
  go_enter Tryz.func53, Tryz.ntmps53
  go_wp2_with fail
  have hA : Fr (fun _ => False) w (w.alloc (.cells #[.int .i64 4, .int .i64 oa, .int .i64 ob, .int .i64 oc, .string os, .string ot] 81)) := (Fr.refl _ _).alloc _
  have HP := Lib.hid (Own.alloc w #[.int .i64 4, .int .i64 oa, .int .i64 ob, .int .i64 oc, .string os, .string ot] 81)
  obtain ⟨gp, hgp⟩ : ∃ gp, w.heap.size = gp := ⟨_, rfl⟩
  have hzA := hA.size
  have hgpA := HP.out.lt
  have HW := Lib.hid (H.out.keep0 hA)
  have HFA := Lib.hid (HF.out.step hA (fun _ h _ => h))
  rw [hgp] at HP hgpA ⊢
  clear hA
  generalize w.alloc (.cells #[.int .i64 4, .int .i64 oa, .int .i64 ob, .int .i64 oc, .string os, .string ot] 81) = wA at *
  have hbt := HW.out.bat
  obtain ⟨ba, bc, hbv, -⟩ := hbt.shape
  rw [hbv] at hbt
  have HV := Lib.hid hbt
  have HNV := Lib.hid hbv
  have hown := HW.out.own
  rw [hbv] at hown
  have HOWN := Lib.hid hown
  have hn := HW.out.count.2.2.2.1
  have o1 := (hown.keep (Fr.drew (Fr.refl (fun _ => False) wA)) id).cell (i := 2) rfl
  have o3 := (hown.keep (((Fr.refl (fun _ => False) wA).alloc (.cells #[.string os] 9)).drew) id).cell (i := 2) rfl
  have q1 := (HP.out.keep (Fr.drew (Fr.refl (fun _ => False) wA)) id).cell (i := 4) rfl
  clear hbt hbv hown
  go_upto_region 11 with fail
  go_region_law (first | (rw [if_pos (by rfl)]; refine wp_append_vec (.tmp 63) (.tmp 66) 22 rfl B 9 1 16 elt_strs (v := Value.slice ba s.bat.length bc) (n := s.bat.length) (xs := s.bat.map .string) (HV.out.keep (by first | exact (Fr.refl (fun _ => False) _).drew.alloc _ | exact ((Fr.refl (fun _ => False) _).alloc _).drew) (fun _ _ h => h)) rfl (m := 1) (Reads.new _ _ _ _ (by simp) _ _) rfl rfl (string_one _) (by unfold maxLen; omega) (by omega) (by simp; omega) ?_; intro v6 w6 hv6 hf6 hd6; obtain ⟨a6, c6, hs6, -⟩ := hv6.shape; subst hs6; have HV6 := Lib.hid hv6; have HF6 := Lib.hid hf6; have HD6 := Lib.hid hd6; clear hv6 hf6 hd6))
  all_goals
    have hk6 : Fr (fun b => (Value.slice ba s.bat.length bc).ownBlock = some b) wA w6 := by
      first
        | exact (((Fr.refl (fun _ => False) wA).drew.alloc _).mono (fun _ h _ => h.elim)).step HF6.out (fun _ h _ => h)
        | exact (((Fr.refl (fun _ => False) wA).alloc _).drew.mono (fun _ h _ => h.elim)).step HF6.out (fun _ h _ => h)
    have hd6 : (Value.slice a6 (s.bat.length + 1) c6).ownBlock = (Value.slice ba s.bat.length bc).ownBlock ∨ ∃ g, (Value.slice a6 (s.bat.length + 1) c6).ownBlock = some g ∧ wA.heap.size ≤ g := by
      rcases HD6.out with h | ⟨g, h, hz⟩
      · exact .inl h
      · exact .inr ⟨g, h, by simp at hz; omega⟩
    have z6 := HW.out.own.keepO hk6 (Only.vec HV.out) (by decide)
    have y6 := z6.cell (i := 2) rfl
    have g6 := z6.free 2 (by simp)
    have HFF := Lib.hid (show Fr (fun _ => False) w0 w6 from HFA.out.step hk6 (fun b hb hl => by have := (HV.out.lt b hb).1; omega))
    have hp := WAt.pushBat (v' := .slice a6 (s.bat.length + 1) c6) HW.out os HV6.out (by rw [HNV.out]; exact hk6) (by omega)
    have HPP := Lib.hid hp
    have z7 := HOWN.out.keepO hk6 (Only.vec HV.out) (by decide)
    have y8 := z7.cell (i := 2) rfl
    clear hk6 hd6 z6 hp o1 o3 q1 y6 z7
    go_wp2_with fail
    go_ret2
    exact ⟨rfl, by simpa using ⟨_, HPP.out⟩, HFF.out.setCell ⟨gw, 2, none⟩ _ (fun h => by dsimp only at h; omega)⟩
end Go.Proofs.YtlcdgbhigfgehabGreatDoor
/- lists: a batch turned. -/
namespace Go.Proofs.YtlcdgbhigfgehabGreatDoor
open Go.RowKit
set_option maxRecDepth 100000

set_option maxHeartbeats 600000 in
theorem lists_turn (w0 : World) (B gw N : Nat) (s : WSt) (kd oa ob oc : Int) (os ot : ByteArray) (w : World) (hk : kd = 5) (hB : B = w0.heap.size) (hg : ErrType w0) (hf : Fr (fun _ => False) w0 w) (h : WAt w B gw N s) (ho : OpOk ⟨kd, oa, ob, oc, os, ot⟩) (hN : N < 65536) :
    Calls Tryz.prog 53 #[.pointer (some ⟨gw, 0, none⟩), .agg #[.int .i64 kd, .int .i64 oa, .int .i64 ob, .int .i64 oc, .string os, .string ot]] w (ListsQ w0 B gw N s true) := by
  have hB1 : B ≤ w0.heap.size := by omega
  have hB2 : w0.heap.size ≤ B := by omega
  have H := Lib.hid h
  have HG := Lib.hid hg
  have HF := Lib.hid hf
  have hz0 := hf.size
  have hsz1 := ho.s
  have hsz2 := ho.t
  have ha := ho.a
  have hb := ho.b
  have hc := ho.c
  dsimp only at hsz1 hsz2 ha hb hc
  have hgwB := h.gwB
  clear hB h hg hf ho
  subst hk
  obtain ⟨bn, hbn⟩ : ∃ bn, s.bat.length = bn := ⟨_, rfl⟩
  have HBN := Lib.hid hbn
  have hbt0 := H.out.bat
  rw [hbn] at hbt0
  obtain ⟨ba, bc, hbv0, -⟩ := hbt0.shape
  have HNV := Lib.hid hbv0
  have hA0 : Fr (fun _ => False) w (w.alloc (.cells #[.int .i64 5, .int .i64 oa, .int .i64 ob, .int .i64 oc, .string os, .string ot] 81)) := (Fr.refl _ _).alloc _
  have o0 := (H.out.own.keep hA0 id).cell (i := 2) rfl
  rw [hbv0] at o0
  have hn : bn ≤ N := by have := H.out.count.2.2.2.1; omega
  clear hbv0 hA0 hbn hbt0
  by_cases hz : bn = 0
  · subst hz
    go_enter Tryz.func53, Tryz.ntmps53
    go_wp2_with fail
    go_ret2
    exact ⟨rfl, by simpa using ⟨_, (H.out.keep0 ((Fr.refl _ _).alloc _)).more⟩, HF.out.step ((Fr.refl (fun _ => False) _).alloc _) (fun _ h _ => h)⟩
  have z1 : decide ((bn : Int) > 0) = true := by simp; omega
  go_enter Tryz.func53, Tryz.ntmps53
  go_wp2_with fail
  have hA : Fr (fun _ => False) w (w.alloc (.cells #[.int .i64 5, .int .i64 oa, .int .i64 ob, .int .i64 oc, .string os, .string ot] 81)) := (Fr.refl _ _).alloc _
  have HP := Lib.hid (Own.alloc w #[.int .i64 5, .int .i64 oa, .int .i64 ob, .int .i64 oc, .string os, .string ot] 81)
  obtain ⟨gp, hgp⟩ : ∃ gp, w.heap.size = gp := ⟨_, rfl⟩
  have hzA := hA.size
  have hgpA := HP.out.lt
  have HW := Lib.hid (H.out.keep0 hA)
  have HFA := Lib.hid (HF.out.step hA (fun _ h _ => h))
  rw [hgp] at HP hgpA ⊢
  clear hA
  generalize w.alloc (.cells #[.int .i64 5, .int .i64 oa, .int .i64 ob, .int .i64 oc, .string os, .string ot] 81) = wA at *
  have hbt := HW.out.bat
  have hown := HW.out.own
  rw [HNV.out] at hbt hown
  rw [HBN.out] at hbt
  have HV := Lib.hid hbt
  have HOWN := Lib.hid hown
  obtain ⟨gb, cb, rb, hqb, hBb, hob, -⟩ := hbt.row (by omega)
  simp only [Value.slice.injEq, true_and] at hqb
  obtain ⟨rfl, rfl⟩ := hqb
  have hpb := pickOf_bounds oa bn (by omega)
  have HPK := Lib.hid (fun w => lpick_any oa bn w (by omega) ha.1 ha.2 (by omega))
  obtain ⟨p, hp⟩ : ∃ p : Nat, pickOf oa bn = p := ⟨(pickOf oa bn).toNat, by omega⟩
  rw [hp] at HPK hpb
  have hpl : p < s.bat.length := by rw [HBN.out]; omega
  have hpn : p < bn := by omega
  obtain ⟨tb, htb⟩ : ∃ tb, s.bat[p] = tb := ⟨_, rfl⟩
  have htz : tb.size ≤ 1000000 := by rw [← htb]; exact HW.out.sizes.2.2 _ (List.getElem_mem _)
  have e1 : wA.drew.cell? ⟨gb, p, none⟩ = some (.string tb) := (hob.keep (Fr.drew (Fr.refl (fun _ => False) wA)) id).cell (by rw [List.getElem?_append_left (by rw [List.length_map]; exact hpl), List.getElem?_map, List.getElem?_eq_getElem hpl, htb]; rfl)
  have o1 := (hown.keep (Fr.drew (Fr.refl (fun _ => False) wA)) id).cell (i := 2) rfl
  have q1 := (HP.out.keep (Fr.drew (Fr.refl (fun _ => False) wA)) id).cell (i := 1) rfl
  have q2 := (HP.out.keep (Fr.drew (Fr.refl (fun _ => False) wA)) id).cell (i := 2) rfl
  have q3 := (HP.out.keep (Fr.drew (Fr.refl (fun _ => False) wA)) id).cell (i := 3) rfl
  clear hbt hown hp hob htb hpb hz hpl o0
  go_still_tail 20, (by kernel_rfl)
  still_call ((HPK.out _).mono (fun _ _ h => ⟨h.1, h.2.symm⟩))
  repeat still_step
  refine wpStill_nil ?_
  change wpList _ _ _ _ _ wA.drew
  have hD : Fr (fun _ => False) wA wA.drew := (Fr.refl _ _).drew
  have HD := Lib.hid hD
  clear hD e1 o1 q1 q2 q3
  generalize wA.drew = wD at *
  go_wp2_with fail
  refine (turned_any tb ob _ _ htz hb.1 hb.2).mono ?_
  rintro e w5 ⟨TT, rfl, htt, hf5⟩
  have HF5' := Lib.hid (HD.out.step hf5 (fun _ h _ => h))
  have HTS : TT.size ≤ 1000000 := by rw [htt]; exact htz
  clear htt hf5
  have HV5 := Lib.hid (HV.out.keep HF5'.out (fun _ _ h => h))
  have HW5 := Lib.hid (HW.out.keep0 HF5'.out)
  have HF5 := Lib.hid (HFA.out.step HF5'.out (fun _ h _ => h))
  have y5 := (HOWN.out.keep HF5'.out id).cell (i := 2) rfl
  have hz5 := HF5'.out.size
  go_wp2_with (at_builtin; go_must (refine wpList_append_vec rfl _ _ _ rfl B 9 1 16 elt_strs (HV5.out.keep ((Fr.refl (fun _ => False) _).alloc _) (fun _ _ h => h)) rfl (m := 1) (Reads.new _ _ _ _ (by simp) _ _) rfl rfl (string_one _) (by unfold maxLen; omega) (by omega) (by simp; omega) ?_); intro v9 w9 hv9 hf9 hd9 hn9; have hk9 := (((Fr.refl (fun _ => False) w5).alloc _).mono (S' := fun b => (Value.slice (some ⟨gb, 0, none⟩) bn bc).ownBlock = some b) (fun _ h _ => h.elim)).step hf9 (fun _ h _ => h); have z9 := (HOWN.out.keep HF5'.out id).keepO hk9 (Only.vec HV5.out) (by decide); have y9 := z9.cell (i := 2) rfl; have g9 := z9.free 2 (by simp); obtain ⟨a9, q9, hs9, -⟩ := hv9.shape; subst hs9; have HV9 := Lib.hid hv9; have HK9 := Lib.hid hk9; clear hv9 hf9 hd9 hn9 z9 hk9)
  go_ret2
  have hp := WAt.pushBat (v' := .slice a9 (bn + 1) q9) HW5.out TT (by rw [HBN.out]; exact HV9.out) (by rw [HNV.out]; exact HK9.out) HTS
  exact ⟨rfl, by simpa using ⟨_, hp⟩, (HF5.out.step HK9.out (fun b hb hl => by have := (HV5.out.lt b hb).1; omega)).setCell ⟨gw, 2, none⟩ _ (fun h => by dsimp only at h; omega)⟩
end Go.Proofs.YtlcdgbhigfgehabGreatDoor
/- lists: Record of two trees. -/
namespace Go.Proofs.YtlcdgbhigfgehabGreatDoor
open Go.RowKit
set_option maxRecDepth 100000

set_option maxHeartbeats 600000 in
theorem lists_record (w0 : World) (B gw N : Nat) (s : WSt) (kd oa ob oc : Int) (os ot : ByteArray) (w : World) (hk : kd = 3) (hB : B = w0.heap.size) (hg : ErrType w0) (hf : Fr (fun _ => False) w0 w) (h : WAt w B gw N s) (ho : OpOk ⟨kd, oa, ob, oc, os, ot⟩) (hN : N < 65536) :
    Calls Tryz.prog 53 #[.pointer (some ⟨gw, 0, none⟩), .agg #[.int .i64 kd, .int .i64 oa, .int .i64 ob, .int .i64 oc, .string os, .string ot]] w (ListsQ w0 B gw N s true) := by
  have hB1 : B ≤ w0.heap.size := by omega
  have hB2 : w0.heap.size ≤ B := by omega
  have H := Lib.hid h
  have HG := Lib.hid hg
  have HF := Lib.hid hf
  have hz0 := hf.size
  have hsz1 := ho.s
  have hsz2 := ho.t
  have ha := ho.a
  have hb := ho.b
  have hc := ho.c
  dsimp only at hsz1 hsz2 ha hb hc
  have hgwB := h.gwB
  clear hB h hg hf ho
  subst hk
  obtain ⟨tn, htn⟩ : ∃ tn, s.trees.length = tn := ⟨_, rfl⟩
  have HTN := Lib.hid htn
  have htt0 := H.out.tree
  rw [htn] at htt0
  obtain ⟨ta, tc, htv0, -⟩ := htt0.shape
  have HTV := Lib.hid htv0
  have hA0 : Fr (fun _ => False) w (w.alloc (.cells #[.int .i64 3, .int .i64 oa, .int .i64 ob, .int .i64 oc, .string os, .string ot] 81)) := (Fr.refl _ _).alloc _
  have o0 := (H.out.own.keep hA0 id).cell (i := 1) rfl
  rw [htv0] at o0
  have hn : tn ≤ N := by have := H.out.count.2.1; omega
  clear htv0 hA0 htn htt0
  by_cases hz : tn = 0
  · subst hz
    go_enter Tryz.func53, Tryz.ntmps53
    go_wp2_with fail
    go_ret2
    exact ⟨rfl, by simpa using ⟨_, (H.out.keep0 ((Fr.refl _ _).alloc _)).more⟩, HF.out.step ((Fr.refl (fun _ => False) _).alloc _) (fun _ h _ => h)⟩
  have z1 : decide ((tn : Int) > 0) = true := by simp; omega
  go_enter Tryz.func53, Tryz.ntmps53
  go_wp2_with fail
  have hA : Fr (fun _ => False) w (w.alloc (.cells #[.int .i64 3, .int .i64 oa, .int .i64 ob, .int .i64 oc, .string os, .string ot] 81)) := (Fr.refl _ _).alloc _
  have HP := Lib.hid (Own.alloc w #[.int .i64 3, .int .i64 oa, .int .i64 ob, .int .i64 oc, .string os, .string ot] 81)
  obtain ⟨gp, hgp⟩ : ∃ gp, w.heap.size = gp := ⟨_, rfl⟩
  have hzA := hA.size
  have hgpA := HP.out.lt
  have HW := Lib.hid (H.out.keep0 hA)
  have HFA := Lib.hid (HF.out.step hA (fun _ h _ => h))
  rw [hgp] at HP hgpA ⊢
  clear hA o0
  generalize w.alloc (.cells #[.int .i64 3, .int .i64 oa, .int .i64 ob, .int .i64 oc, .string os, .string ot] 81) = wA at *
  have htt := HW.out.tree
  have hown := HW.out.own
  rw [HTV.out] at htt hown
  rw [HTN.out] at htt
  have HOWN := Lib.hid hown
  obtain ⟨gt, ct, rt, hqt, hBt, hot, -⟩ := htt.row (by omega)
  simp only [Value.slice.injEq, true_and] at hqt
  obtain ⟨rfl, rfl⟩ := hqt
  have hpb := pickOf_bounds oa tn (by omega)
  have HPA := Lib.hid (fun w => lpick_any oa tn w (by omega) ha.1 ha.2 (by omega))
  obtain ⟨p, hp⟩ : ∃ p : Nat, pickOf oa tn = p := ⟨(pickOf oa tn).toNat, by omega⟩
  rw [hp] at HPA hpb
  have hpt : p < s.trees.length := by rw [HTN.out]; omega
  have hpn : p < tn := by omega
  have hpb2 := pickOf_bounds ob tn (by omega)
  have HPB := Lib.hid (fun w => lpick_any ob tn w (by omega) hb.1 hb.2 (by omega))
  obtain ⟨q, hq⟩ : ∃ q : Nat, pickOf ob tn = q := ⟨(pickOf ob tn).toNat, by omega⟩
  rw [hq] at HPB hpb2
  have hqt : q < s.trees.length := by rw [HTN.out]; omega
  have hqn : q < tn := by omega
  have e1 : wA.cell? ⟨gt, p, none⟩ = some s.trees[p].1 := hot.cell (by rw [List.getElem?_append_left (by rw [List.length_map]; exact hpt), List.getElem?_map, List.getElem?_eq_getElem hpt]; rfl)
  have e2 : wA.cell? ⟨gt, q, none⟩ = some s.trees[q].1 := hot.cell (by rw [List.getElem?_append_left (by rw [List.length_map]; exact hqt), List.getElem?_map, List.getElem?_eq_getElem hqt]; rfl)
  have hR1 := HW.out.each _ (List.getElem_mem hpt)
  have hR2 := HW.out.each _ (List.getElem_mem hqt)
  have hS1 := HW.out.sizes.2.1 _ (List.getElem_mem hpt)
  have hS2 := HW.out.sizes.2.1 _ (List.getElem_mem hqt)
  have hC1 := HW.out.count.2.2.1 _ (List.getElem_mem hpt)
  have hC2 := HW.out.count.2.2.1 _ (List.getElem_mem hqt)
  generalize s.trees[p] = P1 at *
  generalize s.trees[q] = P2 at *
  obtain ⟨lv, l⟩ := P1
  obtain ⟨mv, m⟩ := P2
  dsimp only at e1 e2 hR1 hR2 hS1 hS2 hC1 hC2
  obtain ⟨la, lc, rfl, -⟩ := Vec.shape hR1
  obtain ⟨ma, mc, rfl, -⟩ := Vec.shape hR2
  have HR1 := Lib.hid hR1
  have HR2 := Lib.hid hR2
  have HS1 := Lib.hid hS1
  have HS2 := Lib.hid hS2
  have o1 := hown.cell (i := 1) rfl
  have q1 := HP.out.cell (i := 1) rfl
  have q2 := HP.out.cell (i := 2) rfl
  clear htt hown hp hq hot hpb hpb2 hz hpt hqt hR1 hR2 hS1 hS2
  go_quiet ((go_at_call 55; exact Calls.quiet_of_same ((HPA.out _).mono (fun _ _ h => ⟨h.1, h.2.symm⟩))))
  have hD1 : Fr (fun _ => False) wA (wA.drewN nq) := (Fr.refl _ _).drewN nq
  have HD1 := Lib.hid hD1
  replace e1 := hD1.cell e1 id
  replace e2 := hD1.cell e2 id
  replace o1 := hD1.cell o1 id
  replace q1 := hD1.cell q1 id
  replace q2 := hD1.cell q2 id
  clear hD1
  generalize wA.drewN nq = wB at *
  go_wp2_with fail
  go_quiet ((go_at_call 55; exact Calls.quiet_of_same ((HPB.out _).mono (fun _ _ h => ⟨h.1, h.2.symm⟩))))
  have hD2 : Fr (fun _ => False) wA (wB.drewN nq) := HD1.out.step ((Fr.refl _ _).drewN nq) (fun _ h _ => h)
  have HD2 := Lib.hid hD2
  have q3 := (HP.out.keep hD2 id).cell (i := 3) rfl
  clear hD2 e1 e2 o1 q1 q2 HD1
  generalize wB.drewN nq = wD at *
  go_wp2_with fail
  refine (recorded_any _ _ l m B B oc wD (HG.out.keep (HFA.out.step HD2.out (fun _ h _ => h)) id) (Vec.keep HR1.out HD2.out (fun _ _ h => h)) (Vec.keep HR2.out HD2.out (fun _ _ h => h)) (fun f hf => by have := HS1.out f hf; omega) (fun f hf => by have := HS2.out f hf; omega) (by omega) (by omega)).mono ?_
  rintro e w3 ⟨rfl, hf3⟩
  have HF3 := Lib.hid (HD2.out.step hf3 (fun _ h _ => h))
  clear hf3 q3
  go_wp2_with fail
  refine (rtree_any _ l B w3 (Vec.keep HR1.out HF3.out (fun _ _ h => h)) (fun f hf => by have := HS1.out f hf; omega) (fun f hf => by have := HS1.out f hf; omega)).mono ?_
  rintro e w4 ⟨rfl, hf4⟩
  have HF4 := Lib.hid (HF3.out.step hf4 (fun _ h _ => h))
  obtain ⟨tx, htx⟩ : ∃ tx, treeErr l = tx := ⟨_, rfl⟩
  have HTX := Lib.hid htx
  rw [htx]
  clear hf4 htx
  go_wp2_with fail
  refine (rtree_any _ m B w4 (Vec.keep HR2.out HF4.out (fun _ _ h => h)) (fun f hf => by have := HS2.out f hf; omega) (fun f hf => by have := HS2.out f hf; omega)).mono ?_
  rintro e w6 ⟨rfl, hf6⟩
  have HF6 := Lib.hid (HF4.out.step hf6 (fun _ h _ => h))
  obtain ⟨ty, hty⟩ : ∃ ty, treeErr m = ty := ⟨_, rfl⟩
  have HTY := Lib.hid hty
  rw [hty]
  have q3 := (HP.out.keep HF6.out id).cell (i := 3) rfl
  have HBAD := Lib.hid (show ListsQ w0 B gw N s true (.returned (.tuple #[.bool true, .bool true])) w6 from ⟨rfl, by simpa using ⟨_, (HW.out.keep0 HF6.out).more⟩, HFA.out.step HF6.out (fun _ h _ => h)⟩)
  clear hf6 hty
  cases tx with
  | some e1 =>
    go_wp2_with fail
    go_ret2
    exact HBAD.out
  | none =>
    cases ty with
    | some e1 =>
      go_wp2_with fail
      go_ret2
      exact HBAD.out
    | none =>
      by_cases h1 : oc < 1
      · have x1 : decide (oc ≥ 1) = false := by simp; omega
        go_wp2_with fail
        go_ret2
        exact HBAD.out
      have x1 : decide (oc ≥ 1) = true := by simp; omega
      by_cases h2 : 64 < oc
      · have x2 : decide (oc ≤ 64) = false := by simp; omega
        go_wp2_with fail
        go_ret2
        exact HBAD.out
      have x2 : decide (oc ≤ 64) = true := by simp; omega
      obtain ⟨cn, rfl⟩ := Int.eq_ofNat_of_zero_le (a := oc) (by omega)
      have hi1 := (treeErr_none _).1 HTX.out
      have hi2 := (treeErr_none _).1 HTY.out
      have hrl := recOf_len (blk := cn) (by omega) hi1 hi2
      have HRR := Lib.hid (rrecord_any _ _ l m B B cn w6 (Vec.keep HR1.out HF6.out (fun _ _ h => h)) (Vec.keep HR2.out HF6.out (fun _ _ h => h)) (by omega) (by omega) hi1 hi2)
      obtain ⟨TT, hTT⟩ : ∃ T : ByteArray, T = ⟨(recOf l m cn).toArray⟩ := ⟨_, rfl⟩
      rw [← hTT] at HRR
      have HTS : TT.size ≤ 1000000 := by rw [hTT]; exact hrl
      clear hi1 hi2 hrl hTT
      go_wp2_with fail
      refine HRR.out.mono ?_
      rintro e w5 ⟨rfl, hf5⟩
      have HF5' := Lib.hid (HF6.out.step hf5 (fun _ h _ => h))
      obtain ⟨bn, hbn⟩ : ∃ bn, s.bat.length = bn := ⟨_, rfl⟩
      have HBN := Lib.hid hbn
      have hbt := HW.out.bat
      rw [hbn] at hbt
      obtain ⟨ba, bc, hbv, -⟩ := hbt.shape
      have HNV := Lib.hid hbv
      rw [hbv] at hbt
      have HV := Lib.hid hbt
      have HOWNT := Lib.hid HOWN.out
      have hnb : bn ≤ N := by have := HW.out.count.2.2.2.1; omega
      have hown2 := HW.out.own
      rw [hbv] at hown2
      have HOWN := Lib.hid hown2
      clear hf5 q3 hbn hbt hbv hown2 HRR
      have HV5 := Lib.hid (HV.out.keep HF5'.out (fun _ _ h => h))
      have HW5 := Lib.hid (HW.out.keep0 HF5'.out)
      have HF5 := Lib.hid (HFA.out.step HF5'.out (fun _ h _ => h))
      have y5 := (HOWN.out.keep HF5'.out id).cell (i := 2) rfl
      have hz5 := HF5'.out.size
      go_wp2_with (at_builtin; go_must (refine wpList_append_vec rfl _ _ _ rfl B 9 1 16 elt_strs (HV5.out.keep ((Fr.refl (fun _ => False) _).alloc _) (fun _ _ h => h)) rfl (m := 1) (Reads.new _ _ _ _ (by simp) _ _) rfl rfl (string_one _) (by unfold maxLen; omega) (by omega) (by simp; omega) ?_); intro v9 w9 hv9 hf9 hd9 hn9; have hk9 := (((Fr.refl (fun _ => False) w5).alloc _).mono (S' := fun b => (Value.slice ba bn bc).ownBlock = some b) (fun _ h _ => h.elim)).step hf9 (fun _ h _ => h); have z9 := (HOWN.out.keep HF5'.out id).keepO hk9 (Only.vec HV5.out) (by decide); have y9 := z9.cell (i := 2) rfl; have g9 := z9.free 2 (by simp); obtain ⟨a9, q9, hs9, -⟩ := hv9.shape; subst hs9; have HV9 := Lib.hid hv9; have HK9 := Lib.hid hk9; clear hv9 hf9 hd9 hn9 z9 hk9)
      go_ret2
      have hp := WAt.pushBat (v' := .slice a9 (bn + 1) q9) HW5.out TT (by rw [HBN.out]; exact HV9.out) (by rw [HNV.out]; exact HK9.out) HTS
      exact ⟨rfl, by simpa using ⟨_, hp⟩, (HF5.out.step HK9.out (fun b hb hl => by have := (HV5.out.lt b hb).1; omega)).setCell ⟨gw, 2, none⟩ _ (fun h => by dsimp only at h; omega)⟩
end Go.Proofs.YtlcdgbhigfgehabGreatDoor
/- step: one step of the law's world. -/
namespace Go.Proofs.YtlcdgbhigfgehabGreatDoor
open Go.RowKit
set_option maxRecDepth 100000

theorem lists_any (w0 : World) (B gw N : Nat) (s : WSt) (kd oa ob oc : Int) (os ot : ByteArray) (w : World) (hk : kd = 1 ∨ kd = 2 ∨ kd = 3 ∨ kd = 4 ∨ kd = 5) (hB : B = w0.heap.size) (hg : ErrType w0) (hf : Fr (fun _ => False) w0 w) (h : WAt w B gw N s) (ho : OpOk ⟨kd, oa, ob, oc, os, ot⟩) (hN : N < 65536) :
    Calls Tryz.prog 53 #[.pointer (some ⟨gw, 0, none⟩), .agg #[.int .i64 kd, .int .i64 oa, .int .i64 ob, .int .i64 oc, .string os, .string ot]] w (ListsQ w0 B gw N s true) := by
  rcases hk with rfl | rfl | rfl | rfl | rfl
  · exact lists_file w0 B gw N s 1 oa ob oc os ot w rfl hB hg hf h ho hN
  · exact lists_tree w0 B gw N s 2 oa ob oc os ot w rfl hB hg hf h ho hN
  · exact lists_record w0 B gw N s 3 oa ob oc os ot w rfl hB hg hf h ho hN
  · exact lists_bytes w0 B gw N s 4 oa ob oc os ot w rfl hB hg hf h ho hN
  · exact lists_turn w0 B gw N s 5 oa ob oc os ot w rfl hB hg hf h ho hN
set_option maxHeartbeats 1000000 in
theorem lists_nope (v : Value) (kd oa ob oc : Int) (os ot : ByteArray) (w : World) (hk : kd ≠ 1 ∧ kd ≠ 2 ∧ kd ≠ 3 ∧ kd ≠ 4 ∧ kd ≠ 5) :
    Calls Tryz.prog 53 #[v, .agg #[.int .i64 kd, .int .i64 oa, .int .i64 ob, .int .i64 oc, .string os, .string ot]] w fun e w' => e = .returned (.tuple #[.bool false, .bool true]) ∧ Fr (fun _ => False) w w' := by
  obtain ⟨k1, k2, k3, k4, k5⟩ := hk
  go_enter Tryz.func53, Tryz.ntmps53
  go_wp2_with fail
  go_ret2
  exact ⟨rfl, (Fr.refl _ _).alloc _⟩
set_option maxHeartbeats 2000000 in
theorem step_list (w0 : World) (B gw N : Nat) (s : WSt) (kd oa ob oc : Int) (os ot : ByteArray) (w : World) (hk : kd = 1 ∨ kd = 2 ∨ kd = 3 ∨ kd = 4 ∨ kd = 5) (hB : B = w0.heap.size) (hg : ErrType w0) (he : ErrForm w0) (hf : Fr (fun _ => False) w0 w) (h : WAt w B gw N s) (ho : OpOk ⟨kd, oa, ob, oc, os, ot⟩) (hN : N < 65536) :
    Calls Tryz.prog 31 #[.pointer (some ⟨gw, 0, none⟩), .agg #[.int .i64 kd, .int .i64 oa, .int .i64 ob, .int .i64 oc, .string os, .string ot]] w (StepQ w0 B gw N) := by
  have HB := Lib.hid hB
  have H := Lib.hid h
  have HG := Lib.hid hg
  have HE := Lib.hid he
  have HF := Lib.hid hf
  have HO := Lib.hid ho
  have hz0 := hf.size
  have hB1 : B ≤ w0.heap.size := by omega
  have hB2 : w0.heap.size ≤ B := by omega
  have ha := ho.a
  have hb := ho.b
  have hc := ho.c
  dsimp only at ha hb hc
  clear hB h hg he hf ho
  have HK := Lib.hid hk
  clear hk
  go_enter Tryz.func31, Tryz.ntmps31
  go_wp2_with fail
  have hA : Fr (fun _ => False) w (w.alloc (.cells #[.int .i64 kd, .int .i64 oa, .int .i64 ob, .int .i64 oc, .string os, .string ot] 81)) := (Fr.refl _ _).alloc _
  have HP := Lib.hid (Own.alloc w #[.int .i64 kd, .int .i64 oa, .int .i64 ob, .int .i64 oc, .string os, .string ot] 81)
  obtain ⟨gp, hgp⟩ : ∃ gp, w.heap.size = gp := ⟨_, rfl⟩
  have HW := Lib.hid (H.out.keep0 hA)
  have HFA := Lib.hid (HF.out.step hA (fun _ h _ => h))
  rw [hgp] at HP ⊢
  clear hA hgp
  generalize w.alloc (.cells #[.int .i64 kd, .int .i64 oa, .int .i64 ob, .int .i64 oc, .string os, .string ot] 81) = wA at *
  refine (lists_any w0 B gw N s kd oa ob oc os ot wA HK.out HB.out HG.out HFA.out HW.out HO.out hN).mono ?_
  rintro e w1 ⟨rfl, h1, hf1⟩
  have H1 := Lib.hid h1
  have HF1 := Lib.hid hf1
  clear h1 hf1
  go_wp2_with fail
  go_ret
  exact ⟨rfl, by simpa using H1.out, HF1.out⟩
set_option maxHeartbeats 2000000 in
theorem step_new (w0 : World) (B gw N : Nat) (s : WSt) (kd oa ob oc : Int) (os ot : ByteArray) (w : World) (hk : kd = 6) (hB : B = w0.heap.size) (hg : ErrType w0) (he : ErrForm w0) (hf : Fr (fun _ => False) w0 w) (h : WAt w B gw N s) (ho : OpOk ⟨kd, oa, ob, oc, os, ot⟩) (hN : N < 65536) :
    Calls Tryz.prog 31 #[.pointer (some ⟨gw, 0, none⟩), .agg #[.int .i64 kd, .int .i64 oa, .int .i64 ob, .int .i64 oc, .string os, .string ot]] w (StepQ w0 B gw N) := by
  have HB := Lib.hid hB
  have H := Lib.hid h
  have HG := Lib.hid hg
  have HE := Lib.hid he
  have HF := Lib.hid hf
  have HO := Lib.hid ho
  have hz0 := hf.size
  have hB1 : B ≤ w0.heap.size := by omega
  have hB2 : w0.heap.size ≤ B := by omega
  have ha := ho.a
  have hb := ho.b
  have hc := ho.c
  dsimp only at ha hb hc
  clear hB h hg he hf ho
  subst hk
  have HNK := Lib.hid (show (6 : Int) ≠ 1 ∧ (6 : Int) ≠ 2 ∧ (6 : Int) ≠ 3 ∧ (6 : Int) ≠ 4 ∧ (6 : Int) ≠ 5 from ⟨by decide, by decide, by decide, by decide, by decide⟩)
  go_enter Tryz.func31, Tryz.ntmps31
  go_wp2_with fail
  have hA : Fr (fun _ => False) w (w.alloc (.cells #[.int .i64 6, .int .i64 oa, .int .i64 ob, .int .i64 oc, .string os, .string ot] 81)) := (Fr.refl _ _).alloc _
  have HP := Lib.hid (Own.alloc w #[.int .i64 6, .int .i64 oa, .int .i64 ob, .int .i64 oc, .string os, .string ot] 81)
  obtain ⟨gp, hgp⟩ : ∃ gp, w.heap.size = gp := ⟨_, rfl⟩
  have HW := Lib.hid (H.out.keep0 hA)
  have HFA := Lib.hid (HF.out.step hA (fun _ h _ => h))
  rw [hgp] at HP ⊢
  clear hA hgp
  generalize w.alloc (.cells #[.int .i64 6, .int .i64 oa, .int .i64 ob, .int .i64 oc, .string os, .string ot] 81) = wA at *
  refine (lists_nope _ 6 oa ob oc os ot wA HNK.out).mono ?_
  rintro e w1 ⟨rfl, hf1⟩
  have HW1 := Lib.hid (HW.out.keep0 hf1)
  have HF1 := Lib.hid (HFA.out.step hf1 (fun _ h _ => h))
  have HP1 := Lib.hid (HP.out.keep hf1 id)
  clear hf1 HW HFA HP
  obtain ⟨tn, htn⟩ : ∃ tn, s.trees.length = tn := ⟨_, rfl⟩
  have HTN := Lib.hid htn
  have htt := HW1.out.tree
  rw [htn] at htt
  obtain ⟨ta, tc, htv, -⟩ := htt.shape
  have HTV := Lib.hid htv
  have hown := HW1.out.own
  rw [htv] at hown htt
  have HOWN := Lib.hid hown
  have HTT := Lib.hid htt
  have hn : tn ≤ N := by have := HW1.out.count.2.1; omega
  have o1 := hown.cell (i := 1) rfl
  have p0 := HP1.out.cell (i := 0) rfl
  clear htn htt htv hown
  by_cases hz : tn = 0
  · subst hz
    go_wp2_with fail
    go_ret
    exact ⟨rfl, ⟨_, HW1.out.more⟩, HF1.out⟩
  have z1 : ((tn : Int) == 0) = false := by simpa using hz
  obtain ⟨gt, ct, rt, hqt, hBt, hot, -⟩ := HTT.out.row (by omega)
  simp only [Value.slice.injEq, true_and] at hqt
  obtain ⟨rfl, rfl⟩ := hqt
  have hpb := pickOf_bounds oa tn (by omega)
  have HPA := Lib.hid (fun w => lpick_any oa tn w (by omega) ha.1 ha.2 (by omega))
  obtain ⟨p, hp⟩ : ∃ p : Nat, pickOf oa tn = p := ⟨(pickOf oa tn).toNat, by omega⟩
  rw [hp] at HPA hpb
  have hpt : p < s.trees.length := by rw [HTN.out]; omega
  have hpn : p < tn := by omega
  have hmem := List.getElem_mem hpt
  obtain ⟨lv, l, hPl⟩ : ∃ lv l, s.trees[p] = (lv, l) := ⟨_, _, rfl⟩
  rw [hPl] at hmem
  have HMEM := Lib.hid hmem
  have e1 : w1.drew.cell? ⟨gt, p, none⟩ = some lv := (hot.keep (Fr.drew (Fr.refl (fun _ => False) w1)) id).cell (by rw [List.getElem?_append_left (by rw [List.length_map]; exact hpt), List.getElem?_map, List.getElem?_eq_getElem hpt, hPl]; rfl)
  have o2 := (HOWN.out.keep (Fr.drew (Fr.refl (fun _ => False) w1)) id).cell (i := 1) rfl
  have q1 := (HP1.out.keep (Fr.drew (Fr.refl (fun _ => False) w1)) id).cell (i := 1) rfl
  have q2 := (HP1.out.keep (Fr.drew (Fr.refl (fun _ => False) w1)) id).cell (i := 2) rfl
  have hrf : Refs w1 B lv l := HW1.out.each _ hmem
  obtain ⟨la, lc, rfl, -⟩ := Vec.shape hrf
  clear hp hot hpb hz hPl hmem hpt hrf
  go_wp2_with fail
  go_still_tail 17, (by kernel_rfl)
  still_call ((HPA.out _).mono (fun _ _ h => ⟨h.1, h.2.symm⟩))
  repeat still_step
  refine wpStill_nil ?_
  change wpList _ _ _ _ _ w1.drew
  have hD : Fr (fun _ => False) w1 w1.drew := (Fr.refl _ _).drew
  have HW2 := Lib.hid (HW1.out.keep0 hD)
  have HF2 := Lib.hid (HF1.out.step hD (fun _ h _ => h))
  clear hD e1 o2 q1 q2 p0 o1
  generalize w1.drew = w2 at *
  go_wp2_with fail
  refine (opened_any w0 B gw N s _ l ob w2 HB.out HG.out HE.out HF2.out HW2.out HMEM.out hN).mono ?_
  rintro e w3 ⟨rfl, h3, hf3⟩
  have H3 := Lib.hid h3
  have HF3 := Lib.hid hf3
  clear h3 hf3
  go_wp2_with fail
  go_ret
  exact ⟨rfl, H3.out, HF3.out⟩
end Go.Proofs.YtlcdgbhigfgehabGreatDoor
/- step: Files. -/
namespace Go.Proofs.YtlcdgbhigfgehabGreatDoor
open Go.RowKit
set_option maxRecDepth 100000

set_option maxHeartbeats 2000000 in
theorem step_files (w0 : World) (B gw N : Nat) (s : WSt) (kd oa ob oc : Int) (os ot : ByteArray) (w : World) (hk : kd = 7) (hB : B = w0.heap.size) (hg : ErrType w0) (he : ErrForm w0) (hf : Fr (fun _ => False) w0 w) (h : WAt w B gw N s) (ho : OpOk ⟨kd, oa, ob, oc, os, ot⟩) (hN : N < 65536) :
    Calls Tryz.prog 31 #[.pointer (some ⟨gw, 0, none⟩), .agg #[.int .i64 kd, .int .i64 oa, .int .i64 ob, .int .i64 oc, .string os, .string ot]] w (StepQ w0 B gw N) := by
  have HB := Lib.hid hB
  have H := Lib.hid h
  have HG := Lib.hid hg
  have HE := Lib.hid he
  have HF := Lib.hid hf
  have HO := Lib.hid ho
  have hz0 := hf.size
  have hB1 : B ≤ w0.heap.size := by omega
  have hB2 : w0.heap.size ≤ B := by omega
  have ha := ho.a
  have hb := ho.b
  have hc := ho.c
  dsimp only at ha hb hc
  clear hB h hg he hf ho
  subst hk
  have HNK := Lib.hid (show (7 : Int) ≠ 1 ∧ (7 : Int) ≠ 2 ∧ (7 : Int) ≠ 3 ∧ (7 : Int) ≠ 4 ∧ (7 : Int) ≠ 5 from ⟨by decide, by decide, by decide, by decide, by decide⟩)
  go_enter Tryz.func31, Tryz.ntmps31
  go_wp2_with fail
  have hA : Fr (fun _ => False) w (w.alloc (.cells #[.int .i64 7, .int .i64 oa, .int .i64 ob, .int .i64 oc, .string os, .string ot] 81)) := (Fr.refl _ _).alloc _
  have HP := Lib.hid (Own.alloc w #[.int .i64 7, .int .i64 oa, .int .i64 ob, .int .i64 oc, .string os, .string ot] 81)
  obtain ⟨gp, hgp⟩ : ∃ gp, w.heap.size = gp := ⟨_, rfl⟩
  have HW := Lib.hid (H.out.keep0 hA)
  have HFA := Lib.hid (HF.out.step hA (fun _ h _ => h))
  rw [hgp] at HP ⊢
  clear hA hgp
  generalize w.alloc (.cells #[.int .i64 7, .int .i64 oa, .int .i64 ob, .int .i64 oc, .string os, .string ot] 81) = wA at *
  refine (lists_nope _ 7 oa ob oc os ot wA HNK.out).mono ?_
  rintro e w1 ⟨rfl, hf1⟩
  have HW1 := Lib.hid (HW.out.keep0 hf1)
  have HF1 := Lib.hid (HFA.out.step hf1 (fun _ h _ => h))
  have HP1 := Lib.hid (HP.out.keep hf1 id)
  clear hf1 HW HFA HP
  obtain ⟨bn, hbn⟩ : ∃ bn, s.bat.length = bn := ⟨_, rfl⟩
  have HBN := Lib.hid hbn
  have hbt := HW1.out.bat
  rw [hbn] at hbt
  obtain ⟨ba, bc, hbv, -⟩ := hbt.shape
  have hown := HW1.out.own
  rw [hbv] at hown hbt
  have HOWN := Lib.hid hown
  have HBT := Lib.hid hbt
  obtain ⟨mn, hmn⟩ : ∃ mn, s.ms.length = mn := ⟨_, rfl⟩
  have HMN := Lib.hid hmn
  have hmt := HW1.out.mirs
  rw [hmn] at hmt
  obtain ⟨ma, mc, hmv, -⟩ := hmt.shape
  have HMV := Lib.hid hmv
  have hnb : bn ≤ N := by have := HW1.out.count.2.2.2.1; omega
  have hnm : mn ≤ N := by have := HW1.out.count.2.2.2.2.1; omega
  have o1 := hown.cell (i := 2) rfl
  have p0 := HP1.out.cell (i := 0) rfl
  have p2 := HP1.out.cell (i := 2) rfl
  clear hbn hbt hbv hown hmn hmt hmv
  by_cases hz : bn = 0
  focus
    subst hz
    have HSB := Lib.hid (show ByteArray.empty.size ≤ 1000000 by decide)
    obtain ⟨w2, hw2⟩ : ∃ w2, w2 = w1 := ⟨_, rfl⟩
    subst hw2
    have HW2 := Lib.hid HW1.out
    have HF2 := Lib.hid HF1.out
    have HP2 := Lib.hid HP1.out
    have m3 := HW2.out.own.cell (i := 3) rfl
    rw [HMV.out] at m3
    have hee : (⟨#[]⟩ : ByteArray) = ByteArray.empty := rfl
    go_upto_region 14 with fail
  rotate_left
  focus
    have z1 : decide ((bn : Int) > 0) = true := by simp; omega
    obtain ⟨gb, cb, rb, hqb, hBb, hob, -⟩ := HBT.out.row (by omega)
    simp only [Value.slice.injEq, true_and] at hqb
    obtain ⟨rfl, rfl⟩ := hqb
    have hpb := pickOf_bounds ob bn (by omega)
    have HPK := Lib.hid (fun w => lpick_any ob bn w (by omega) hb.1 hb.2 (by omega))
    obtain ⟨p, hp⟩ : ∃ p : Nat, pickOf ob bn = p := ⟨(pickOf ob bn).toNat, by omega⟩
    rw [hp] at HPK hpb
    have hpl : p < s.bat.length := by rw [HBN.out]; omega
    have hpn : p < bn := by omega
    obtain ⟨tb, htb⟩ : ∃ tb, s.bat[p] = tb := ⟨_, rfl⟩
    have HSB := Lib.hid (show tb.size ≤ 1000000 by rw [← htb]; exact HW1.out.sizes.2.2 _ (List.getElem_mem _))
    have e1 : w1.cell? ⟨gb, p, none⟩ = some (.string tb) := hob.cell (by rw [List.getElem?_append_left (by rw [List.length_map]; exact hpl), List.getElem?_map, List.getElem?_eq_getElem hpl, htb]; rfl)
    clear hp hob htb hpb hz hpl
    go_wp2_with fail
    go_quiet ((go_at_call 55; exact Calls.quiet_of_same ((HPK.out _).mono (fun _ _ h => ⟨h.1, h.2.symm⟩))))
    have hD : Fr (fun _ => False) w1 (w1.drewN nq) := (Fr.refl _ _).drewN nq
    have HW2 := Lib.hid (HW1.out.keep0 hD)
    have HF2 := Lib.hid (HF1.out.step hD (fun _ h _ => h))
    have HP2 := Lib.hid (HP1.out.keep hD id)
    clear hD e1 o1 p0 p2
    generalize w1.drewN nq = w2 at *
    have p0 := HP2.out.cell (i := 0) rfl
    have m3 := HW2.out.own.cell (i := 3) rfl
    rw [HMV.out] at m3
    go_upto_region 14 with fail
  all_goals
    by_cases hmz : mn = 0
    · subst hmz
      go_wp2_with fail
      go_ret
      exact ⟨rfl, ⟨_, HW2.out.more⟩, HF2.out⟩
    have z2 : ((mn : Int) == 0) = false := by simpa using hmz
    have hmt := HW2.out.mirs
    rw [HMV.out, HMN.out] at hmt
    obtain ⟨gq, cq, rq, hqq, hBq, hoq, -⟩ := hmt.row (by omega)
    simp only [Value.slice.injEq, true_and] at hqq
    obtain ⟨rfl, rfl⟩ := hqq
    have hpb := pickOf_bounds oa mn (by omega)
    have HPA := Lib.hid (fun w => lpick_any oa mn w (by omega) ha.1 ha.2 (by omega))
    obtain ⟨pi, hp⟩ : ∃ p : Nat, pickOf oa mn = p := ⟨(pickOf oa mn).toNat, by omega⟩
    rw [hp] at HPA hpb
    have hpm : pi < s.ms.length := by rw [HMN.out]; omega
    have hpn2 : pi < mn := by omega
    have hpg := pairCells_get s.ms pi hpm
    have hlp : (pairCells s.ms).length = s.ms.length * 2 := length_pairCells _
    obtain ⟨x, hx⟩ : ∃ x, s.ms[pi] = x := ⟨_, rfl⟩
    have HXE := Lib.hid (show ∃ h : pi < s.ms.length, s.ms[pi]'h = x from ⟨hpm, hx⟩)
    rw [hx] at hpg
    have e1 : w2.drew.cell? ⟨gq, pi * 2, none⟩ = some (.pointer (some ⟨x.gm, 0, none⟩)) := (hoq.keep (Fr.drew (Fr.refl (fun _ => False) w2)) id).cell (by rw [List.getElem?_append_left (by rw [hlp]; omega)]; exact hpg.1)
    have e2 : w2.drew.cell? ⟨gq, pi * 2 + 1, none⟩ = some (.pointer (some ⟨x.gr, 0, none⟩)) := (hoq.keep (Fr.drew (Fr.refl (fun _ => False) w2)) id).cell (by rw [List.getElem?_append_left (by rw [hlp]; omega)]; exact hpg.2)
    have ho2 := HW2.out.own.keep (Fr.drew (Fr.refl (fun _ => False) w2)) id
    rw [HMV.out] at ho2
    have o2 := ho2.cell (i := 3) rfl
    have q1 := (HP2.out.keep (Fr.drew (Fr.refl (fun _ => False) w2)) id).cell (i := 1) rfl
    have hpgl := HP2.out.lt
    have lq := hoq.lt
    have lw := HW2.out.own.lt
    have nq1 : ¬ gq = w2.heap.size := by omega
    have np1 : ¬ gp = w2.heap.size := by omega
    have nw1 : ¬ gw = w2.heap.size := by omega
    have hAz : Fr (fun _ => False) w2 (w2.alloc (.cells #[.pointer none, .pointer none] 125)).drew := ((Fr.refl _ _).alloc _).drew
    have hSz : ∀ wz, Fr (fun b => b = w2.heap.size) w2 wz → wz.cell? ⟨gw, 3, none⟩ = some (.slice (some ⟨gq, 0, none⟩) mn mc) ∧ wz.cell? ⟨gp, 1, none⟩ = some (.int .i64 oa) ∧ wz.cell? ⟨gq, pi * 2, none⟩ = some (.pointer (some ⟨x.gm, 0, none⟩)) ∧ wz.cell? ⟨gq, pi * 2 + 1, none⟩ = some (.pointer (some ⟨x.gr, 0, none⟩)) := fun wz k =>
      ⟨k.cell (by have := o2; simpa using this) nw1, k.cell (by have := q1; simpa using this) np1, k.cell (by have := e1; simpa using this) nq1, k.cell (by have := e2; simpa using this) nq1⟩
    have HSZ := Lib.hid hSz
    have HAZ := Lib.hid (hAz.mono (S' := fun b => b = w2.heap.size) (fun _ h _ => h.elim))
    clear hAz hSz
    clear hp hoq hpb hmz hpg hlp hx hpm ho2 hmt
    go_upto_region 18 with fail
    go_region_held3 (fun w' => w'.cell? ⟨gw, 3, none⟩ = some (.slice (some ⟨gq, 0, none⟩) mn mc) ∧ w'.cell? ⟨gp, 1, none⟩ = some (.int .i64 oa) ∧ w'.cell? ⟨gq, pi * 2, none⟩ = some (.pointer (some ⟨x.gm, 0, none⟩)) ∧ w'.cell? ⟨gq, pi * 2 + 1, none⟩ = some (.pointer (some ⟨x.gr, 0, none⟩))) (first | exact ⟨o2, q1, e1, e2⟩ | exact HSZ.out _ HAZ.out | exact HSZ.out _ (HAZ.out.setCell _ _ (fun _ => rfl)) | exact HSZ.out _ ((HAZ.out.setCell _ _ (fun _ => rfl)).setCell _ _ (fun _ => rfl)) | exact HSZ.out _ (((((Fr.refl (fun b => b = w2.heap.size) w2).alloc _).setCell _ _ (fun _ => rfl)).setCell _ _ (fun _ => rfl)).drew) | exact HSZ.out _ (((Fr.refl (fun b => b = w2.heap.size) w2).alloc _).drew) | go_keep)
      (first | (go_at_call 55; refine (HPA.out _).mono ?_; rintro e w' ⟨rfl, hw'⟩; subst hw'))
    all_goals
      have hA3 : Fr (fun _ => False) w2 (w2.alloc (.cells #[.pointer (some ⟨x.gm, 0, none⟩), .pointer (some ⟨x.gr, 0, none⟩)] 125)).drew := ((Fr.refl _ _).alloc _).drew
      have HW4 := Lib.hid (HW2.out.keep0 hA3)
      have HF4 := Lib.hid (HF2.out.step hA3 (fun _ h _ => h))
      have HP4 := Lib.hid (HP2.out.keep hA3 id)
      have HZ4 := Lib.hid ((Own.alloc w2 #[.pointer (some ⟨x.gm, 0, none⟩), .pointer (some ⟨x.gr, 0, none⟩)] 125).keep ((Fr.refl (fun _ => False) _).drew) id)
      clear HAZ HSZ e1 e2 o2 q1 hA3 p0 m3
      generalize (w2.alloc (.cells #[.pointer (some ⟨x.gm, 0, none⟩), .pointer (some ⟨x.gr, 0, none⟩)] 125)).drew = w4 at *
      have r0 := HP4.out.cell (i := 0) rfl
      have r2 := HP4.out.cell (i := 2) rfl
      have r3 := HP4.out.cell (i := 3) rfl
      have zc0 := HZ4.out.cell (i := 0) rfl
      have zc1 := HZ4.out.cell (i := 1) rfl
      clear nq1 np1 nw1 lq lw
      go_wp2_with fail
      obtain ⟨hpm, hx⟩ := HXE.out
      subst hx
      refine (listed_any w0 B gw N s pi hpm _ HB.out HG.out HE.out HF4.out HW4.out hN).mono ?_
      rintro e w5 ⟨rfl, h5, hf5⟩
      have H5 := Lib.hid h5
      have HF5 := Lib.hid hf5
      clear h5 hf5
      go_wp2_with fail
      go_ret
      exact ⟨rfl, H5.out, HF5.out⟩
end Go.Proofs.YtlcdgbhigfgehabGreatDoor
/- step: Replay. -/
namespace Go.Proofs.YtlcdgbhigfgehabGreatDoor
open Go.RowKit
set_option maxRecDepth 100000

set_option maxHeartbeats 2000000 in
theorem step_replay (w0 : World) (B gw N : Nat) (s : WSt) (kd oa ob oc : Int) (os ot : ByteArray) (w : World) (hk : kd = 8) (hB : B = w0.heap.size) (hg : ErrType w0) (he : ErrForm w0) (hf : Fr (fun _ => False) w0 w) (h : WAt w B gw N s) (ho : OpOk ⟨kd, oa, ob, oc, os, ot⟩) (hN : N < 65536) :
    Calls Tryz.prog 31 #[.pointer (some ⟨gw, 0, none⟩), .agg #[.int .i64 kd, .int .i64 oa, .int .i64 ob, .int .i64 oc, .string os, .string ot]] w (StepQ w0 B gw N) := by
  have HB := Lib.hid hB
  have H := Lib.hid h
  have HG := Lib.hid hg
  have HE := Lib.hid he
  have HF := Lib.hid hf
  have HO := Lib.hid ho
  have hz0 := hf.size
  have hB1 : B ≤ w0.heap.size := by omega
  have hB2 : w0.heap.size ≤ B := by omega
  have ha := ho.a
  have hb := ho.b
  have hc := ho.c
  dsimp only at ha hb hc
  clear hB h hg he hf ho
  subst hk
  have HNK := Lib.hid (show (8 : Int) ≠ 1 ∧ (8 : Int) ≠ 2 ∧ (8 : Int) ≠ 3 ∧ (8 : Int) ≠ 4 ∧ (8 : Int) ≠ 5 from ⟨by decide, by decide, by decide, by decide, by decide⟩)
  go_enter Tryz.func31, Tryz.ntmps31
  go_wp2_with fail
  have hA : Fr (fun _ => False) w (w.alloc (.cells #[.int .i64 8, .int .i64 oa, .int .i64 ob, .int .i64 oc, .string os, .string ot] 81)) := (Fr.refl _ _).alloc _
  have HP := Lib.hid (Own.alloc w #[.int .i64 8, .int .i64 oa, .int .i64 ob, .int .i64 oc, .string os, .string ot] 81)
  obtain ⟨gp, hgp⟩ : ∃ gp, w.heap.size = gp := ⟨_, rfl⟩
  have HW := Lib.hid (H.out.keep0 hA)
  have HFA := Lib.hid (HF.out.step hA (fun _ h _ => h))
  rw [hgp] at HP ⊢
  clear hA hgp
  generalize w.alloc (.cells #[.int .i64 8, .int .i64 oa, .int .i64 ob, .int .i64 oc, .string os, .string ot] 81) = wA at *
  refine (lists_nope _ 8 oa ob oc os ot wA HNK.out).mono ?_
  rintro e w1 ⟨rfl, hf1⟩
  have HW1 := Lib.hid (HW.out.keep0 hf1)
  have HF1 := Lib.hid (HFA.out.step hf1 (fun _ h _ => h))
  have HP1 := Lib.hid (HP.out.keep hf1 id)
  clear hf1 HW HFA HP
  obtain ⟨bn, hbn⟩ : ∃ bn, s.bat.length = bn := ⟨_, rfl⟩
  have HBN := Lib.hid hbn
  have hbt := HW1.out.bat
  rw [hbn] at hbt
  obtain ⟨ba, bc, hbv, -⟩ := hbt.shape
  have hown := HW1.out.own
  rw [hbv] at hown hbt
  have HOWN := Lib.hid hown
  have HBT := Lib.hid hbt
  obtain ⟨mn, hmn⟩ : ∃ mn, s.ms.length = mn := ⟨_, rfl⟩
  have HMN := Lib.hid hmn
  have hmt := HW1.out.mirs
  rw [hmn] at hmt
  obtain ⟨ma, mc, hmv, -⟩ := hmt.shape
  have HMV := Lib.hid hmv
  have hnb : bn ≤ N := by have := HW1.out.count.2.2.2.1; omega
  have hnm : mn ≤ N := by have := HW1.out.count.2.2.2.2.1; omega
  have o1 := hown.cell (i := 2) rfl
  have p0 := HP1.out.cell (i := 0) rfl
  have p2 := HP1.out.cell (i := 2) rfl
  clear hbn hbt hbv hown hmn hmt hmv
  by_cases hz : bn = 0
  focus
    subst hz
    have HSB := Lib.hid (show ByteArray.empty.size ≤ 1000000 by decide)
    obtain ⟨w2, hw2⟩ : ∃ w2, w2 = w1 := ⟨_, rfl⟩
    subst hw2
    have HW2 := Lib.hid HW1.out
    have HF2 := Lib.hid HF1.out
    have HP2 := Lib.hid HP1.out
    have m3 := HW2.out.own.cell (i := 3) rfl
    rw [HMV.out] at m3
    have hee : (⟨#[]⟩ : ByteArray) = ByteArray.empty := rfl
    go_upto_region 14 with fail
  rotate_left
  focus
    have z1 : decide ((bn : Int) > 0) = true := by simp; omega
    obtain ⟨gb, cb, rb, hqb, hBb, hob, -⟩ := HBT.out.row (by omega)
    simp only [Value.slice.injEq, true_and] at hqb
    obtain ⟨rfl, rfl⟩ := hqb
    have hpb := pickOf_bounds ob bn (by omega)
    have HPK := Lib.hid (fun w => lpick_any ob bn w (by omega) hb.1 hb.2 (by omega))
    obtain ⟨p, hp⟩ : ∃ p : Nat, pickOf ob bn = p := ⟨(pickOf ob bn).toNat, by omega⟩
    rw [hp] at HPK hpb
    have hpl : p < s.bat.length := by rw [HBN.out]; omega
    have hpn : p < bn := by omega
    obtain ⟨tb, htb⟩ : ∃ tb, s.bat[p] = tb := ⟨_, rfl⟩
    have HSB := Lib.hid (show tb.size ≤ 1000000 by rw [← htb]; exact HW1.out.sizes.2.2 _ (List.getElem_mem _))
    have e1 : w1.cell? ⟨gb, p, none⟩ = some (.string tb) := hob.cell (by rw [List.getElem?_append_left (by rw [List.length_map]; exact hpl), List.getElem?_map, List.getElem?_eq_getElem hpl, htb]; rfl)
    clear hp hob htb hpb hz hpl
    go_wp2_with fail
    go_quiet ((go_at_call 55; exact Calls.quiet_of_same ((HPK.out _).mono (fun _ _ h => ⟨h.1, h.2.symm⟩))))
    have hD : Fr (fun _ => False) w1 (w1.drewN nq) := (Fr.refl _ _).drewN nq
    have HW2 := Lib.hid (HW1.out.keep0 hD)
    have HF2 := Lib.hid (HF1.out.step hD (fun _ h _ => h))
    have HP2 := Lib.hid (HP1.out.keep hD id)
    clear hD e1 o1 p0 p2
    generalize w1.drewN nq = w2 at *
    have p0 := HP2.out.cell (i := 0) rfl
    have m3 := HW2.out.own.cell (i := 3) rfl
    rw [HMV.out] at m3
    go_upto_region 14 with fail
  all_goals
    by_cases hmz : mn = 0
    · subst hmz
      go_wp2_with fail
      go_ret
      exact ⟨rfl, ⟨_, HW2.out.more⟩, HF2.out⟩
    have z2 : ((mn : Int) == 0) = false := by simpa using hmz
    have hmt := HW2.out.mirs
    rw [HMV.out, HMN.out] at hmt
    obtain ⟨gq, cq, rq, hqq, hBq, hoq, -⟩ := hmt.row (by omega)
    simp only [Value.slice.injEq, true_and] at hqq
    obtain ⟨rfl, rfl⟩ := hqq
    have hpb := pickOf_bounds oa mn (by omega)
    have HPA := Lib.hid (fun w => lpick_any oa mn w (by omega) ha.1 ha.2 (by omega))
    obtain ⟨pi, hp⟩ : ∃ p : Nat, pickOf oa mn = p := ⟨(pickOf oa mn).toNat, by omega⟩
    rw [hp] at HPA hpb
    have hpm : pi < s.ms.length := by rw [HMN.out]; omega
    have hpn2 : pi < mn := by omega
    have hpg := pairCells_get s.ms pi hpm
    have hlp : (pairCells s.ms).length = s.ms.length * 2 := length_pairCells _
    obtain ⟨x, hx⟩ : ∃ x, s.ms[pi] = x := ⟨_, rfl⟩
    have HXE := Lib.hid (show ∃ h : pi < s.ms.length, s.ms[pi]'h = x from ⟨hpm, hx⟩)
    rw [hx] at hpg
    have e1 : w2.drew.cell? ⟨gq, pi * 2, none⟩ = some (.pointer (some ⟨x.gm, 0, none⟩)) := (hoq.keep (Fr.drew (Fr.refl (fun _ => False) w2)) id).cell (by rw [List.getElem?_append_left (by rw [hlp]; omega)]; exact hpg.1)
    have e2 : w2.drew.cell? ⟨gq, pi * 2 + 1, none⟩ = some (.pointer (some ⟨x.gr, 0, none⟩)) := (hoq.keep (Fr.drew (Fr.refl (fun _ => False) w2)) id).cell (by rw [List.getElem?_append_left (by rw [hlp]; omega)]; exact hpg.2)
    have ho2 := HW2.out.own.keep (Fr.drew (Fr.refl (fun _ => False) w2)) id
    rw [HMV.out] at ho2
    have o2 := ho2.cell (i := 3) rfl
    have q1 := (HP2.out.keep (Fr.drew (Fr.refl (fun _ => False) w2)) id).cell (i := 1) rfl
    have hpgl := HP2.out.lt
    have lq := hoq.lt
    have lw := HW2.out.own.lt
    have nq1 : ¬ gq = w2.heap.size := by omega
    have np1 : ¬ gp = w2.heap.size := by omega
    have nw1 : ¬ gw = w2.heap.size := by omega
    have hAz : Fr (fun _ => False) w2 (w2.alloc (.cells #[.pointer none, .pointer none] 125)).drew := ((Fr.refl _ _).alloc _).drew
    have hSz : ∀ wz, Fr (fun b => b = w2.heap.size) w2 wz → wz.cell? ⟨gw, 3, none⟩ = some (.slice (some ⟨gq, 0, none⟩) mn mc) ∧ wz.cell? ⟨gp, 1, none⟩ = some (.int .i64 oa) ∧ wz.cell? ⟨gq, pi * 2, none⟩ = some (.pointer (some ⟨x.gm, 0, none⟩)) ∧ wz.cell? ⟨gq, pi * 2 + 1, none⟩ = some (.pointer (some ⟨x.gr, 0, none⟩)) := fun wz k =>
      ⟨k.cell (by have := o2; simpa using this) nw1, k.cell (by have := q1; simpa using this) np1, k.cell (by have := e1; simpa using this) nq1, k.cell (by have := e2; simpa using this) nq1⟩
    have HSZ := Lib.hid hSz
    have HAZ := Lib.hid (hAz.mono (S' := fun b => b = w2.heap.size) (fun _ h _ => h.elim))
    clear hAz hSz
    clear hp hoq hpb hmz hpg hlp hx hpm ho2 hmt
    go_upto_region 18 with fail
    go_region_held3 (fun w' => w'.cell? ⟨gw, 3, none⟩ = some (.slice (some ⟨gq, 0, none⟩) mn mc) ∧ w'.cell? ⟨gp, 1, none⟩ = some (.int .i64 oa) ∧ w'.cell? ⟨gq, pi * 2, none⟩ = some (.pointer (some ⟨x.gm, 0, none⟩)) ∧ w'.cell? ⟨gq, pi * 2 + 1, none⟩ = some (.pointer (some ⟨x.gr, 0, none⟩))) (first | exact ⟨o2, q1, e1, e2⟩ | exact HSZ.out _ HAZ.out | exact HSZ.out _ (HAZ.out.setCell _ _ (fun _ => rfl)) | exact HSZ.out _ ((HAZ.out.setCell _ _ (fun _ => rfl)).setCell _ _ (fun _ => rfl)) | exact HSZ.out _ (((((Fr.refl (fun b => b = w2.heap.size) w2).alloc _).setCell _ _ (fun _ => rfl)).setCell _ _ (fun _ => rfl)).drew) | exact HSZ.out _ (((Fr.refl (fun b => b = w2.heap.size) w2).alloc _).drew) | go_keep)
      (first | (go_at_call 55; refine (HPA.out _).mono ?_; rintro e w' ⟨rfl, hw'⟩; subst hw'))
    all_goals
      have hA3 : Fr (fun _ => False) w2 (w2.alloc (.cells #[.pointer (some ⟨x.gm, 0, none⟩), .pointer (some ⟨x.gr, 0, none⟩)] 125)).drew := ((Fr.refl _ _).alloc _).drew
      have HW4 := Lib.hid (HW2.out.keep0 hA3)
      have HF4 := Lib.hid (HF2.out.step hA3 (fun _ h _ => h))
      have HP4 := Lib.hid (HP2.out.keep hA3 id)
      have HZ4 := Lib.hid ((Own.alloc w2 #[.pointer (some ⟨x.gm, 0, none⟩), .pointer (some ⟨x.gr, 0, none⟩)] 125).keep ((Fr.refl (fun _ => False) _).drew) id)
      clear HAZ HSZ e1 e2 o2 q1 hA3 p0 m3
      generalize (w2.alloc (.cells #[.pointer (some ⟨x.gm, 0, none⟩), .pointer (some ⟨x.gr, 0, none⟩)] 125)).drew = w4 at *
      have r0 := HP4.out.cell (i := 0) rfl
      have r2 := HP4.out.cell (i := 2) rfl
      have r3 := HP4.out.cell (i := 3) rfl
      have zc0 := HZ4.out.cell (i := 0) rfl
      have zc1 := HZ4.out.cell (i := 1) rfl
      clear nq1 np1 nw1 lq lw
      go_wp2_with fail
      obtain ⟨hpm, hx⟩ := HXE.out
      subst hx
      have HM4 := Lib.hid (HW4.out.mir _ (List.getElem_mem hpm))
      refine (replayed_any w0 B s.ms[pi] _ oc _ HB.out HG.out HE.out HF4.out HM4.out HSB.out).mono ?_
      rintro e w5 ⟨rfl, hsm⟩
      have HSM := Lib.hid hsm
      have HS5 := Lib.hid (HW4.out.mirStep pi hpm hsm)
      clear hsm
      go_wp2_with fail
      go_ret
      obtain ⟨s', hs'⟩ := HS5.out
      obtain ⟨x', -, -, -, -, -, k5⟩ := HSM.out
      have hlo := HM4.out.lo
      exact ⟨rfl, ⟨s', hs'.more⟩, HF4.out.step k5 (fun b hb hl => by rcases hb with e | e | e <;> omega)⟩
end Go.Proofs.YtlcdgbhigfgehabGreatDoor
/- step: Recover. -/
namespace Go.Proofs.YtlcdgbhigfgehabGreatDoor
open Go.RowKit
set_option maxRecDepth 100000

set_option maxHeartbeats 2000000 in
theorem step_again (w0 : World) (B gw N : Nat) (s : WSt) (kd oa ob oc : Int) (os ot : ByteArray) (w : World) (hk : kd = 9) (hB : B = w0.heap.size) (hg : ErrType w0) (he : ErrForm w0) (hf : Fr (fun _ => False) w0 w) (h : WAt w B gw N s) (ho : OpOk ⟨kd, oa, ob, oc, os, ot⟩) (hN : N < 65536) :
    Calls Tryz.prog 31 #[.pointer (some ⟨gw, 0, none⟩), .agg #[.int .i64 kd, .int .i64 oa, .int .i64 ob, .int .i64 oc, .string os, .string ot]] w (StepQ w0 B gw N) := by
  have HB := Lib.hid hB
  have H := Lib.hid h
  have HG := Lib.hid hg
  have HE := Lib.hid he
  have HF := Lib.hid hf
  have HO := Lib.hid ho
  have hz0 := hf.size
  have hB1 : B ≤ w0.heap.size := by omega
  have hB2 : w0.heap.size ≤ B := by omega
  have ha := ho.a
  have hb := ho.b
  have hc := ho.c
  dsimp only at ha hb hc
  clear hB h hg he hf ho
  subst hk
  have HNK := Lib.hid (show (9 : Int) ≠ 1 ∧ (9 : Int) ≠ 2 ∧ (9 : Int) ≠ 3 ∧ (9 : Int) ≠ 4 ∧ (9 : Int) ≠ 5 from ⟨by decide, by decide, by decide, by decide, by decide⟩)
  go_enter Tryz.func31, Tryz.ntmps31
  go_wp2_with fail
  have hA : Fr (fun _ => False) w (w.alloc (.cells #[.int .i64 9, .int .i64 oa, .int .i64 ob, .int .i64 oc, .string os, .string ot] 81)) := (Fr.refl _ _).alloc _
  have HP := Lib.hid (Own.alloc w #[.int .i64 9, .int .i64 oa, .int .i64 ob, .int .i64 oc, .string os, .string ot] 81)
  obtain ⟨gp, hgp⟩ : ∃ gp, w.heap.size = gp := ⟨_, rfl⟩
  have HW := Lib.hid (H.out.keep0 hA)
  have HFA := Lib.hid (HF.out.step hA (fun _ h _ => h))
  rw [hgp] at HP ⊢
  clear hA hgp
  generalize w.alloc (.cells #[.int .i64 9, .int .i64 oa, .int .i64 ob, .int .i64 oc, .string os, .string ot] 81) = wA at *
  refine (lists_nope _ 9 oa ob oc os ot wA HNK.out).mono ?_
  rintro e w1 ⟨rfl, hf1⟩
  have HW1 := Lib.hid (HW.out.keep0 hf1)
  have HF1 := Lib.hid (HFA.out.step hf1 (fun _ h _ => h))
  have HP1 := Lib.hid (HP.out.keep hf1 id)
  clear hf1 HW HFA HP
  obtain ⟨bn, hbn⟩ : ∃ bn, s.bat.length = bn := ⟨_, rfl⟩
  have HBN := Lib.hid hbn
  have hbt := HW1.out.bat
  rw [hbn] at hbt
  obtain ⟨ba, bc, hbv, -⟩ := hbt.shape
  have hown := HW1.out.own
  rw [hbv] at hown hbt
  have HOWN := Lib.hid hown
  have HBT := Lib.hid hbt
  obtain ⟨mn, hmn⟩ : ∃ mn, s.ms.length = mn := ⟨_, rfl⟩
  have HMN := Lib.hid hmn
  have hmt := HW1.out.mirs
  rw [hmn] at hmt
  obtain ⟨ma, mc, hmv, -⟩ := hmt.shape
  have HMV := Lib.hid hmv
  have hnb : bn ≤ N := by have := HW1.out.count.2.2.2.1; omega
  have hnm : mn ≤ N := by have := HW1.out.count.2.2.2.2.1; omega
  have o1 := hown.cell (i := 2) rfl
  have p0 := HP1.out.cell (i := 0) rfl
  have p2 := HP1.out.cell (i := 2) rfl
  clear hbn hbt hbv hown hmn hmt hmv
  by_cases hz : bn = 0
  focus
    subst hz
    have HSB := Lib.hid (show ByteArray.empty.size ≤ 1000000 by decide)
    obtain ⟨w2, hw2⟩ : ∃ w2, w2 = w1 := ⟨_, rfl⟩
    subst hw2
    have HW2 := Lib.hid HW1.out
    have HF2 := Lib.hid HF1.out
    have HP2 := Lib.hid HP1.out
    have m3 := HW2.out.own.cell (i := 3) rfl
    rw [HMV.out] at m3
    have hee : (⟨#[]⟩ : ByteArray) = ByteArray.empty := rfl
    go_upto_region 14 with fail
  rotate_left
  focus
    have z1 : decide ((bn : Int) > 0) = true := by simp; omega
    obtain ⟨gb, cb, rb, hqb, hBb, hob, -⟩ := HBT.out.row (by omega)
    simp only [Value.slice.injEq, true_and] at hqb
    obtain ⟨rfl, rfl⟩ := hqb
    have hpb := pickOf_bounds ob bn (by omega)
    have HPK := Lib.hid (fun w => lpick_any ob bn w (by omega) hb.1 hb.2 (by omega))
    obtain ⟨p, hp⟩ : ∃ p : Nat, pickOf ob bn = p := ⟨(pickOf ob bn).toNat, by omega⟩
    rw [hp] at HPK hpb
    have hpl : p < s.bat.length := by rw [HBN.out]; omega
    have hpn : p < bn := by omega
    obtain ⟨tb, htb⟩ : ∃ tb, s.bat[p] = tb := ⟨_, rfl⟩
    have HSB := Lib.hid (show tb.size ≤ 1000000 by rw [← htb]; exact HW1.out.sizes.2.2 _ (List.getElem_mem _))
    have e1 : w1.cell? ⟨gb, p, none⟩ = some (.string tb) := hob.cell (by rw [List.getElem?_append_left (by rw [List.length_map]; exact hpl), List.getElem?_map, List.getElem?_eq_getElem hpl, htb]; rfl)
    clear hp hob htb hpb hz hpl
    go_wp2_with fail
    go_quiet ((go_at_call 55; exact Calls.quiet_of_same ((HPK.out _).mono (fun _ _ h => ⟨h.1, h.2.symm⟩))))
    have hD : Fr (fun _ => False) w1 (w1.drewN nq) := (Fr.refl _ _).drewN nq
    have HW2 := Lib.hid (HW1.out.keep0 hD)
    have HF2 := Lib.hid (HF1.out.step hD (fun _ h _ => h))
    have HP2 := Lib.hid (HP1.out.keep hD id)
    clear hD e1 o1 p0 p2
    generalize w1.drewN nq = w2 at *
    have p0 := HP2.out.cell (i := 0) rfl
    have m3 := HW2.out.own.cell (i := 3) rfl
    rw [HMV.out] at m3
    go_upto_region 14 with fail
  all_goals
    by_cases hmz : mn = 0
    · subst hmz
      go_wp2_with fail
      go_ret
      exact ⟨rfl, ⟨_, HW2.out.more⟩, HF2.out⟩
    have z2 : ((mn : Int) == 0) = false := by simpa using hmz
    have hmt := HW2.out.mirs
    rw [HMV.out, HMN.out] at hmt
    obtain ⟨gq, cq, rq, hqq, hBq, hoq, -⟩ := hmt.row (by omega)
    simp only [Value.slice.injEq, true_and] at hqq
    obtain ⟨rfl, rfl⟩ := hqq
    have hpb := pickOf_bounds oa mn (by omega)
    have HPA := Lib.hid (fun w => lpick_any oa mn w (by omega) ha.1 ha.2 (by omega))
    obtain ⟨pi, hp⟩ : ∃ p : Nat, pickOf oa mn = p := ⟨(pickOf oa mn).toNat, by omega⟩
    rw [hp] at HPA hpb
    have hpm : pi < s.ms.length := by rw [HMN.out]; omega
    have hpn2 : pi < mn := by omega
    have hpg := pairCells_get s.ms pi hpm
    have hlp : (pairCells s.ms).length = s.ms.length * 2 := length_pairCells _
    obtain ⟨x, hx⟩ : ∃ x, s.ms[pi] = x := ⟨_, rfl⟩
    have HXE := Lib.hid (show ∃ h : pi < s.ms.length, s.ms[pi]'h = x from ⟨hpm, hx⟩)
    rw [hx] at hpg
    have e1 : w2.drew.cell? ⟨gq, pi * 2, none⟩ = some (.pointer (some ⟨x.gm, 0, none⟩)) := (hoq.keep (Fr.drew (Fr.refl (fun _ => False) w2)) id).cell (by rw [List.getElem?_append_left (by rw [hlp]; omega)]; exact hpg.1)
    have e2 : w2.drew.cell? ⟨gq, pi * 2 + 1, none⟩ = some (.pointer (some ⟨x.gr, 0, none⟩)) := (hoq.keep (Fr.drew (Fr.refl (fun _ => False) w2)) id).cell (by rw [List.getElem?_append_left (by rw [hlp]; omega)]; exact hpg.2)
    have ho2 := HW2.out.own.keep (Fr.drew (Fr.refl (fun _ => False) w2)) id
    rw [HMV.out] at ho2
    have o2 := ho2.cell (i := 3) rfl
    have q1 := (HP2.out.keep (Fr.drew (Fr.refl (fun _ => False) w2)) id).cell (i := 1) rfl
    have hpgl := HP2.out.lt
    have lq := hoq.lt
    have lw := HW2.out.own.lt
    have nq1 : ¬ gq = w2.heap.size := by omega
    have np1 : ¬ gp = w2.heap.size := by omega
    have nw1 : ¬ gw = w2.heap.size := by omega
    have hAz : Fr (fun _ => False) w2 (w2.alloc (.cells #[.pointer none, .pointer none] 125)).drew := ((Fr.refl _ _).alloc _).drew
    have hSz : ∀ wz, Fr (fun b => b = w2.heap.size) w2 wz → wz.cell? ⟨gw, 3, none⟩ = some (.slice (some ⟨gq, 0, none⟩) mn mc) ∧ wz.cell? ⟨gp, 1, none⟩ = some (.int .i64 oa) ∧ wz.cell? ⟨gq, pi * 2, none⟩ = some (.pointer (some ⟨x.gm, 0, none⟩)) ∧ wz.cell? ⟨gq, pi * 2 + 1, none⟩ = some (.pointer (some ⟨x.gr, 0, none⟩)) := fun wz k =>
      ⟨k.cell (by have := o2; simpa using this) nw1, k.cell (by have := q1; simpa using this) np1, k.cell (by have := e1; simpa using this) nq1, k.cell (by have := e2; simpa using this) nq1⟩
    have HSZ := Lib.hid hSz
    have HAZ := Lib.hid (hAz.mono (S' := fun b => b = w2.heap.size) (fun _ h _ => h.elim))
    clear hAz hSz
    clear hp hoq hpb hmz hpg hlp hx hpm ho2 hmt
    go_upto_region 18 with fail
    go_region_held3 (fun w' => w'.cell? ⟨gw, 3, none⟩ = some (.slice (some ⟨gq, 0, none⟩) mn mc) ∧ w'.cell? ⟨gp, 1, none⟩ = some (.int .i64 oa) ∧ w'.cell? ⟨gq, pi * 2, none⟩ = some (.pointer (some ⟨x.gm, 0, none⟩)) ∧ w'.cell? ⟨gq, pi * 2 + 1, none⟩ = some (.pointer (some ⟨x.gr, 0, none⟩))) (first | exact ⟨o2, q1, e1, e2⟩ | exact HSZ.out _ HAZ.out | exact HSZ.out _ (HAZ.out.setCell _ _ (fun _ => rfl)) | exact HSZ.out _ ((HAZ.out.setCell _ _ (fun _ => rfl)).setCell _ _ (fun _ => rfl)) | exact HSZ.out _ (((((Fr.refl (fun b => b = w2.heap.size) w2).alloc _).setCell _ _ (fun _ => rfl)).setCell _ _ (fun _ => rfl)).drew) | exact HSZ.out _ (((Fr.refl (fun b => b = w2.heap.size) w2).alloc _).drew) | go_keep)
      (first | (go_at_call 55; refine (HPA.out _).mono ?_; rintro e w' ⟨rfl, hw'⟩; subst hw'))
    all_goals
      have hA3 : Fr (fun _ => False) w2 (w2.alloc (.cells #[.pointer (some ⟨x.gm, 0, none⟩), .pointer (some ⟨x.gr, 0, none⟩)] 125)).drew := ((Fr.refl _ _).alloc _).drew
      have HW4 := Lib.hid (HW2.out.keep0 hA3)
      have HF4 := Lib.hid (HF2.out.step hA3 (fun _ h _ => h))
      have HP4 := Lib.hid (HP2.out.keep hA3 id)
      have HZ4 := Lib.hid ((Own.alloc w2 #[.pointer (some ⟨x.gm, 0, none⟩), .pointer (some ⟨x.gr, 0, none⟩)] 125).keep ((Fr.refl (fun _ => False) _).drew) id)
      clear HAZ HSZ e1 e2 o2 q1 hA3 p0 m3
      generalize (w2.alloc (.cells #[.pointer (some ⟨x.gm, 0, none⟩), .pointer (some ⟨x.gr, 0, none⟩)] 125)).drew = w4 at *
      have r0 := HP4.out.cell (i := 0) rfl
      have r2 := HP4.out.cell (i := 2) rfl
      have r3 := HP4.out.cell (i := 3) rfl
      have zc0 := HZ4.out.cell (i := 0) rfl
      have zc1 := HZ4.out.cell (i := 1) rfl
      clear nq1 np1 nw1 lq lw
      obtain ⟨hpm, hx⟩ := HXE.out
      have HM4 := Lib.hid (show GMAt _ B x from hx ▸ HW4.out.mir _ (List.getElem_mem hpm))
      have HCL := Lib.hid (HM4.out.clear HB.out HG.out HE.out)
      have hg4 := HG.out.keep HF4.out id
      have HMS := Lib.hid (fun w1 (h : SameM w4 B x w1) => HW4.out.mirStep (w1 := w1) pi hpm (by rw [hx]; exact h))
      have hlo := HM4.out.lo
      have hrr : x.gr ≠ x.gm ∧ x.gr ≠ x.gd := by
        obtain ⟨xs, ho⟩ := HM4.out.mir.disk.own
        exact ⟨own_ne HM4.out.ref HM4.out.mir.mir (by decide), own_ne HM4.out.ref ho (by decide)⟩
      have HSH := Lib.hid (show ∃ a n c, x.hv = .slice a n c from by obtain ⟨a, c, e, -⟩ := Vec.shape HM4.out.h; exact ⟨a, _, c, e⟩)
      clear hx
      cases hd : x.down with
      | true =>
        have hmir := HM4.out.mir
        have href := HM4.out.ref
        rw [hd] at hmir href
        have HRE := Lib.hid (precover_down x.gm x.gd B x.pt x.room ob _ hg4 ⟨HCL.out.mt, HCL.out.dt⟩ hmir)
        have HREF := Lib.hid href
        have HD := Lib.hid hd
        clear hmir href hd hg4
        go_wp2_with fail
        refine HRE.out.mono ?_
        rintro e w5 ⟨bb, rfl, hbb, hmi, hf5⟩
        have hS : Only _ (fun b => b = x.gm ∨ b = x.gd) mirType := fun b hb => HM4.out.only b (by rcases hb with e | e; exact .inl e; exact .inr (.inl e))
        have hz5 := HZ4.out.keepO hf5 hS (by unfold mirType; decide)
        have zc1 := hz5.cell (i := 1) rfl
        have r2 := (HP4.out.keepO hf5 hS (by unfold mirType; decide)).cell (i := 2) rfl
        have hr5 : RMirC w5 x.gr x.tv x.room true x.hv := Own.keep HREF.out hf5 (fun e => by rcases e with e | e; exact hrr.1 e; exact hrr.2 e)
        have HT5 := Lib.hid (Vec.keepO HM4.out.t hf5 hS (by unfold mirType; decide))
        have HH5 := Lib.hid (Vec.keepO HM4.out.h hf5 hS (by unfold mirType; decide))
        have HRR := Lib.hid (rrecover_any x.gr x.tv x.hv x.room ob true w5 hr5 HSH.out)
        have HR5 := Lib.hid hr5
        have HMI := Lib.hid hmi
        have HBB := Lib.hid hbb
        have HF5 := Lib.hid hf5
        clear hmi hf5 hS hz5 hr5 hbb HRE zc0
        go_wp2_with fail
        refine HRR.out.mono ?_
        rintro e w6 hq
        rcases hq with ⟨hq, -⟩ | ⟨-, hc1, rfl, hf6⟩ | ⟨-, hc1, rfl, hm6, hf6⟩
        · cases hq
        · obtain rfl : bb = true := HBB.out.2 hc1
          have HF6 := Lib.hid hf6
          have hak : againK true = 12 := rfl
          clear hf6 hc1
          go_wp2_with fail
          go_ret
          have hsm : SameM _ B x w6 := ⟨x, rfl, rfl, rfl, ⟨by rw [HD.out]; exact HMI.out.keep0 HF6.out, by rw [HD.out]; exact Own.keep HR5.out HF6.out id, Vec.keep HT5.out HF6.out (fun _ _ h => h), Vec.keep HH5.out HF6.out (fun _ _ h => h), HM4.out.same, HM4.out.next, hlo⟩, fun b hb => by rcases hb with h | h; exact .inl h; exact .inr (.inl h), (HF5.out.mono (fun b hb _ => by rcases hb with e | e; exact .inl e; exact .inr (.inl e))).step HF6.out (fun _ h _ => h.elim)⟩
          obtain ⟨s', hs'⟩ := HMS.out w6 hsm
          obtain ⟨x', -, -, -, -, -, k6⟩ := hsm
          exact ⟨rfl, ⟨s', hs'.more⟩, HF4.out.step k6 (fun b hb hl => by rcases hb with e | e | e <;> omega)⟩
        · have hbf : bb = false := by
            cases bb
            · rfl
            · exact absurd (HBB.out.1 rfl) hc1
          subst hbf
          have HF6 := Lib.hid hf6
          have HM6 := Lib.hid hm6
          have hak : againK false = 0 := rfl
          clear hf6 hc1 hm6
          go_wp2_with fail
          go_ret
          have hS6 := Only.one HR5.out
          have hsm : SameM _ B x w6 := ⟨{ x with tv := x.hv, tr := x.th, down := false }, rfl, rfl, rfl, ⟨HMI.out.keepO HF6.out hS6 (Ne.symm hrr.1) (Ne.symm hrr.2) (by decide) (by decide), HM6.out, Vec.keepO HH5.out HF6.out hS6 (by decide), Vec.keepO HH5.out HF6.out hS6 (by decide), fun _ => HM4.out.next HD.out, fun h => (by cases h), hlo⟩, fun b hb => by rcases hb with h | h; exact .inr (.inl h); exact .inr (.inl h), (HF5.out.mono (fun b hb _ => by rcases hb with e | e; exact .inl e; exact .inr (.inl e))).step HF6.out (fun b h _ => .inr (.inr h))⟩
          obtain ⟨s', hs'⟩ := HMS.out w6 hsm
          obtain ⟨x', -, -, -, -, -, k6⟩ := hsm
          exact ⟨rfl, ⟨s', hs'.more⟩, HF4.out.step k6 (fun b hb hl => by rcases hb with e | e | e <;> omega)⟩
      | false =>
        have hmir := HM4.out.mir
        have href := HM4.out.ref
        rw [hd] at hmir href
        have HRE := Lib.hid (precover_up x.gm x.gd B x.pt x.room ob _ hg4 HCL.out.mt hmir)
        have HREF := Lib.hid href
        have HD := Lib.hid hd
        clear hmir href hd hg4
        go_wp2_with fail
        refine HRE.out.mono ?_
        rintro e w5 ⟨rfl, hmi, hf5⟩
        have hS : Only _ (fun b => b = x.gm ∨ b = x.gd) mirType := fun b hb => HM4.out.only b (by rcases hb with e | e; exact .inl e; exact .inr (.inl e))
        have hz5 := HZ4.out.keepO hf5 hS (by unfold mirType; decide)
        have zc1 := hz5.cell (i := 1) rfl
        have r2 := (HP4.out.keepO hf5 hS (by unfold mirType; decide)).cell (i := 2) rfl
        have hr5 : RMirC w5 x.gr x.tv x.room false x.hv := Own.keep HREF.out hf5 (fun e => by rcases e with e | e; exact hrr.1 e; exact hrr.2 e)
        have HT5 := Lib.hid (Vec.keepO HM4.out.t hf5 hS (by unfold mirType; decide))
        have HH5 := Lib.hid (Vec.keepO HM4.out.h hf5 hS (by unfold mirType; decide))
        have HRR := Lib.hid (rrecover_any x.gr x.tv x.hv x.room ob false w5 hr5 HSH.out)
        have HR5 := Lib.hid hr5
        have HMI := Lib.hid hmi
        have HF5 := Lib.hid hf5
        clear hmi hf5 hS hz5 hr5 HRE zc0
        go_wp2_with fail
        refine HRR.out.mono ?_
        rintro e w6 hq
        rcases hq with ⟨-, rfl, hf6⟩ | ⟨hq, -⟩ | ⟨hq, -⟩
        · have HF6 := Lib.hid hf6
          clear hf6
          go_wp2_with fail
          go_ret
          have hsm : SameM _ B x w6 := ⟨x, rfl, rfl, rfl, ⟨by rw [HD.out]; exact HMI.out.keep0 HF6.out, by rw [HD.out]; exact Own.keep HR5.out HF6.out id, Vec.keep HT5.out HF6.out (fun _ _ h => h), Vec.keep HH5.out HF6.out (fun _ _ h => h), HM4.out.same, HM4.out.next, hlo⟩, fun b hb => by rcases hb with h | h; exact .inl h; exact .inr (.inl h), (HF5.out.mono (fun b hb _ => by rcases hb with e | e; exact .inl e; exact .inr (.inl e))).step HF6.out (fun _ h _ => h.elim)⟩
          obtain ⟨s', hs'⟩ := HMS.out w6 hsm
          obtain ⟨x', -, -, -, -, -, k6⟩ := hsm
          exact ⟨rfl, ⟨s', hs'.more⟩, HF4.out.step k6 (fun b hb hl => by rcases hb with e | e | e <;> omega)⟩
        · cases hq
        · cases hq
end Go.Proofs.YtlcdgbhigfgehabGreatDoor
/- step: none. -/
namespace Go.Proofs.YtlcdgbhigfgehabGreatDoor
open Go.RowKit
set_option maxRecDepth 100000

set_option maxHeartbeats 2000000 in
theorem step_none (w0 : World) (B gw N : Nat) (s : WSt) (kd oa ob oc : Int) (os ot : ByteArray) (w : World) (hk : kd ≠ 1 ∧ kd ≠ 2 ∧ kd ≠ 3 ∧ kd ≠ 4 ∧ kd ≠ 5 ∧ kd ≠ 6 ∧ kd ≠ 7 ∧ kd ≠ 8 ∧ kd ≠ 9 ∧ kd ≠ 10) (hB : B = w0.heap.size) (hg : ErrType w0) (he : ErrForm w0) (hf : Fr (fun _ => False) w0 w) (h : WAt w B gw N s) (ho : OpOk ⟨kd, oa, ob, oc, os, ot⟩) (hN : N < 65536) :
    Calls Tryz.prog 31 #[.pointer (some ⟨gw, 0, none⟩), .agg #[.int .i64 kd, .int .i64 oa, .int .i64 ob, .int .i64 oc, .string os, .string ot]] w (StepQ w0 B gw N) := by
  have HB := Lib.hid hB
  have H := Lib.hid h
  have HG := Lib.hid hg
  have HE := Lib.hid he
  have HF := Lib.hid hf
  have HO := Lib.hid ho
  have hz0 := hf.size
  have hB1 : B ≤ w0.heap.size := by omega
  have hB2 : w0.heap.size ≤ B := by omega
  have ha := ho.a
  have hb := ho.b
  have hc := ho.c
  dsimp only at ha hb hc
  clear hB h hg he hf ho
  obtain ⟨k1, k2, k3, k4, k5, k6, k7, k8, k9, k10⟩ := hk
  have HNK := Lib.hid (show kd ≠ 1 ∧ kd ≠ 2 ∧ kd ≠ 3 ∧ kd ≠ 4 ∧ kd ≠ 5 from ⟨k1, k2, k3, k4, k5⟩)
  go_enter Tryz.func31, Tryz.ntmps31
  go_wp2_with fail
  have hA : Fr (fun _ => False) w (w.alloc (.cells #[.int .i64 kd, .int .i64 oa, .int .i64 ob, .int .i64 oc, .string os, .string ot] 81)) := (Fr.refl _ _).alloc _
  have HP := Lib.hid (Own.alloc w #[.int .i64 kd, .int .i64 oa, .int .i64 ob, .int .i64 oc, .string os, .string ot] 81)
  obtain ⟨gp, hgp⟩ : ∃ gp, w.heap.size = gp := ⟨_, rfl⟩
  have HW := Lib.hid (H.out.keep0 hA)
  have HFA := Lib.hid (HF.out.step hA (fun _ h _ => h))
  rw [hgp] at HP ⊢
  clear hA hgp
  generalize w.alloc (.cells #[.int .i64 kd, .int .i64 oa, .int .i64 ob, .int .i64 oc, .string os, .string ot] 81) = wA at *
  refine (lists_nope _ kd oa ob oc os ot wA HNK.out).mono ?_
  rintro e w1 ⟨rfl, hf1⟩
  have HW1 := Lib.hid (HW.out.keep0 hf1)
  have HF1 := Lib.hid (HFA.out.step hf1 (fun _ h _ => h))
  have HP1 := Lib.hid (HP.out.keep hf1 id)
  clear hf1 HW HFA HP
  obtain ⟨bn, hbn⟩ : ∃ bn, s.bat.length = bn := ⟨_, rfl⟩
  have HBN := Lib.hid hbn
  have hbt := HW1.out.bat
  rw [hbn] at hbt
  obtain ⟨ba, bc, hbv, -⟩ := hbt.shape
  have hown := HW1.out.own
  rw [hbv] at hown hbt
  have HOWN := Lib.hid hown
  have HBT := Lib.hid hbt
  obtain ⟨mn, hmn⟩ : ∃ mn, s.ms.length = mn := ⟨_, rfl⟩
  have HMN := Lib.hid hmn
  have hmt := HW1.out.mirs
  rw [hmn] at hmt
  obtain ⟨ma, mc, hmv, -⟩ := hmt.shape
  have HMV := Lib.hid hmv
  have hnb : bn ≤ N := by have := HW1.out.count.2.2.2.1; omega
  have hnm : mn ≤ N := by have := HW1.out.count.2.2.2.2.1; omega
  have o1 := hown.cell (i := 2) rfl
  have p0 := HP1.out.cell (i := 0) rfl
  have p2 := HP1.out.cell (i := 2) rfl
  clear hbn hbt hbv hown hmn hmt hmv
  by_cases hz : bn = 0
  focus
    subst hz
    have HSB := Lib.hid (show ByteArray.empty.size ≤ 1000000 by decide)
    obtain ⟨w2, hw2⟩ : ∃ w2, w2 = w1 := ⟨_, rfl⟩
    subst hw2
    have HW2 := Lib.hid HW1.out
    have HF2 := Lib.hid HF1.out
    have HP2 := Lib.hid HP1.out
    have m3 := HW2.out.own.cell (i := 3) rfl
    rw [HMV.out] at m3
    have hee : (⟨#[]⟩ : ByteArray) = ByteArray.empty := rfl
    go_upto_region 14 with fail
  rotate_left
  focus
    have z1 : decide ((bn : Int) > 0) = true := by simp; omega
    obtain ⟨gb, cb, rb, hqb, hBb, hob, -⟩ := HBT.out.row (by omega)
    simp only [Value.slice.injEq, true_and] at hqb
    obtain ⟨rfl, rfl⟩ := hqb
    have hpb := pickOf_bounds ob bn (by omega)
    have HPK := Lib.hid (fun w => lpick_any ob bn w (by omega) hb.1 hb.2 (by omega))
    obtain ⟨p, hp⟩ : ∃ p : Nat, pickOf ob bn = p := ⟨(pickOf ob bn).toNat, by omega⟩
    rw [hp] at HPK hpb
    have hpl : p < s.bat.length := by rw [HBN.out]; omega
    have hpn : p < bn := by omega
    obtain ⟨tb, htb⟩ : ∃ tb, s.bat[p] = tb := ⟨_, rfl⟩
    have HSB := Lib.hid (show tb.size ≤ 1000000 by rw [← htb]; exact HW1.out.sizes.2.2 _ (List.getElem_mem _))
    have e1 : w1.cell? ⟨gb, p, none⟩ = some (.string tb) := hob.cell (by rw [List.getElem?_append_left (by rw [List.length_map]; exact hpl), List.getElem?_map, List.getElem?_eq_getElem hpl, htb]; rfl)
    clear hp hob htb hpb hz hpl
    go_wp2_with fail
    go_quiet ((go_at_call 55; exact Calls.quiet_of_same ((HPK.out _).mono (fun _ _ h => ⟨h.1, h.2.symm⟩))))
    have hD : Fr (fun _ => False) w1 (w1.drewN nq) := (Fr.refl _ _).drewN nq
    have HW2 := Lib.hid (HW1.out.keep0 hD)
    have HF2 := Lib.hid (HF1.out.step hD (fun _ h _ => h))
    have HP2 := Lib.hid (HP1.out.keep hD id)
    clear hD e1 o1 p0 p2
    generalize w1.drewN nq = w2 at *
    have p0 := HP2.out.cell (i := 0) rfl
    have m3 := HW2.out.own.cell (i := 3) rfl
    rw [HMV.out] at m3
    go_upto_region 14 with fail
  all_goals
    by_cases hmz : mn = 0
    · subst hmz
      go_wp2_with fail
      go_ret
      exact ⟨rfl, ⟨_, HW2.out.more⟩, HF2.out⟩
    have z2 : ((mn : Int) == 0) = false := by simpa using hmz
    have hmt := HW2.out.mirs
    rw [HMV.out, HMN.out] at hmt
    obtain ⟨gq, cq, rq, hqq, hBq, hoq, -⟩ := hmt.row (by omega)
    simp only [Value.slice.injEq, true_and] at hqq
    obtain ⟨rfl, rfl⟩ := hqq
    have hpb := pickOf_bounds oa mn (by omega)
    have HPA := Lib.hid (fun w => lpick_any oa mn w (by omega) ha.1 ha.2 (by omega))
    obtain ⟨pi, hp⟩ : ∃ p : Nat, pickOf oa mn = p := ⟨(pickOf oa mn).toNat, by omega⟩
    rw [hp] at HPA hpb
    have hpm : pi < s.ms.length := by rw [HMN.out]; omega
    have hpn2 : pi < mn := by omega
    have hpg := pairCells_get s.ms pi hpm
    have hlp : (pairCells s.ms).length = s.ms.length * 2 := length_pairCells _
    obtain ⟨x, hx⟩ : ∃ x, s.ms[pi] = x := ⟨_, rfl⟩
    have HXE := Lib.hid (show ∃ h : pi < s.ms.length, s.ms[pi]'h = x from ⟨hpm, hx⟩)
    rw [hx] at hpg
    have e1 : w2.drew.cell? ⟨gq, pi * 2, none⟩ = some (.pointer (some ⟨x.gm, 0, none⟩)) := (hoq.keep (Fr.drew (Fr.refl (fun _ => False) w2)) id).cell (by rw [List.getElem?_append_left (by rw [hlp]; omega)]; exact hpg.1)
    have e2 : w2.drew.cell? ⟨gq, pi * 2 + 1, none⟩ = some (.pointer (some ⟨x.gr, 0, none⟩)) := (hoq.keep (Fr.drew (Fr.refl (fun _ => False) w2)) id).cell (by rw [List.getElem?_append_left (by rw [hlp]; omega)]; exact hpg.2)
    have ho2 := HW2.out.own.keep (Fr.drew (Fr.refl (fun _ => False) w2)) id
    rw [HMV.out] at ho2
    have o2 := ho2.cell (i := 3) rfl
    have q1 := (HP2.out.keep (Fr.drew (Fr.refl (fun _ => False) w2)) id).cell (i := 1) rfl
    have hpgl := HP2.out.lt
    have lq := hoq.lt
    have lw := HW2.out.own.lt
    have nq1 : ¬ gq = w2.heap.size := by omega
    have np1 : ¬ gp = w2.heap.size := by omega
    have nw1 : ¬ gw = w2.heap.size := by omega
    have hAz : Fr (fun _ => False) w2 (w2.alloc (.cells #[.pointer none, .pointer none] 125)).drew := ((Fr.refl _ _).alloc _).drew
    have hSz : ∀ wz, Fr (fun b => b = w2.heap.size) w2 wz → wz.cell? ⟨gw, 3, none⟩ = some (.slice (some ⟨gq, 0, none⟩) mn mc) ∧ wz.cell? ⟨gp, 1, none⟩ = some (.int .i64 oa) ∧ wz.cell? ⟨gq, pi * 2, none⟩ = some (.pointer (some ⟨x.gm, 0, none⟩)) ∧ wz.cell? ⟨gq, pi * 2 + 1, none⟩ = some (.pointer (some ⟨x.gr, 0, none⟩)) := fun wz k =>
      ⟨k.cell (by have := o2; simpa using this) nw1, k.cell (by have := q1; simpa using this) np1, k.cell (by have := e1; simpa using this) nq1, k.cell (by have := e2; simpa using this) nq1⟩
    have HSZ := Lib.hid hSz
    have HAZ := Lib.hid (hAz.mono (S' := fun b => b = w2.heap.size) (fun _ h _ => h.elim))
    clear hAz hSz
    clear hp hoq hpb hmz hpg hlp hx hpm ho2 hmt
    go_upto_region 18 with fail
    go_region_held3 (fun w' => w'.cell? ⟨gw, 3, none⟩ = some (.slice (some ⟨gq, 0, none⟩) mn mc) ∧ w'.cell? ⟨gp, 1, none⟩ = some (.int .i64 oa) ∧ w'.cell? ⟨gq, pi * 2, none⟩ = some (.pointer (some ⟨x.gm, 0, none⟩)) ∧ w'.cell? ⟨gq, pi * 2 + 1, none⟩ = some (.pointer (some ⟨x.gr, 0, none⟩))) (first | exact ⟨o2, q1, e1, e2⟩ | exact HSZ.out _ HAZ.out | exact HSZ.out _ (HAZ.out.setCell _ _ (fun _ => rfl)) | exact HSZ.out _ ((HAZ.out.setCell _ _ (fun _ => rfl)).setCell _ _ (fun _ => rfl)) | exact HSZ.out _ (((((Fr.refl (fun b => b = w2.heap.size) w2).alloc _).setCell _ _ (fun _ => rfl)).setCell _ _ (fun _ => rfl)).drew) | exact HSZ.out _ (((Fr.refl (fun b => b = w2.heap.size) w2).alloc _).drew) | go_keep)
      (first | (go_at_call 55; refine (HPA.out _).mono ?_; rintro e w' ⟨rfl, hw'⟩; subst hw'))
    all_goals
      have hA3 : Fr (fun _ => False) w2 (w2.alloc (.cells #[.pointer (some ⟨x.gm, 0, none⟩), .pointer (some ⟨x.gr, 0, none⟩)] 125)).drew := ((Fr.refl _ _).alloc _).drew
      have HW4 := Lib.hid (HW2.out.keep0 hA3)
      have HF4 := Lib.hid (HF2.out.step hA3 (fun _ h _ => h))
      have HP4 := Lib.hid (HP2.out.keep hA3 id)
      have HZ4 := Lib.hid ((Own.alloc w2 #[.pointer (some ⟨x.gm, 0, none⟩), .pointer (some ⟨x.gr, 0, none⟩)] 125).keep ((Fr.refl (fun _ => False) _).drew) id)
      clear HAZ HSZ e1 e2 o2 q1 hA3 p0 m3
      generalize (w2.alloc (.cells #[.pointer (some ⟨x.gm, 0, none⟩), .pointer (some ⟨x.gr, 0, none⟩)] 125)).drew = w4 at *
      have r0 := HP4.out.cell (i := 0) rfl
      have r2 := HP4.out.cell (i := 2) rfl
      have r3 := HP4.out.cell (i := 3) rfl
      have zc0 := HZ4.out.cell (i := 0) rfl
      have zc1 := HZ4.out.cell (i := 1) rfl
      clear nq1 np1 nw1 lq lw
      go_wp2_with fail
      go_ret
      exact ⟨rfl, ⟨_, HW4.out.more⟩, HF4.out⟩
end Go.Proofs.YtlcdgbhigfgehabGreatDoor
/- small: are the steps, with their texts, few? -/
namespace Go.Proofs.YtlcdgbhigfgehabGreatDoor
open Go.RowKit
set_option maxRecDepth 100000

theorem step_any (w0 : World) (B gw N : Nat) (s : WSt) (o : OpR) (w : World) (hk : o.kind ≠ 10) (hB : B = w0.heap.size) (hg : ErrType w0) (he : ErrForm w0) (hf : Fr (fun _ => False) w0 w) (h : WAt w B gw N s) (ho : OpOk o) (hN : N < 65536) :
    Calls Tryz.prog 31 #[.pointer (some ⟨gw, 0, none⟩), .agg #[.int .i64 o.kind, .int .i64 o.a, .int .i64 o.b, .int .i64 o.c, .string o.s, .string o.t]] w (StepQ w0 B gw N) := by
  obtain ⟨kd, oa, ob, oc, os, ot⟩ := o
  dsimp only at hk ⊢
  by_cases h1 : kd = 1 ∨ kd = 2 ∨ kd = 3 ∨ kd = 4 ∨ kd = 5
  · exact step_list w0 B gw N s kd oa ob oc os ot w h1 hB hg he hf h ho hN
  by_cases h6 : kd = 6
  · subst h6; exact step_new w0 B gw N s 6 oa ob oc os ot w rfl hB hg he hf h ho hN
  by_cases h7 : kd = 7
  · subst h7; exact step_files w0 B gw N s 7 oa ob oc os ot w rfl hB hg he hf h ho hN
  by_cases h8 : kd = 8
  · subst h8; exact step_replay w0 B gw N s 8 oa ob oc os ot w rfl hB hg he hf h ho hN
  by_cases h9 : kd = 9
  · subst h9; exact step_again w0 B gw N s 9 oa ob oc os ot w rfl hB hg he hf h ho hN
  · exact step_none w0 B gw N s kd oa ob oc os ot w (by omega) hB hg he hf h ho hN
/-- A script in memory. -/
structure OpsAt (w : World) (a : Option Addr) (n : Nat) (z : List OpR) : Prop where
  len : z.length = n
  at_ : ∀ i (h : i < z.length), ∃ b off, a = some ⟨b, off, none⟩ ∧ b < w.heap.size ∧ w.cell? ⟨b, off + i * 6, none⟩ = some (.int .i64 z[i].kind) ∧ w.cell? ⟨b, off + i * 6 + 1, none⟩ = some (.int .i64 z[i].a) ∧ w.cell? ⟨b, off + i * 6 + 2, none⟩ = some (.int .i64 z[i].b) ∧
    w.cell? ⟨b, off + i * 6 + 3, none⟩ = some (.int .i64 z[i].c) ∧ w.cell? ⟨b, off + i * 6 + 4, none⟩ = some (.string z[i].s) ∧ w.cell? ⟨b, off + i * 6 + 5, none⟩ = some (.string z[i].t)
theorem OpsAt.keep {w w1 : World} {a : Option Addr} {n : Nat} {z : List OpR} (h : OpsAt w a n z) (k : Fr (fun _ => False) w w1) : OpsAt w1 a n z :=
  ⟨h.len, fun i hi => by
    obtain ⟨b, off, e, hb, c0, c1, c2, c3, c4, c5⟩ := h.at_ i hi
    exact ⟨b, off, e, Nat.lt_of_lt_of_le hb k.size, k.cell c0 id, k.cell c1 id, k.cell c2 id, k.cell c3 id, k.cell c4 id, k.cell c5 id⟩⟩
def SmallQ (w : World) (n : Nat) (z : List OpR) (e : Ending) (w' : World) : Prop := ∃ b : Bool, e = .returned (.bool b) ∧ (b = true → n ≤ 65536 ∧ ∀ o ∈ z, o.s.size ≤ 65536 ∧ o.t.size ≤ 65536) ∧ ∃ q, w' = w.drewN q
set_option maxHeartbeats 2000000 in
theorem small_any (a : Option Addr) (n c : Nat) (z : List OpR) (w : World) (h : OpsAt w a n z) (hz : ∀ o ∈ z, o.s.size ≤ 140737488355328 ∧ o.t.size ≤ 140737488355328) (_hn : n ≤ 140737488355328) :
    Calls Tryz.prog 30 #[.slice a n c] w (SmallQ w n z) := by
  have H := Lib.hid h
  have HZ := Lib.hid hz
  have HL := Lib.hid h.len
  clear h hz
  by_cases hbig : 65536 < n
  · have z1 : decide ((n : Int) > 65536) = true := by simp; omega
    go_enter Tryz.func30, Tryz.ntmps30
    go_wp2_with fail
    go_ret
    exact ⟨false, rfl, fun h => (by cases h), 0, rfl⟩
  have z1 : decide ((n : Int) > 65536) = false := by simp; omega
  go_enter Tryz.func30, Tryz.ntmps30
  go_wp2_with fail
  go_loopw [3, 4] (fun nv iv wr => ∃ k m : Nat, k ≤ n ∧ m ≤ 65536 ∧ iv = .int .i64 k ∧ nv = .int .i64 m ∧ (∀ j (hj : j < z.length), j < k → z[j].s.size ≤ 65536 ∧ z[j].t.size ≤ 65536) ∧ ∃ q, wr = w.drewN q) (fun _ iv _ => n - (intOf iv).toNat)
  case atStart => exact ⟨0, n, Nat.zero_le _, by omega, rfl, rfl, fun j hj h => by omega, 0, rfl⟩
  case round =>
    obtain ⟨k, m, hk, hm, rfl, rfl, hall, hdr⟩ := hrel
    have HA := Lib.hid hall
    have HDR := Lib.hid hdr
    have hfr : Fr (fun _ => False) w wr := Fr.of_drew hdr
    clear hall hdr
    by_cases hlt : k < n
    · have hkz : k < z.length := by rw [HL.out]; exact hlt
      obtain ⟨b, off, rfl, hb, -, -, -, -, c4, c5⟩ := (H.out.keep hfr).at_ k hkz
      have hsz := HZ.out z[k] (List.getElem_mem _)
      obtain ⟨o, ho⟩ : ∃ o, z[k] = o := ⟨_, rfl⟩
      have HO := Lib.hid (show ∀ (h : k < z.length), z[k]'h = o from fun _ => ho)
      rw [ho] at c4 c5 hsz
      obtain ⟨hs1, hs2⟩ := hsz
      clear ho hfr
      have hw1 : wrap64 ((m : Int) + o.s.size) = (m : Int) + o.s.size := IntWalk.wrap64_in _ (by omega)
      have hw2 : wrap64 ((m : Int) + o.s.size + o.t.size) = (m : Int) + o.s.size + o.t.size := IntWalk.wrap64_in _ (by omega)
      have HKZ := Lib.hid hkz
      clear hkz
      by_cases hgt : 65536 < m + o.s.size + o.t.size
      · have z2 : decide ((m : Int) + o.s.size + o.t.size > 65536) = true := by simp; omega
        go_wp2_with fail
        go_quiet (fail)
        go_wp2_with fail
        go_ret
        exact ⟨false, rfl, fun h => (by cases h), drew_step HDR.out ⟨_, rfl⟩⟩
      · have z2 : decide ((m : Int) + o.s.size + o.t.size > 65536) = false := by simp; omega
        go_wp2_with fail
        go_quiet (fail)
        go_wp2_with fail
        refine ⟨⟨k + 1, m + o.s.size + o.t.size, by omega, by omega, by go_num, by simp, fun j hj h => ?_, drew_step HDR.out ⟨_, rfl⟩⟩, by simp [intOf]; omega⟩
        by_cases hjk : j = k
        · subst hjk
          rw [HO.out hj]; omega
        · exact HA.out j hj (by omega)
    · obtain rfl : k = n := by omega
      clear hfr
      go_wp2_with fail
      go_ret
      exact ⟨true, rfl, fun _ => ⟨by omega, fun o ho => by
        obtain ⟨j, hj, rfl⟩ := List.getElem_of_mem ho
        exact HA.out j hj (by rw [HL.out] at hj; exact hj)⟩, HDR.out⟩
end Go.Proofs.YtlcdgbhigfgehabGreatDoor
/- plays: the script, without the steps on several mirrors at once. -/
namespace Go.Proofs.YtlcdgbhigfgehabGreatDoor
open Go.RowKit
set_option maxRecDepth 100000

set_option maxHeartbeats 1000000 in
theorem stays_any (v : Value) (w : World) (h : Full w v) : Calls Tryz.prog 32 #[v] w fun e w' => e = .returned (.bool true) ∧ w' = w := by
  rcases h with rfl | ⟨g, m, cap, rfl, h1, h2, xs, ho, hl, hx⟩
  · go_enter Tryz.func32, Tryz.ntmps32
    go_wp2_with fail
    refine wp_loop_rounds 1 ?_
    rw [rounds_succ]
    go_wp2_with fail
    go_ret
    exact ⟨rfl, rfl⟩
  · have HX := Lib.hid hx
    have HO := Lib.hid ho
    have HL := Lib.hid hl
    unfold maxLen at h2
    clear hx ho hl
    go_enter Tryz.func32, Tryz.ntmps32
    go_wp2_with fail
    go_loop [4] (fun iv => ∃ k : Nat, k ≤ cap ∧ iv = .int .i64 k) (fun iv => cap - (intOf iv).toNat)
    case atStart => exact ⟨0, Nat.zero_le _, rfl⟩
    case round =>
      obtain ⟨k, hk, rfl⟩ := hrel
      by_cases hlt : k < cap
      · have c1 := HO.out.cell (HX.out k hlt)
        go_wp2_with fail
        exact ⟨⟨k + 1, by omega, by go_num⟩, by simp [intOf]; omega⟩
      · obtain rfl : k = cap := by omega
        go_wp2_with fail
        go_ret
        exact ⟨rfl, rfl⟩
set_option maxHeartbeats 4000000 in
theorem plays_any (a : Option Addr) (n c gx : Nat) (z : List OpR) (w : World) (hg : ErrType w) (he : ErrForm w) (h : OpsAt w a n z) (hz : ∀ o ∈ z, o.s.size ≤ 140737488355328 ∧ o.t.size ≤ 140737488355328) (hn : n ≤ 140737488355328)
    (hi : ∀ o ∈ z, (-9223372036854775808 ≤ o.a ∧ o.a ≤ 9223372036854775807) ∧ (-9223372036854775808 ≤ o.b ∧ o.b ≤ 9223372036854775807) ∧ (-9223372036854775808 ≤ o.c ∧ o.c ≤ 9223372036854775807)) (hx : w.cell? ⟨gx, 0, none⟩ = some (.int .i64 10)) :
    Calls Tryz.prog 21 #[.slice a n c, .slice (some ⟨gx, 0, none⟩) 1 1] w fun e w' => e = .returned (.bool true) ∧ Fr (fun _ => False) w w' := by
  have H := Lib.hid h
  have HG := Lib.hid hg
  have HE := Lib.hid he
  have HI := Lib.hid hi
  have HX := Lib.hid hx
  have HSM := Lib.hid (small_any a n c z w h hz hn)
  have HL := Lib.hid h.len
  clear h hg he hi hx hz
  go_enter Tryz.func21, Tryz.ntmps21
  go_wp2_with fail
  refine HSM.out.mono ?_
  rintro e w1 ⟨b, rfl, hb, hdr⟩
  have HF1 := Lib.hid (Fr.of_drew hdr)
  have HBB := Lib.hid hb
  clear hdr hb HSM
  cases b with
  | false =>
    go_wp2_with fail
    go_ret
    exact ⟨rfl, HF1.out⟩
  | true =>
    have hn6 := (HBB.out rfl).1
    have HOK := Lib.hid (HBB.out rfl).2
    go_wp2_with fail
    have hA : Fr (fun _ => False) w1 (w1.alloc (.cells #[.slice none 0 0, .slice none 0 0, .slice none 0 0, .slice none 0 0, .slice none 0 0] 79)) := (Fr.refl _ _).alloc _
    have hz1 := HF1.out.size
    have hwat : WAt (w1.alloc (.cells #[.slice none 0 0, .slice none 0 0, .slice none 0 0, .slice none 0 0, .slice none 0 0] 79)) w.heap.size w1.heap.size 0 ⟨[], .slice none 0 0, [], .slice none 0 0, [], .slice none 0 0, [], .slice none 0 0, [], .slice none 0 0⟩ :=
      ⟨Own.alloc w1 #[.slice none 0 0, .slice none 0 0, .slice none 0 0, .slice none 0 0, .slice none 0 0] 79, hz1, Vec.nil _ _ _ _, Vec.nil _ _ _ _, fun p hp => by simp at hp, fun p hp => by simp at hp, Vec.nil _ _ _ _, Vec.nil _ _ _ _, fun p hp => by simp at hp, fun p hp => by simp at hp, List.Pairwise.nil, Vec.nil _ _ _ _, fun p hp => by simp at hp, ⟨fun p hp => by simp at hp, fun p hp => by simp at hp, fun p hp => by simp at hp⟩, by simp⟩
    have HWA := Lib.hid hwat
    have HFA := Lib.hid (HF1.out.step hA (fun _ h _ => h))
    obtain ⟨gw, hgw⟩ : ∃ gw, w1.heap.size = gw := ⟨_, rfl⟩
    rw [hgw] at HWA ⊢
    clear hA hwat hgw
    generalize w1.alloc (.cells #[.slice none 0 0, .slice none 0 0, .slice none 0 0, .slice none 0 0, .slice none 0 0] 79) = wA at *
    go_loopw [7] (fun iv wr => ∃ (k N : Nat) (s : WSt), k ≤ n ∧ iv = .int .i64 k ∧ N ≤ k ∧ WAt wr w.heap.size gw N s ∧ Fr (fun _ => False) w wr) (fun iv _ => n - (intOf iv).toNat)
    case atStart => exact ⟨0, 0, _, Nat.zero_le _, rfl, Nat.le_refl _, HWA.out, HFA.out⟩
    case round =>
      obtain ⟨k, N, s, hk, rfl, hNk, hw, hfr⟩ := hrel
      have HW := Lib.hid hw
      have HFR := Lib.hid hfr
      by_cases hlt : k < n
      · have hkz : k < z.length := by rw [HL.out]; exact hlt
        obtain ⟨b, off, rfl, hbl, c0, c1, c2, c3, c4, c5⟩ := (H.out.keep hfr).at_ k hkz
        have hok := HOK.out z[k] (List.getElem_mem _)
        have hin := HI.out z[k] (List.getElem_mem _)
        have x0 := hfr.cell HX.out id
        generalize z[k] = o at *
        have HOO := Lib.hid (show OpOk o from ⟨hin.1, hin.2.1, hin.2.2, hok.1, hok.2⟩)
        clear hok hin hw hfr hkz
        by_cases hk10 : o.kind = 10
        · have y1 : (o.kind != 10) = false := by rw [hk10]; decide
          have y2 : (o.kind == 10) = true := by rw [hk10]; decide
          go_wp2_with fail
          go_loopw [8, 9] (fun inv jv wr2 => ∃ j : Nat, (∃ q, wr2 = wr.drewN q) ∧ jv = .int .i64 j ∧ (j = 0 ∧ inv = .bool true ∨ j = 1 ∧ inv = .bool false)) (fun _ jv _ => 1 - (intOf jv).toNat)
          case atStart => exact ⟨0, ⟨0, rfl⟩, rfl, .inl ⟨rfl, rfl⟩⟩
          case round =>
            obtain ⟨j, hdr, rfl, ⟨rfl, rfl⟩ | ⟨rfl, rfl⟩⟩ := hrel
            · obtain ⟨q, rfl⟩ := hdr
              go_wp2_with fail
              go_quiet (fail)
              go_wp2_with fail
              exact ⟨⟨1, ⟨_, rfl⟩, rfl, .inr ⟨rfl, rfl⟩⟩, by simp [intOf]⟩
            · obtain ⟨q, rfl⟩ := hdr
              go_wp2_with fail
              exact ⟨⟨k + 1, N, s, by omega, by go_num, by omega, HW.out.keep0 ((Fr.refl _ _).drewN _), HFR.out.drewN _⟩, by simp [intOf]; omega⟩
        · have y1 : (o.kind != 10) = true := by simpa using hk10
          have y2 : (o.kind == 10) = false := by simpa using hk10
          have HK10 := Lib.hid hk10
          clear hk10
          obtain ⟨wq, hwq⟩ : ∃ wq, wq = wr := ⟨_, rfl⟩
          subst hwq
          go_wp2_with fail
          go_loopw [8, 9] (fun inv jv wr2 => ∃ j : Nat, (∃ q, wr2 = wq.drewN q) ∧ jv = .int .i64 j ∧ (j = 0 ∧ inv = .bool true ∨ j = 1 ∧ inv = .bool true)) (fun _ jv _ => 1 - (intOf jv).toNat)
          case atStart => exact ⟨0, ⟨0, rfl⟩, rfl, .inl ⟨rfl, rfl⟩⟩
          case round =>
            obtain ⟨j, hdr, rfl, ⟨rfl, rfl⟩ | ⟨rfl, rfl⟩⟩ := hrel
            · obtain ⟨q, rfl⟩ := hdr
              go_wp2_with fail
              go_quiet (fail)
              go_wp2_with fail
              exact ⟨⟨1, ⟨_, rfl⟩, rfl, .inr ⟨rfl, rfl⟩⟩, by simp [intOf]⟩
            · have hD : Fr (fun _ => False) wq wr := Fr.of_drew hdr
              have HW2 := Lib.hid (HW.out.keep0 hD)
              have HF2 := Lib.hid (HFR.out.step hD (fun _ h _ => h))
              replace c0 := hD.cell c0 id
              replace c1 := hD.cell c1 id
              replace c2 := hD.cell c2 id
              replace c3 := hD.cell c3 id
              replace c4 := hD.cell c4 id
              replace c5 := hD.cell c5 id
              clear hdr hD x0 y1 y2
              go_wp2_with fail
              refine (step_any w w.heap.size gw N s o _ HK10.out rfl HG.out HE.out HF2.out HW2.out HOO.out (by omega)).mono ?_
              rintro e w5 ⟨rfl, ⟨s', hs'⟩, hf5⟩
              have HW5 := Lib.hid hs'
              have HF5 := Lib.hid hf5
              obtain ⟨ovn, hovn⟩ : ∃ ovn, s'.out.length = ovn := ⟨_, rfl⟩
              have HON := Lib.hid hovn
              have hov := hs'.out
              rw [hovn] at hov
              obtain ⟨va, vc, hvv, -⟩ := hov.shape
              have HVV := Lib.hid hvv
              have hown := hs'.own
              rw [hvv] at hov hown
              have HOV := Lib.hid hov
              have o4 := hown.cell (i := 4) rfl
              have hon8 : ovn ≤ 600000 := by have := hs'.count.2.2.2.2.2; omega
              clear hs' hf5 hovn hov hvv hown c0 c1 c2 c3 c4 c5
              go_wp2_with fail
              go_loopw [10, 11] (fun _ov jv wr3 => ∃ j : Nat, j ≤ ovn ∧ jv = .int .i64 j ∧ IsW wr3 w5) (fun _ jv _ => ovn - (intOf jv).toNat)
              case atStart => exact ⟨0, Nat.zero_le _, rfl, rfl⟩
              case round =>
                obtain ⟨j, hj, rfl, hw5⟩ := hrel
                have hw52 : w5 = wr := Eq.symm hw5
                subst hw52
                clear hw5
                by_cases hlj : j < ovn
                · have hjl : j < s'.out.length := by rw [HON.out]; exact hlj
                  obtain ⟨gv, cv, rv, hqv, hBv, hol, -⟩ := HOV.out.row (by omega)
                  simp only [Value.slice.injEq, true_and] at hqv
                  obtain ⟨rfl, rfl⟩ := hqv
                  have d1 := hol.cell (i := j) (by rw [List.getElem?_append_left hjl, List.getElem?_eq_getElem hjl])
                  have hfu := HW5.out.full _ (List.getElem_mem hjl)
                  obtain ⟨dv, hdv⟩ : ∃ dv, s'.out[j] = dv := ⟨_, rfl⟩
                  rw [hdv] at d1 hfu
                  obtain ⟨da, dn, dc, hdq⟩ := hfu.rowU.shape
                  subst hdq
                  have HST := Lib.hid (stays_any _ w5 hfu)
                  clear hol hfu hdv hjl
                  go_wp2_with fail
                  refine HST.out.mono ?_
                  rintro e w' ⟨rfl, hw'⟩
                  subst hw'
                  clear HST
                  go_wp2_with fail
                  exact ⟨⟨j + 1, by omega, by go_num, rfl⟩, by simp [intOf]; omega⟩
                · obtain rfl : j = ovn := by omega
                  go_wp2_with fail
                  exact ⟨⟨k + 1, N + 1, s', by omega, by go_num, by omega, HW5.out, HF5.out⟩, by simp [intOf]; omega⟩
      · obtain rfl : k = n := by omega
        clear hw hfr
        go_wp2_with fail
        go_ret
        exact ⟨rfl, HFR.out⟩
end Go.Proofs.YtlcdgbhigfgehabGreatDoor
/- Scripts that come in as an argument: their cells, their numbers' bounds, their texts' sizes. -/
namespace Go.Proofs.YtlcdgbhigfgehabGreatDoor
open Go.ChangeShapes Go.WideShapes Go.Deep Go.RowKit
set_option maxRecDepth 100000

/-- One element of a slice of structs: each field's cell, and what it reads as. -/
theorem elem_fields {H : Type} {enc : TypeId × Value → H} {P : Program} {w : World} {base : Nat} {spare : Nat → Bool} {held : Bool} {e : TypeId} {fs : Array Field} {n : Nat} {a : Addr} {cs : List Value} {x : DataW H × List MemPlace}
    (he : P.underlying e = some (.struct fs)) (hone : oneCellFields P fs = true) (hc : w.cells? base a fs.size = some cs) (ht : DataW.trod enc P w base spare held n e cs = some x) :
    ∃ (ys : List (DataW H × List MemPlace)) (k : Nat), x.1 = .agg (ys.map (·.1)) ∧ ys.length = fs.size ∧ ∀ (j : Nat) (f : Field), fs[j]? = some f → ∃ (v : Value) (y : DataW H × List MemPlace), w.cell? (a.add j) = some v ∧ ys[j]? = some y ∧ DataW.trod enc P w base spare held k f.type [v] = some y := by
  obtain ⟨ys, n', hn', hy, hlen, hyl, hf⟩ := DataW.trod_struct he ht
  obtain ⟨_, hcl, hat⟩ := World.cells?_some hc
  refine ⟨ys, n', by rw [hy], hyl, fun j f hj => ?_⟩
  obtain ⟨ho, hk⟩ := hone_of hone j f hj
  have hjl : j < fs.size := (Array.getElem?_eq_some_iff.1 hj).1
  have hcell := hat j hjl
  have hv : cs[j]? = some (cs[j]'(by omega)) := List.getElem?_eq_getElem (by omega)
  have h1 := hf j f hj
  rw [ho, hk] at h1
  have hone' : (cs.drop j).take 1 = [cs[j]'(by omega)] := by
    rw [List.drop_eq_getElem_cons (by omega)]
    rfl
  rw [hone'] at h1
  have hys : ys[j]? = some (ys[j]'(by omega)) := List.getElem?_eq_getElem (by omega)
  exact ⟨_, _, by rw [hcell, hv], hys, h1.trans hys⟩
theorem sizes_each {H : Type} {P : Program} {ts : List TypeId} {ds : List (DataW H)} {n : Nat} (h : (DataW.weightsEach P ts ds).all (· ≤ reachBytes) = true) {j : Nat} {t : TypeId} {d : DataW H} (ht : ts[j]? = some t) (hd : ds[j]? = some d) (hn : n ∈ d.weights P t) : n ≤ reachBytes := by
  have := List.all_eq_true.1 h _ (DataW.weights_mem_each ht hd n hn)
  simpa using this
theorem weights_all {H : Type} {P : Program} {e : TypeId} {n : Nat} : ∀ {l : List (DataW H)} {d : DataW H}, d ∈ l → n ∈ d.weights P e → n ∈ DataW.weightsAll P e l := by
  intro l
  induction l with
  | nil => intro d hd; simp at hd
  | cons a l ih =>
    intro d hd hn
    simp only [DataW.weightsAll, List.mem_append]
    rcases List.mem_cons.1 hd with rfl | hd
    · exact .inl hn
    · exact .inr (ih hd hn)
theorem bounds_i64' {n : Int} (h : (Lit.int .i64 n).wf = true) : -9223372036854775808 ≤ n ∧ n ≤ 9223372036854775807 := by
  simp [Lit.wf] at h
  exact ⟨h.1, h.2⟩
theorem ops_open {H : Type} {enc : TypeId × Value → H} {W : World} {a : Option Addr} {len cap : Nat} {x : DataW H × List MemPlace} {fuel : Nat} {sp : Nat → Bool} {held : Bool} (h : DataW.trod enc Tryz.prog W 0 sp held fuel 53 [.slice a len cap] = some x) (hw : ∀ n ∈ x.1.weights Tryz.prog 53, n ≤ reachBytes) :
    ∃ z, OpsAt W a len z ∧ (∀ o ∈ z, o.s.size ≤ 140737488355328 ∧ o.t.size ≤ 140737488355328) ∧ len ≤ 140737488355328 ∧
      (∀ o ∈ z, (-9223372036854775808 ≤ o.a ∧ o.a ≤ 9223372036854775807) ∧ (-9223372036854775808 ≤ o.b ∧ o.b ≤ 9223372036854775807) ∧ (-9223372036854775808 ≤ o.c ∧ o.c ≤ 9223372036854775807)) := by
  rcases open_slice Tryz.underlying53 h with ⟨hcs, hx⟩ | ⟨a', len', cap', m, n, D, Pl, hcs, -, hl, hm, hmm, hx, hi⟩
  · simp only [List.cons.injEq, Value.slice.injEq, and_true] at hcs
    obtain ⟨rfl, rfl, rfl⟩ := hcs
    exact ⟨[], ⟨rfl, fun i h => by simp at h⟩, fun o h => by simp at h, by omega, fun o h => by simp at h⟩
  · simp only [List.cons.injEq, Value.slice.injEq, and_true] at hcs
    obtain ⟨rfl, rfl, rfl⟩ := hcs
    have hml : len ≤ m := by rw [hmm]; split <;> omega
    have hC : Tryz.prog.cellsOf 81 = 6 := by kernel_rfl
    have key : ∀ i, i < len → ∃ o : OpR, (∀ j v, o.cells[j]? = some v → W.cell? ((a'.add (i * 6)).add j) = some v) ∧ (o.s.size ≤ reachBytes ∧ o.t.size ≤ reachBytes) ∧ ((-9223372036854775808 ≤ o.a ∧ o.a ≤ 9223372036854775807) ∧ (-9223372036854775808 ≤ o.b ∧ o.b ≤ 9223372036854775807) ∧ (-9223372036854775808 ≤ o.c ∧ o.c ≤ 9223372036854775807)) := by
      intro i hil
      obtain ⟨cs, hc, ht⟩ := hi i (by omega)
      rw [hC] at hc
      obtain ⟨ys, k, hy, hyl, hf⟩ := elem_fields Tryz.underlying81 (by kernel_rfl) hc ht
      obtain ⟨v0, y0, c0, hy0, t0⟩ := hf 0 _ rfl
      obtain ⟨v1, y1, c1, hy1, t1⟩ := hf 1 _ rfl
      obtain ⟨v2, y2, c2, hy2, t2⟩ := hf 2 _ rfl
      obtain ⟨v3, y3, c3, hy3, t3⟩ := hf 3 _ rfl
      obtain ⟨v4, y4, c4, hy4, t4⟩ := hf 4 _ rfl
      obtain ⟨v5, y5, c5, hy5, t5⟩ := hf 5 _ rfl
      obtain ⟨k0, e0, -, w0⟩ := DataW.trod_int Tryz.underlying3 t0
      obtain ⟨k1, e1, -, w1⟩ := DataW.trod_int Tryz.underlying3 t1
      obtain ⟨k2, e2, -, w2⟩ := DataW.trod_int Tryz.underlying3 t2
      obtain ⟨k3, e3, -, w3⟩ := DataW.trod_int Tryz.underlying3 t3
      obtain ⟨s4, e4, x4, -⟩ := DataW.trod_string Tryz.underlying9 t4
      obtain ⟨s5, e5, x5, -⟩ := DataW.trod_string Tryz.underlying9 t5
      simp only [List.cons.injEq, and_true] at e0 e1 e2 e3 e4 e5
      subst e0; subst e1; subst e2; subst e3; subst e4; subst e5
      have hDi : D i = .agg (ys.map (·.1)) := hy
      have hmem : ∀ u ∈ (D i).weights Tryz.prog 81, u ≤ reachBytes := fun u hu => hw u (by
        rw [hx]
        simp only [DataW.weights, Tryz.underlying53, List.mem_cons, List.mem_append]
        exact .inr (.inl (weights_all (List.mem_map_of_mem (List.mem_range.2 hil)) hu)))
      rw [hDi] at hmem
      simp only [DataW.weights, Tryz.underlying81] at hmem
      refine ⟨⟨k0, k1, k2, k3, s4, s5⟩, fun j v hj => ?_, ⟨?_, ?_⟩, bounds_i64' w1, bounds_i64' w2, bounds_i64' w3⟩
      · match j, hj with
        | 0, hj => cases hj; exact c0
        | 1, hj => cases hj; exact c1
        | 2, hj => cases hj; exact c2
        | 3, hj => cases hj; exact c3
        | 4, hj => cases hj; exact c4
        | 5, hj => cases hj; exact c5
      · refine hmem _ (DataW.weights_mem_each (j := 4) (t := 9) (d := .lit (.string s4.data.toList)) rfl (by rw [List.getElem?_map, hy4, x4]; rfl) _ ?_)
        simp [DataW.weights]
      · refine hmem _ (DataW.weights_mem_each (j := 5) (t := 9) (d := .lit (.string s5.data.toList)) rfl (by rw [List.getElem?_map, hy5, x5]; rfl) _ ?_)
        simp [DataW.weights]
    obtain ⟨f, hf⟩ : ∃ f : Nat → OpR, ∀ i, i < len → (∀ j v, (f i).cells[j]? = some v → W.cell? ((a'.add (i * 6)).add j) = some v) ∧ ((f i).s.size ≤ reachBytes ∧ (f i).t.size ≤ reachBytes) ∧ ((-9223372036854775808 ≤ (f i).a ∧ (f i).a ≤ 9223372036854775807) ∧ (-9223372036854775808 ≤ (f i).b ∧ (f i).b ≤ 9223372036854775807) ∧ (-9223372036854775808 ≤ (f i).c ∧ (f i).c ≤ 9223372036854775807)) :=
      ⟨fun i => if h : i < len then (key i h).choose else ⟨0, 0, 0, 0, ByteArray.empty, ByteArray.empty⟩, fun i hi => by simp only [hi, dite_true]; exact (key i hi).choose_spec⟩
    have hreach : reachBytes ≤ 140737488355328 := by decide
    have hmem : ∀ o ∈ (List.range len).map f, ∃ i, i < len ∧ o = f i := fun o ho => by
      obtain ⟨i, hi, rfl⟩ := List.mem_map.1 ho
      exact ⟨i, List.mem_range.1 hi, rfl⟩
    refine ⟨(List.range len).map f, ⟨by simp, fun i hi => ?_⟩, fun o ho => ?_, ?_, fun o ho => ?_⟩
    · have hil : i < len := by simpa using hi
      have hg : ((List.range len).map f)[i] = f i := by simp
      rw [hg]
      have hc := (hf i hil).1
      have h0 := hc 0 _ rfl
      obtain ⟨b, off, spot⟩ := a'
      have hspot : spot = none := by
        have h00 := (hf 0 (by omega)).1 0 _ rfl
        have := World.cell?_spot h00
        simpa [Addr.add] using this
      subst hspot
      simp only [addr_add] at hc
      refine ⟨b, off, rfl, ?_, hc 0 _ rfl, hc 1 _ rfl, hc 2 _ rfl, hc 3 _ rfl, hc 4 _ rfl, hc 5 _ rfl⟩
      exact World.block_lt_of_cell? W _ (hc 0 _ rfl)
    · obtain ⟨i, hi, rfl⟩ := hmem o ho
      have := (hf i hi).2.1
      omega
    · have h1 := hw ((len + (m - len)) * Tryz.prog.bytesOf 81) (by
        rw [hx]
        simp only [DataW.weights, Tryz.underlying53, List.mem_cons]
        left; simp)
      have hbo : Tryz.prog.bytesOf 81 = 64 := by kernel_rfl
      rw [hbo] at h1
      omega
    · obtain ⟨i, hi, rfl⟩ := hmem o ho
      exact (hf i hi).2.2
end Go.Proofs.YtlcdgbhigfgehabGreatDoor
/- The law Replays: any script of mirrors, batches of any bytes and power failures. -/
namespace Go.Proofs.YtlcdgbhigfgehabGreatDoor
open Go.RowKit
set_option maxRecDepth 100000

set_option maxHeartbeats 1000000 in
theorem replays_walk (a : Option Addr) (n c : Nat) (z : List OpR) (w : World) (hg : ErrType w) (he : ErrForm w) (h : OpsAt w a n z) (hz : ∀ o ∈ z, o.s.size ≤ 140737488355328 ∧ o.t.size ≤ 140737488355328) (hn : n ≤ 140737488355328)
    (hi : ∀ o ∈ z, (-9223372036854775808 ≤ o.a ∧ o.a ≤ 9223372036854775807) ∧ (-9223372036854775808 ≤ o.b ∧ o.b ≤ 9223372036854775807) ∧ (-9223372036854775808 ≤ o.c ∧ o.c ≤ 9223372036854775807)) :
    Calls Tryz.prog 8 #[.slice a n c] w fun e w' => e = .returned (.bool true) ∧ Fr (fun _ => False) w w' := by
  have hA : Fr (fun _ => False) w (w.alloc (.cells #[.int .i64 10] 3)) := (Fr.refl _ _).alloc _
  have HP := Lib.hid (plays_any a n c w.heap.size z (w.alloc (.cells #[.int .i64 10] 3)) (hg.keep hA id) (he.keep hA) (h.keep hA) hz hn hi ((Own.alloc w #[.int .i64 10] 3).cell (i := 0) rfl))
  have HA := Lib.hid hA
  clear hg he h hz hi hA
  go_enter Tryz.func8, Tryz.ntmps8
  go_wp2_with fail
  refine HP.out.mono ?_
  rintro e w1 ⟨rfl, hf⟩
  have HF := Lib.hid (HA.out.step hf (fun _ h _ => h))
  clear hf HP
  go_wp2_with fail
  go_ret
  exact ⟨rfl, HF.out⟩
end Go.Proofs.YtlcdgbhigfgehabGreatDoor
/- A walk of one goroutine serves a row that says 'leaving' and 'outside := [.timePasses]', laid, at the assumption calm, where what is read bounds its sizes. For any program. -/
namespace Go.Proofs.YtlcdgbhigfgehabGreatDoor
open Go Go.Conc Go.ConcM
section
variable {H : Type} {enc : TypeId × Value → H}
/-- The row out of the contract: to it is handed that each string, slice and map that is read takes at most reachBytes. -/
theorem returnsInLeaving_of_row_sized {a : Assume} {C : Checked} {os : Os} {f : FuncId} {fn : Func} {s : ChangeSpec} {F : Stop.Interp} {conds : List PathCond} {apart fresh handsOn : Bool} {laid : List (String × DataW Unit)}
    (own : ownKnob C.prog.godebug = none) (started : os.Started) (noInit : C.prog.inits.idxOf? f = none) (hfn : C.prog.funcs[f]? = some fn)
    (witness : ∃ (w : World) (tape : Tape) (i : Input), w.os = os ∧ (w.forCall tape i).Shaped C.prog ∧ i.vars = [] ∧ Input.okWide C.prog (w.forCall tape i) .any w.heap.size f i ∧
      (OpenSpec.ofChange s).preRow enc C.prog fn conds apart laid (w.forCall tape i).memory i.args ∧ a.holds C.prog (lone (Frame.enter C.prog f i.args .normal) [] (w.forCall tape i)))
    (contract : ∀ (W : World) (base : Nat) (args : Array Value) (ds gs : List (DataW H)) (before : List MemPlace),
      (∀ (j : Nat) t v, fn.params[j]? = some t → args[j]? = some v → Value.okWide C.prog W .any base t v) →
      DataW.Whole enc C.prog fn.params.toList s.vars apart W args.toList ds gs before →
      (DataW.weightsEach C.prog (fn.params.toList ++ (OpenSpec.ofChange s).bare.plain.varTypes C.prog) (ds ++ gs)).all (· ≤ reachBytes) = true →
      laidMetH C.prog laid W →
      Calls C.prog f args W fun e W' => ∃ v, e = .returned v ∧ s.post enc C.prog fn apart fresh handsOn false W args v W') :
    ReturnsInLeavingWide a C os f .any ((OpenSpec.ofChange s).preRow enc C.prog fn conds apart laid) ((OpenSpec.ofChange s).postWith enc C.prog fn F (outsideKept [.timePasses]) apart fresh handsOn) := fun enter => by
  obtain ⟨w0, t0, i0, a1, a2, a3, a4, a5, a6⟩ := witness
  refine ⟨enter, own, started, ⟨w0, t0, i0, a1, a2, a3, a4, a5, a6, trivial⟩, fun w tape i h => ?_⟩
  obtain ⟨_, _, hiv, hok, hpre, _, _⟩ := h
  obtain ⟨_, _, _, fn', hfn', _, _, _, _, hval⟩ := hok
  have e : fn' = fn := Option.some.inj (hfn'.symm.trans hfn)
  subst e
  obtain ⟨⟨hp, hl⟩, hz⟩ := hpre
  obtain ⟨ds, gs, before, hw, hc, hk⟩ := OpenSpec.pre_parts hp
  have hw' := DataW.Whole.of_heap (w' := w.forCall tape i) (by rfl) hw
  have hcon := contract (w.forCall tape i) w.heap.size i.args ds gs before hval hw' (hz.weights hw) (hl.of_heap (by rfl))
  have hcall : Calls C.prog f i.args (w.forCall tape i) fun
      | .returned v, w' => (OpenSpec.ofChange s).postWith enc C.prog fn' F (outsideKept [.timePasses]) apart fresh handsOn (w.forCall tape i).blind i.args v w'.blind
      | _, _ => False := hcon.mono fun e W' ⟨v, he, hp⟩ => by
    subst he
    have hos := post_os hp
    have hW : ({ W' with os := (w.forCall tape i).os } : World) = W' := by rw [← hos]
    exact postWith_blind (postWith_of_post (by rw [hW]; exact hp) (by rw [hos]; exact OsLater.refl _))
  obtain ⟨n, v, w', fr, hn, hend, hp⟩ := hcall.done_lone noInit
  exact ⟨n + 1, v, w', hend, (clean_of_lone hn).2, roomy_placeholder .., hp, ⟨n, _, hn, step_of_runs hn hend, leaving_of_lone hn⟩, fun _ _ _ => trivial⟩
end
end Go.Proofs.YtlcdgbhigfgehabGreatDoor
/- What every card of this seat wants: closed facts, and what the listed variable errors.errorType gives a walk (after the guide's worked toy toyas). -/
namespace Go.Proofs.YtlcdgbhigfgehabGreatDoor
open Go.ChangeShapes Go.WideShapes Go.ChangeAt Go.RowKit

theorem cardOwn : ownKnob Tryz.prog.godebug = none := by kernel_rfl
theorem cardLaidOut : laidOutB Tryz.prog = true := by kernel_rfl
theorem cb_et : Tryz.prog.globalNamed "errors.errorType" = some 0 := by kernel_rfl
theorem cb_rt : (Tryz.prog.cutTypes.find? (·.1 == "internal/reflectlite.rtype")).map (·.2) = some 205 := by kernel_rfl
theorem cb_oneRow : ((List.range 311).filter fun t => Tryz.prog.rowNamed t [101, 114, 114, 111, 114]) = [60] := by kernel_rfl
theorem cb_size : Tryz.prog.types.size = 311 := by kernel_rfl
theorem cb_handle : typeHandle Tryz.prog 60 = .pointer (some ⟨2, 60, none⟩) := by kernel_rfl
theorem handle_of_met {W : World} {l : List (String × DataW Unit)} (hx : ("errors.errorType", Rows.laid_errors_errorType) ∈ l) (h' : handlesMet Tryz.prog l W) : ErrType W := by
  obtain ⟨name, u, ty, e1, e2, e3, e4, e5⟩ := h' _ hx
  have en : name = [101, 114, 114, 111, 114] := (Option.some.inj e1).symm
  subst en
  obtain rfl := Option.some.inj (cb_rt.symm.trans e2)
  have hm : ty ∈ (List.range 311).filter fun t => Tryz.prog.rowNamed t [101, 114, 114, 111, 114] := List.mem_filter.2 ⟨List.mem_range.2 (by rw [← cb_size]; exact e3), e4⟩
  rw [cb_oneRow] at hm
  obtain rfl := List.mem_singleton.1 hm
  rw [cb_handle] at e5
  simpa [ErrType] using World.var?_cell cb_et e5 0
theorem handle_of_laid {W : World} (h : laidMetH Tryz.prog [("errors.errorType", Rows.laid_errors_errorType)] W) : ErrType W := by
  have h' : laidMet Tryz.prog [] W ∧ handlesMet Tryz.prog [("errors.errorType", Rows.laid_errors_errorType)] W := h
  exact handle_of_met (List.mem_singleton.2 rfl) h'.2

/-- A world that meets the condition: the settled one, the variable's cell laid. -/
noncomputable def laidWorld (os : Os) : World :=
  let w0 := World.holding Tryz.prog os ⟨#[], #[], []⟩
  { w0 with heap := w0.heap.modify 0 fun
      | .cells _ t frozen => .cells #[.iface 205 (.agg #[.pointer (some ⟨2, 60, none⟩)])] t frozen
      | o => o }
theorem laidWorld_met (os : Os) (args : Array Value) : laidMetH Tryz.prog [("errors.errorType", Rows.laid_errors_errorType)] ((laidWorld os).forCall (fun _ _ => 0) ⟨#[], args, []⟩).memory :=
  laidMetH_of_parts (laidMet_nil _ _) (by kernel_rfl)
end Go.Proofs.YtlcdgbhigfgehabGreatDoor
/- What the cards want whose rows list the form's error too: what it gives a walk; a world that meets the condition. -/
namespace Go.Proofs.YtlcdgbhigfgehabGreatDoor
open Go.ChangeShapes Go.WideShapes Go.ChangeAt Go.RowKit

theorem cb_form : Tryz.prog.globalNamed "mirror/batch.errForm" = some 1 := by kernel_rfl
theorem cb_formT : (Tryz.prog.globals[1]?).map (·.type) = some 60 := by kernel_rfl
theorem handle_of_laidF {W : World} (h : laidMetH Tryz.prog [("errors.errorType", Rows.laid_errors_errorType), ("mirror/batch.errForm", Rows.laid_mirror_batch_errForm)] W) : ErrType W := by
  have h' : laidMet Tryz.prog [("mirror/batch.errForm", Rows.laid_mirror_batch_errForm)] W ∧ handlesMet Tryz.prog [("errors.errorType", Rows.laid_errors_errorType)] W := h
  exact handle_of_met (List.mem_singleton.2 rfl) h'.2
theorem form_of_laid {W : World} (h : laidMetH Tryz.prog [("errors.errorType", Rows.laid_errors_errorType), ("mirror/batch.errForm", Rows.laid_mirror_batch_errForm)] W) : ErrForm W := by
  have h' : laidMet Tryz.prog [("mirror/batch.errForm", Rows.laid_mirror_batch_errForm)] W ∧ handlesMet Tryz.prog [("errors.errorType", Rows.laid_errors_errorType)] W := h
  obtain ⟨ps, ⟨g1, t1, cs1, f1, p1, q1, hg1, ht1, hv1, hd1, _, _⟩, _, _⟩ := h'.1
  obtain rfl := Option.some.inj (cb_form.symm.trans hg1)
  obtain rfl := Option.some.inj (cb_formT.symm.trans ht1)
  obtain ⟨_, u, v, hcs, _, _⟩ := iface_of_trod Tryz.underlying60 hd1
  refine ⟨u, v, ?_⟩
  have := World.var?_cell hg1 hv1 0
  rw [Array.eq_one_of_toList hcs] at this
  simpa using this
/-- A world that meets the condition: the settled one, both variables' cells laid, the error behind all. -/
noncomputable def laidWorldF (os : Os) : World :=
  let w0 := laidWorld os
  { w0 with heap := (w0.heap.modify 1 fun
      | .cells _ t frozen => .cells #[.iface 279 (.pointer (some ⟨w0.heap.size, 0, none⟩))] t frozen
      | o => o).push (.cells #[.string ⟨#[110, 111, 32, 98, 97, 116, 99, 104]⟩] 300) }
theorem laidWorldF_met (os : Os) (args : Array Value) : laidMetH Tryz.prog [("errors.errorType", Rows.laid_errors_errorType), ("mirror/batch.errForm", Rows.laid_mirror_batch_errForm)] ((laidWorldF os).forCall (fun _ _ => 0) ⟨#[], args, []⟩).memory :=
  laidMetH_of_parts (laidMet_of_run' 8 (by kernel_rfl) (by kernel_rfl)) (by kernel_rfl)
end Go.Proofs.YtlcdgbhigfgehabGreatDoor
/- The law Replays's card: its row out of its walk; what the row lists is tied to the program's text. For every input. -/
namespace Go.Proofs.YtlcdgbhigfgehabGreatDoor
open Go.ChangeShapes Go.WideShapes Go.ChangeAt Go.RowKit
open Go.ChangeMaps (open_string shut_string)
set_option linter.unusedVariables false

set_option maxRecDepth 100000 in
theorem replays_contract (H : Type) (enc : TypeId × Value → H) (W : World) (base : Nat) (args : Array Value) (ds gs : List (DataW H)) (before : List MemPlace)
    (hval : ∀ (j : Nat) t v, Tryz.f8.params[j]? = some t → args[j]? = some v → Value.okWide Tryz.prog W .any base t v)
    (hW : DataW.Whole enc Tryz.prog Tryz.f8.params.toList Rows.replaysSpec.vars false W args.toList ds gs before) (hS : (DataW.weightsEach Tryz.prog (Tryz.f8.params.toList ++ (OpenSpec.ofChange Rows.replaysSpec).bare.plain.varTypes Tryz.prog) (ds ++ gs)).all (· ≤ reachBytes) = true) (hL : laidMetH Tryz.prog Rows.replaysRow.laid W) :
    Calls Tryz.prog 8 args W fun e W' => ∃ v, e = .returned v ∧ Rows.replaysSpec.post enc Tryz.prog Tryz.f8 false true false false W args v W' := by
  have hW' := hW
  obtain ⟨p, q, hA0, hV, rfl, hfz, hnd⟩ := hW
  have hA : DataW.TrodAll enc Tryz.prog W 0 (fun _ => true) true Tryz.f8.params.toList args.toList ds p := hA0
  rw [Tryz.params8] at hA hval
  obtain ⟨v0, vs0, d0, ds0, p0, q0, hargs, rfl, rfl, h0, r0⟩ := trodAll_cons hA
  obtain ⟨rfl, rfl, rfl⟩ := trodAll_nil r0
  obtain rfl : args = #[v0] := by cases args; simp_all
  obtain ⟨rfl, rfl⟩ := trodVars_none hV
  have k0 := h0
  have lt0 : ∀ x ∈ p0, x.block < W.heap.size := by obtain ⟨m, hm⟩ := k0; exact DataW.trod_lt m _ _ _ hm
  obtain ⟨a0, len0, cap0, rfl⟩ := okWide_slice Tryz.underlying53 (hval 0 53 v0 rfl rfl)
  obtain ⟨fu0, hu0⟩ := h0
  obtain ⟨z0, w0, s0, l0, b0⟩ := ops_open hu0 (fun n hn => sizes_each hS (j := 0) (by rw [Tryz.params8]; rfl) rfl hn)
  clear hA0
  have hg := handle_of_laidF hL
  have he := form_of_laid hL
  refine (replays_walk a0 len0 cap0 z0 W hg he w0 s0 l0 b0).mono fun e W' ⟨he, bel⟩ => ?_
  subst he
  have hbel := bel.none_below
  exact ⟨_, rfl, _, _, _, [], _, [], hW', trodAll_mk1 (shut_bool Tryz.underlying4 _), (trodAll_cons_mk (Below.trod cardLaidOut (by kernel_rfl) (of_decide_eq_true (by kernel_rfl)) k0 hbel lt0) trodAll_mk0), rfl, hbel.frame _, fun h => by cases h⟩

theorem replays_reads (os : Os) {H : Type} (enc : TypeId × Value → H) : ∃ places, DataW.whole enc Tryz.prog ((laidWorldF os).forCall (fun _ _ => 0) ⟨#[], #[.slice none 0 0], []⟩).memory Tryz.f8.params.toList Rows.replaysSpec.vars false (#[.slice none 0 0] : Array Value).toList 8 = some ([.nil], [], places) :=
  ⟨[], by kernel_rfl⟩
set_option maxRecDepth 100000 in
theorem replays_lifted (os : Os) (started : os.Started) (H : Type) (enc : TypeId × Value → H) (F : Stop.Interp) :
    ReturnsInLeavingWide { calm := true } Tryz.checked os 8 .any ((OpenSpec.ofChange Rows.replaysSpec).preRow enc Tryz.prog Tryz.f8 Rows.replaysRow.domain false Rows.replaysRow.laid) ((OpenSpec.ofChange Rows.replaysSpec).postWith enc Tryz.prog Tryz.f8 F (outsideKept [.timePasses]) false true false) := by
  obtain ⟨places, hx⟩ := replays_reads os enc
  refine returnsInLeaving_of_row_sized (C := Tryz.checked) (s := Rows.replaysSpec) cardOwn started (by kernel_rfl) Tryz.func8
    (witness_row_calm (enc := enc) (C := Tryz.checked) (s := OpenSpec.ofChange Rows.replaysSpec) (laidWorldF os) #[.slice none 0 0] rfl (by kernel_rfl) (by kernel_rfl) (by kernel_rfl)
      (OpenSpec.preRow_of_cond 8 hx (by kernel_rfl) (fun k hk => by cases hk) (by kernel_rfl) (laidWorldF_met os _))) ?_
  intro W base args ds gs before hval hW hS hL
  exact replays_contract H enc W base args ds gs before hval hW hS hL
theorem replays_said : Rows.ReplaysSaid :=
  OpenClaim.holds_of_wide_leaving_time 8 Tryz.f8 rfl rfl rfl rfl rfl rfl rfl ⟨rfl, rfl, rfl, rfl, rfl⟩ rfl rfl rfl rfl rfl (by kernel_rfl) Tryz.func8 (by kernel_rfl)
    (of_decide_eq_true (by kernel_rfl)) (by unfold Func.isWrapper; first | (rw [if_pos (by decide +kernel)]; kernel_rfl) | (rw [if_neg (by decide +kernel)]; exact ⟨rfl, rfl⟩))
    (fun os started H enc _ F => by rw [OpenClaim.pre_eq_preRow]; exact replays_lifted os started H enc F)
theorem replays_plain (f : FuncId) (fn : Func) (hf : Tryz.pinned.checked.prog.funcNamed "mirror/mirrorlaw.Replays" = some f) (hfn : Tryz.pinned.checked.prog.funcs[f]? = some fn) :
    true = Tryz.pinned.checked.prog.looks [] ∧ ∀ (j : Nat) t, fn.params[j]? = some t → Tryz.pinned.checked.prog.wantsStandIn t = false := by
  obtain rfl : f = 8 := Option.some.inj ((show Tryz.prog.funcNamed "mirror/mirrorlaw.Replays" = some 8 by kernel_rfl).symm.trans hf) |>.symm
  obtain rfl : fn = Tryz.f8 := (Option.some.inj (Tryz.func8.symm.trans hfn)).symm
  refine ⟨by kernel_rfl, fun j t ht => ?_⟩
  rw [Tryz.params8] at ht
  have hm := Array.mem_of_getElem? ht
  simp only [List.mem_toArray, List.mem_cons, List.not_mem_nil, or_false] at hm
  subst hm
  exact (show Tryz.prog.wantsStandIn 53 = false by kernel_rfl)

theorem replays_card : Rows.ReplaysCardSaid :=
  holds_tied_goes_at .later true _ _ _ _ replays_said (by kernel_rfl) replays_row_tie rfl ⟨rfl, rfl⟩ (by kernel_rfl) rfl replays_plain (by kernel_rfl)
#print axioms replays_card
end Go.Proofs.YtlcdgbhigfgehabGreatDoor
