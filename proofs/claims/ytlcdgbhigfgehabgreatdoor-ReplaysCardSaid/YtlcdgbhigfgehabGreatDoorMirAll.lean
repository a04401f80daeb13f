/- PlanPure, Same, Mutex, Disk, DiskOps, DiskNew, MirMem, MFiles, MNew, PRecord, Pick, Differs, PRead, Plan, DiskWrite, Work, Do, MRecover, ErrForm, MReplay, Has, PReplay, Leave in one text. -/
import Derived.Test.YtlcdgbhigfgehabGreatDoorBrokePure
import Derived.Test.YtlcdgbhigfgehabGreatDoorTold
import Derived.Test.YtlcdgbhigfgehabGreatDoorKTree
import Derived.BigQuiet
import Derived.Test.YtlcdgbhigfgehabGreatDoorMem
import Derived.Test.YtlcdgbhigfgehabGreatDoorRows
import Derived.Conc.MuLone
import Derived.KernelRfl
import Derived.Deep.CutBlock
import Derived.Deep.AppendLies
import Derived.Test.YtlcdgbhigfgehabGreatDoorFilMem
import Derived.Test.YtlcdgbhigfgehabGreatDoorUpTo
import Derived.BigRegion
import Derived.Lib.Hide
import Derived.Defers
import Derived.Test.YtlcdgbhigfgehabGreatDoorTree
import Derived.Test.YtlcdgbhigfgehabGreatDoorBRecord
import Derived.Test.YtlcdgbhigfgehabGreatDoorChecked
import Derived.IntWalk
import Derived.Test.YtlcdgbhigfgehabGreatDoorReadMem
import Derived.Test.YtlcdgbhigfgehabGreatDoorBRead
import Derived.Test.YtlcdgbhigfgehabGreatDoorPlainApply
import Derived.Test.YtlcdgbhigfgehabGreatDoorBases
import Derived.Test.YtlcdgbhigfgehabGreatDoorOToks
import Derived.Deep.RegionLaw
import Derived.RegionDies
import Derived.Recover
import Derived.Deep.RegionHeld3
import Derived.Conc.HoldsTime
import Derived.LoneHanded
import Derived.Handed
import Derived.Deep.DeepHandedRow
import Derived.Deep.DeepWitnessRowRef
import Derived.SevenTiedAt
/- What a replay makes of a tree, in plain terms. -/
namespace Go.Proofs.YtlcdgbhigfgehabGreatDoor
open Go.Op

/-- The name of the first file by which a tree is not the basis. -/
def difN : List Fil → List Ent → Option (List UInt8)
  | [], [] => none
  | f :: _, [] => some f.name
  | [], e :: _ => some e.name
  | f :: l, e :: m => if bytesLess f.name e.name then some f.name else if bytesLess e.name f.name then some e.name else if f.data.length = e.size ∧ dgN f.data = e.dig then difN l m else some f.name
/-- The files of targets, behind acc. -/
def takeT (tree : List Fil) (blk : Nat) : List Targ → List Fil → Err ⊕ List Fil
  | [], acc => .inr acc
  | t :: ts, acc => match applyK (baseOf tree t.ent.name) blk t.toks with
    | .inl _ => .inl (.file ⟨t.ent.name.toArray⟩ 11)
    | .inr d => if dgN d = t.ent.dig then takeT tree blk ts (acc ++ [⟨t.ent.name, d⟩]) else .inl (.file ⟨t.ent.name.toArray⟩ 11)
def roomOf (l : List Targ) : Nat := (l.map (·.ent.size)).sum
/-- What a batch makes of a tree. -/
def planB (tree : List Fil) (room : Int) (x : Bat) : Err ⊕ List Fil := match difN tree x.basis with
  | some n => .inl (.file ⟨n.toArray⟩ 9)
  | none => if room < roomOf x.targs then .inl (.kind 10) else takeT tree x.block x.targs []
def planK (tree : List Fil) (room : Int) (b : List UInt8) : Err ⊕ List Fil := match readOf b with
  | none => .inl (.kind 5)
  | some x => planB tree room x

theorem difN_self (l : List Fil) : difN l (l.map entOf) = none := by
  induction l with
  | nil => rfl
  | cons f l ih =>
    simp only [List.map_cons, difN, entOf, bytesLess_irrefl]
    simpa [entOf] using ih
theorem ent_eq {f : Fil} {e : Ent} (h1 : f.name = e.name) (h2 : f.data.length = e.size) (h3 : dgN f.data = e.dig) : entOf f = e := by
  cases e; simp_all [entOf]
theorem difN_none : ∀ (l : List Fil) (m : List Ent), difN l m = none → l.map entOf = m := by
  intro l
  induction l with
  | nil =>
    intro m h
    cases m with
    | nil => rfl
    | cons e m => cases h
  | cons f l ih =>
    intro m h
    cases m with
    | nil => cases h
    | cons e m =>
      unfold difN at h
      by_cases h1 : bytesLess f.name e.name = true
      · rw [if_pos h1] at h; cases h
      · rw [if_neg h1] at h
        by_cases h2 : bytesLess e.name f.name = true
        · rw [if_pos h2] at h; cases h
        · rw [if_neg h2] at h
          split at h
          · rename_i h3
            have hn : f.name = e.name := by
              by_cases hne : f.name = e.name
              · exact hne
              · exact absurd (bytesLess_total _ _ (by simpa using h1) hne) h2
            rw [List.map_cons, ih _ h, ent_eq hn h3.1 h3.2]
          · cases h
/-- The first file that is another is told. -/
theorem difN_at (p : List Fil) (f : Fil) (l : List Fil) (e : Ent) (m : List Ent) (hn : f.name = e.name) (hd : ¬ (f.data.length = e.size ∧ dgN f.data = e.dig)) : difN (p ++ f :: l) (p.map entOf ++ e :: m) = some f.name := by
  induction p with
  | nil =>
    simp only [List.nil_append, List.map_nil, difN, hn, bytesLess_irrefl]
    rw [if_neg (by simp), if_neg (by simp), if_neg hd]
  | cons g p ih =>
    simp only [List.cons_append, List.map_cons, difN, entOf, bytesLess_irrefl]
    simpa [entOf] using ih
theorem takeT_rec (ref : List Fil) (hr : IsTree ref) (blk : Nat) (h1 : 1 ≤ blk) (h2 : blk ≤ 64) : ∀ (l acc : List Fil), (∀ f ∈ l, f.data.length ≤ 300) → takeT ref blk (l.map (targOf ref blk)) acc = .inr (acc ++ l) := by
  intro l
  induction l with
  | nil => intro acc _; simp [takeT]
  | cons f l ih =>
    intro acc h
    have hf := h f (by simp)
    have hb := baseOf_len ref (fun g hg => (hr.ok g hg).2) f.name
    have hz : sized blk (baseOf ref f.name).length = 0 := by unfold sized; rw [if_neg (by omega), if_neg (by omega)]
    have hm := (diff_makes (baseOf ref f.name) f.data blk h1 hf).1
    have ha : applyK (baseOf ref f.name) blk (targToks ref blk f) = .inr f.data := by
      unfold applyK targToks
      rw [if_pos hz, Int.toNat_natCast]; exact hm
    simp only [List.map_cons, takeT, targOf, entOf]
    rw [ha]
    simp only [if_true]
    have := ih (acc ++ [f]) (fun g hg => h g (by simp [hg]))
    rw [show (⟨f.name, f.data⟩ : Fil) = f from rfl]
    rw [List.append_assoc] at this
    exact this
/-- All the bytes of a tree. -/
def allOf (l : List Fil) : Nat := (l.map (·.data.length)).sum
theorem roomOf_rec (ref : List Fil) (blk : Nat) (l : List Fil) : roomOf (l.map (targOf ref blk)) = allOf l := by
  unfold roomOf allOf
  rw [List.map_map]; rfl
section
variable {src ref : List Fil} {blk : Nat}
theorem plan_other (hs : IsTree src) (hr : IsTree ref) (h1 : 1 ≤ blk) (h2 : blk ≤ 64) (tree : List Fil) (room : Int) : planK tree room (recOf src ref blk) = match difN tree (ref.map entOf) with
  | some n => .inl (.file ⟨n.toArray⟩ 9)
  | none => if room < allOf src then .inl (.kind 10) else takeT tree blk (src.map (targOf ref blk)) [] := by
  unfold planK
  rw [read_rec src ref blk hs hr h1 h2]
  simp only [planB, roomOf_rec]
theorem plan_good (hs : IsTree src) (hr : IsTree ref) (h1 : 1 ≤ blk) (h2 : blk ≤ 64) {room : Int} (h : (allOf src : Int) ≤ room) : planK ref room (recOf src ref blk) = .inr src := by
  rw [plan_other hs hr h1 h2, difN_self]
  simp only
  rw [if_neg (by omega), takeT_rec ref hr blk h1 h2 _ _ (fun f hf => (hs.ok f hf).2), List.nil_append]
theorem plan_tight (hs : IsTree src) (hr : IsTree ref) (h1 : 1 ≤ blk) (h2 : blk ≤ 64) {room : Int} (h : room < allOf src) : planK ref room (recOf src ref blk) = .inl (.kind 10) := by
  rw [plan_other hs hr h1 h2, difN_self]
  simp only
  rw [if_pos h]
theorem plan_basis (hs : IsTree src) (hr : IsTree ref) (h1 : 1 ≤ blk) (h2 : blk ≤ 64) {tree : List Fil} (room : Int) {n : List UInt8} (h : difN tree (ref.map entOf) = some n) : planK tree room (recOf src ref blk) = .inl (.file ⟨n.toArray⟩ 9) := by
  rw [plan_other hs hr h1 h2, h]
end
theorem plan_none {tree : List Fil} {room : Int} {b : List UInt8} (h : readOf b = none) : planK tree room b = .inl (.kind 5) := by
  unfold planK; rw [h]
theorem allOf_le {l : List Fil} (h : IsTree l) : allOf l ≤ 2400 := by
  have key : ∀ l : List Fil, (∀ f ∈ l, f.data.length ≤ 300) → allOf l ≤ 300 * l.length := by
    intro l
    induction l with
    | nil => intro _; simp [allOf]
    | cons f l ih =>
      intro h
      have h1 := h f (by simp)
      have h2 := ih (fun g hg => h g (by simp [hg]))
      unfold allOf at h2 ⊢
      simp only [List.map_cons, List.sum_cons, List.length_cons]; omega
  have := key l (fun f hf => (h.ok f hf).2)
  have := h.len
  omega

/-- What is known of a batch that reads. -/
structure BatOk (x : Bat) : Prop where
  blk : 1 ≤ x.block ∧ x.block ≤ 64
  nb : x.basis.length ≤ 8
  nt : x.targs.length ≤ 8
  bs : ∀ e ∈ x.basis, isName e.name = true ∧ e.size ≤ 300
  ts : ∀ t ∈ x.targs, isName t.ent.name = true ∧ t.ent.size ≤ 300 ∧ ∀ k ∈ t.toks, k.d.length ≤ 1000
  up : (x.targs.map (·.ent)).Pairwise fun a b => bytesLess a.name b.name = true
theorem entN_ok {last : List UInt8} {first : Bool} {r r' : List UInt8} {e : Ent} (h : entN last first r = some (e, r')) : isName e.name = true ∧ e.size ≤ 300 ∧ (first = true ∨ bytesLess last e.name = true) := by
  unfold entN at h
  split at h
  · cases h
  · split at h
    · cases h
    · split at h
      · cases h
      · rename_i hc
        split at h
        · cases h
        · split at h
          · cases h
          · split at h
            · cases h
            · cases h
              simp only [Bool.not_eq_false, Bool.and_eq_true, Bool.or_eq_true] at hc
              rw [behind_iff] at hc
              refine ⟨hc.1, ?_, hc.2⟩
              dsimp only
              omega
theorem entsF_ok : ∀ (n : Nat) (acc : List Ent) (r r' : List UInt8) (x : List Ent), entsF n acc r = some (x, r') → (∀ e ∈ acc, isName e.name = true ∧ e.size ≤ 300) → x.length = acc.length + n ∧ ∀ e ∈ x, isName e.name = true ∧ e.size ≤ 300 := by
  intro n
  induction n with
  | zero => intro acc r r' x h ha; cases h; exact ⟨rfl, ha⟩
  | succ n ih =>
    intro acc r r' x h ha
    unfold entsF at h
    split at h
    · cases h
    · rename_i e r2 he
      have h1 := entN_ok he
      have := ih _ _ _ _ h (fun e' he' => by
        rcases List.mem_append.1 he' with he' | he'
        · exact ha e' he'
        · obtain rfl := List.mem_singleton.1 he'; exact ⟨h1.1, h1.2.1⟩)
      exact ⟨by rw [this.1, List.length_append]; simp; omega, this.2⟩
theorem numN_lt {n v : Nat} {r r' : List UInt8} (h : numN n r = some (v, r')) : v < 256 ^ n := by
  unfold numN at h
  split at h
  · cases h
  · rename_i hn
    cases h
    have := numOf_lt (r.take n)
    rwa [List.length_take, Nat.min_eq_left (by omega)] at this
theorem tokN_ok {blk basis : Nat} {r r' : List UInt8} {x : Tok × Nat} (h : tokN blk basis r = some (x, r')) : x.1.d.length ≤ 1000 := by
  unfold tokN at h
  split at h
  · cases h
  · split at h
    · split at h
      · cases h
      · rename_i k r2 hk
        have hk2 := numN_lt hk
        split at h
        · cases h
        · split at h
          · cases h
          · rename_i d r3 hd
            cases h
            unfold takeN at hd
            split at hd
            · cases hd
            · cases hd; simp; omega
    · split at h
      · split at h
        · cases h
        · split at h
          · cases h
          · split at h
            · cases h; simp
            · cases h
      · cases h
theorem toksF_ok {blk basis : Nat} : ∀ (n : Nat) (acc : List Tok) (s : Nat) (r r' : List UInt8) (x : List Tok × Nat), toksF blk basis n acc s r = some (x, r') → (∀ t ∈ acc, t.d.length ≤ 1000) → ∀ t ∈ x.1, t.d.length ≤ 1000 := by
  intro n
  induction n with
  | zero => intro acc s r r' x h ha; cases h; exact ha
  | succ n ih =>
    intro acc s r r' x h ha
    unfold toksF at h
    split at h
    · cases h
    · rename_i t k r2 ht
      refine ih _ _ _ _ _ h (fun e he => ?_)
      rcases List.mem_append.1 he with he | he
      · exact ha e he
      · obtain rfl := List.mem_singleton.1 he
        exact tokN_ok ht
theorem tksN_ok {blk basis size : Nat} {r r' : List UInt8} {x : List Tok} (h : tksN blk basis size r = some (x, r')) : ∀ t ∈ x, t.d.length ≤ 1000 := by
  unfold tksN at h
  split at h
  · cases h
  · split at h
    · cases h
    · rename_i l s r2 ht
      split at h
      · cases h
        exact toksF_ok _ _ _ _ _ _ ht (fun _ h => by simp at h)
      · cases h
def TargsOk (l : List Targ) : Prop := (∀ t ∈ l, isName t.ent.name = true ∧ t.ent.size ≤ 300 ∧ ∀ k ∈ t.toks, k.d.length ≤ 1000) ∧ (l.map (·.ent)).Pairwise fun a b => bytesLess a.name b.name = true
theorem lastName_mem : ∀ (l : List Ent), l ≠ [] → ∃ e ∈ l, lastName l = e.name ∧ ∀ a ∈ l, a = e ∨ (l.Pairwise (fun a b => bytesLess a.name b.name = true) → bytesLess a.name e.name = true) := by
  intro l
  induction l with
  | nil => intro h; exact absurd rfl h
  | cons a l ih =>
    intro _
    cases l with
    | nil => exact ⟨a, by simp, rfl, fun b hb => .inl (by simpa using hb)⟩
    | cons b l =>
      obtain ⟨e, he, h1, h2⟩ := ih (by simp)
      refine ⟨e, List.mem_cons_of_mem _ he, h1, fun c hc => ?_⟩
      rcases List.mem_cons.1 hc with rfl | hc
      · exact .inr fun hp => (List.pairwise_cons.1 hp).1 e he
      · rcases h2 c hc with h | h
        · exact .inl h
        · exact .inr fun hp => h (List.pairwise_cons.1 hp).2
theorem targsF_ok {blk : Nat} {basis : List Ent} : ∀ (n : Nat) (acc : List Targ) (r r' : List UInt8) (x : List Targ), targsF blk basis n acc r = some (x, r') → TargsOk acc → x.length = acc.length + n ∧ TargsOk x := by
  intro n
  induction n with
  | zero => intro acc r r' x h ha; cases h; exact ⟨rfl, ha⟩
  | succ n ih =>
    intro acc r r' x h ha
    unfold targsF at h
    split at h
    · cases h
    · rename_i e r2 he
      have h1 := entN_ok he
      split at h
      · cases h
      · rename_i l r3 hl
        have h2 := tksN_ok hl
        have := ih _ _ _ _ h ⟨fun t ht => by
          rcases List.mem_append.1 ht with ht | ht
          · exact ha.1 t ht
          · obtain rfl := List.mem_singleton.1 ht; exact ⟨h1.1, h1.2.1, h2⟩, by
          rw [List.map_append, List.map_cons, List.map_nil, List.pairwise_append]
          refine ⟨ha.2, List.pairwise_singleton _ _, fun a hm b hb => ?_⟩
          have hbe : b = e := List.mem_singleton.1 hb
          subst hbe
          cases acc with
          | nil => simp at hm
          | cons c acc =>
            have hlt : bytesLess (lastName ((c :: acc).map (·.ent))) b.name = true := by
              rcases h1.2.2 with h | h
              · simp at h
              · exact h
            obtain ⟨f, hf, hq, hx⟩ := lastName_mem ((c :: acc).map (·.ent)) (by simp)
            rw [hq] at hlt
            rcases hx a hm with rfl | hy
            · exact hlt
            · exact bytesLess_trans _ _ _ (hy ha.2) hlt⟩
        exact ⟨by rw [this.1, List.length_append]; simp; omega, this.2⟩
theorem bodyN_ok {s r : List UInt8} {x : Bat} (h : bodyN s = some (x, r)) : BatOk x := by
  unfold bodyN at h
  split at h
  · cases h
  · split at h
    · cases h
    · split at h
      · cases h
      · split at h
        · cases h
        · split at h
          · cases h
          · split at h
            · cases h
            · split at h
              · cases h
              · rename_i hn _ _ _ he
                split at h
                · cases h
                · split at h
                  · cases h
                  · split at h
                    · cases h
                    · rename_i ht
                      cases h
                      have h1 := entsF_ok _ _ _ _ _ he (fun _ h => by simp at h)
                      have h2 := targsF_ok _ _ _ _ _ ht ⟨fun _ h => by simp at h, List.Pairwise.nil⟩
                      exact ⟨(by dsimp only; omega), by have := h1.1; simp only [List.length_nil] at this; dsimp only; omega, by have := h2.1; simp only [List.length_nil] at this; dsimp only; omega, h1.2, h2.2.1, h2.2.2⟩
theorem readOf_ok {s : List UInt8} {x : Bat} (h : readOf s = some x) : BatOk x := by
  obtain ⟨r, h1, -⟩ := readOf_some h
  exact bodyN_ok h1
end Go.Proofs.YtlcdgbhigfgehabGreatDoor
/- The keeps' helpers on trees: how many bytes; are two the same? -/
namespace Go.Proofs.YtlcdgbhigfgehabGreatDoor
open Go.RowKit
set_option maxRecDepth 100000

theorem allOf_snoc (l : List Fil) (f : Fil) : allOf (l ++ [f]) = allOf l + f.data.length := by simp [allOf]
theorem allOf_take (l : List Fil) (k : Nat) (h : k < l.length) : allOf (l.take (k + 1)) = allOf (l.take k) + l[k].data.length := by
  rw [List.take_succ_eq_append_getElem h, allOf_snoc]
set_option maxHeartbeats 1000000 in
theorem kall_any (v : Value) (l : List (Fil × Value)) (B : Nat) (w : World) (h : Fils w B v l) (hn : l.length ≤ 8) (hd : ∀ p ∈ l, p.1.data.length ≤ 300) :
    Calls Tryz.prog 11 #[v] w fun e w' => e = .returned (.int .i64 (allOf (l.map (·.1)))) ∧ w' = w := by
  have H := Lib.hid h
  have HD := Lib.hid hd
  obtain ⟨va, vc, rfl, -⟩ := h.vec.shape
  clear h hd
  go_enter Tryz.func11, Tryz.ntmps11
  go_wp2_with fail
  go_loopw [3, 4] (fun nv iv wr => ∃ k : Nat, k ≤ l.length ∧ nv = .int .i64 (allOf ((l.map (·.1)).take k) : Nat) ∧ iv = .int .i64 k ∧ wr = w) (fun _ iv _ => l.length - (intOf iv).toNat)
  case atStart => exact ⟨0, Nat.zero_le _, rfl, rfl, rfl⟩
  case round =>
    obtain ⟨k, hk, rfl, rfl, rfl⟩ := hrel
    have hab : allOf ((l.map (·.1)).take k) ≤ 300 * k := by
      have key : ∀ k ≤ l.length, allOf ((l.map (·.1)).take k) ≤ 300 * k := by
        intro k
        induction k with
        | zero => intro _; simp [allOf]
        | succ k ih =>
          intro h
          have h1 := ih (by omega)
          rw [allOf_take _ k (by rw [List.length_map]; omega), List.getElem_map]
          have := HD.out l[k] (List.getElem_mem _)
          omega
      exact key k hk
    by_cases hlt : k < l.length
    · obtain ⟨g, cap, hq, e0, e1, -⟩ := H.out.get k hlt
      simp only [Value.slice.injEq, true_and] at hq
      obtain ⟨rfl, rfl⟩ := hq
      obtain ⟨da, dc, hdq, -⟩ := (H.out.data l[k] (List.getElem_mem _)).shape
      have hsu := allOf_take (l.map (·.1)) k (by simpa using hlt)
      rw [List.getElem_map] at hsu
      have hdl := HD.out l[k] (List.getElem_mem _)
      rw [hdq] at e1
      clear hdq
      generalize l[k].1.data.length = dl at *
      obtain ⟨R, hR⟩ : ∃ R, allOf ((l.map (·.1)).take k) = R := ⟨_, rfl⟩
      rw [hR] at hsu hab ⊢
      have HSU := Lib.hid hsu
      have hw : wrap64 ((R : Int) + (dl : Int)) = (R : Int) + (dl : Int) := IntWalk.wrap64_in _ (by omega)
      clear hR hsu
      go_wp2_with fail
      exact ⟨⟨k + 1, by omega, by rw [HSU.out]; congr 1, by go_num, trivial⟩, by simp [intOf]; omega⟩
    · obtain rfl : k = l.length := by omega
      have hal : (l.map (·.1)).take l.length = l.map (·.1) := List.take_of_length_le (by simp)
      rw [hal] at hab ⊢
      clear hal
      go_wp2_with fail
      go_ret
      exact ⟨rfl, rfl⟩
/-- What 'same' answers. -/
def SameP (w : World) (l m : List Fil) (e : Ending) (w' : World) : Prop := ∃ b : Bool, e = .returned (.bool b) ∧ (b = true ↔ l = m) ∧ Fr (fun _ => False) w w'
set_option maxHeartbeats 2000000 in
theorem ksame_any (v v2 : Value) (l m : List (Fil × Value)) (B B2 : Nat) (w : World) (h : Fils w B v l) (h2 : Fils w B2 v2 m) (hn : l.length ≤ 8) (_hn2 : m.length ≤ 8) :
    Calls Tryz.prog 15 #[v, v2] w (SameP w (l.map (·.1)) (m.map (·.1))) := by
  have H := Lib.hid h
  have H2 := Lib.hid h2
  obtain ⟨va, vc, rfl, -⟩ := h.vec.shape
  obtain ⟨va2, vc2, rfl, -⟩ := h2.vec.shape
  clear h h2
  by_cases hlen : l.length = m.length
  · have HL := Lib.hid hlen
    have q1 : ((l.length : Int) == (m.length : Int)) = true := by simp; omega
    have q2 : ((l.length : Int) != (m.length : Int)) = false := by simp; omega
    clear hlen
    go_enter Tryz.func15, Tryz.ntmps15
    go_wp2_with fail
    go_loopw [5] (fun iv wr => ∃ k : Nat, k ≤ l.length ∧ iv = .int .i64 k ∧ Fr (fun _ => False) w wr ∧ (l.map (·.1)).take k = (m.map (·.1)).take k) (fun iv _ => l.length - (intOf iv).toNat)
    case atStart => exact ⟨0, Nat.zero_le _, rfl, Fr.refl _ _, rfl⟩
    case round =>
      obtain ⟨k, hk, rfl, hfr, hal⟩ := hrel
      have HFR := Lib.hid hfr
      have HAL := Lib.hid hal
      clear hal
      by_cases hlt : k < l.length
      · have hlt2 : k < m.length := by have := HL.out; omega
        have hfl := H.out.keep0 hfr
        have hfl2 := H2.out.keep0 hfr
        obtain ⟨g, cap, hq, e0, e1, -⟩ := hfl.get k hlt
        simp only [Value.slice.injEq, true_and] at hq
        obtain ⟨rfl, rfl⟩ := hq
        obtain ⟨g2, cap2, hq2, f0, f1, -⟩ := hfl2.get k hlt2
        simp only [Value.slice.injEq, true_and] at hq2
        obtain ⟨rfl, rfl⟩ := hq2
        have hisb := hfl.data l[k] (List.getElem_mem _)
        have hisb2 := hfl2.data m[k] (List.getElem_mem _)
        have hs1 : (l.map (·.1)).take (k + 1) = (l.map (·.1)).take k ++ [l[k].1] := by rw [List.take_succ_eq_append_getElem (by simpa using hlt), List.getElem_map]
        have hs2 : (m.map (·.1)).take (k + 1) = (m.map (·.1)).take k ++ [m[k].1] := by rw [List.take_succ_eq_append_getElem (by simpa using hlt2), List.getElem_map]
        have hbad : l[k].1 ≠ m[k].1 → l.map (·.1) ≠ m.map (·.1) := fun hne he => hne (by
          have := congrArg (·[k]?) he
          simpa [hlt, hlt2] using this)
        have HB := Lib.hid hbad
        have HS1 := Lib.hid hs1
        have HS2 := Lib.hid hs2
        clear hfl hfl2 hfr hs1 hs2 hbad
        generalize l[k] = lk at *
        generalize m[k] = mk at *
        obtain ⟨⟨nm, dt⟩, dv⟩ := lk
        obtain ⟨⟨nm2, dt2⟩, dv2⟩ := mk
        obtain ⟨da, dc, hdq, -⟩ := hisb.shape
        obtain ⟨da2, dc2, hdq2, -⟩ := hisb2.shape
        dsimp only at hisb hisb2 hdq hdq2 e0 e1 f0 f1 HB HS1 HS2
        subst hdq hdq2
        have u1 := run_string_ofN (P := Tryz.prog) wr 25 9 5 _ _ Tryz.underlying25 Tryz.underlying5 Tryz.underlying9 hisb
        have u2 := run_string_ofN (P := Tryz.prog) wr 25 9 5 _ _ Tryz.underlying25 Tryz.underlying5 Tryz.underlying9 hisb2
        clear hisb hisb2
        by_cases hnm : nm = nm2
        · subst hnm
          by_cases hdd : dt = dt2
          · subst hdd
            go_wp2_with fail
            go_quiet (fail)
            go_wp2_with fail
            exact ⟨⟨k + 1, by omega, by go_num, HFR.out.drewN _, by rw [HS1.out, HS2.out, HAL.out]⟩, by simp [intOf]; omega⟩
          · have z1 : (dt == dt2) = false := by simpa using hdd
            have z2 : (dt != dt2) = true := by simpa using hdd
            have HBB := Lib.hid (HB.out (by simpa using hdd))
            clear hdd
            go_wp2_with fail
            go_quiet (fail)
            go_wp2_with fail
            go_ret
            exact ⟨false, rfl, ⟨fun e => (by cases e), fun e => absurd e HBB.out⟩, HFR.out.drewN _⟩
        · have z1 : (nm == nm2) = false := by simpa using hnm
          have z2 : (nm != nm2) = true := by simpa using hnm
          have HBB := Lib.hid (HB.out (fun e => hnm (by simpa using congrArg Fil.name e)))
          clear hnm
          go_wp2_with fail
          go_quiet (fail)
          go_wp2_with fail
          go_ret
          exact ⟨false, rfl, ⟨fun e => (by cases e), fun e => absurd e HBB.out⟩, HFR.out.drewN _⟩
      · obtain rfl : k = l.length := by omega
        clear hfr
        have heq : l.map (·.1) = m.map (·.1) := by
          have := HAL.out
          rwa [List.take_of_length_le (by simp), List.take_of_length_le (by simp; have := HL.out; omega)] at this
        have HEQ := Lib.hid heq
        clear heq
        go_wp2_with fail
        go_ret
        exact ⟨true, rfl, ⟨fun _ => HEQ.out, fun _ => rfl⟩, HFR.out⟩
  · have hne : l.map (·.1) ≠ m.map (·.1) := fun e => hlen (by simpa using congrArg List.length e)
    have q1 : ((l.length : Int) == (m.length : Int)) = false := by simp; omega
    have q2 : ((l.length : Int) != (m.length : Int)) = true := by simp; omega
    have HNE := Lib.hid hne
    clear hlen hne
    go_enter Tryz.func15, Tryz.ntmps15
    go_wp2_with fail
    go_ret
    exact ⟨false, rfl, ⟨fun e => (by cases e), fun e => absurd e HNE.out⟩, Fr.refl _ _⟩
end Go.Proofs.YtlcdgbhigfgehabGreatDoor
/- The numbers under which the program holds the lock's text. -/
namespace Go.Proofs.YtlcdgbhigfgehabGreatDoor
abbrev muLink : Go.Conc.Locks.MuLink := { lock := 34, unlock := 35, ilock := 64, iunlock := 65, lockSlow := 112, unlockSlow := 114, disable := 80, enable := 81, acquire := 92, relMerge := 79, cas32 := 111, add32 := 113, tMutex := 96, tIMutex := 94, tPMutex := 142, tPIMutex := 217, tPI32 := 219, tUP := 129, tNoCopy := 91, tU32 := 92 }
theorem muLib : Go.Conc.Locks.MuLib Tryz.prog muLink :=
  ⟨Tryz.func34, Tryz.func35, Tryz.func64, Tryz.func65, Tryz.func80, Tryz.func81, Tryz.func92, Tryz.func79, Tryz.func111, Tryz.func113,
    Tryz.underlying94, Tryz.runUnderlying94, Tryz.sizeOf94, Tryz.isAgg94, Tryz.zeroValue94,
    Tryz.underlying96, Tryz.runUnderlying96, Tryz.sizeOf96, Tryz.isAgg96, Tryz.zeroValue96,
    Tryz.underlying142, Tryz.runUnderlying142, Tryz.sizeOf142, Tryz.isAgg142, Tryz.zeroValue142,
    Tryz.underlying217, Tryz.runUnderlying217, Tryz.sizeOf217, Tryz.isAgg217, Tryz.zeroValue217,
    Tryz.underlying219, Tryz.runUnderlying219, Tryz.sizeOf219, Tryz.isAgg219, Tryz.zeroValue219,
    Tryz.underlying129, Tryz.runUnderlying129, Tryz.sizeOf129, Tryz.isAgg129, Tryz.zeroValue129,
    Tryz.underlying91, Tryz.runUnderlying91, Tryz.sizeOf91, Tryz.isAgg91, Tryz.zeroValue91,
    Tryz.underlying21, Tryz.runUnderlying21, Tryz.sizeOf21, Tryz.isAgg21, Tryz.zeroValue21, (by kernel_rfl)⟩
end Go.Proofs.YtlcdgbhigfgehabGreatDoor
/- The disk: a tree copied; a disk with a tree. -/
namespace Go.Proofs.YtlcdgbhigfgehabGreatDoor
open Go.RowKit
set_option maxRecDepth 100000

theorem size_fil : (Tryz.prog.info? 37).map (·.size) = some 2 := by kernel_rfl
theorem run_make_files (n : Nat) (c : Int) (hc : c = n) (hn : n ≤ 1000000) (w : World) :
    (Instr.makeSlice 23 (.int .i64 c) (.int .i64 c)).run Tryz.prog w = .ok (.slice (some ⟨w.heap.size, 0, none⟩) n n) (w.alloc (.cells (madeCells #[.string ⟨#[]⟩, .slice none 0 0] (n * 2)) 37)) := by
  subst hc
  obtain ⟨i, hi, hz0, hz1, hz2⟩ := info_parts info_fil
  have h := run_make (P := Tryz.prog) w 23 37 i _ Tryz.underlying23 hi hz0 .i64 .i64 n n (by omega) (Int.le_refl _) (by rw [hz2]; omega) (by omega)
  rw [hz1] at h
  simpa [Value.cells] using h
theorem size_made (n : Nat) : (madeCells #[.string ⟨#[]⟩, .slice none 0 0] (n * 2)).toList.length = n * 2 := by simp [madeCells]
theorem set_two (A : List Value) (x y : Value) (r : List Value) (u v : Value) (i : Nat) (hi : A.length = i) : ((A ++ x :: y :: r).set i u).set (i + 1) v = A ++ u :: v :: r := by
  subst hi
  simp [List.set_append_right]
set_option maxHeartbeats 2000000 in
theorem dclone_any (v : Value) (l : List (Fil × Value)) (B : Nat) (w : World) (h : Fils w B v l) (hd : ∀ p ∈ l, p.1.data.length ≤ 1000000) (hl : l.length ≤ 1000000) :
    Calls Tryz.prog 45 #[v] w fun e w' => ∃ v' m, e = .returned v' ∧ m.map (·.1) = l.map (·.1) ∧ KFils w' w.heap.size v' m ∧ Fr (fun _ => False) w w' := by
  have H := Lib.hid h
  have HD := Lib.hid hd
  obtain ⟨va, vc, rfl, -⟩ := h.vec.shape
  have hmk := run_make_files l.length l.length rfl hl
  have hA : Fr (fun _ => False) w (w.alloc (.cells (madeCells #[.string ⟨#[]⟩, .slice none 0 0] (l.length * 2)) 37)) := (Fr.refl _ _).alloc _
  have HO0 := Lib.hid (Own.alloc w (madeCells #[.string ⟨#[]⟩, .slice none 0 0] (l.length * 2)) 37)
  have HA := Lib.hid hA
  have hzA := hA.size
  obtain ⟨og, hog⟩ : ∃ og, w.heap.size = og := ⟨_, rfl⟩
  rw [hog] at HO0
  have hogz : og < (w.alloc (.cells (madeCells #[.string ⟨#[]⟩, .slice none 0 0] (l.length * 2)) 37)).heap.size := by simp; omega
  clear h hd hA
  go_enter Tryz.func45, Tryz.ntmps45
  go_wp2_with fail
  generalize w.alloc (.cells (madeCells #[.string ⟨#[]⟩, .slice none 0 0] (l.length * 2)) 37) = w1 at *
  go_loopw [11] (fun iv wr => ∃ (k : Nat) (m : List (Fil × Value)) (rest : List Value), k ≤ l.length ∧ iv = .int .i64 k ∧ Fr (fun _ => False) w wr ∧ m.map (·.1) = (l.map (·.1)).take k ∧ m.length = k ∧ og < wr.heap.size ∧ Own wr og 37 (filCells m ++ rest) ∧ rest.length = (l.length - k) * 2 ∧
    (∀ p ∈ m, Vec wr (og + 1) 5 1 p.2 p.1.data.length (bcells p.1.data)) ∧ (m.Pairwise fun p q => ∀ k, p.2.ownBlock = some k → q.2.ownBlock ≠ some k)) (fun iv _ => l.length - (intOf iv).toNat)
  case atStart => exact ⟨0, [], _, Nat.zero_le _, rfl, HA.out, rfl, rfl, hogz, HO0.out, by rw [size_made]; rfl, fun _ h => by simp at h, List.Pairwise.nil⟩
  case round =>
    obtain ⟨k, m, rest, hk, rfl, hfr, hm, hml, hogr, hor, hrl, hda, htw⟩ := hrel
    have HFR := Lib.hid hfr
    have HM := Lib.hid hm
    have HML := Lib.hid hml
    have HOR := Lib.hid hor
    have HRL := Lib.hid hrl
    have HDA := Lib.hid hda
    have HTW := Lib.hid htw
    have hwz := hfr.size
    clear hm hml hor hrl hda htw
    by_cases hlt : k < l.length
    · have hfl := H.out.keep0 hfr
      obtain ⟨g, cap, hq, e0, e1, hgl⟩ := hfl.get k hlt
      simp only [Value.slice.injEq, true_and] at hq
      obtain ⟨rfl, rfl⟩ := hq
      have hnn := HD.out l[k] (List.getElem_mem _)
      obtain ⟨da, dc, hdv, -⟩ := (hfl.data l[k] (List.getElem_mem _)).shape
      have hisb := hfl.data l[k] (List.getElem_mem _)
      have htk : (l.map (·.1)).take (k + 1) = (l.map (·.1)).take k ++ [l[k].1] := by
        rw [List.take_succ_eq_append_getElem (by simpa using hlt), List.getElem_map]
      clear hfl hfr
      obtain ⟨f, hf⟩ : ∃ f, l[k] = f := ⟨_, rfl⟩
      rw [hf] at hnn hdv hisb htk e0 e1
      obtain ⟨⟨fn, d⟩, dv⟩ := f
      simp only at hnn hdv hisb htk e0 e1
      subst hdv
      have HTK := Lib.hid htk
      obtain ⟨x, y, r, hxy⟩ : ∃ x y r, rest = x :: y :: r := by
        have := HRL.out
        match rest, this with
        | [], h => simp at h; omega
        | [_], h => simp at h; omega
        | x :: y :: r, _ => exact ⟨x, y, r, rfl⟩
      subst hxy
      have hA : Fr (fun _ => False) wr (wr.alloc (.cells #[.string ⟨fn.toArray⟩, .slice da d.length dc] 37)) := (Fr.refl _ _).alloc _
      have HAA := Lib.hid hA
      have HO := Lib.hid (Own.alloc wr #[.string ⟨fn.toArray⟩, .slice da d.length dc] 37)
      have HIS := Lib.hid (hisb.keep0 hA)
      have hzA2 := hA.size
      clear hA hf hisb htk
      go_upto_region 5 with fail
      generalize wr.alloc (.cells #[.string ⟨fn.toArray⟩, .slice da d.length dc] 37) = wA at *
      have x0 := HO.out.cell (i := 0) rfl
      have x1 := HO.out.cell (i := 1) rfl
      have i1 : (k : Int) < (l.length : Int) := by omega
      go_region_law
        (go_simp; go_at_call 71; refine (clone_any _ d _ (HIS.out.keep0 (Fr.drew (Fr.refl _ _))) hnn).mono ?_; rintro e w5 ⟨v5, rfl, hv5, hf5⟩; obtain ⟨a5, c5, hs5, -⟩ := hv5.shape; subst hs5; have hk5 := HAA.out.step ((Fr.refl (fun _ => False) wA).drew.step hf5 (fun _ h _ => h)) (fun _ h _ => h); have y0 := (HO.out.keep ((Fr.refl (fun _ => False) wA).drew.step hf5 (fun _ h _ => h)) id).cell (i := 0) rfl; have z := HOR.out.keep hk5 id; have z0 := z.cell (i := k * 2) (v := x) (by rw [List.getElem?_append_right (by simp [HML.out])]; simp [HML.out]); have z1 := z.cell (i := k * 2 + 1) (v := y) (by rw [List.getElem?_append_right (by simp [HML.out])]; simp [HML.out]); have zf0 := z.free (k * 2) (by simp [HML.out]); have zf1 := z.free (k * 2 + 1) (by simp [HML.out]); have HZ := Lib.hid z; have HV5 := Lib.hid hv5; have HK5 := Lib.hid hk5; clear hv5 hf5 z hk5)
      all_goals
        go_wp2_with fail
        have hs2 := (HZ.out.set (k * 2) (.string ⟨fn.toArray⟩)).set (k * 2 + 1) (.slice a5 d.length c5)
        rw [set_two _ _ _ _ _ _ _ (by simp [HML.out])] at hs2
        have hk3 : Fr (fun b => b = og) w5 ((w5.setCell ⟨og, k * 2, none⟩ (.string ⟨fn.toArray⟩)).setCell ⟨og, k * 2 + 1, none⟩ (.slice a5 d.length c5)) := ((Fr.refl (fun b => b = og) w5).setCell ⟨og, k * 2, none⟩ (.string ⟨fn.toArray⟩) (fun _ => rfl)).setCell ⟨og, k * 2 + 1, none⟩ (.slice a5 d.length c5) (fun _ => rfl)
        have hk2 : Fr (fun b => b = og) wr ((w5.setCell ⟨og, k * 2, none⟩ (.string ⟨fn.toArray⟩)).setCell ⟨og, k * 2 + 1, none⟩ (.slice a5 d.length c5)) := (HK5.out.mono (fun _ h _ => h.elim)).step hk3 (fun _ h _ => h)
        have hzd : wA.drew.heap.size = wA.heap.size := rfl
        have hz2 := hk2.size
        refine ⟨⟨k + 1, m ++ [(⟨fn, d⟩, .slice a5 d.length c5)], r, by omega, by go_num, HFR.out.step hk2 (fun b hb hl => by omega), ?_, by simp [HML.out], by omega, ?_, ?_, ?_, ?_⟩, by simp [intOf]; omega⟩
        · rw [List.map_append, HM.out, HTK.out]; rfl
        · rw [filCells_snoc, List.append_assoc]; exact hs2
        · have := HRL.out; simp only [List.length_cons] at this; omega
        · intro p hp
          rcases List.mem_append.1 hp with hp | hp
          · exact (HDA.out p hp).keep hk2 (fun b hb h => by have := ((HDA.out p hp).lt b hb).1; omega)
          · obtain rfl := List.mem_singleton.1 hp
            exact (HV5.out.mono (by omega)).keep hk3 (fun b hb h => by have := (HV5.out.lt b hb).1; omega)
        · rw [List.pairwise_append]
          refine ⟨HTW.out, List.pairwise_singleton _ _, ?_⟩
          intro p hp q hq
          obtain rfl := List.mem_singleton.1 hq
          intro b hb hb2
          have h1 := ((HDA.out p hp).lt b hb).2
          have h2 := (HV5.out.lt b hb2).1
          omega
    · obtain rfl : k = l.length := by omega
      have hr0 : rest = [] := List.eq_nil_of_length_eq_zero (by have := HRL.out; omega)
      subst hr0
      have hmm : m.map (·.1) = l.map (·.1) := by rw [HM.out, List.take_of_length_le (by simp)]
      have HMM := Lib.hid hmm
      clear hfr hmm
      go_wp2_with fail
      go_ret
      refine ⟨_, rfl, m, HMM.out, ⟨⟨by simp [HML.out], .inr ⟨og, l.length, [], by rw [HML.out]; rfl, by omega, HOR.out, by simp [HML.out], by rw [HML.out]; exact Nat.le_refl _, by unfold maxLen; omega⟩⟩, fun p hp => (HDA.out p hp).mono (by omega), HTW.out⟩, HFR.out⟩
end Go.Proofs.YtlcdgbhigfgehabGreatDoor
/- The disk's steps: each may blow. -/
namespace Go.Proofs.YtlcdgbhigfgehabGreatDoor
open Go.RowKit
set_option maxRecDepth 100000

/-- A disk in block g: its two slots, which one lives, its step and the step at which its power fails. -/
def DiskAt (w : World) (g : Nat) (x0 x1 : Value) (live step crash : Int) : Prop := Own w g 162 [x0, x1, .int .i64 live, .int .i64 step, .int .i64 crash]
/-- What is thrown when the power fails. -/
abbrev blown : PanicEntry := { v := .iface 163 (.agg #[]), recovered := false }
theorem DiskAt.tick {w : World} {gd : Nat} {x0 x1 : Value} {live step crash : Int} (h : DiskAt w gd x0 x1 live step crash) (v : Int) :
    DiskAt (w.setCell ⟨gd, 3, none⟩ (.int .i64 v)) gd x0 x1 live v crash ∧ Fr (fun b => b = gd) w (w.setCell ⟨gd, 3, none⟩ (.int .i64 v)) :=
  ⟨Own.set h 3 (.int .i64 v), (Fr.refl (fun b => b = gd) w).setCell ⟨gd, 3, none⟩ (.int .i64 v) (fun _ => rfl)⟩
theorem tick_on (gd : Nat) (x0 x1 : Value) (live step crash : Int) (w : World) (h : DiskAt w gd x0 x1 live step crash) (hs : 0 ≤ step ∧ step ≤ 1000) (hc : step + 1 ≠ crash) :
    Calls Tryz.prog 73 #[.pointer (some ⟨gd, 0, none⟩)] w fun e w' => e = .returned (.tuple #[]) ∧ DiskAt w' gd x0 x1 live (step + 1) crash ∧ Fr (fun b => b = gd) w w' := by
  have x3 := Own.cell h (i := 3) rfl
  have f3 := Own.free h 3 (by simp)
  have hw : wrap64 (step + 1) = step + 1 := IntWalk.wrap64_in _ (by omega)
  have hd : (step + 1 == crash) = false := by simpa using hc
  have H := Lib.hid (h.tick (step + 1))
  clear h hc
  go_enter Tryz.func73, Tryz.ntmps73
  go_wp2_with fail
  generalize w.setCell ⟨gd, 3, none⟩ (.int .i64 (step + 1)) = w1 at H ⊢
  have y3 := Own.cell H.out.1 (i := 3) rfl
  have y4 := Own.cell H.out.1 (i := 4) rfl
  go_quiet (fail)
  go_wp2_with fail
  go_end0
  exact ⟨rfl, Own.keep (S := fun _ => False) H.out.1 ((Fr.refl _ _).drewN _) id, H.out.2.drewN _⟩
theorem tick_off (gd : Nat) (x0 x1 : Value) (live step crash : Int) (w : World) (h : DiskAt w gd x0 x1 live step crash) (hs : 0 ≤ step ∧ step ≤ 1000) (hc : step + 1 = crash) :
    Calls Tryz.prog 73 #[.pointer (some ⟨gd, 0, none⟩)] w fun e w' => e = .panicked [blown] ∧ DiskAt w' gd x0 x1 live (step + 1) crash ∧ Fr (fun b => b = gd) w w' := by
  have x3 := Own.cell h (i := 3) rfl
  have f3 := Own.free h 3 (by simp)
  have hw : wrap64 (step + 1) = step + 1 := IntWalk.wrap64_in _ (by omega)
  have hd : (step + 1 == crash) = true := by simpa using hc
  have H := Lib.hid (h.tick (step + 1))
  clear h hc
  go_enter Tryz.func73, Tryz.ntmps73
  go_wp2_with fail
  generalize w.setCell ⟨gd, 3, none⟩ (.int .i64 (step + 1)) = w1 at H ⊢
  have y3 := Own.cell H.out.1 (i := 3) rfl
  have y4 := Own.cell H.out.1 (i := 4) rfl
  go_quiet (fail)
  go_wp2_with fail
  exact ⟨rfl, rfl, Own.keep (S := fun _ => False) H.out.1 ((Fr.refl _ _).drewN _) id, H.out.2.drewN _⟩
/-- The slot x lives, y is the other. -/
def DiskL (w : World) (gd : Nat) (live : Int) (x y : Value) (step crash : Int) : Prop := (live = 0 ∧ DiskAt w gd x y 0 step crash) ∨ (live = 1 ∧ DiskAt w gd y x 1 step crash)
theorem DiskL.own {w : World} {gd : Nat} {live : Int} {x y : Value} {s c : Int} (h : DiskL w gd live x y s c) : ∃ xs, Own w gd 162 xs := by
  rcases h with ⟨-, h⟩ | ⟨-, h⟩ <;> exact ⟨_, h⟩
theorem DiskL.keep {w w1 : World} {S : Nat → Prop} {gd : Nat} {live : Int} {x y : Value} {s c : Int} (h : DiskL w gd live x y s c) (k : Fr S w w1) (hg : ¬ S gd) : DiskL w1 gd live x y s c := by
  rcases h with ⟨h1, h⟩ | ⟨h1, h⟩
  · exact .inl ⟨h1, Own.keep h k hg⟩
  · exact .inr ⟨h1, Own.keep h k hg⟩
theorem DiskL.bit {w : World} {gd : Nat} {live : Int} {x y : Value} {s c : Int} (h : DiskL w gd live x y s c) : live = 0 ∨ live = 1 := by
  rcases h with ⟨h1, -⟩ | ⟨h1, -⟩
  · exact .inl h1
  · exact .inr h1
theorem ltick_on (gd : Nat) (live : Int) (x y : Value) (step crash : Int) (w : World) (h : DiskL w gd live x y step crash) (hs : 0 ≤ step ∧ step ≤ 1000) (hc : step + 1 ≠ crash) :
    Calls Tryz.prog 73 #[.pointer (some ⟨gd, 0, none⟩)] w fun e w' => e = .returned (.tuple #[]) ∧ DiskL w' gd live x y (step + 1) crash ∧ Fr (fun b => b = gd) w w' := by
  rcases h with ⟨rfl, h⟩ | ⟨rfl, h⟩
  · exact (tick_on gd _ _ _ _ _ w h hs hc).mono fun e w' ⟨h1, h2, h3⟩ => ⟨h1, .inl ⟨rfl, h2⟩, h3⟩
  · exact (tick_on gd _ _ _ _ _ w h hs hc).mono fun e w' ⟨h1, h2, h3⟩ => ⟨h1, .inr ⟨rfl, h2⟩, h3⟩
theorem ltick_off (gd : Nat) (live : Int) (x y : Value) (step crash : Int) (w : World) (h : DiskL w gd live x y step crash) (hs : 0 ≤ step ∧ step ≤ 1000) (hc : step + 1 = crash) :
    Calls Tryz.prog 73 #[.pointer (some ⟨gd, 0, none⟩)] w fun e w' => e = .panicked [blown] ∧ DiskL w' gd live x y (step + 1) crash ∧ Fr (fun b => b = gd) w w' := by
  rcases h with ⟨rfl, h⟩ | ⟨rfl, h⟩
  · exact (tick_off gd _ _ _ _ _ w h hs hc).mono fun e w' ⟨h1, h2, h3⟩ => ⟨h1, .inl ⟨rfl, h2⟩, h3⟩
  · exact (tick_off gd _ _ _ _ _ w h hs hc).mono fun e w' ⟨h1, h2, h3⟩ => ⟨h1, .inr ⟨rfl, h2⟩, h3⟩
theorem sync_on (gd : Nat) (live : Int) (x y : Value) (step crash : Int) (w : World) (h : DiskL w gd live x y step crash) (hs : 0 ≤ step ∧ step ≤ 1000) (hc : step + 1 ≠ crash) :
    Calls Tryz.prog 40 #[.pointer (some ⟨gd, 0, none⟩)] w fun e w' => e = .returned (.tuple #[]) ∧ DiskL w' gd live x y (step + 1) crash ∧ Fr (fun b => b = gd) w w' := by
  have H := Lib.hid (ltick_on gd live x y step crash w h hs hc)
  clear h hc
  go_enter Tryz.func40, Tryz.ntmps40
  go_wp2_with fail
  refine H.out.mono ?_
  rintro e w1 ⟨rfl, h1, h2⟩
  go_wp2_with fail
  go_end0
  exact ⟨rfl, h1, h2⟩
/-- The power fails at the step of any of these. -/
theorem sync_off (gd : Nat) (live : Int) (x y : Value) (step crash : Int) (w : World) (h : DiskL w gd live x y step crash) (hs : 0 ≤ step ∧ step ≤ 1000) (hc : step + 1 = crash) :
    Calls Tryz.prog 40 #[.pointer (some ⟨gd, 0, none⟩)] w fun e w' => e = .panicked [blown] ∧ DiskL w' gd live x y (step + 1) crash ∧ Fr (fun b => b = gd) w w' := by
  have H := Lib.hid (ltick_off gd live x y step crash w h hs hc)
  clear h hc
  go_enter Tryz.func40, Tryz.ntmps40
  go_wp2_with fail
  refine H.out.mono ?_
  rintro e w1 ⟨rfl, h1, h2⟩
  go_wp2_with fail
  exact ⟨rfl, rfl, h1, h2⟩
theorem switch_off (gd : Nat) (live : Int) (x y : Value) (step crash : Int) (w : World) (h : DiskL w gd live x y step crash) (hs : 0 ≤ step ∧ step ≤ 1000) (hc : step + 1 = crash) :
    Calls Tryz.prog 41 #[.pointer (some ⟨gd, 0, none⟩)] w fun e w' => e = .panicked [blown] ∧ DiskL w' gd live x y (step + 1) crash ∧ Fr (fun b => b = gd) w w' := by
  have H := Lib.hid (ltick_off gd live x y step crash w h hs hc)
  clear h hc
  go_enter Tryz.func41, Tryz.ntmps41
  go_wp2_with fail
  refine H.out.mono ?_
  rintro e w1 ⟨rfl, h1, h2⟩
  go_wp2_with fail
  exact ⟨rfl, rfl, h1, h2⟩
theorem clean_off (gd : Nat) (live : Int) (x y : Value) (step crash : Int) (w : World) (h : DiskL w gd live x y step crash) (hs : 0 ≤ step ∧ step ≤ 1000) (hc : step + 1 = crash) :
    Calls Tryz.prog 42 #[.pointer (some ⟨gd, 0, none⟩)] w fun e w' => e = .panicked [blown] ∧ DiskL w' gd live x y (step + 1) crash ∧ Fr (fun b => b = gd) w w' := by
  have H := Lib.hid (ltick_off gd live x y step crash w h hs hc)
  clear h hc
  go_enter Tryz.func42, Tryz.ntmps42
  go_wp2_with fail
  refine H.out.mono ?_
  rintro e w1 ⟨rfl, h1, h2⟩
  go_wp2_with fail
  exact ⟨rfl, rfl, h1, h2⟩
theorem write_off (gd : Nat) (live : Int) (x y : Value) (step crash : Int) (f : Value) (w : World) (h : DiskL w gd live x y step crash) (hs : 0 ≤ step ∧ step ≤ 1000) (hc : step + 1 = crash) (s : ByteArray) (dv : Value) (hf : f = .agg #[.string s, dv]) :
    Calls Tryz.prog 39 #[.pointer (some ⟨gd, 0, none⟩), f] w fun e w' => e = .panicked [blown] ∧ DiskL w' gd live x y (step + 1) crash ∧ Fr (fun b => b = gd) w w' := by
  subst hf
  have hA : Fr (fun _ => False) w (w.alloc (.cells #[.string s, dv] 37)) := (Fr.refl _ _).alloc _
  have hlt : gd < w.heap.size := by obtain ⟨xs, o⟩ := h.own; exact o.lt
  have H := Lib.hid (ltick_off gd live x y step crash (w.alloc (.cells #[.string s, dv] 37)) (h.keep hA id) hs hc)
  clear h hc
  go_enter Tryz.func39, Tryz.ntmps39
  go_wp2_with fail
  refine H.out.mono ?_
  rintro e w1 ⟨rfl, h1, h2⟩
  go_wp2_with fail
  exact ⟨rfl, rfl, h1, (hA.mono (fun _ h _ => h.elim)).step h2 (fun _ h _ => h)⟩
/-- What was written becomes the tree. -/
theorem switch_on (gd : Nat) (live : Int) (x y : Value) (step crash : Int) (w : World) (h : DiskL w gd live x y step crash) (hs : 0 ≤ step ∧ step ≤ 1000) (hc : step + 1 ≠ crash) :
    Calls Tryz.prog 41 #[.pointer (some ⟨gd, 0, none⟩)] w fun e w' => e = .returned (.tuple #[]) ∧ DiskL w' gd (1 - live) y x (step + 1) crash ∧ Fr (fun b => b = gd) w w' := by
  rcases h with ⟨rfl, h⟩ | ⟨rfl, h⟩
  all_goals
    have H := Lib.hid (tick_on gd _ _ _ _ _ w h hs hc)
    clear h hc
    go_enter Tryz.func41, Tryz.ntmps41
    go_wp2_with fail
    refine H.out.mono ?_
    rintro e w1 ⟨rfl, h1, h2⟩
    have x2 := Own.cell h1 (i := 2) rfl
    have f2 := Own.free h1 2 (by simp)
    have H1 := Lib.hid h1
    clear h1
    go_wp2_with fail
    go_end0
  · exact ⟨rfl, .inr ⟨rfl, Own.set H1.out 2 (.int .i64 1)⟩, h2.step ((Fr.refl (fun b => b = gd) w1).setCell ⟨gd, 2, none⟩ (.int .i64 1) (fun _ => rfl)) (fun _ h _ => h)⟩
  · exact ⟨rfl, .inl ⟨rfl, Own.set H1.out 2 (.int .i64 0)⟩, h2.step ((Fr.refl (fun b => b = gd) w1).setCell ⟨gd, 2, none⟩ (.int .i64 0) (fun _ => rfl)) (fun _ h _ => h)⟩
/-- What is not the tree is dropped. -/
theorem clean_on (gd : Nat) (live : Int) (x y : Value) (step crash : Int) (w : World) (h : DiskL w gd live x y step crash) (hs : 0 ≤ step ∧ step ≤ 1000) (hc : step + 1 ≠ crash) :
    Calls Tryz.prog 42 #[.pointer (some ⟨gd, 0, none⟩)] w fun e w' => e = .returned (.tuple #[]) ∧ DiskL w' gd live x (.slice none 0 0) (step + 1) crash ∧ Fr (fun b => b = gd) w w' := by
  rcases h with ⟨rfl, h⟩ | ⟨rfl, h⟩
  all_goals
    have H := Lib.hid (tick_on gd _ _ _ _ _ w h hs hc)
    clear h hc
    go_enter Tryz.func42, Tryz.ntmps42
    go_wp2_with fail
    refine H.out.mono ?_
    rintro e w1 ⟨rfl, h1, h2⟩
    have x0 := Own.cell h1 (i := 0) rfl
    have x1 := Own.cell h1 (i := 1) rfl
    have x2 := Own.cell h1 (i := 2) rfl
    have f0 := Own.free h1 0 (by simp)
    have f1 := Own.free h1 1 (by simp)
    have H1 := Lib.hid h1
    clear h1
    go_wp2_with fail
    go_region
    all_goals
      go_wp2_with fail
      go_end0
  · exact ⟨rfl, .inl ⟨rfl, Own.keep (S := fun _ => False) (Own.set H1.out 1 (.slice none 0 0)) (Fr.drew (Fr.refl _ _)) id⟩, (h2.step ((Fr.refl (fun b => b = gd) w1).setCell ⟨gd, 1, none⟩ (.slice none 0 0) (fun _ => rfl)) (fun _ h _ => h)).drew⟩
  · exact ⟨rfl, .inr ⟨rfl, Own.keep (S := fun _ => False) (Own.set H1.out 0 (.slice none 0 0)) (Fr.drew (Fr.refl _ _)) id⟩, (h2.step ((Fr.refl (fun b => b = gd) w1).setCell ⟨gd, 0, none⟩ (.slice none 0 0) (fun _ => rfl)) (fun _ h _ => h)).drew⟩
/-- The tree as it lies there. -/
theorem dtree_any (gd : Nat) (live : Int) (x y : Value) (step crash : Int) (w : World) (h : DiskL w gd live x y step crash) :
    Calls Tryz.prog 46 #[.pointer (some ⟨gd, 0, none⟩)] w fun e w' => e = .returned x ∧ Fr (fun _ => False) w w' := by
  rcases h with ⟨rfl, h⟩ | ⟨rfl, h⟩
  all_goals
    have x0 := Own.cell h (i := 0) rfl
    have x1 := Own.cell h (i := 1) rfl
    have x2 := Own.cell h (i := 2) rfl
    clear h
    go_enter Tryz.func46, Tryz.ntmps46
    go_wp2_with fail
    go_quiet (fail)
    go_wp2_with fail
    go_ret
    exact ⟨rfl, (Fr.refl _ _).drewN _⟩
end Go.Proofs.YtlcdgbhigfgehabGreatDoor
/- disk.New: a disk with a tree. -/
namespace Go.Proofs.YtlcdgbhigfgehabGreatDoor
open Go.RowKit
set_option maxRecDepth 100000

set_option maxHeartbeats 2000000 in
theorem dnew_any (v : Value) (l : List (Fil × Value)) (B : Nat) (w : World) (h : Fils w B v l) (hd : ∀ p ∈ l, p.1.data.length ≤ 1000000) (hl : l.length ≤ 1000000) :
    Calls Tryz.prog 44 #[v] w fun e w' => ∃ v' m, e = .returned (.pointer (some ⟨w.heap.size, 0, none⟩)) ∧ m.map (·.1) = l.map (·.1) ∧ KFils w' (w.heap.size + 1) v' m ∧ DiskAt w' w.heap.size v' (.slice none 0 0) 0 0 0 ∧ Fr (fun _ => False) w w' := by
  have H := Lib.hid h
  have HD := Lib.hid hd
  obtain ⟨va, vc, rfl, -⟩ := h.vec.shape
  have hA : Fr (fun _ => False) w (w.alloc (.cells #[.slice none 0 0, .slice none 0 0, .int .i64 0, .int .i64 0, .int .i64 0] 162)) := (Fr.refl _ _).alloc _
  have HO := Lib.hid (Own.alloc w #[.slice none 0 0, .slice none 0 0, .int .i64 0, .int .i64 0, .int .i64 0] 162)
  have HA := Lib.hid hA
  have hzA := hA.size
  obtain ⟨gd, hgd⟩ : ∃ gd, w.heap.size = gd := ⟨_, rfl⟩
  have hlt : gd < (w.alloc (.cells #[.slice none 0 0, .slice none 0 0, .int .i64 0, .int .i64 0, .int .i64 0] 162)).heap.size := by simp; omega
  have hsz : (w.alloc (.cells #[.slice none 0 0, .slice none 0 0, .int .i64 0, .int .i64 0, .int .i64 0] 162)).heap.size = gd + 1 := by simp; omega
  rw [hgd] at HO
  clear h hd hA
  go_enter Tryz.func44, Tryz.ntmps44
  go_wp2_with fail
  generalize w.alloc (.cells #[.slice none 0 0, .slice none 0 0, .int .i64 0, .int .i64 0, .int .i64 0] 162) = wA at *
  have x0 := HO.out.cell (i := 0) rfl
  have HN := Lib.hid (dclone_any _ l B wA.drew (H.out.keep0 HA.out.drew) HD.out hl)
  go_region_law
    (go_simp; go_at_call 45; refine HN.out.mono ?_; rintro e w5 ⟨v5, m5, rfl, hm5, hv5, hf5⟩; obtain ⟨a5, c5, hs5, -⟩ := hv5.vec.shape; subst hs5; have hk5 := HA.out.drew.step hf5 (fun _ h _ => h); have z := HO.out.keep ((Fr.refl (fun _ => False) wA).drew.step hf5 (fun _ h _ => h)) id; have z0 := z.cell (i := 0) rfl; have zf := z.free 0 (by simp); have HZ := Lib.hid z; have HV5 := Lib.hid hv5; have HM5 := Lib.hid hm5; have HK5 := Lib.hid hk5; clear hv5 hf5 z hk5 hm5)
  all_goals
    go_wp2_with fail
    go_ret
    have hs := (Fr.refl (fun b => b = gd) w5).setCell ⟨gd, 0, none⟩ (.slice a5 m5.length c5) (fun _ => rfl)
    have hv := HV5.out.lift (B' := gd + 1) (by show gd + 1 ≤ wA.heap.size; omega)
    refine ⟨rfl, _, m5, HM5.out, hv.keep hs (fun b hb e => by have := (hv.vec.lt b hb).1; omega) (fun p hp b hb e => by have := ((hv.data p hp).lt b hb).1; omega), Own.set HZ.out 0 (.slice a5 m5.length c5), HK5.out.step hs (fun b hb hl => by omega)⟩
end Go.Proofs.YtlcdgbhigfgehabGreatDoor
/- A mirror in memory: its block, its disk, the tree on it. -/
namespace Go.Proofs.YtlcdgbhigfgehabGreatDoor
open Go.RowKit
set_option maxRecDepth 100000

/-- The tree on a disk; up: nothing lies beside it. -/
def DskT (w : World) (B gd : Nat) (tr : List Fil) (up : Bool) : Prop := ∃ live x y step crash m, DiskL w gd live x y step crash ∧ KFils w B x m ∧ m.map (·.1) = tr ∧ (up = true → y = .slice none 0 0)
def MirC (w : World) (gm gd : Nat) (s : Int) (room : Int) (down : Bool) : Prop := Own w gm 99 [.int .i32 s, .int .u32 0, .pointer (some ⟨gd, 0, none⟩), .int .i64 room, .bool down]
/-- A mirror whose lock is free. -/
structure MirAt (w : World) (B gm gd : Nat) (tr : List Fil) (room : Int) (down : Bool) : Prop where
  mir : MirC w gm gd 0 room down
  disk : DskT w B gd tr (!down)
  tree : IsTree tr
  rm : 0 ≤ room ∧ room ≤ 1048576
/-- The blocks of S are mirrors or disks. -/
def Held (w : World) (S : Nat → Prop) : Prop := ∀ b, S b → (∃ xs, Own w b 99 xs) ∨ ∃ xs, Own w b 162 xs
theorem Held.none (w : World) : Held w (fun _ => False) := fun _ h => h.elim
theorem Held.old {w w1 : World} {S : Nat → Prop} (h : Held w S) (k : Fr (fun _ => False) w w1) : Held w1 S := fun b hb => (h b hb).elim (fun ⟨xs, o⟩ => .inl ⟨xs, o.keep k id⟩) (fun ⟨xs, o⟩ => .inr ⟨xs, o.keep k id⟩)
section
variable {w w1 : World} {S : Nat → Prop} {B : Nat} {v : Value} {l : List (Fil × Value)}
theorem Held.vec (hS : Held w S) {T : TypeId} {sz n : Nat} {xs : List Value} (h : Vec w B T sz v n xs) (h1 : T ≠ 99) (h2 : T ≠ 162) : ∀ b, v.ownBlock = some b → ¬ S b := fun b hb hs => by
  rcases hS b hs with ⟨ys, o⟩ | ⟨ys, o⟩
  · exact h.apartT o h1 hb
  · exact h.apartT o h2 hb
theorem Held.isB {l : List UInt8} (hS : Held w S) (h : IsB w v l) : ∀ b, v.ownBlock = some b → ¬ S b := fun b hb hs => by
  rcases hS b hs with ⟨ys, o⟩ | ⟨ys, o⟩
  · exact h.apart o (by decide) hb
  · exact h.apart o (by decide) hb
theorem KFils.held (h : KFils w B v l) (k : Fr S w w1) (hS : Held w S) : KFils w1 B v l :=
  h.keep k (hS.vec h.vec (by decide) (by decide)) (fun p hp => hS.vec (h.data p hp) (by decide) (by decide))
theorem Fils.held (h : Fils w B v l) (k : Fr S w w1) (hS : Held w S) : Fils w1 B v l :=
  h.keep k (hS.vec h.vec (by decide) (by decide)) (fun p hp => hS.isB (h.data p hp))
theorem DskT.held {gd : Nat} {tr : List Fil} {up : Bool} (h : DskT w B gd tr up) (k : Fr S w w1) (hS : Held w S) (hg : ¬ S gd) : DskT w1 B gd tr up := by
  obtain ⟨live, x, y, s, c, m, h1, h2, h3, h4⟩ := h
  exact ⟨live, x, y, s, c, m, h1.keep k hg, h2.held k hS, h3, h4⟩
theorem DskT.lift {B' gd : Nat} {tr : List Fil} {up : Bool} (h : DskT w B gd tr up) (hB : B' ≤ B) : DskT w B' gd tr up := by
  obtain ⟨live, x, y, s, c, m, h1, h2, h3, h4⟩ := h
  exact ⟨live, x, y, s, c, m, h1, h2.lift hB, h3, h4⟩
theorem DskT.own {gd : Nat} {tr : List Fil} {up : Bool} (h : DskT w B gd tr up) : ∃ xs, Own w gd 162 xs := by
  obtain ⟨live, x, y, s, c, m, h1, -⟩ := h
  exact h1.own
theorem MirAt.held {gm gd : Nat} {tr : List Fil} {room : Int} {down : Bool} (h : MirAt w B gm gd tr room down) (k : Fr S w w1) (hS : Held w S) (hm : ¬ S gm) (hg : ¬ S gd) : MirAt w1 B gm gd tr room down :=
  ⟨Own.keep h.mir k hm, h.disk.held k hS hg, h.tree, h.rm⟩
theorem MirAt.keep0 {gm gd : Nat} {tr : List Fil} {room : Int} {down : Bool} (h : MirAt w B gm gd tr room down) (k : Fr (fun _ => False) w w1) : MirAt w1 B gm gd tr room down := h.held k (Held.none w) id id
theorem MirAt.ne {gm gd : Nat} {tr : List Fil} {room : Int} {down : Bool} (h : MirAt w B gm gd tr room down) : gm ≠ gd := by
  rintro rfl
  obtain ⟨xs, o⟩ := h.disk.own
  obtain ⟨_, h1, _⟩ := h.mir
  obtain ⟨_, h2, _⟩ := o
  rw [h1] at h2
  simp at h2
end
end Go.Proofs.YtlcdgbhigfgehabGreatDoor
/- A mirror's Files; plain.Files. -/
namespace Go.Proofs.YtlcdgbhigfgehabGreatDoor
open Go.RowKit Go.MuLone
set_option maxRecDepth 100000

/-- The lock taken, given back. -/
theorem MirC.lock {w : World} {gm gd : Nat} {s room : Int} {down : Bool} (h : MirC w gm gd s room down) (t : Int) : MirC (w.setCell ⟨gm, 0, none⟩ (.int .i32 t)) gm gd t room down ∧ Fr (fun b => b = gm) w (w.setCell ⟨gm, 0, none⟩ (.int .i32 t)) :=
  ⟨Own.set h 0 (.int .i32 t), (Fr.refl (fun b => b = gm) w).setCell ⟨gm, 0, none⟩ (.int .i32 t) (fun _ => rfl)⟩
theorem held_mir {w : World} {gm gd : Nat} {s room : Int} {down : Bool} (h : MirC w gm gd s room down) : Held w (fun b => b = gm) := fun b hb => by
  subst hb
  exact .inl ⟨_, h⟩
set_option maxHeartbeats 1000000 in
theorem mfiles_down (gm gd B : Nat) (tr : List Fil) (room : Int) (w : World) (h : MirAt w B gm gd tr room true) :
    Calls Tryz.prog 26 #[.pointer (some ⟨gm, 0, none⟩)] w fun e w' => e = .returned (.tuple #[.slice none 0 0, .iface 30 (.int .i64 7)]) ∧ MirAt w' B gm gd tr room true ∧ Fr (fun b => b = gm) w w' := by
  have x0 := Own.cell h.mir (i := 0) rfl
  have f0 := Own.free h.mir 0 (by simp)
  obtain ⟨h1, k1⟩ := h.mir.lock 1
  have H1 := Lib.hid h1
  have K1 := Lib.hid k1
  have H := Lib.hid h
  have x4 := Own.cell h1 (i := 4) rfl
  clear h h1 k1
  go_enter_defers Tryz.func26, Tryz.ntmps26
  go_wp2_with (go_at_call 34; refine (lock_free muLib ⟨gm, 0, none⟩ _ x0 f0).mono ?_; rintro e w' ⟨rfl, rfl⟩)
  refine leaves_cons (f := 35) (args := #[.pointer (some ⟨gm, 0, none⟩)]) (by simp) (by simp [go_sem]) ?_
  refine (unlock_deferred muLib ⟨gm, 0, none⟩ .returning _ (Own.cell H1.out (i := 0) rfl) (Own.free H1.out 0 (by simp))).mono ?_
  rintro e u' w'' ⟨rfl, rfl, rfl⟩
  have h2 := H1.out.lock 0
  have hk := K1.out.step h2.2 (fun _ h _ => h)
  exact ⟨_, results_tmp2 rfl _ _ _, rfl, ⟨h2.1, H.out.disk.held hk (held_mir H.out.mir) (fun e => H.out.ne e.symm), H.out.tree, H.out.rm⟩, hk⟩
theorem MirAt.part {w : World} {B gm gd : Nat} {tr : List Fil} {room : Int} {down : Bool} (h : MirAt w B gm gd tr room down) : ∃ live x y step crash m, DiskL w gd live x y step crash ∧ KFils w B x m ∧ m.map (·.1) = tr ∧ (down = false → y = .slice none 0 0) := by
  obtain ⟨live, x, y, s, c, m, h1, h2, h3, h4⟩ := h.disk
  exact ⟨live, x, y, s, c, m, h1, h2, h3, fun e => h4 (by rw [e]; rfl)⟩
theorem tree_data {m : List (Fil × Value)} {tr : List Fil} (h : m.map (·.1) = tr) (ht : IsTree tr) : (∀ p ∈ m, p.1.data.length ≤ 300) ∧ (∀ p ∈ m, p.1.name.length ≤ 12) ∧ m.length ≤ 8 := by
  subst h
  refine ⟨fun p hp => (ht.ok p.1 (List.mem_map_of_mem hp)).2, fun p hp => ?_, by have := ht.len; simpa using this⟩
  have h3 := (ht.ok p.1 (List.mem_map_of_mem hp)).1
  unfold isName at h3
  simp at h3
  omega
set_option maxHeartbeats 1000000 in
theorem mfiles_up (gm gd B : Nat) (tr : List Fil) (room : Int) (w : World) (h : MirAt w B gm gd tr room false) :
    Calls Tryz.prog 26 #[.pointer (some ⟨gm, 0, none⟩)] w fun e w' => ∃ v m, e = .returned (.tuple #[v, .nilIface]) ∧ m.map (·.1) = tr ∧ KFils w' w.heap.size v m ∧ MirAt w' B gm gd tr room false ∧ Fr (fun b => b = gm) w w' := by
  have hlt := Own.lt h.mir
  have x0 := Own.cell h.mir (i := 0) rfl
  have f0 := Own.free h.mir 0 (by simp)
  obtain ⟨h1, k1⟩ := h.mir.lock 1
  obtain ⟨live, x, y, s, c, m, hd, hk, hm, hy⟩ := h.part
  have hne := h.ne
  have htd := tree_data hm h.tree
  have HD := Lib.hid (hd.keep k1 (fun e => hne e.symm))
  have HK := Lib.hid (hk.held k1 (held_mir h.mir))
  have HM := Lib.hid hm
  have H1 := Lib.hid h1
  have K1 := Lib.hid k1
  have H := Lib.hid h
  have x2 := Own.cell h1 (i := 2) rfl
  have x4 := Own.cell h1 (i := 4) rfl
  have hz1 := k1.size
  clear h h1 k1 hd hk hy
  go_enter_defers Tryz.func26, Tryz.ntmps26
  go_wp2_with (go_at_call 34; refine (lock_free muLib ⟨gm, 0, none⟩ _ x0 f0).mono ?_; rintro e w' ⟨rfl, rfl⟩)
  refine (dtree_any gd live x y s c _ HD.out).mono ?_
  rintro e w2 ⟨rfl, f2⟩
  have HF2 := Lib.hid f2
  have hz2 := f2.size
  clear f2
  go_wp2_with fail
  refine (dclone_any _ m B w2 (HK.out.keep0 HF2.out).fils (fun p hp => by have := htd.1 p hp; omega) (by omega)).mono ?_
  rintro e w3 ⟨v', m', rfl, hm', hk', f3⟩
  have HM' := Lib.hid hm'
  have HK' := Lib.hid hk'
  have HF3 := Lib.hid (HF2.out.step f3 (fun _ h _ => h))
  clear hm' hk' f3
  go_wp2_with fail
  have h3 := Own.keep H1.out HF3.out id
  refine leaves_cons (f := 35) (args := #[.pointer (some ⟨gm, 0, none⟩)]) (by simp) (by simp [go_sem]) ?_
  refine (unlock_deferred muLib ⟨gm, 0, none⟩ .returning _ (Own.cell h3 (i := 0) rfl) (Own.free h3 0 (by simp))).mono ?_
  rintro e u' w'' ⟨rfl, rfl, rfl⟩
  have h4 := MirC.lock h3 0
  have hk := (K1.out.step HF3.out (fun _ h _ => h.elim)).step h4.2 (fun _ h _ => h)
  refine ⟨_, results_tmp2 rfl _ _ _, _, m', rfl, HM'.out.trans HM.out, (HK'.out.held h4.2 (held_mir h3)).lift (by omega), ⟨h4.1, H.out.disk.held hk (held_mir H.out.mir) (fun e => H.out.ne e.symm), H.out.tree, H.out.rm⟩, hk⟩
set_option maxHeartbeats 1000000 in
theorem pfiles_up (gm gd B : Nat) (tr : List Fil) (room : Int) (w : World) (h : MirAt w B gm gd tr room false) :
    Calls Tryz.prog 17 #[.pointer (some ⟨gm, 0, none⟩)] w fun e w' => ∃ v m, e = .returned (.tuple #[v, .int .i64 0]) ∧ m.map (·.1) = tr ∧ KFils w' w.heap.size v m ∧ MirAt w' B gm gd tr room false ∧ Fr (fun b => b = gm) w w' := by
  have H := Lib.hid (mfiles_up gm gd B tr room w h)
  clear h
  go_enter Tryz.func17, Tryz.ntmps17
  go_wp2_with fail
  refine H.out.mono ?_
  rintro e w1 ⟨v, m, rfl, h1, h2, h3, h4⟩
  have H1 := Lib.hid h1
  have H2 := Lib.hid h2
  have H3 := Lib.hid h3
  have H4 := Lib.hid h4
  clear h1 h2 h3 h4
  go_wp2_with fail
  refine (told_none w1).mono ?_
  rintro e w2 ⟨rfl, hf⟩
  go_wp2_with fail
  go_ret2
  exact ⟨v, m, rfl, H1.out, H2.out.keep0 hf, H3.out.keep0 hf, H4.out.step hf (fun _ h _ => h.elim)⟩
set_option maxHeartbeats 1000000 in
theorem pfiles_down (gm gd B : Nat) (tr : List Fil) (room : Int) (w : World) (hg : ErrType w) (hge : gm ≠ 0) (h : MirAt w B gm gd tr room true) :
    Calls Tryz.prog 17 #[.pointer (some ⟨gm, 0, none⟩)] w fun e w' => e = .returned (.tuple #[.slice none 0 0, .int .i64 7]) ∧ MirAt w' B gm gd tr room true ∧ Fr (fun b => b = gm) w w' := by
  have H := Lib.hid (mfiles_down gm gd B tr room w h)
  clear h
  go_enter Tryz.func17, Tryz.ntmps17
  go_wp2_with fail
  refine H.out.mono ?_
  rintro e w1 ⟨rfl, h3, h4⟩
  have HT := Lib.hid (told_kind 7 w1 (hg.keep h4 (fun e => hge e.symm)))
  have H3 := Lib.hid h3
  have H4 := Lib.hid h4
  clear h3 h4
  go_wp2_with fail
  refine HT.out.mono ?_
  rintro e w2 ⟨rfl, hf⟩
  go_wp2_with fail
  go_ret2
  exact ⟨rfl, H3.out.keep0 hf, H4.out.step hf (fun _ h _ => h.elim)⟩
end Go.Proofs.YtlcdgbhigfgehabGreatDoor
/- mirror.New, plain.New. -/
namespace Go.Proofs.YtlcdgbhigfgehabGreatDoor
open Go.RowKit
set_option maxRecDepth 100000

/-- The error of a new mirror. -/
def newErr (l : List Fil) (room : Int) : Err := match treeErr l with
  | some n => .file ⟨n.toArray⟩ 4
  | none => if room < 0 ∨ 1048576 < room then .kind 6 else .none
theorem newErr_none {l : List Fil} {room : Int} (h : IsTree l) (h1 : 0 ≤ room) (h2 : room ≤ 1048576) : newErr l room = .none := by
  unfold newErr
  rw [(treeErr_none l).2 h]
  simp only
  rw [if_neg (by omega)]
/-- What New gives. -/
def NewPost (w : World) (l : List Fil) (room : Int) (p : Value) (w' : World) : Prop :=
  (newErr l room = .none → ∃ gm gd, p = .pointer (some ⟨gm, 0, none⟩) ∧ w.heap.size ≤ gm ∧ w.heap.size ≤ gd ∧ MirAt w' w.heap.size gm gd l room false) ∧ (newErr l room ≠ .none → p = .pointer none)
theorem NewPost.keep {w w1 w2 : World} {l : List Fil} {room : Int} {p : Value} (h : NewPost w l room p w1) (k : Fr (fun _ => False) w1 w2) : NewPost w l room p w2 :=
  ⟨fun e => by obtain ⟨gm, gd, h1, h2, h3, h4⟩ := h.1 e; exact ⟨gm, gd, h1, h2, h3, h4.keep0 k⟩, h.2⟩
theorem NewPost.bad {w w' : World} {l : List Fil} {room : Int} {E : Err} (h : newErr l room = E) (hE : E ≠ .none) : NewPost w l room (.pointer none) w' := ⟨fun e => absurd (h.symm.trans e) hE, fun _ => rfl⟩
theorem NewPost.good {w w' : World} {l : List Fil} {room : Int} {gm gd : Nat} (h : newErr l room = .none) (h1 : w.heap.size ≤ gm) (h2 : w.heap.size ≤ gd) (h3 : MirAt w' w.heap.size gm gd l room false) : NewPost w l room (.pointer (some ⟨gm, 0, none⟩)) w' := ⟨fun _ => ⟨gm, gd, rfl, h1, h2, h3⟩, fun e => absurd h e⟩
theorem fr_new (w : World) (o : Obj) : Fr (fun _ => False) w (w.alloc o) := (Fr.refl _ _).alloc _
set_option maxHeartbeats 2000000 in
theorem mnew_any (v : Value) (l : List (Fil × Value)) (B : Nat) (room : Int) (w : World) (h : Fils w B v l) (hn : ∀ p ∈ l, p.1.name.length ≤ 1000000) (hd : ∀ p ∈ l, p.1.data.length ≤ 1000000) (hl : l.length ≤ 1000000) :
    Calls Tryz.prog 25 #[v, .int .i64 room] w fun e w' => ∃ p y, e = .returned (.tuple #[p, y]) ∧ IsErr w' y (newErr (l.map (·.1)) room) ∧ Fr (fun _ => False) w w' ∧ NewPost w (l.map (·.1)) room p w' := by
  obtain ⟨va, vc, rfl, -⟩ := h.vec.shape
  have HT := Lib.hid (tree_any _ l B w h hn hd)
  have H := Lib.hid h
  have HD := Lib.hid hd
  clear h hn hd
  cases ht : treeErr (l.map (·.1)) with
  | some n =>
    have HE := Lib.hid (show newErr (l.map (·.1)) room = .file ⟨n.toArray⟩ 4 by unfold newErr; rw [ht])
    rw [ht] at HT
    clear ht
    go_enter Tryz.func25, Tryz.ntmps25
    go_wp2_with fail
    refine HT.out.mono ?_
    rintro e w1 ⟨x, rfl, ⟨g, rfl, ho⟩, hf⟩
    go_wp2_with fail
    go_ret2
    exact ⟨_, _, rfl, by rw [HE.out]; exact ⟨g, rfl, ho⟩, hf, NewPost.bad HE.out (by simp)⟩
  | none =>
    have hit := (treeErr_none _).1 ht
    rw [ht] at HT
    by_cases hr : room < 0 ∨ 1048576 < room
    · have HE := Lib.hid (show newErr (l.map (·.1)) room = .kind 6 by unfold newErr; rw [ht]; simp only; rw [if_pos hr])
      clear ht hit
      rcases Decidable.em (room < 0) with h0 | h0
      · have hd1 : decide (room < 0) = true := by simpa using h0
        go_enter Tryz.func25, Tryz.ntmps25
        go_wp2_with fail
        refine HT.out.mono ?_
        rintro e w1 ⟨x, rfl, hx, hf⟩
        obtain rfl : x = .nilIface := hx
        go_wp2_with fail
        go_ret2
        exact ⟨_, _, rfl, by rw [HE.out]; rfl, hf, NewPost.bad HE.out (by simp)⟩
      · have hd1 : decide (room < 0) = false := by simpa using h0
        have hd2 : decide (room > 1048576) = true := by simp; omega
        go_enter Tryz.func25, Tryz.ntmps25
        go_wp2_with fail
        refine HT.out.mono ?_
        rintro e w1 ⟨x, rfl, hx, hf⟩
        obtain rfl : x = .nilIface := hx
        go_wp2_with fail
        go_ret2
        exact ⟨_, _, rfl, by rw [HE.out]; rfl, hf, NewPost.bad HE.out (by simp)⟩
    · have HE := Lib.hid (show newErr (l.map (·.1)) room = .none by unfold newErr; rw [ht]; simp only; rw [if_neg hr])
      have HI := Lib.hid hit
      have hd1 : decide (room < 0) = false := by simp; omega
      have hd2 : decide (room > 1048576) = false := by simp; omega
      clear ht hit
      go_enter Tryz.func25, Tryz.ntmps25
      go_wp2_with fail
      refine HT.out.mono ?_
      rintro e w1 ⟨x, rfl, hx, hf⟩
      obtain rfl : x = .nilIface := hx
      have HF := Lib.hid hf
      have hz1 := hf.size
      have HN := Lib.hid (dnew_any _ l B w1 (H.out.keep0 hf) HD.out hl)
      clear hf
      go_wp2_with fail
      refine HN.out.mono ?_
      rintro e w2 ⟨v', m, rfl, hm, hk, hda, hf2⟩
      have HM := Lib.hid hm
      have HK := Lib.hid hk
      have HDA := Lib.hid hda
      have HF2 := Lib.hid (HF.out.step hf2 (fun _ h _ => h))
      have hz2 := hf2.size
      have hgd := Own.lt hda
      clear hm hk hda hf2
      go_wp2_with fail
      go_ret2
      have hA := fr_new w2 (.cells #[.int .i32 0, .int .u32 0, .pointer (some ⟨w1.heap.size, 0, none⟩), .int .i64 room, .bool false] 99)
      refine ⟨_, _, rfl, by rw [HE.out]; rfl, HF2.out.step hA (fun _ h _ => h), NewPost.good HE.out (by omega) (by omega) ⟨?_, ?_, HI.out, by omega⟩⟩
      · exact Own.alloc w2 #[.int .i32 0, .int .u32 0, .pointer (some ⟨w1.heap.size, 0, none⟩), .int .i64 room, .bool false] 99
      · exact ⟨0, v', .slice none 0 0, 0, 0, m, .inl ⟨rfl, Own.keep HDA.out hA id⟩, (HK.out.keep0 hA).lift (by omega), HM.out, fun _ => rfl⟩
set_option maxHeartbeats 1000000 in
theorem pnew_any (v : Value) (l : List (Fil × Value)) (B : Nat) (room : Int) (w : World) (hg : ErrType w) (h : Fils w B v l) (hn : ∀ p ∈ l, p.1.name.length ≤ 1000000) (hd : ∀ p ∈ l, p.1.data.length ≤ 1000000) (hl : l.length ≤ 1000000) :
    Calls Tryz.prog 14 #[v, .int .i64 room] w fun e w' => ∃ p, e = .returned (.tuple #[p, .int .i64 (newErr (l.map (·.1)) room).k, .string (newErr (l.map (·.1)) room).name]) ∧ Fr (fun _ => False) w w' ∧ NewPost w (l.map (·.1)) room p w' := by
  have H := Lib.hid (mnew_any v l B room w h hn hd hl)
  obtain ⟨E, hE⟩ : ∃ E, newErr (l.map (·.1)) room = E := ⟨_, rfl⟩
  rw [hE] at H ⊢
  clear h hn hd hl hE
  go_enter Tryz.func14, Tryz.ntmps14
  go_wp2_with fail
  refine H.out.mono ?_
  rintro e w1 ⟨x, y, rfl, h1, h2, h3⟩
  have HT := Lib.hid (told_any y E w1 (hg.keep h2 id) h1)
  have H2 := Lib.hid h2
  have H3 := Lib.hid h3
  clear h1 h2 h3
  go_wp2_with fail
  refine HT.out.mono ?_
  rintro e w2 ⟨rfl, hf⟩
  go_wp2_with fail
  go_ret3
  exact ⟨x, rfl, H2.out.step hf (fun _ h _ => h), H3.out.keep hf⟩
end Go.Proofs.YtlcdgbhigfgehabGreatDoor
/- The fronts of Record: mirror.Record, plain.Record. -/
namespace Go.Proofs.YtlcdgbhigfgehabGreatDoor
open Go.RowKit
set_option maxRecDepth 100000

/-- What Record gives. -/
structure RecX (w : World) (src ref : List Fil) (block : Int) (x : Value) (w' : World) : Prop where
  good : recErr block src ref = .none → Vec w' w.heap.size 5 1 x (recOf src ref block.toNat).length (bcells (recOf src ref block.toNat))
  bad : recErr block src ref ≠ .none → x = .slice none 0 0
theorem RecX.keep {w w1 w2 : World} {src ref : List Fil} {block : Int} {x : Value} (h : RecX w src ref block x w1) (k : Fr (fun _ => False) w1 w2) : RecX w src ref block x w2 :=
  ⟨fun e => (h.good e).keep k (fun _ _ h => h), h.bad⟩
def Small (l : List (Fil × Value)) : Prop := ∀ p ∈ l, p.1.name.length ≤ 1000000 ∧ p.1.data.length ≤ 1000000
theorem brecord_any (v0 v1 : Value) (src ref : List (Fil × Value)) (B : Nat) (block : Int) (w : World) (h0 : Fils w B v0 src) (h1 : Fils w B v1 ref) (hs0 : Small src) (hs1 : Small ref) :
    Calls Tryz.prog 47 #[v0, v1, .int .i64 block] w fun e w' => ∃ x y, e = .returned (.tuple #[x, y]) ∧ IsErr w' y (recErr block (src.map (·.1)) (ref.map (·.1))) ∧ Fr (fun _ => False) w w' ∧ RecX w (src.map (·.1)) (ref.map (·.1)) block x w' := by
  by_cases hb : block < 1 ∨ 64 < block
  · have he : recErr block (src.map (·.1)) (ref.map (·.1)) = .kind 1 := by unfold recErr; rw [if_pos hb]
    refine (brecord_block v0 v1 src ref B block w h0 h1 hb).mono ?_
    rintro e w' ⟨rfl, hf⟩
    refine ⟨_, _, rfl, by rw [he]; rfl, hf, ⟨fun h => (by rw [he] at h; cases h), fun _ => rfl⟩⟩
  · obtain ⟨blk, rfl⟩ := Int.eq_ofNat_of_zero_le (a := block) (by omega)
    have key : ∀ n, (treeErr (src.map (·.1)) = some n ∨ treeErr (src.map (·.1)) = none ∧ treeErr (ref.map (·.1)) = some n) → Calls Tryz.prog 47 #[v0, v1, .int .i64 blk] w fun e w' => ∃ x y, e = .returned (.tuple #[x, y]) ∧ IsErr w' y (recErr blk (src.map (·.1)) (ref.map (·.1))) ∧ Fr (fun _ => False) w w' ∧ RecX w (src.map (·.1)) (ref.map (·.1)) blk x w' := fun n hn => by
      have he : recErr blk (src.map (·.1)) (ref.map (·.1)) = .file ⟨n.toArray⟩ 4 := by
        unfold recErr
        rw [if_neg hb]
        rcases hn with h | ⟨h, h2⟩
        · rw [h]; rfl
        · rw [h, h2]; rfl
      refine (brecord_tree v0 v1 src ref B blk w h0 h1 hb (fun p hp => (hs0 p hp).1) (fun p hp => (hs0 p hp).2) (fun p hp => (hs1 p hp).1) (fun p hp => (hs1 p hp).2) n hn).mono ?_
      rintro e w' ⟨x, rfl, hx, hf⟩
      exact ⟨_, _, rfl, by rw [he]; exact hx, hf, ⟨fun h => (by rw [he] at h; cases h), fun _ => rfl⟩⟩
    cases hts : treeErr (src.map (·.1)) with
    | some n => exact key n (.inl hts)
    | none =>
      cases htr : treeErr (ref.map (·.1)) with
      | some n => exact key n (.inr ⟨hts, htr⟩)
      | none =>
        have he : recErr blk (src.map (·.1)) (ref.map (·.1)) = .none := by
          unfold recErr
          rw [if_neg hb, hts, htr]; rfl
        refine (brecord_good v0 v1 src ref B blk w h0 h1 (by omega) (by omega) ((treeErr_none _).1 hts) ((treeErr_none _).1 htr)).mono ?_
        rintro e w' ⟨x, rfl, hv, hf⟩
        exact ⟨x, _, rfl, by rw [he]; rfl, hf, ⟨fun _ => by rw [Int.toNat_natCast]; exact hv, fun h => absurd he h⟩⟩
set_option maxHeartbeats 1000000 in
theorem mrecord_any (v0 v1 : Value) (src ref : List (Fil × Value)) (B : Nat) (block : Int) (w : World) (h0 : Fils w B v0 src) (h1 : Fils w B v1 ref) (hs0 : Small src) (hs1 : Small ref) :
    Calls Tryz.prog 28 #[v0, v1, .int .i64 block] w fun e w' => ∃ x y, e = .returned (.tuple #[x, y]) ∧ IsErr w' y (recErr block (src.map (·.1)) (ref.map (·.1))) ∧ Fr (fun _ => False) w w' ∧ RecX w (src.map (·.1)) (ref.map (·.1)) block x w' := by
  have H := Lib.hid (brecord_any v0 v1 src ref B block w h0 h1 hs0 hs1)
  obtain ⟨E, hE⟩ : ∃ E, recErr block (src.map (·.1)) (ref.map (·.1)) = E := ⟨_, rfl⟩
  rw [hE] at H ⊢
  clear h0 h1 hs0 hs1 hE
  go_enter Tryz.func28, Tryz.ntmps28
  go_wp2_with fail
  refine H.out.mono ?_
  rintro e w' ⟨x, y, rfl, h1, h2, h3⟩
  have H1 := Lib.hid h1
  have H2 := Lib.hid h2
  have H3 := Lib.hid h3
  clear h1 h2 h3
  go_wp2_with fail
  go_ret2
  exact ⟨x, y, rfl, H1.out, H2.out, H3.out⟩
set_option maxHeartbeats 1000000 in
theorem precord_any (v0 v1 : Value) (src ref : List (Fil × Value)) (B : Nat) (block : Int) (w : World) (hg : ErrType w) (h0 : Fils w B v0 src) (h1 : Fils w B v1 ref) (hs0 : Small src) (hs1 : Small ref) :
    Calls Tryz.prog 19 #[v0, v1, .int .i64 block] w fun e w' => ∃ x, e = .returned (.tuple #[x, .int .i64 (recErr block (src.map (·.1)) (ref.map (·.1))).k, .string (recErr block (src.map (·.1)) (ref.map (·.1))).name]) ∧ Fr (fun _ => False) w w' ∧ RecX w (src.map (·.1)) (ref.map (·.1)) block x w' := by
  have H := Lib.hid (mrecord_any v0 v1 src ref B block w h0 h1 hs0 hs1)
  obtain ⟨E, hE⟩ : ∃ E, recErr block (src.map (·.1)) (ref.map (·.1)) = E := ⟨_, rfl⟩
  rw [hE] at H ⊢
  clear h0 h1 hs0 hs1 hE
  go_enter Tryz.func19, Tryz.ntmps19
  go_wp2_with fail
  refine H.out.mono ?_
  rintro e w1 ⟨x, y, rfl, h1, h2, h3⟩
  have HT := Lib.hid (told_any y E w1 (hg.keep h2 id) h1)
  have H2 := Lib.hid h2
  have H3 := Lib.hid h3
  clear h1 h2 h3
  go_wp2_with fail
  refine HT.out.mono ?_
  rintro e w2 ⟨rfl, hf⟩
  go_wp2_with fail
  go_ret3
  exact ⟨x, rfl, H2.out.step hf (fun _ h _ => h), H3.out.keep hf⟩
end Go.Proofs.YtlcdgbhigfgehabGreatDoor
/- pick: which of n things a raw number speaks of. -/
namespace Go.Proofs.YtlcdgbhigfgehabGreatDoor
open Go.RowKit
set_option maxRecDepth 100000

/-- Which of n things a raw number speaks of. -/
def pickOf (c n : Int) : Int := (if c < 0 then -(c + 1) else c) % n
theorem pickOf_bounds (c n : Int) (hn : 0 < n) : 0 ≤ pickOf c n ∧ pickOf c n < n := by
  unfold pickOf
  exact ⟨Int.emod_nonneg _ (by omega), Int.emod_lt_of_pos _ hn⟩
theorem pick_any (c n : Int) (w : World) (hn : 0 < n) (h1 : -9223372036854775808 ≤ c) (h2 : c ≤ 9223372036854775807) (hn2 : n ≤ 9223372036854775807) :
    Calls Tryz.prog 16 #[.int .i64 c, .int .i64 n] w fun e w' => e = .returned (.int .i64 (pickOf c n)) ∧ w = w' := by
  by_cases hc : c < 0
  · have hp : pickOf c n = (-(c + 1)).tmod n := by unfold pickOf; rw [if_pos hc]; exact (Int.tmod_eq_emod_of_nonneg (by omega)).symm
    have hw1 : wrap64 (c + 1) = c + 1 := IntWalk.wrap64_in _ (by omega)
    have hw2 : wrap64 (-(c + 1)) = -(c + 1) := IntWalk.wrap64_in _ (by omega)
    have hb := pickOf_bounds c n hn
    have HP := Lib.hid hp
    clear hp
    go_enter Tryz.func16, Tryz.ntmps16
    go_wp2_with fail
    go_ret
    exact ⟨by rw [HP.out, Int.neg_tmod]; rfl, rfl⟩
  · have hp : pickOf c n = c.tmod n := by unfold pickOf; rw [if_neg hc]; exact (Int.tmod_eq_emod_of_nonneg (by omega)).symm
    have hb := pickOf_bounds c n hn
    have HP := Lib.hid hp
    clear hp
    go_enter Tryz.func16, Tryz.ntmps16
    go_wp2_with fail
    go_ret
    exact ⟨by unfold pickOf; rw [if_neg (Int.not_lt.2 hc)]; rfl, rfl⟩
theorem lpick_any (c n : Int) (w : World) (hn : 0 < n) (h1 : -9223372036854775808 ≤ c) (h2 : c ≤ 9223372036854775807) (hn2 : n ≤ 9223372036854775807) :
    Calls Tryz.prog 55 #[.int .i64 c, .int .i64 n] w fun e w' => e = .returned (.int .i64 (pickOf c n)) ∧ w = w' := by
  by_cases hc : c < 0
  · have hp : pickOf c n = (-(c + 1)).tmod n := by unfold pickOf; rw [if_pos hc]; exact (Int.tmod_eq_emod_of_nonneg (by omega)).symm
    have hw1 : wrap64 (c + 1) = c + 1 := IntWalk.wrap64_in _ (by omega)
    have hw2 : wrap64 (-(c + 1)) = -(c + 1) := IntWalk.wrap64_in _ (by omega)
    have hb := pickOf_bounds c n hn
    have HP := Lib.hid hp
    clear hp
    go_enter Tryz.func55, Tryz.ntmps55
    go_wp2_with fail
    go_ret
    exact ⟨by rw [HP.out, Int.neg_tmod]; rfl, rfl⟩
  · have hp : pickOf c n = c.tmod n := by unfold pickOf; rw [if_neg hc]; exact (Int.tmod_eq_emod_of_nonneg (by omega)).symm
    have hb := pickOf_bounds c n hn
    have HP := Lib.hid hp
    clear hp
    go_enter Tryz.func55, Tryz.ntmps55
    go_wp2_with fail
    go_ret
    exact ⟨by unfold pickOf; rw [if_neg (Int.not_lt.2 hc)]; rfl, rfl⟩
end Go.Proofs.YtlcdgbhigfgehabGreatDoor
/- By which file is a tree not the basis? -/
namespace Go.Proofs.YtlcdgbhigfgehabGreatDoor
open Go.RowKit
set_option maxRecDepth 100000

theorem file_any (n : ByteArray) (k : Int) (w : World) :
    Calls Tryz.prog 70 #[.string n, .int .i64 k] w fun e w' => ∃ g, e = .returned (.iface 84 (.pointer (some ⟨g, 0, none⟩))) ∧ Own w' g 88 [.string n, .int .i64 k] ∧ Fr (fun _ => False) w w' := by
  go_enter Tryz.func70, Tryz.ntmps70
  go_wp2_with fail
  go_ret
  exact ⟨_, rfl, Own.alloc w #[.string n, .int .i64 k] 88, (Fr.refl _ _).alloc _⟩
/-- The error of what differs. -/
def difErr (o : Option (List UInt8)) : Err := match o with | none => .none | some n => .file ⟨n.toArray⟩ 9
def lenV : Value → Nat
  | .slice _ n _ => n
  | _ => 0
/-- A slice of which k elements are passed, n are left. -/
def PastV (u : Value) (va : Option Addr) (k n sz : Nat) : Prop := ∃ a c, u = .slice a n c ∧ n ≤ c ∧ c ≤ maxLen ∧ (0 < n → ∃ g, a = some ⟨g, k * sz, none⟩ ∧ va = some ⟨g, 0, none⟩)
set_option maxHeartbeats 4000000 in
theorem differs_any (v b : Value) (l : List (Fil × Value)) (E : List Ent) (B B2 : Nat) (w : World) (h : Fils w B v l) (hb : Vec w B2 152 3 b E.length (entCells E)) (hl : l.length ≤ 8) (he : E.length ≤ 8) (hd : ∀ p ∈ l, p.1.data.length ≤ 300) :
    Calls Tryz.prog 67 #[v, b] w fun e w' => ∃ y, e = .returned y ∧ IsErr w' y (difErr (difN (l.map (·.1)) E)) ∧ Fr (fun _ => False) w w' := by
  obtain ⟨va, vc, rfl, -⟩ := h.vec.shape
  obtain ⟨ba, bc, rfl, -⟩ := hb.shape
  have H := Lib.hid h
  have HB := Lib.hid hb
  have HD := Lib.hid hd
  clear h hb hd
  go_enter Tryz.func67, Tryz.ntmps67
  go_wp2_with fail
  go_loopw [0, 1] (fun lv bv wr => ∃ (k n1 n2 : Nat), k + n1 = l.length ∧ k + n2 = E.length ∧ PastV lv va k n1 2 ∧ PastV bv ba k n2 3 ∧ Fr (fun _ => False) w wr ∧ difN (l.map (·.1)) E = difN ((l.map (·.1)).drop k) (E.drop k)) (fun lv bv _ => lenV lv + lenV bv)
  case atStart =>
    refine ⟨0, l.length, E.length, Nat.zero_add _, Nat.zero_add _, ⟨_, _, rfl, ?_⟩, ⟨_, _, rfl, ?_⟩, Fr.refl _ _, rfl⟩
    · obtain ⟨a, c, hq, h1, h2, -⟩ := H.out.vec.shape
      simp only [Value.slice.injEq, true_and] at hq
      obtain ⟨rfl, rfl⟩ := hq
      refine ⟨h1, h2, fun hp => ?_⟩
      obtain ⟨g, cap, rest, hq, -⟩ := H.out.vec.row hp
      simp only [Value.slice.injEq, true_and] at hq
      obtain ⟨rfl, rfl⟩ := hq
      exact ⟨g, by simp, rfl⟩
    · obtain ⟨a, c, hq, h1, h2, -⟩ := HB.out.shape
      simp only [Value.slice.injEq, true_and] at hq
      obtain ⟨rfl, rfl⟩ := hq
      refine ⟨h1, h2, fun hp => ?_⟩
      obtain ⟨g, cap, rest, hq, -⟩ := HB.out.row hp
      simp only [Value.slice.injEq, true_and] at hq
      obtain ⟨rfl, rfl⟩ := hq
      exact ⟨g, by simp, rfl⟩
  case round =>
    obtain ⟨k, n1, n2, hk1, hk2, ⟨a, c, rfl, c1, c2, hg1⟩, ⟨a2, cc, rfl, d1, d2, hg2⟩, hfr, hdif⟩ := hrel
    have HFR := Lib.hid hfr
    have HDIF := Lib.hid hdif
    have HK1 := Lib.hid hk1
    have HK2 := Lib.hid hk2
    clear hdif
    rcases Nat.eq_zero_or_pos n1 with rfl | hp1
    · rcases Nat.eq_zero_or_pos n2 with rfl | hp2
      · clear hk1 hk2 hfr hg1 hg2
        have hnone : difN (l.map (·.1)) E = none := by
          rw [HDIF.out, List.drop_eq_nil_of_le (by rw [List.length_map]; have := HK1.out; omega), List.drop_eq_nil_of_le (by have := HK2.out; omega)]; rfl
        have HN := Lib.hid hnone
        clear hnone
        go_wp2_with fail
        go_ret
        exact ⟨_, rfl, by rw [HN.out]; rfl, HFR.out⟩
      · obtain ⟨g2, rfl, hba⟩ := hg2 hp2
        obtain ⟨gE, cE, rE, hqE, -, hoE, -⟩ := (HB.out.keep hfr (fun _ _ h => h)).row (by omega)
        simp only [Value.slice.injEq, true_and] at hqE
        obtain ⟨hqE, -⟩ := hqE
        rw [hqE] at hba
        simp only [Option.some.injEq, Addr.mk.injEq, and_true] at hba
        subst hba
        have hge := entCells_get E k (by omega)
        have e0 := hoE.cell (i := k * 3) (by rw [List.getElem?_append_left (by simp; omega)]; exact hge.1)
        have e1 := hoE.cell (i := k * 3 + 1) (by rw [List.getElem?_append_left (by simp; omega)]; exact hge.2.1)
        have e2 := hoE.cell (i := k * 3 + 2) (by rw [List.getElem?_append_left (by simp; omega)]; exact hge.2.2)
        have hEd : E.drop k = E[k] :: E.drop (k + 1) := List.drop_eq_getElem_cons (by omega)
        clear hge hoE hg2
        have hsome : difN (l.map (·.1)) E = some E[k].name := by
          rw [HDIF.out, List.drop_eq_nil_of_le (by rw [List.length_map]; have := HK1.out; omega), hEd]; rfl
        have HN := Lib.hid hsome
        clear hsome hEd hfr hg1
        generalize E[k] = ek at *
        clear hk1 hk2
        have z1 : decide ((n2 : Int) > 0) = true := by simp; omega
        have z2 : ((n2 : Int) == 0) = false := by simp; omega
        have z3 : (0 : Int) < (n2 : Int) := by omega
        go_wp2_with fail
        go_quiet (fail)
        go_wp2_with fail
        go_quiet (fail)
        go_wp2_with fail
        refine (file_any _ _ _).mono ?_
        rintro e w5 ⟨gf, rfl, ho, hf⟩
        have HO := Lib.hid ho
        have HF := Lib.hid hf
        clear ho hf
        go_wp2_with fail
        go_ret
        exact ⟨_, rfl, by rw [HN.out]; exact ⟨gf, rfl, HO.out⟩, Fr.step (by first | exact ((HFR.out.drewN _).drewN _).drewN _ | exact (HFR.out.drewN _).drewN _ | exact HFR.out.drewN _) HF.out (fun _ h _ => h)⟩
    · rcases Nat.eq_zero_or_pos n2 with rfl | hp2
      · obtain ⟨g1, rfl, hva⟩ := hg1 hp1
        obtain ⟨gl, cl, hql, f0, f1, -⟩ := (H.out.keep0 hfr).get k (by omega)
        simp only [Value.slice.injEq, true_and] at hql
        obtain ⟨hql, -⟩ := hql
        rw [hql] at hva
        simp only [Option.some.injEq, Addr.mk.injEq, and_true] at hva
        subst hva
        have hLd : (l.map (·.1)).drop k = l[k].1 :: (l.map (·.1)).drop (k + 1) := by rw [List.drop_eq_getElem_cons (by rw [List.length_map]; omega), List.getElem_map]
        have hisb := (H.out.keep0 hfr).data l[k] (List.getElem_mem _)
        have hdl := HD.out l[k] (List.getElem_mem _)
        clear hg1
        have hsome : difN (l.map (·.1)) E = some l[k].1.name := by
          have hEn : E.drop k = [] := List.drop_eq_nil_of_le (by have := HK2.out; omega)
          rw [HDIF.out, hLd, hEn]; rfl
        have HN := Lib.hid hsome
        clear hsome hLd hfr hg2
        generalize l[k] = lk at *
        clear hk1 hk2 hisb hdl
        have z1 : decide ((n1 : Int) > 0) = true := by simp; omega
        have z3 : (0 : Int) < (n1 : Int) := by omega
        go_wp2_with fail
        go_quiet (fail)
        go_wp2_with fail
        refine (file_any _ _ _).mono ?_
        rintro e w5 ⟨gf, rfl, ho, hf⟩
        have HO := Lib.hid ho
        have HF := Lib.hid hf
        clear ho hf
        go_wp2_with fail
        go_ret
        exact ⟨_, rfl, by rw [HN.out]; exact ⟨gf, rfl, HO.out⟩, Fr.step (by first | exact ((HFR.out.drewN _).drewN _).drewN _ | exact (HFR.out.drewN _).drewN _ | exact HFR.out.drewN _) HF.out (fun _ h _ => h)⟩
      · obtain ⟨g1, rfl, hva⟩ := hg1 hp1
        obtain ⟨gl, cl, hql, f0, f1, -⟩ := (H.out.keep0 hfr).get k (by omega)
        simp only [Value.slice.injEq, true_and] at hql
        obtain ⟨hql, -⟩ := hql
        rw [hql] at hva
        simp only [Option.some.injEq, Addr.mk.injEq, and_true] at hva
        subst hva
        have hLd : (l.map (·.1)).drop k = l[k].1 :: (l.map (·.1)).drop (k + 1) := by rw [List.drop_eq_getElem_cons (by rw [List.length_map]; omega), List.getElem_map]
        have hisb := (H.out.keep0 hfr).data l[k] (List.getElem_mem _)
        have hdl := HD.out l[k] (List.getElem_mem _)
        clear hg1
        obtain ⟨g2, rfl, hba⟩ := hg2 hp2
        obtain ⟨gE, cE, rE, hqE, -, hoE, -⟩ := (HB.out.keep hfr (fun _ _ h => h)).row (by omega)
        simp only [Value.slice.injEq, true_and] at hqE
        obtain ⟨hqE, -⟩ := hqE
        rw [hqE] at hba
        simp only [Option.some.injEq, Addr.mk.injEq, and_true] at hba
        subst hba
        have hge := entCells_get E k (by omega)
        have e0 := hoE.cell (i := k * 3) (by rw [List.getElem?_append_left (by simp; omega)]; exact hge.1)
        have e1 := hoE.cell (i := k * 3 + 1) (by rw [List.getElem?_append_left (by simp; omega)]; exact hge.2.1)
        have e2 := hoE.cell (i := k * 3 + 2) (by rw [List.getElem?_append_left (by simp; omega)]; exact hge.2.2)
        have hEd : E.drop k = E[k] :: E.drop (k + 1) := List.drop_eq_getElem_cons (by omega)
        clear hge hoE hg2
        have hdk : difN (l.map (·.1)) E = difN (l[k].1 :: (l.map (·.1)).drop (k + 1)) (E[k] :: E.drop (k + 1)) := by rw [HDIF.out, hLd, hEd]
        have HDK := Lib.hid hdk
        clear hdk hLd hEd hfr
        generalize l[k] = lk at *
        generalize E[k] = ek at *
        obtain ⟨⟨nm, dt⟩, dv⟩ := lk
        obtain ⟨en, sz, dg⟩ := ek
        obtain ⟨da, dc, hdq, -⟩ := hisb.shape
        dsimp only at hisb hdl hdq f0 f1 e0 e1 e2 HDK
        subst hdq
        have HIS := Lib.hid hisb
        clear hk1 hk2 hisb
        have z1 : decide ((n1 : Int) > 0) = true := by simp; omega
        have z2 : ((n2 : Int) == 0) = false := by simp; omega
        have z4 : ((n1 : Int) == 0) = false := by simp; omega
        have z3 : (0 : Int) < (n1 : Int) := by omega
        have z5 : (0 : Int) < (n2 : Int) := by omega
        by_cases b1 : Op.bytesLess nm en = true
        · have HN := Lib.hid (show difN (l.map (·.1)) E = some nm by rw [HDK.out]; unfold difN; rw [if_pos b1])
          go_wp2_with fail
          go_quiet (fail)
          go_wp2_with fail
          refine (file_any _ _ _).mono ?_
          rintro e w5 ⟨gf, rfl, ho, hf⟩
          have HO := Lib.hid ho
          have HF := Lib.hid hf
          clear ho hf
          go_wp2_with fail
          go_ret
          exact ⟨_, rfl, by rw [HN.out]; exact ⟨gf, rfl, HO.out⟩, Fr.step (by first | exact ((HFR.out.drewN _).drewN _).drewN _ | exact (HFR.out.drewN _).drewN _ | exact HFR.out.drewN _) HF.out (fun _ h _ => h)⟩
        · have b1' : Op.bytesLess nm en = false := by simpa using b1
          by_cases b2 : Op.bytesLess en nm = true
          · have HN := Lib.hid (show difN (l.map (·.1)) E = some en by rw [HDK.out]; unfold difN; rw [if_neg b1, if_pos b2])
            clear b1
            go_wp2_with fail
            go_quiet (fail)
            go_wp2_with fail
            go_quiet (fail)
            go_wp2_with fail
            refine (file_any _ _ _).mono ?_
            rintro e w5 ⟨gf, rfl, ho, hf⟩
            have HO := Lib.hid ho
            have HF := Lib.hid hf
            clear ho hf
            go_wp2_with fail
            go_ret
            exact ⟨_, rfl, by rw [HN.out]; exact ⟨gf, rfl, HO.out⟩, Fr.step (by first | exact ((HFR.out.drewN _).drewN _).drewN _ | exact (HFR.out.drewN _).drewN _ | exact HFR.out.drewN _) HF.out (fun _ h _ => h)⟩
          · have b2' : Op.bytesLess en nm = false := by simpa using b2
            by_cases hs : dt.length = sz
            · subst hs
              by_cases hdg : dgN dt = dg
              · have HN := Lib.hid (show difN (l.map (·.1)) E = difN ((l.map (·.1)).drop (k + 1)) (E.drop (k + 1)) by rw [HDK.out]; conv => lhs; unfold difN; rw [if_neg b1, if_neg b2, if_pos ⟨rfl, hdg⟩])
                have q2 : (dgOf dt == (dg : Int)) = true := by rw [← hdg, dgN_int]; simp
                have q3 : (dgOf dt != (dg : Int)) = false := by rw [← hdg, dgN_int]; simp
                clear b1 b2 hdg
                go_wp2_with fail
                go_quiet (fail)
                obtain ⟨nq0, hnq0⟩ : ∃ n, n = nq := ⟨_, rfl⟩
                subst hnq0
                go_wp2_with fail
                go_quiet (fail)
                go_wp2_with fail
                have hQ := ((Fr.refl (fun _ => False) wr).drewN nq0).drewN nq
                have HISQ := Lib.hid (HIS.out.keep0 hQ)
                have HFRQ := Lib.hid (HFR.out.step hQ (fun _ h _ => h))
                replace f0 := hQ.cell f0 id
                replace f1 := hQ.cell f1 id
                replace e0 := hQ.cell e0 id
                replace e1 := hQ.cell e1 id
                replace e2 := hQ.cell e2 id
                clear hQ HIS HFR
                generalize (wr.drewN nq0).drewN nq = wq at *
                have HDG := Lib.hid (fun n => (digest_any (.slice da dt.length dc) dt (wq.drewN n) (HISQ.out.keep0 ((Fr.refl _ _).drewN n))).mono (fun (e : Ending) (w' : World) (h : e = .returned (.int .u64 (dgOf dt)) ∧ wq.drewN n = w') => (⟨h.1, h.2.symm⟩ : e = .returned (.int .u64 (dgOf dt)) ∧ w' = wq.drewN n)))
                go_quiet ((go_at_call 69; exact Calls.quiet_of_same (HDG.out _)))
                go_wp2_with fail
                have s1 : ¬ (n1 : Int) < 1 := by omega
                have s2 : ¬ (n2 : Int) < 1 := by omega
                have s3 : ¬ (c : Int) < n1 := by omega
                have s4 : ¬ (cc : Int) < n2 := by omega
                go_quiet (fail)
                go_wp2_with fail
                refine ⟨⟨k + 1, n1 - 1, n2 - 1, by have := HK1.out; omega, by have := HK2.out; omega, ⟨_, _, rfl, by omega, by omega, fun hp => ⟨gl, ?_, by first | rfl | assumption⟩⟩, ⟨_, _, rfl, by omega, by omega, fun hp => ⟨gE, ?_, by first | rfl | assumption⟩⟩, (HFRQ.out.drewN _).drewN _, HN.out⟩, by simp [lenV]; omega⟩
                · rw [if_neg (by omega), show (k + 1) * 2 = k * 2 + 2 by omega]
                · rw [if_neg (by omega), show (k + 1) * 3 = k * 3 + 3 by omega]
              · have HN := Lib.hid (show difN (l.map (·.1)) E = some nm by rw [HDK.out]; unfold difN; rw [if_neg b1, if_neg b2, if_neg (fun h => hdg h.2)])
                have q2 : (dgOf dt == (dg : Int)) = false := by rw [← dgN_int]; simp; omega
                have q3 : (dgOf dt != (dg : Int)) = true := by rw [← dgN_int]; simp; omega
                clear b1 b2 hdg
                go_wp2_with fail
                go_quiet (fail)
                obtain ⟨nq0, hnq0⟩ : ∃ n, n = nq := ⟨_, rfl⟩
                subst hnq0
                go_wp2_with fail
                go_quiet (fail)
                go_wp2_with fail
                have hQ := ((Fr.refl (fun _ => False) wr).drewN nq0).drewN nq
                have HISQ := Lib.hid (HIS.out.keep0 hQ)
                have HFRQ := Lib.hid (HFR.out.step hQ (fun _ h _ => h))
                replace f0 := hQ.cell f0 id
                replace f1 := hQ.cell f1 id
                replace e0 := hQ.cell e0 id
                replace e1 := hQ.cell e1 id
                replace e2 := hQ.cell e2 id
                clear hQ HIS HFR
                generalize (wr.drewN nq0).drewN nq = wq at *
                have HDG := Lib.hid (fun n => (digest_any (.slice da dt.length dc) dt (wq.drewN n) (HISQ.out.keep0 ((Fr.refl _ _).drewN n))).mono (fun (e : Ending) (w' : World) (h : e = .returned (.int .u64 (dgOf dt)) ∧ wq.drewN n = w') => (⟨h.1, h.2.symm⟩ : e = .returned (.int .u64 (dgOf dt)) ∧ w' = wq.drewN n)))
                go_quiet ((go_at_call 69; exact Calls.quiet_of_same (HDG.out _)))
                go_wp2_with fail
                refine (file_any _ _ _).mono ?_
                rintro e w5 ⟨gf, rfl, ho, hf⟩
                have HO := Lib.hid ho
                have HF := Lib.hid hf
                clear ho hf
                go_wp2_with fail
                go_ret
                exact ⟨_, rfl, by rw [HN.out]; exact ⟨gf, rfl, HO.out⟩, Fr.step (by first | exact ((HFRQ.out.drewN _).drewN _).drewN _ | exact (HFRQ.out.drewN _).drewN _ | exact HFRQ.out.drewN _) HF.out (fun _ h _ => h)⟩
            · have HN := Lib.hid (show difN (l.map (·.1)) E = some nm by rw [HDK.out]; unfold difN; rw [if_neg b1, if_neg b2, if_neg (fun h => hs h.1)])
              have q1 : ((dt.length : Int) == (sz : Int)) = false := by simp; omega
              have q4 : ((dt.length : Int) != (sz : Int)) = true := by simp; omega
              clear b1 b2 hs
              go_wp2_with fail
              go_quiet (fail)
              go_wp2_with fail
              go_quiet (fail)
              go_wp2_with fail
              go_quiet (fail)
              go_wp2_with fail
              refine (file_any _ _ _).mono ?_
              rintro e w5 ⟨gf, rfl, ho, hf⟩
              have HO := Lib.hid ho
              have HF := Lib.hid hf
              clear ho hf
              go_wp2_with fail
              go_ret
              exact ⟨_, rfl, by rw [HN.out]; exact ⟨gf, rfl, HO.out⟩, Fr.step (by first | exact ((HFR.out.drewN _).drewN _).drewN _ | exact (HFR.out.drewN _).drewN _ | exact HFR.out.drewN _) HF.out (fun _ h _ => h)⟩
end Go.Proofs.YtlcdgbhigfgehabGreatDoor
/- The fronts of Read: mirror.Read, plain.Read. -/
namespace Go.Proofs.YtlcdgbhigfgehabGreatDoor
open Go.RowKit
set_option maxRecDepth 100000

/-- What a Batch that came out says. -/
def Says (w : World) (B : Nat) (s : List UInt8) (b0 b1 b2 : Value) : Prop := match readOf s with
  | none => b0 = .int .i64 0 ∧ b1 = .slice none 0 0 ∧ b2 = .slice none 0 0
  | some x => ∃ mt, b0 = .int .i64 x.block ∧ Vec w B 152 3 b1 x.basis.length (entCells x.basis) ∧ Targs w B b2 mt ∧ mt.map (·.t) = x.targs
theorem Says.keep {w w1 : World} {B B' : Nat} {s : List UInt8} {b0 b1 b2 : Value} {S : Nat → Prop} (h : Says w B s b0 b1 b2) (k : Fr S w w1) (hS : ∀ b, S b → b < B) (hB : B' ≤ B) : Says w1 B' s b0 b1 b2 := by
  unfold Says at h ⊢
  cases hr : readOf s with
  | none => rw [hr] at h; exact h
  | some x =>
    rw [hr] at h
    obtain ⟨mt, h1, h2, h3, h4⟩ := h
    exact ⟨mt, h1, (h2.keep k (fun b hb hs => by have := (h2.lt b hb).1; have := hS b hs; omega)).mono hB, (h3.below k hS).lift hB, h4⟩
def okK (s : List UInt8) : Int := if (readOf s).isSome then 0 else 5
theorem RdPost.says {w w' : World} {s : List UInt8} {e : Ending} (h : RdPost w s e w') : ∃ b0 b1 b2, e = .returned (.tuple #[.agg #[b0, b1, b2], kindErr (okK s)]) ∧ (∃ n a1 m1 c1 a2 m2 c2, b0 = .int .i64 n ∧ b1 = .slice a1 m1 c1 ∧ b2 = .slice a2 m2 c2) ∧ Says w' w.heap.size s b0 b1 b2 ∧ Fr (fun _ => False) w w' := by
  obtain ⟨xv, ev, rfl, hf, hm⟩ := h
  unfold Says okK
  cases hr : readOf s with
  | none =>
    rw [hr] at hm
    obtain ⟨rfl, rfl⟩ := hm
    exact ⟨_, _, _, rfl, ⟨_, _, _, _, _, _, _, rfl, rfl, rfl⟩, ⟨rfl, rfl, rfl⟩, hf⟩
  | some x =>
    rw [hr] at hm
    obtain ⟨bv, tv, mt, rfl, rfl, h1, h2, h3⟩ := hm
    obtain ⟨a1, c1, e1, -⟩ := h1.shape
    obtain ⟨a2, c2, e2, -⟩ := h2.vec.shape
    exact ⟨_, _, _, rfl, ⟨_, _, _, _, _, _, _, rfl, e1, e2⟩, ⟨mt, rfl, h1, h2, h3⟩, hf⟩
end Go.Proofs.YtlcdgbhigfgehabGreatDoor
/- A batch's files, made of a mirror's tree. -/
namespace Go.Proofs.YtlcdgbhigfgehabGreatDoor
open Go.RowKit
set_option maxRecDepth 100000

/-- What a plan gives. -/
def PlanM (w w' : World) (x y : Value) : Err ⊕ List Fil → Prop
  | .inl er => x = .slice none 0 0 ∧ IsErr w' y er
  | .inr l => y = .nilIface ∧ ∃ m, KFils w' w.heap.size x m ∧ m.map (·.1) = l
def PlanPost (w : World) (r : Err ⊕ List Fil) (e : Ending) (w' : World) : Prop := ∃ x y, e = .returned (.tuple #[x, y]) ∧ Fr (fun _ => False) w w' ∧ PlanM w w' x y r
theorem PlanPost.bad {w w' : World} {r : Err ⊕ List Fil} {y : Value} {er : Err} (hr : r = .inl er) (h : IsErr w' y er) (hf : Fr (fun _ => False) w w') : PlanPost w r (.returned (.tuple #[.slice none 0 0, y])) w' := by
  subst hr; exact ⟨_, _, rfl, hf, rfl, h⟩
theorem PlanPost.good {w w' : World} {r : Err ⊕ List Fil} {x : Value} {l : List Fil} {m : List (Fil × Value)} (hr : r = .inr l) (h : KFils w' w.heap.size x m) (hm : m.map (·.1) = l) (hf : Fr (fun _ => False) w w') : PlanPost w r (.returned (.tuple #[x, .nilIface])) w' := by
  subst hr; exact ⟨_, _, rfl, hf, rfl, m, h, hm⟩
theorem applyK_ne {base : List UInt8} {block : Int} {ts : List Tok} {e : Int} (h : applyK base block ts = .inl e) : e ≠ 0 := by
  unfold applyK at h
  split at h
  · rcases applyF_err base block.toNat ts [] e h with rfl | rfl <;> omega
  · rename_i hs
    simp only [Sum.inl.injEq] at h
    omega
theorem applyK_len {base : List UInt8} {block : Int} {ts : List Tok} {d : List UInt8} (h : applyK base block ts = .inr d) : d.length ≤ 300 := by
  unfold applyK at h
  split at h
  · exact applyF_len _ _ _ _ _ (by simp) h
  · cases h
theorem takeT_step (tr : List Fil) (blk : Nat) (l : List Targ) (k : Nat) (h : k < l.length) (acc : List Fil) : takeT tr blk (l.drop k) acc = match applyK (baseOf tr l[k].ent.name) blk l[k].toks with
    | .inl _ => .inl (.file ⟨l[k].ent.name.toArray⟩ 11)
    | .inr d => if dgN d = l[k].ent.dig then takeT tr blk (l.drop (k + 1)) (acc ++ [⟨l[k].ent.name, d⟩]) else .inl (.file ⟨l[k].ent.name.toArray⟩ 11) := by
  rw [List.drop_eq_getElem_cons h]; rfl
theorem roomOf_take (l : List Targ) (k : Nat) (h : k < l.length) : roomOf (l.take (k + 1)) = roomOf (l.take k) + l[k].ent.size := by
  unfold roomOf
  rw [List.take_succ_eq_append_getElem h, List.map_append, List.map_cons, List.map_nil, List.sum_append, List.sum_cons, List.sum_nil, Nat.add_zero]
theorem roomOf_le (l : List Targ) (h : ∀ t ∈ l, t.ent.size ≤ 300) (k : Nat) : roomOf (l.take k) ≤ 300 * k := by
  induction k with
  | zero => simp [roomOf]
  | succ k ih =>
    by_cases hk : k < l.length
    · rw [roomOf_take l k hk]
      have := h l[k] (List.getElem_mem _)
      omega
    · rw [List.take_of_length_le (by omega)]
      rw [List.take_of_length_le (by omega)] at ih
      omega
set_option maxHeartbeats 4000000 in
theorem plan_any (gm gd B : Nat) (tr : List Fil) (s room : Int) (down : Bool) (live : Int) (x y : Value) (st c : Int) (m : List (Fil × Value)) (db dof dcap : Nat) (bs : List UInt8) (T : TypeId) (u : Value) (w : World)
    (hmi : MirC w gm gd s room down) (hd : DiskL w gd live x y st c) (hk : KFils w B x m) (hm : m.map (·.1) = tr) (ht : IsTree tr) (hr : 0 ≤ room ∧ room ≤ 1048576) (hb : IsB w (.slice (some ⟨db, dof, none⟩) bs.length dcap) bs)
    (hf : w.cell? ⟨1, 0, none⟩ = some (.iface T u)) :
    Calls Tryz.prog 36 #[.pointer (some ⟨gm, 0, none⟩), .slice (some ⟨db, dof, none⟩) bs.length dcap] w (PlanPost w (planK tr room bs)) := by
  have HRD := Lib.hid (bread_any w db dof dcap bs T u hb hf)
  have HMI := Lib.hid hmi
  have HD := Lib.hid hd
  have HK := Lib.hid hk
  have HM := Lib.hid hm
  have HT := Lib.hid ht
  have htd := tree_data hm ht
  have HTD := Lib.hid htd
  clear hmi hd hk hm ht hb hf
  cases hro : readOf bs with
  | none =>
    have HP := Lib.hid (plan_none (tree := tr) (room := room) hro)
    go_enter Tryz.func36, Tryz.ntmps36
    go_wp2_with fail
    refine HRD.out.mono ?_
    rintro e w1 ⟨xv, ev, rfl, hf1, hmt⟩
    rw [hro] at hmt
    obtain ⟨rfl, rfl⟩ := hmt
    clear hro
    go_wp2_with fail
    go_ret2
    exact PlanPost.bad HP.out rfl (hf1.alloc _)
  | some xb =>
    have hok := readOf_ok hro
    have hpl : planK tr room bs = planB tr room xb := by unfold planK; rw [hro]
    have HPL := Lib.hid hpl
    have HOK := Lib.hid hok
    have HRO := Lib.hid hro
    have hnb := hok.nb
    have hnt := hok.nt
    clear hok hro hpl htd
    go_enter Tryz.func36, Tryz.ntmps36
    go_wp2_with fail
    refine HRD.out.mono ?_
    rintro e w1 ⟨xv, ev, rfl, hf1, hmt⟩
    rw [HRO.out] at hmt
    obtain ⟨bv, tv, mt, rfl, rfl, hbv, htv, hmt⟩ := hmt
    obtain ⟨ba, bc, rfl, -⟩ := hbv.shape
    obtain ⟨ta, tc, rfl, -⟩ := htv.vec.shape
    have hA := (Fr.refl (fun _ => False) w1).alloc (.cells #[.int .i64 xb.block, .slice ba xb.basis.length bc, .slice ta mt.length tc] 146)
    have HX := Lib.hid (Own.alloc w1 #[.int .i64 xb.block, .slice ba xb.basis.length bc, .slice ta mt.length tc] 146)
    have HBV := Lib.hid (hbv.keep hA (fun _ _ h => h))
    have HTV := Lib.hid (htv.below hA (fun _ h => h.elim))
    have HMT := Lib.hid hmt
    have HF := Lib.hid (hf1.step hA (fun _ h _ => h))
    have hz1 := hf1.size
    have hzA := hA.size
    have hml : mt.length = xb.targs.length := by rw [← hmt, List.length_map]
    have hm8 : mt.length ≤ 8 := by omega
    have HML := Lib.hid hml
    obtain ⟨xg, hxg⟩ : ∃ xg, w1.heap.size = xg := ⟨_, rfl⟩
    rw [hxg] at HX
    have hxgw : w.heap.size ≤ xg := by omega
    clear hbv htv hmt hf1 hml hA
    have m2 := (Own.keep HMI.out HF.out id).cell (i := 2) rfl
    have m3 := (Own.keep HMI.out HF.out id).cell (i := 3) rfl
    have x0 := HX.out.cell (i := 0) rfl
    have x1 := HX.out.cell (i := 1) rfl
    have x2 := HX.out.cell (i := 2) rfl
    go_wp2_with fail
    generalize w1.alloc (.cells #[.int .i64 xb.block, .slice ba xb.basis.length bc, .slice ta mt.length tc] 146) = wX at *
    refine (dtree_any gd live x y st c wX (HD.out.keep HF.out id)).mono ?_
    rintro e w2 ⟨rfl, f2⟩
    obtain ⟨xa, xc, hxs, -⟩ := HK.out.vec.shape
    subst hxs
    have HF2 := Lib.hid (HF.out.step f2 (fun _ h _ => h))
    have HX2 := Lib.hid (HX.out.keep f2 id)
    have HBV2 := Lib.hid (HBV.out.keep f2 (fun _ _ h => h))
    have HTV2 := Lib.hid (HTV.out.below f2 (fun _ h => h.elim))
    replace x0 := f2.cell x0 id
    replace x1 := f2.cell x1 id
    replace x2 := f2.cell x2 id
    clear f2 HF HX HBV HTV m2 m3
    go_wp2_with fail
    refine (differs_any _ _ m xb.basis B w.heap.size w2 (HK.out.keep0 HF2.out).fils (HBV2.out.mono (by omega)) HTD.out.2.2 hnb HTD.out.1).mono ?_
    rintro e w3 ⟨dy, rfl, hdy, f3⟩
    have hdn : difN (m.map (·.1)) xb.basis = difN tr xb.basis := by rw [HM.out]
    rw [hdn] at hdy
    have HF3 := Lib.hid (HF2.out.step f3 (fun _ h _ => h))
    have HX3 := Lib.hid (HX2.out.keep f3 id)
    have HTV3 := Lib.hid (HTV2.out.below f3 (fun _ h => h.elim))
    clear x0 x1 x2
    have x0 := HX3.out.cell (i := 0) rfl
    have x2 := HX3.out.cell (i := 2) rfl
    have m3 := (Own.keep HMI.out HF3.out id).cell (i := 3) rfl
    cases hdc : difN tr xb.basis with
    | some n =>
      rw [hdc] at hdy
      obtain ⟨gf, rfl, hgf⟩ := hdy
      have HGF := Lib.hid hgf
      have HP := Lib.hid (show planK tr room bs = .inl (.file ⟨n.toArray⟩ 9) by rw [HPL.out]; unfold planB; rw [hdc])
      clear hgf hdc hdn
      go_wp2_with fail
      go_ret2
      exact PlanPost.bad HP.out ⟨gf, rfl, HGF.out⟩ HF3.out
    | none =>
      rw [hdc] at hdy
      obtain rfl : dy = .nilIface := hdy
      have HP := Lib.hid (show planK tr room bs = if room < roomOf xb.targs then .inl (.kind 10) else takeT tr xb.block xb.targs [] by rw [HPL.out]; unfold planB; rw [hdc])
      clear hdc hdn f3 HF2 HX2 HBV2 HTV2 HPL HRO
      have hmm := @run_makeMap Tryz.prog
      have HA3 := Lib.hid ((Fr.refl (fun _ => False) w3).alloc (.map #[] 0))
      have HBS4 := Lib.hid (Bases.made w3)
      have hmb4 : w3.heap.size < (w3.alloc (.map #[] 0)).heap.size := by simp
      have hz3 := HF3.out.size
      obtain ⟨mb, hmb⟩ : ∃ mb, w3.heap.size = mb := ⟨_, rfl⟩
      rw [hmb] at HBS4 hmb4
      have hmbw : w.heap.size ≤ mb := by omega
      clear x0 x2 m3
      go_wp2_with fail
      generalize w3.alloc (.map #[] 0) = w4 at *
      have hl8 := HTD.out.2.2
      go_loopw [44] (fun iv wr => ∃ k : Nat, k ≤ m.length ∧ iv = .int .i64 k ∧ Fr (fun _ => False) w3 wr ∧ mb < wr.heap.size ∧ Bases wr mb k (m.take k)) (fun iv _ => m.length - (intOf iv).toNat)
      case atStart => exact ⟨0, Nat.zero_le _, rfl, HA3.out, hmb4, HBS4.out⟩
      case round =>
        obtain ⟨k, hk, rfl, hfr, hmz, hbs⟩ := hrel
        have HFR := Lib.hid hfr
        have HBS := Lib.hid hbs
        have hwz := hfr.size
        clear hbs
        by_cases hlt : k < m.length
        · have hfl := (HK.out.keep0 (HF3.out.step hfr (fun _ h _ => h))).fils
          obtain ⟨g, cap, hq, e0, e1, hgl⟩ := hfl.get k hlt
          simp only [Value.slice.injEq, true_and] at hq
          obtain ⟨rfl, rfl⟩ := hq
          obtain ⟨da, dc, hdv, -⟩ := (hfl.data m[k] (List.getElem_mem _)).shape
          have htk : m.take (k + 1) = m.take k ++ [m[k]] := List.take_succ_eq_append_getElem hlt
          have hnl := HTD.out.2.1 m[k] (List.getElem_mem _)
          clear hfl hfr
          obtain ⟨f, hf⟩ : ∃ f, m[k] = f := ⟨_, rfl⟩
          rw [hf] at hdv htk e0 e1 hnl
          obtain ⟨⟨fn, d⟩, dv⟩ := f
          simp only at hdv htk e0 e1 hnl
          obtain ⟨nm, hnm⟩ : ∃ nm : ByteArray, nm = ⟨fn.toArray⟩ := ⟨_, rfl⟩
          have hnd : fn = nm.data.toList := by rw [hnm]
          rw [← hnm] at e0
          subst hnd
          have hns : nm.size ≤ 1000 := by
            have : nm.data.toList.length = nm.size := by simp
            omega
          subst hdv
          have HTK := Lib.hid htk
          clear hnm hf htk hnl
          have hA : Fr (fun _ => False) wr (wr.alloc (.cells #[.string nm, .slice da d.length dc] 37)) := (Fr.refl _ _).alloc _
          have HA := Lib.hid hA
          have hzA := hA.size
          have hbs2 := HBS.out.keep hA id
          obtain ⟨w6, r1, r2, r3⟩ := hbs2.put (by unfold maxLen; omega) nm d (.slice da d.length dc) hns
          have HF6 := Lib.hid ((HFR.out.step hA (fun _ h _ => h)).step r3 (fun b hb hl => by omega))
          have HB6 := Lib.hid r2
          have hz6 : mb < w6.heap.size := by have := r3.size; omega
          clear hA hbs2 r2 r3
          go_wp2_with fail
          exact ⟨⟨k + 1, by omega, by go_num, HF6.out, hz6, by rw [HTK.out]; exact HB6.out⟩, by simp [intOf]; omega⟩
        · obtain rfl : k = m.length := by omega
          clear hfr
          rw [List.take_length] at HBS
          have HF5 := Lib.hid (HF3.out.step HFR.out (fun _ h _ => h))
          have m3 := (Own.keep HMI.out HF5.out id).cell (i := 3) rfl
          have HX5 := Lib.hid (HX3.out.keep HFR.out id)
          have HTV5 := Lib.hid (HTV3.out.below HFR.out (fun _ h => h.elim))
          have x2 := HX5.out.cell (i := 2) rfl
          clear HX3 HTV3 HF3 HFR HA3 HBS4
          obtain ⟨w5, hw5⟩ : ∃ w5, w5 = wr := ⟨_, rfl⟩
          subst hw5
          have hz5 := HF5.out.size
          go_wp2_with fail
          go_loopw [13, 61] (fun rv iv wr => ∃ k : Nat, k ≤ mt.length ∧ iv = .int .i64 k ∧ rv = .int .i64 (room - (roomOf (xb.targs.take k) : Nat)) ∧ Fr (fun _ => False) w5 wr) (fun _ iv _ => mt.length - (intOf iv).toNat)
          case atStart => exact ⟨0, Nat.zero_le _, rfl, by simp [roomOf], Fr.refl _ _⟩
          case round =>
            obtain ⟨k, hk, rfl, rfl, hfr⟩ := hrel
            have HFR := Lib.hid hfr
            have hwz := hfr.size
            have hrb := roomOf_le xb.targs (fun t ht => (HOK.out.ts t ht).2.1) k
            by_cases hlt : k < mt.length
            · have hkt : k < xb.targs.length := by rw [← HML.out]; exact hlt
              have hsu := roomOf_take xb.targs k hkt
              have htk : xb.targs[k] = mt[k].t := by
                have := congrArg (·[k]?) HMT.out
                simp only [List.getElem?_map, List.getElem?_eq_getElem hlt, List.getElem?_eq_getElem hkt, Option.map_some, Option.some.injEq] at this
                exact this.symm
              have hsz := (HOK.out.ts xb.targs[k] (List.getElem_mem _)).2.1
              rw [htk] at hsu hsz
              have htt := HTV5.out.below hfr (fun _ h => h.elim)
              obtain ⟨gT, cT, rT, hqT, -, hoT, -⟩ := htt.vec.row (by omega)
              simp only [Value.slice.injEq, true_and] at hqT
              obtain ⟨rfl, rfl⟩ := hqT
              have hge := targCells_get mt k hlt
              have t0 := hoT.cell (i := k * 4) (by rw [List.getElem?_append_left (by simp; omega)]; exact hge.1)
              have t1 := hoT.cell (i := k * 4 + 1) (by rw [List.getElem?_append_left (by simp; omega)]; exact hge.2.1)
              have t2 := hoT.cell (i := k * 4 + 2) (by rw [List.getElem?_append_left (by simp; omega)]; exact hge.2.2.1)
              have t3 := hoT.cell (i := k * 4 + 3) (by rw [List.getElem?_append_left (by simp; omega)]; exact hge.2.2.2)
              obtain ⟨va, vc, hvq, -⟩ := (htt.toks mt[k] (List.getElem_mem _)).1.vec.shape
              rw [hvq] at t3
              clear hge hoT htt hfr htk
              obtain ⟨R, hR⟩ : ∃ R, roomOf (xb.targs.take k) = R := ⟨_, rfl⟩
              rw [hR] at hsu hrb ⊢
              have HSU := Lib.hid hsu
              clear hR hsu hvq
              generalize mt[k].t = tk at *
              generalize mt[k].l.length = tl at *
              obtain ⟨⟨tn, ts, tdg⟩, tts⟩ := tk
              dsimp only at hsz t0 t1 t2 HSU
              have hw : wrap64 (room - (R : Int) - (ts : Int)) = room - (R : Int) - (ts : Int) := IntWalk.wrap64_in _ (by omega)
              go_wp2_with fail
              exact ⟨⟨k + 1, by omega, by go_num, by rw [HSU.out]; congr 1; omega, HFR.out.alloc _⟩, by simp [intOf]; omega⟩
            · obtain rfl : k = mt.length := by omega
              clear hfr
              have HF6 := Lib.hid (HF5.out.step HFR.out (fun _ h _ => h))
              have HX6 := Lib.hid (HX5.out.keep HFR.out id)
              have HTV6 := Lib.hid (HTV5.out.below HFR.out (fun _ h => h.elim))
              have HBS6 := Lib.hid (HBS.out.keep HFR.out id)
              have x0 := HX6.out.cell (i := 0) rfl
              have x2 := HX6.out.cell (i := 2) rfl
              have htl : xb.targs.take mt.length = xb.targs := List.take_of_length_le (by rw [HML.out]; exact Nat.le_refl _)
              rw [htl] at hrb ⊢
              clear HX5 HTV5 HBS htl
              obtain ⟨w6, hw6⟩ : ∃ w6, w6 = wr := ⟨_, rfl⟩
              subst hw6
              by_cases hroom : room < (roomOf xb.targs : Nat)
              · have HP2 := Lib.hid (show planK tr room bs = .inl (.kind 10) by rw [HP.out, if_pos hroom])
                have hd1 : decide (room - ((roomOf xb.targs : Nat) : Int) < 0) = true := by simp; omega
                go_wp2_with fail
                go_ret2
                exact PlanPost.bad HP2.out rfl HF6.out
              · have HP2 := Lib.hid (show planK tr room bs = takeT tr xb.block xb.targs [] by rw [HP.out, if_neg hroom])
                have hd1 : decide (room - ((roomOf xb.targs : Nat) : Int) < 0) = false := by simp; omega
                have hz6 := HF6.out.size
                clear hroom hrb
                go_wp2_with fail
                clear hd1
                go_loopw [16, 77] (fun ov iv wr => ∃ (k : Nat) (mo : List (Fil × Value)), k ≤ mt.length ∧ iv = .int .i64 k ∧ mo.length = k ∧ Fr (fun _ => False) w6 wr ∧ KFils wr w6.heap.size ov mo ∧ planK tr room bs = takeT tr xb.block (xb.targs.drop k) (mo.map (·.1))) (fun _ iv _ => mt.length - (intOf iv).toNat)
                case atStart => exact ⟨0, [], Nat.zero_le _, rfl, rfl, Fr.refl _ _, KFils.nil _ _, HP2.out⟩
                case round =>
                  obtain ⟨k, mo, hk, rfl, hmo, hfr, hko, hpk⟩ := hrel
                  obtain ⟨oa, oc, rfl, -⟩ := hko.vec.shape
                  have HFR := Lib.hid hfr
                  have HKO := Lib.hid hko
                  have HPK := Lib.hid hpk
                  have HMO := Lib.hid hmo
                  have hwz := hfr.size
                  have hmo8 : mo.length ≤ 8 := by omega
                  clear hko hpk hmo
                  by_cases hlt : k < mt.length
                  · have hkt : k < xb.targs.length := by rw [← HML.out]; exact hlt
                    have hts := takeT_step tr xb.block xb.targs k hkt (mo.map (·.1))
                    have htk : xb.targs[k] = mt[k].t := by
                      have := congrArg (·[k]?) HMT.out
                      simp only [List.getElem?_map, List.getElem?_eq_getElem hlt, List.getElem?_eq_getElem hkt, Option.map_some, Option.some.injEq] at this
                      exact this.symm
                    have hsz := HOK.out.ts xb.targs[k] (List.getElem_mem _)
                    rw [htk] at hts hsz
                    have htt := HTV6.out.below hfr (fun _ h => h.elim)
                    obtain ⟨gT, cT, rT, hqT, -, hoT, -⟩ := htt.vec.row (by omega)
                    simp only [Value.slice.injEq, true_and] at hqT
                    obtain ⟨rfl, rfl⟩ := hqT
                    have hge := targCells_get mt k hlt
                    have t0 := hoT.cell (i := k * 4) (by rw [List.getElem?_append_left (by simp; omega)]; exact hge.1)
                    have t1 := hoT.cell (i := k * 4 + 1) (by rw [List.getElem?_append_left (by simp; omega)]; exact hge.2.1)
                    have t2 := hoT.cell (i := k * 4 + 2) (by rw [List.getElem?_append_left (by simp; omega)]; exact hge.2.2.1)
                    have t3 := hoT.cell (i := k * 4 + 3) (by rw [List.getElem?_append_left (by simp; omega)]; exact hge.2.2.2)
                    have hto := htt.toks mt[k] (List.getElem_mem _)
                    obtain ⟨va, vc, hvq, -⟩ := hto.1.vec.shape
                    rw [hvq] at t3
                    have hto1 := hto.1.toks
                    rw [hvq] at hto1
                    have hto2 := hto.2
                    clear hge hoT htt hfr htk hto hvq
                    generalize mt[k].t = tk at *
                    generalize mt[k].l = tl at *
                    obtain ⟨⟨tn, ts, tdg⟩, tts⟩ := tk
                    dsimp only at hsz t0 t1 t2 hts hto2
                    have hnl : tn.length ≤ 12 := by
                      have h3 := hsz.1
                      unfold isName at h3
                      simp at h3
                      omega
                    obtain ⟨nm, hnm⟩ : ∃ nm : ByteArray, nm = ⟨tn.toArray⟩ := ⟨_, rfl⟩
                    have hnd : tn = nm.data.toList := by rw [hnm]
                    rw [← hnm] at t0 hts
                    subst hnd
                    have hns : nm.size ≤ 1000 := by
                      have : nm.data.toList.length = nm.size := by simp
                      omega
                    have hk255 : ∀ p ∈ tl, p.1.d.length ≤ 1000 := fun p hp => hsz.2.2 p.1 (by rw [← hto2]; exact List.mem_map_of_mem hp)
                    have HNM := Lib.hid hnm
                    have HTS := Lib.hid hts
                    have HTO2 := Lib.hid hto2
                    have HK255 := Lib.hid hk255
                    have hA : Fr (fun _ => False) wr (wr.alloc (.cells #[.string nm, .int .i64 ts, .int .u64 tdg, .slice va tl.length vc] 155)) := (Fr.refl _ _).alloc _
                    have HA := Lib.hid hA
                    have HO := Lib.hid (Own.alloc wr #[.string nm, .int .i64 ts, .int .u64 tdg, .slice va tl.length vc] 155)
                    have HTO := Lib.hid (hto1.keep0 hA)
                    have hzA := hA.size
                    have hk6 : Fr (fun _ => False) w6 (wr.alloc (.cells #[.string nm, .int .i64 ts, .int .u64 tdg, .slice va tl.length vc] 155)) := HFR.out.step hA (fun _ h _ => h)
                    have hlook := (HBS6.out.keep hk6 id).look nm hns
                    have hlb := lastV_isB (l := m) (fun p hp => ((HK.out.keep0 (HF6.out.step hk6 (fun _ h _ => h))).fils).data p hp) nm.data.toList
                    have hbase : (lastOf (m.map (·.1)) nm.data.toList).getD [] = baseOf tr nm.data.toList := by
                      unfold baseOf
                      rw [HM.out, find_last _ HT.out.up]
                    rw [hbase] at hlb
                    obtain ⟨base, hbe⟩ : ∃ base, baseOf tr nm.data.toList = base := ⟨_, rfl⟩
                    rw [hbe] at hlb HTS
                    obtain ⟨V, hV⟩ : ∃ V, (lastV m nm.data.toList).getD (.slice none 0 0) = V := ⟨_, rfl⟩
                    rw [hV] at hlb hlook
                    obtain ⟨la, lc, hls, -⟩ := hlb.shape
                    subst hls
                    have HLB := Lib.hid hlb
                    have x0' := (HX6.out.keep hk6 id).cell (i := 0) rfl
                    clear hto1 hto2 hA hk6 hbase hbe hV hlb hts hnm hk255 hsz hnl
                    go_wp2_with fail
                    refine (apply_any _ _ base tl xb.block w.heap.size _ HLB.out HTO.out HK255.out).mono ?_
                    rintro e w7 ⟨dv, kk, rfl, hap, hf7⟩
                    rw [HTO2.out] at hap
                    have HF7 := Lib.hid (HA.out.step hf7 (fun _ h _ => h))
                    have HO7 := Lib.hid (HO.out.keep hf7 id)
                    have hz7 := hf7.size
                    have y0 := HO7.out.cell (i := 0) rfl
                    have y2 := HO7.out.cell (i := 2) rfl
                    clear hf7 hlook x0' t0 t1 t2 t3
                    cases hr : applyK base xb.block tts with
                    | inl er =>
                      have hne := applyK_ne hr
                      rw [hr] at hap
                      obtain ⟨rfl, rfl⟩ := hap
                      have hke : kindErr kk = .iface 30 (.int .i64 kk) := if_neg hne
                      rw [hke]
                      have HP3 := Lib.hid (show planK tr room bs = .inl (.file nm 11) by rw [HPK.out, HTS.out, hr])
                      clear hr hne hke
                      go_wp2_with fail
                      go_quiet (fail)
                      go_wp2_with fail
                      refine (file_any _ _ _).mono ?_
                      rintro e w8 ⟨gf, rfl, ho8, hf8⟩
                      have HO8 := Lib.hid ho8
                      have HF8 := Lib.hid hf8
                      clear ho8 hf8
                      go_wp2_with fail
                      go_ret2
                      exact PlanPost.bad HP3.out ⟨gf, rfl, HO8.out⟩ (((HF6.out.step HFR.out (fun _ h _ => h)).step HF7.out (fun _ h _ => h)).step (((Fr.refl (fun _ => False) w7).drewN _).step HF8.out (fun _ h _ => h)) (fun _ h _ => h))
                    | inr d =>
                      have hd3 := applyK_len hr
                      rw [hr] at hap
                      obtain ⟨rfl, hvd⟩ := hap
                      rw [show kindErr 0 = .nilIface from rfl]
                      obtain ⟨da, dc, hdq, -⟩ := hvd.shape
                      subst hdq
                      have HVD := Lib.hid hvd
                      have HDG := Lib.hid (fun n => (digest_any (.slice da d.length dc) d (w7.drewN n) (hvd.isB.keep0 ((Fr.refl _ _).drewN n))).mono (fun (e : Ending) (w' : World) (h : e = .returned (.int .u64 (dgOf d)) ∧ w7.drewN n = w') => (⟨h.1, h.2.symm⟩ : e = .returned (.int .u64 (dgOf d)) ∧ w' = w7.drewN n)))
                      clear hvd
                      by_cases hdg : dgN d = tdg
                      · have q2 : (dgOf d == (tdg : Int)) = true := by rw [← hdg, dgN_int]; simp
                        have q3 : (dgOf d != (tdg : Int)) = false := by rw [← hdg, dgN_int]; simp
                        have HP3 := Lib.hid (show planK tr room bs = takeT tr xb.block (xb.targs.drop (k + 1)) (mo.map (·.1) ++ [⟨nm.data.toList, d⟩]) by rw [HPK.out, HTS.out, hr]; simp only; rw [if_pos hdg])
                        clear hr hdg
                        go_wp2_with fail
                        go_quiet ((go_at_call 69; exact Calls.quiet_of_same (HDG.out _)))
                        go_upto_region 29 with fail
                        have hF8 : Fr (fun _ => False) w7 (w7.drewN nq) := (Fr.refl _ _).drewN nq
                        have HO8 := Lib.hid (HO7.out.keep hF8 id)
                        have HVD8 := Lib.hid (HVD.out.keep hF8 (fun _ _ h => h))
                        have HF8 := Lib.hid (HF7.out.step hF8 (fun _ h _ => h))
                        have hz8 := hF8.size
                        clear hF8 HDG HF7 HO7 HVD y0 y2
                        generalize w7.drewN nq = w8 at *
                        have y0 := HO8.out.cell (i := 0) rfl
                        go_region_law
                          (first
                            | (go_simp; go_at_call 71; refine (clone_any _ d _ (HVD8.out.isB.keep0 (Fr.drew (Fr.refl _ _))) (by omega)).mono ?_; rintro e w9 ⟨cv, rfl, hcv, hf9⟩; obtain ⟨a9, c9, hs9, -⟩ := hcv.shape; subst hs9; have hk9 := HF8.out.drew.step hf9 (fun _ h _ => h); have y0 := (HO8.out.keep ((Fr.refl (fun _ => False) w8).drew.step hf9 (fun _ h _ => h)) id).cell (i := 0) rfl; have HCV := Lib.hid hcv; have HK9 := Lib.hid hk9; clear hcv hf9 hk9)
                            | (rw [if_pos (by rfl)]; refine wp_append_vec (.tmp 108) (.tmp 115) 23 (by rfl) w6.heap.size 37 2 40 elt_fil (v := .slice oa mo.length oc) (n := mo.length) (xs := filCells mo) ((HKO.out.vec.keep HK9.out (fun _ _ h => h)).keep ((Fr.refl (fun _ => False) _).alloc _) (fun _ _ h => h)) (by rfl) (m := 1) (Reads.new _ _ _ _ (by first | rfl | simp) _ _) (by rfl) (by rfl) (fil_one _ _ _ _) (by unfold maxLen; omega) (by omega) (by have := HK9.out.size; first | omega | (simp; omega)) ?_; intro v10 w10 hv10 hf10 hd10; obtain ⟨a10, c10, hs10, -⟩ := hv10.shape; subst hs10; have HV10 := Lib.hid hv10; have HF10 := Lib.hid hf10; clear hv10 hf10 hd10))
                        all_goals
                          go_wp2_with fail
                          have hA9 : Fr (fun _ => False) w9 (w9.alloc (.cells #[.string nm, .slice a9 d.length c9] 37)) := (Fr.refl _ _).alloc _
                          have hkA := HK9.out.step hA9 (fun _ h _ => h)
                          have hvo := HKO.out.vec.keep hkA (fun _ _ h => h)
                          have hz9 := HK9.out.size
                          refine ⟨⟨k + 1, mo ++ [(⟨nm.data.toList, d⟩, .slice a9 d.length c9)], by omega, by go_num, by rw [List.length_append, HMO.out]; rfl, (HFR.out.step hkA (fun _ h _ => h)).step HF10.out (fun b hb hl => by have := (HKO.out.vec.lt b hb).1; omega), ⟨?_, ?_, ?_⟩, by rw [HP3.out, List.map_append]; rfl⟩, by simp [intOf]; omega⟩
                          · have hv := HV10.out
                            rw [List.length_append, filCells_snoc]
                            rw [show filRow ((⟨nm.data.toList, d⟩ : Fil), Value.slice a9 d.length c9) = [.string nm, .slice a9 d.length c9] from by unfold filRow; rw [ba_eq]]
                            exact hv
                          · intro p hp
                            rcases List.mem_append.1 hp with hp | hp
                            · have h5 := (HKO.out.data p hp).keep hkA (fun _ _ h => h)
                              exact h5.keep HF10.out (fun b hb hb2 => h5.apartV hvo (by decide) b hb hb2)
                            · obtain rfl := List.mem_singleton.1 hp
                              have h5 := (HCV.out.keep hA9 (fun _ _ h => h)).mono (B' := w6.heap.size) (by show _ ≤ w8.heap.size; omega)
                              exact h5.keep HF10.out (fun b hb hb2 => h5.apartV hvo (by decide) b hb hb2)
                          · rw [List.pairwise_append]
                            refine ⟨HKO.out.two, List.pairwise_singleton _ _, fun p hp q hq b hb hb2 => ?_⟩
                            obtain rfl := List.mem_singleton.1 hq
                            have h1 := ((HKO.out.data p hp).lt b hb).2
                            have h2 : w8.heap.size ≤ b := (HCV.out.lt b hb2).1
                            omega
                      · have q2 : (dgOf d == (tdg : Int)) = false := by rw [← dgN_int]; simp; omega
                        have q3 : (dgOf d != (tdg : Int)) = true := by rw [← dgN_int]; simp; omega
                        have HP3 := Lib.hid (show planK tr room bs = .inl (.file nm 11) by rw [HPK.out, HTS.out, hr]; simp only; rw [if_neg hdg])
                        clear hr hdg
                        go_wp2_with fail
                        go_quiet ((go_at_call 69; exact Calls.quiet_of_same (HDG.out _)))
                        go_wp2_with fail
                        refine (file_any _ _ _).mono ?_
                        rintro e w8 ⟨gf, rfl, ho8, hf8⟩
                        have HO8 := Lib.hid ho8
                        have HF8 := Lib.hid hf8
                        clear ho8 hf8
                        go_wp2_with fail
                        go_ret2
                        exact PlanPost.bad HP3.out ⟨gf, rfl, HO8.out⟩ (((HF6.out.step HFR.out (fun _ h _ => h)).step HF7.out (fun _ h _ => h)).step (((Fr.refl (fun _ => False) w7).drewN _).step HF8.out (fun _ h _ => h)) (fun _ h _ => h))
                  · obtain rfl : k = mt.length := by omega
                    clear hfr
                    go_wp2_with fail
                    go_ret2
                    have hdr : xb.targs.drop mt.length = [] := List.drop_eq_nil_of_le (by rw [HML.out]; exact Nat.le_refl _)
                    exact PlanPost.good (l := mo.map (·.1)) (by rw [HPK.out, hdr]; rfl) (HKO.out.lift hz6) rfl (HF6.out.step HFR.out (fun _ h _ => h))
end Go.Proofs.YtlcdgbhigfgehabGreatDoor
/- The disk's Write: a file more beside the tree. -/
namespace Go.Proofs.YtlcdgbhigfgehabGreatDoor
open Go.RowKit
set_option maxRecDepth 100000

theorem write_end {w wA w1 w6 : World} {gd B n : Nat} {y v6 x0 x1 : Value} {live step crash : Int} {xs : List Value} (k : Nat) (hA : Fr (fun _ => False) w wA) (h2 : Fr (fun b => b = gd) wA w1) (h6 : Fr (fun b => y.ownBlock = some b) w1 w6)
    (hz : DiskAt w6 gd x0 x1 live step crash) (hv : Vec w6 B 37 2 v6 n xs) :
    Vec (w6.setCell ⟨gd, k, none⟩ v6) B 37 2 v6 n xs ∧ Fr (fun b => b = gd ∨ y.ownBlock = some b) w (w6.setCell ⟨gd, k, none⟩ v6) := by
  have hs := (Fr.refl (fun b => b = gd) w6).setCell ⟨gd, k, none⟩ v6 (fun _ => rfl)
  refine ⟨hv.keep hs (fun b hb e => hv.apartT hz (by decide) (e ▸ hb)), ?_⟩
  have h1 : Fr (fun b => b = gd ∨ y.ownBlock = some b) w wA := hA.mono (fun _ h _ => h.elim)
  exact ((h1.step h2 (fun _ h _ => .inl h)).step h6 (fun _ h _ => .inr h)).step hs (fun _ h _ => .inl h)
set_option maxHeartbeats 16000000 in
/-- A file more beside the tree. -/
theorem write_on (gd : Nat) (live : Int) (x y : Value) (step crash : Int) (B n : Nat) (xs : List Value) (s : ByteArray) (da : Option Addr) (dn dc : Nat) (w : World) (h : DiskL w gd live x y step crash) (hs : 0 ≤ step ∧ step ≤ 1000) (hc : step + 1 ≠ crash)
    (hy : Vec w B 37 2 y n xs) (hB : B ≤ w.heap.size) (hn : n ≤ 100) :
    Calls Tryz.prog 39 #[.pointer (some ⟨gd, 0, none⟩), .agg #[.string s, .slice da dn dc]] w fun e w' => ∃ y', e = .returned (.tuple #[]) ∧ DiskL w' gd live x y' (step + 1) crash ∧ Vec w' B 37 2 y' (n + 1) (xs ++ [.string s, .slice da dn dc]) ∧ Fr (fun b => b = gd ∨ y.ownBlock = some b) w w' := by
  have hA : Fr (fun _ => False) w (w.alloc (.cells #[.string s, .slice da dn dc] 37)) := (Fr.refl _ _).alloc _
  have hO := Own.alloc w #[.string s, .slice da dn dc] 37
  have hlt : gd < w.heap.size := by obtain ⟨xs, o⟩ := h.own; exact o.lt
  have hyg : y.ownBlock ≠ some gd := by obtain ⟨xs, o⟩ := h.own; exact hy.apartT o (by decide)
  have hyf : y.ownBlock ≠ some w.heap.size := fun e => by have := (hy.lt _ e).2; omega
  obtain ⟨ya, yc, rfl, -⟩ := hy.shape
  obtain ⟨fb, hfb⟩ : ∃ fb, w.heap.size = fb := ⟨_, rfl⟩
  rw [hfb] at hO hlt hyf hB
  have HA := Lib.hid hA
  have HY := Lib.hid (hy.keep hA (fun _ _ h => h))
  rcases h with ⟨rfl, h⟩ | ⟨rfl, h⟩
  all_goals
    have H := Lib.hid (tick_on gd _ _ _ _ _ (w.alloc (.cells #[.string s, .slice da dn dc] 37)) (Own.keep h hA id) hs hc)
    have HO := Lib.hid hO
    clear h hc hA hO hy
    go_enter Tryz.func39, Tryz.ntmps39
    go_wp2_with fail
    refine H.out.mono ?_
    rintro e w1 ⟨rfl, h1, h2⟩
    have x0 := Own.cell h1 (i := 0) rfl
    have x1 := Own.cell h1 (i := 1) rfl
    have x2 := Own.cell h1 (i := 2) rfl
    have g0 := Own.free h1 0 (by simp)
    have g1 := Own.free h1 1 (by simp)
    have ho1 := HO.out.keep h2 (by omega)
    have y0 := ho1.cell (i := 0) rfl
    have y1 := ho1.cell (i := 1) rfl
    have H1 := Lib.hid h1
    have H2 := Lib.hid h2
    have HO1 := Lib.hid ho1
    have HY1 := Lib.hid (HY.out.keep h2 (fun b hb e => by subst e; exact hyg hb))
    have hz2 := h2.size
    have hsz : (w.alloc (.cells #[.string s, .slice da dn dc] 37)).heap.size = fb + 1 := by simp [hfb]
    clear h1 h2 ho1 HO H
    have hw1 : fb + 1 ≤ w1.heap.size := by omega
    have wr1 : IntKind.i64.wrap 1 = 1 := by decide
    have wr0 : IntKind.i64.wrap 0 = 0 := by decide
    have hk1 := (Fr.refl (fun _ => False) w1).alloc (.cells #[.string s, .slice da dn dc] 37)
    have x0a := Own.cell (Own.keep H1.out hk1 id) (i := 0) rfl
    have x1a := Own.cell (Own.keep H1.out hk1 id) (i := 1) rfl
    have x2a := Own.cell (Own.keep H1.out hk1 id) (i := 2) rfl
    have x0b := Own.cell (Own.keep H1.out hk1.drew id) (i := 0) rfl
    have x1b := Own.cell (Own.keep H1.out hk1.drew id) (i := 1) rfl
    have x2b := Own.cell (Own.keep H1.out hk1.drew id) (i := 2) rfl
    clear hfb hsz hz2 hk1
    go_wp2_with fail
  · go_region_law
      ((rw [if_pos (by rfl)]; refine wp_append_vec (.tmp 21) (.tmp 23) 23 (by rfl) B 37 2 40 elt_fil ((HY1.out.keep ((Fr.refl (fun _ => False) w1).alloc _) (fun _ _ h => h)).keep (Fr.drew (Fr.refl (fun _ => False) _)) (fun _ _ h => h)) (by rfl) (xv := .slice (some ⟨w1.heap.size, 0, none⟩) 1 1) (m := 1) (news := [.string s, .slice da dn dc]) (show Reads (w1.alloc (.cells #[.string s, .slice da dn dc] 37)).drew _ _ _ from Reads.new w1 #[.string s, .slice da dn dc] 37 _ rfl _ _) (by rfl) (by rfl) (fil_one _ _ _ _) (by unfold maxLen; omega) (by omega) (by simp; omega) ?_; intro v6 w6 hv6 hf6 hd6; obtain ⟨a6, c6, hs6, -⟩ := hv6.shape; subst hs6; have hk6 := ((Fr.refl (fun _ => False) w1).alloc (.cells #[.string s, .slice da dn dc] 37)).drew; have z := Own.keep (Own.keep H1.out hk6 id) hf6 hyg; have zo := (HO1.out.keep hk6 id).keep hf6 hyf; have z1 := z.cell (i := 1) rfl; have z2 := z.cell (i := 2) rfl; have z3 := zo.cell (i := 0) rfl; have z4 := zo.cell (i := 1) rfl; have zf := z.free 1 (by simp); have HZ := Lib.hid z; have HV6 := Lib.hid hv6; have HF6 := Lib.hid ((hk6.mono (fun _ h _ => h.elim)).step hf6 (fun _ h _ => h)); clear hv6 hf6 hd6 hk6 z zo))
    all_goals
      go_wp2_with fail
      go_end0
      exact ⟨_, rfl, .inl ⟨rfl, Own.set HZ.out 1 (.slice a6 (n + 1) c6)⟩, (write_end 1 HA.out H2.out HF6.out HZ.out HV6.out).1, (write_end 1 HA.out H2.out HF6.out HZ.out HV6.out).2⟩
  · go_region_law
      ((rw [if_pos (by rfl)]; refine wp_append_vec (.tmp 21) (.tmp 23) 23 (by rfl) B 37 2 40 elt_fil ((HY1.out.keep ((Fr.refl (fun _ => False) w1).alloc _) (fun _ _ h => h)).keep (Fr.drew (Fr.refl (fun _ => False) _)) (fun _ _ h => h)) (by rfl) (xv := .slice (some ⟨w1.heap.size, 0, none⟩) 1 1) (m := 1) (news := [.string s, .slice da dn dc]) (show Reads (w1.alloc (.cells #[.string s, .slice da dn dc] 37)).drew _ _ _ from Reads.new w1 #[.string s, .slice da dn dc] 37 _ rfl _ _) (by rfl) (by rfl) (fil_one _ _ _ _) (by unfold maxLen; omega) (by omega) (by simp; omega) ?_; intro v6 w6 hv6 hf6 hd6; obtain ⟨a6, c6, hs6, -⟩ := hv6.shape; subst hs6; have hk6 := ((Fr.refl (fun _ => False) w1).alloc (.cells #[.string s, .slice da dn dc] 37)).drew; have z := Own.keep (Own.keep H1.out hk6 id) hf6 hyg; have zo := (HO1.out.keep hk6 id).keep hf6 hyf; have z1 := z.cell (i := 0) rfl; have z2 := z.cell (i := 2) rfl; have z3 := zo.cell (i := 0) rfl; have z4 := zo.cell (i := 1) rfl; have zf := z.free 0 (by simp); have HZ := Lib.hid z; have HV6 := Lib.hid hv6; have HF6 := Lib.hid ((hk6.mono (fun _ h _ => h.elim)).step hf6 (fun _ h _ => h)); clear hv6 hf6 hd6 hk6 z zo))
    all_goals
      go_wp2_with fail
      go_end0
      exact ⟨_, rfl, .inr ⟨rfl, Own.set HZ.out 0 (.slice a6 (n + 1) c6)⟩, (write_end 0 HA.out H2.out HF6.out HZ.out HV6.out).1, (write_end 0 HA.out H2.out HF6.out HZ.out HV6.out).2⟩
end Go.Proofs.YtlcdgbhigfgehabGreatDoor
/- The work of a replay: files written, made last, switched to, the old ones dropped; the power may fail at a step. -/
namespace Go.Proofs.YtlcdgbhigfgehabGreatDoor
open Go.RowKit
set_option maxRecDepth 100000

theorem own_ne {w : World} {g h : Nat} {T T' : TypeId} {xs ys : List Value} (a : Own w g T xs) (b : Own w h T' ys) (hT : T ≠ T') : g ≠ h := by
  rintro rfl
  obtain ⟨_, h1, _⟩ := a
  obtain ⟨_, h2, _⟩ := b
  rw [h1] at h2
  simp only [Option.some.injEq, Obj.cells.injEq] at h2
  exact hT h2.2.1
/-- What the work leaves. -/
def WorkR (w : World) (gd B : Nat) (live : Int) (x : Value) (l : List (Fil × Value)) (crash : Int) (b : Bool) (w' : World) : Prop :=
  Fr (fun b => b = gd) w w' ∧
  ((b = true ∧ 1 ≤ crash ∧ crash ≤ l.length + 2 ∧ ∃ y s, DiskL w' gd live x y s crash) ∨
   (b = true ∧ crash = l.length + 3 ∧ ∃ y s, DiskL w' gd (1 - live) y x s crash ∧ KFils w' B y l) ∨
   (b = false ∧ ¬ (1 ≤ crash ∧ crash ≤ l.length + 3) ∧ ∃ y s, DiskL w' gd (1 - live) y (.slice none 0 0) s crash ∧ KFils w' B y l))
theorem held_disk {w : World} {gd : Nat} {live : Int} {x y : Value} {s c : Int} (h : DiskL w gd live x y s c) : Held w (fun b => b = gd) := fun b hb => by
  subst hb
  exact .inr h.own
set_option maxHeartbeats 4000000 in
theorem work_any (gl ga gm gd : Nat) (lv : Value) (l : List (Fil × Value)) (B : Nat) (live : Int) (x : Value) (crash : Int) (s room : Int) (down : Bool) (w : World)
    (hl : Own w gl 23 [lv]) (ha : Own w ga 26 [.pointer (some ⟨gm, 0, none⟩)]) (hm : MirC w gm gd s room down) (hd : DiskL w gd live x (.slice none 0 0) 0 crash) (hk : KFils w B lv l) (hB : B ≤ w.heap.size) (hn : l.length ≤ 8) :
    Calls Tryz.prog 38 #[.pointer (some ⟨gl, 0, none⟩), .pointer (some ⟨ga, 0, none⟩)] w fun e w' => ∃ b : Bool, e = (if b then .panicked [blown] else .returned (.tuple #[])) ∧ WorkR w gd B live x l crash b w' ∧ Fr (fun b => b = gd) w w' := by
  obtain ⟨xs, hdo⟩ := hd.own
  have n1 : ¬ gl = gd := own_ne hl hdo (by decide)
  have n2 : ¬ ga = gd := own_ne ha hdo (by decide)
  have n3 : ¬ gm = gd := own_ne hm hdo (by decide)
  obtain ⟨la, lc, rfl, -⟩ := hk.vec.shape
  have HL := Lib.hid hl
  have HA := Lib.hid ha
  have HM := Lib.hid hm
  have HD := Lib.hid hd
  have HK := Lib.hid hk
  have x0 := hl.cell (i := 0) rfl
  clear hl ha hm hd hk hdo
  go_enter Tryz.func38, Tryz.ntmps38
  go_wp2_with fail
  go_loopw [6] (fun iv wr => ∃ (k : Nat) (y : Value), k ≤ l.length ∧ iv = .int .i64 k ∧ Fr (fun b => b = gd) w wr ∧ DiskL wr gd live x y k crash ∧ Vec wr w.heap.size 37 2 y k (filCells (l.take k)) ∧ (crash < 1 ∨ k < crash)) (fun iv _ => l.length - (intOf iv).toNat)
  case atStart => exact ⟨0, _, Nat.zero_le _, rfl, Fr.refl _ _, HD.out, Vec.nil _ _ _ _, by omega⟩
  case round =>
    obtain ⟨k, y, hk, rfl, hfr, hdk, hvk, hck⟩ := hrel
    have hkf := HK.out.held hfr (held_disk HD.out)
    have HFR := Lib.hid hfr
    have HDK := Lib.hid hdk
    have HVK := Lib.hid hvk
    have HKF := Lib.hid hkf
    have hwz := hfr.size
    have HA1 := Lib.hid (HA.out.keep hfr n2)
    have HM1 := Lib.hid (Own.keep HM.out hfr n3)
    clear hdk hvk x0
    by_cases hlt : k < l.length
    · obtain ⟨g, cap, hq, e0, e1, hgl⟩ := hkf.fils.get k hlt
      simp only [Value.slice.injEq, true_and] at hq
      obtain ⟨rfl, rfl⟩ := hq
      have hdv := hkf.data l[k] (List.getElem_mem _)
      obtain ⟨da, dc, hdq, -⟩ := hdv.shape
      have htk : filCells (l.take (k + 1)) = filCells (l.take k) ++ filRow l[k] := by
        rw [List.take_succ_eq_append_getElem hlt, filCells_snoc]
      clear hkf hfr hdv
      obtain ⟨f, hf⟩ : ∃ f, l[k] = f := ⟨_, rfl⟩
      rw [hf] at e0 e1 hdq htk
      obtain ⟨⟨fn, d⟩, dv⟩ := f
      simp only at hdq e0 e1 htk
      subst hdq
      have HTK := Lib.hid htk
      have hA : Fr (fun _ => False) wr (wr.alloc (.cells #[.string ⟨fn.toArray⟩, .slice da d.length dc] 37)) := (Fr.refl _ _).alloc _
      have HAA := Lib.hid hA
      have HO := Lib.hid (Own.alloc wr #[.string ⟨fn.toArray⟩, .slice da d.length dc] 37)
      have hzA2 := hA.size
      clear hA hf htk
      go_upto_region 3 with fail
      generalize wr.alloc (.cells #[.string ⟨fn.toArray⟩, .slice da d.length dc] 37) = wA at *
      have x0 := HO.out.cell (i := 0) rfl
      have x1 := HO.out.cell (i := 1) rfl
      have y0 := (HA1.out.keep HAA.out id).cell (i := 0) rfl
      have m2 := (Own.keep HM1.out HAA.out id).cell (i := 2) rfl
      have hAd : Fr (fun _ => False) wr wA.drew := HAA.out.drew
      by_cases hc : (k : Int) + 1 = crash
      · go_region_dies
        all_goals
          go_at_call 39
          refine (write_off gd live x y k crash _ _ (HDK.out.keep hAd id) (by omega) hc _ _ rfl).mono ?_
          rintro e w5 ⟨rfl, h1, h2⟩
          have hff := HFR.out.step ((hAd.mono (S' := fun b => b = gd) (fun _ h _ => h.elim)).step h2 (fun _ h _ => h)) (fun b hb _ => hb)
          exact ⟨rfl, true, rfl, ⟨hff, .inl ⟨rfl, by omega, by omega, _, _, h1⟩⟩, hff⟩
      · go_region_law
          (go_simp; go_at_call 39; refine (write_on gd live x y k crash w.heap.size k _ _ _ _ _ wA.drew (HDK.out.keep hAd id) (by omega) hc (HVK.out.keep hAd (fun _ _ h => h)) (by show _ ≤ wA.heap.size; omega) (by omega)).mono ?_; rintro e w5 ⟨y', rfl, h1, h2, h3⟩; have H1 := Lib.hid h1; have H2 := Lib.hid h2; have H3 := Lib.hid h3; clear h1 h2 h3)
        all_goals
          go_wp2_with fail
          have h5 := (hAd.mono (S' := fun b => b = gd ∨ y.ownBlock = some b) (fun _ h _ => h.elim)).step H3.out (fun _ h _ => h)
          have hff := HFR.out.step h5 (fun b hb hl => by
            rcases hb with hb | hb
            · exact hb
            · have := (HVK.out.lt b hb).1; omega)
          exact ⟨⟨k + 1, y', by omega, by go_num, hff, by rw [show ((k + 1 : Nat) : Int) = (k : Int) + 1 by omega]; exact H1.out, by rw [HTK.out]; exact H2.out, by omega⟩, by simp [intOf]; omega⟩
    · obtain rfl : k = l.length := by omega
      clear hfr hkf hlt
      have y0 := HA1.out.cell (i := 0) rfl
      have m2 := HM1.out.cell (i := 2) rfl
      go_wp2_with fail
      by_cases hc1 : (l.length : Int) + 1 = crash
      · refine (sync_off gd live x y l.length crash _ HDK.out (by omega) hc1).mono ?_
        rintro e w5 ⟨rfl, h1, h2⟩
        have hff := HFR.out.step h2 (fun _ h _ => h)
        exact ⟨rfl, true, rfl, ⟨hff, .inl ⟨rfl, by omega, by omega, _, _, h1⟩⟩, hff⟩
      refine (sync_on gd live x y l.length crash _ HDK.out (by omega) hc1).mono ?_
      rintro e w5 ⟨rfl, h5, f5⟩
      have HD5 := Lib.hid h5
      have HF5 := Lib.hid f5
      have HA5 := Lib.hid (HA1.out.keep f5 n2)
      have HM5 := Lib.hid (Own.keep HM1.out f5 n3)
      have hKV : Vec w5 w.heap.size 37 2 y l.length (filCells (l.take l.length)) := by
        obtain ⟨xs, hdo⟩ := HDK.out.own
        exact HVK.out.keep f5 (fun b hb e => HVK.out.apartT hdo (by decide) (e ▸ hb))
      rw [List.take_length] at hKV
      have hKF : KFils w5 B y l := by
        have h := (HKF.out.held f5 (held_disk HDK.out))
        exact ⟨hKV.mono hB, h.data, h.two⟩
      have HKF5 := Lib.hid hKF
      clear h5 f5 y0 m2 hKV hKF
      have y0 := HA5.out.cell (i := 0) rfl
      have m2 := HM5.out.cell (i := 2) rfl
      go_wp2_with fail
      by_cases hc2 : (l.length : Int) + 1 + 1 = crash
      · refine (switch_off gd live x y _ crash _ HD5.out (by omega) hc2).mono ?_
        rintro e w6 ⟨rfl, h1, h2⟩
        have hff := (HFR.out.step HF5.out (fun _ h _ => h)).step h2 (fun _ h _ => h)
        exact ⟨rfl, true, rfl, ⟨hff, .inl ⟨rfl, by omega, by omega, _, _, h1⟩⟩, hff⟩
      refine (switch_on gd live x y _ crash _ HD5.out (by omega) hc2).mono ?_
      rintro e w6 ⟨rfl, h6, f6⟩
      have HD6 := Lib.hid h6
      have HF6 := Lib.hid ((HFR.out.step HF5.out (fun _ h _ => h)).step f6 (fun _ h _ => h))
      have HA6 := Lib.hid (HA5.out.keep f6 n2)
      have HM6 := Lib.hid (Own.keep HM5.out f6 n3)
      have HKF6 := Lib.hid (HKF5.out.held f6 (held_disk HD5.out))
      clear h6 f6 y0 m2
      have y0 := HA6.out.cell (i := 0) rfl
      have m2 := HM6.out.cell (i := 2) rfl
      go_wp2_with fail
      by_cases hc3 : (l.length : Int) + 1 + 1 + 1 = crash
      · refine (clean_off gd (1 - live) y x _ crash _ HD6.out (by omega) hc3).mono ?_
        rintro e w7 ⟨rfl, h1, h2⟩
        have hff := HF6.out.step h2 (fun _ h _ => h)
        exact ⟨rfl, true, rfl, ⟨hff, .inr (.inl ⟨rfl, by omega, _, _, h1, HKF6.out.held h2 (held_disk HD6.out)⟩)⟩, hff⟩
      refine (clean_on gd (1 - live) y x _ crash _ HD6.out (by omega) hc3).mono ?_
      rintro e w7 ⟨rfl, h7, f7⟩
      have HD7 := Lib.hid h7
      have HF7 := Lib.hid (HF6.out.step f7 (fun _ h _ => h))
      have HKF7 := Lib.hid (HKF6.out.held f7 (held_disk HD6.out))
      clear h7 f7
      go_wp2_with fail
      go_end0
      exact ⟨false, rfl, ⟨HF7.out, .inr (.inr ⟨rfl, by omega, _, _, HD7.out, HKF7.out⟩)⟩, HF7.out⟩
end Go.Proofs.YtlcdgbhigfgehabGreatDoor
/- The disk's Do: work by steps, at one of which the power may fail. -/
namespace Go.Proofs.YtlcdgbhigfgehabGreatDoor
open Go.RowKit
set_option maxRecDepth 100000

theorem dcatch_idle (p : Addr) (w : World) :
    CallsD Tryz.prog 72 #[.pointer (some p)] .returning w fun e u' w' => e = .returned (.tuple #[]) ∧ u' = .returning ∧ w' = w := by
  refine callsD_of_wpS Tryz.func72 rfl fun c₀ cs hu => ?_
  apply wpS_seq
  apply wpS_region
  simp [wpOpsS, go_sem, recoverD, hu, Tryz.ntmps72, Exit.thenS]
  refine wpS_of_wp ?_
  go_wp2_with fail
  cases c₀
  simp_all [bodyPostS, results, Tryz.results72]
theorem dcatch_panicking (g : Nat) (b0 : Value) (w : World) (hb : Own w g 4 [b0]) :
    CallsD Tryz.prog 72 #[.pointer (some ⟨g, 0, none⟩)] (.panicking [blown]) w fun e u' w' => e = .returned (.tuple #[]) ∧ u' = .panicking [{ v := .iface 163 (.agg #[]), recovered := true }] ∧ Own w' g 4 [.bool true] ∧ Fr (fun b => b = g) w w' := by
  have hA : Fr (fun _ => False) w (w.alloc (.cells #[] 163)) := (Fr.refl _ _).alloc _
  have x0 := (hb.keep hA id).cell (i := 0) rfl
  have f0 := (hb.keep hA id).free 0 (by simp)
  have y0 := hb.cell (i := 0) rfl
  have yf0 := hb.free 0 (by simp)
  have HB := Lib.hid hb
  have hta : ∀ w : World, (Instr.typeAssert (.iface 163 (.agg #[])) 20 163 true).run Tryz.prog w = .ok (.tuple #[.agg #[], .bool true]) w := fun w => by kernel_rfl
  clear hb
  refine callsD_of_wpS Tryz.func72 rfl fun c₀ cs hu => ?_
  apply wpS_seq
  apply wpS_region
  simp [wpOpsS, go_sem, recoverD, hu, Tryz.ntmps72, Exit.thenS]
  refine wpS_of_wp ?_
  go_wp2_with fail
  have hfin : Own ((w.alloc (.cells #[] 163)).setCell ⟨g, 0, none⟩ (.bool true)) g 4 [.bool true] := Own.set (HB.out.keep hA id) 0 (.bool true)
  have hfr : Fr (fun b => b = g) w ((w.alloc (.cells #[] 163)).setCell ⟨g, 0, none⟩ (.bool true)) := (hA.mono (fun _ h _ => h.elim)).setCell ⟨g, 0, none⟩ (.bool true) (fun _ => rfl)
  simp [bodyPostS, results, Tryz.results72]
  exact ⟨hfin, hfr⟩
theorem DiskAt.start {w : World} {gd : Nat} {x0 x1 : Value} {live step crash : Int} (h : DiskAt w gd x0 x1 live step crash) (c : Int) :
    DiskAt ((w.setCell ⟨gd, 3, none⟩ (.int .i64 0)).setCell ⟨gd, 4, none⟩ (.int .i64 c)) gd x0 x1 live 0 c ∧ Fr (fun b => b = gd) w ((w.setCell ⟨gd, 3, none⟩ (.int .i64 0)).setCell ⟨gd, 4, none⟩ (.int .i64 c)) :=
  ⟨Own.set (Own.set h 3 (.int .i64 0)) 4 (.int .i64 c), ((Fr.refl (fun b => b = gd) w).setCell ⟨gd, 3, none⟩ (.int .i64 0) (fun _ => rfl)).setCell ⟨gd, 4, none⟩ (.int .i64 c) (fun _ => rfl)⟩
theorem DiskL.start {w : World} {gd : Nat} {x y : Value} {live step crash : Int} (h : DiskL w gd live x y step crash) (c : Int) :
    DiskL ((w.setCell ⟨gd, 3, none⟩ (.int .i64 0)).setCell ⟨gd, 4, none⟩ (.int .i64 c)) gd live x y 0 c ∧ Fr (fun b => b = gd) w ((w.setCell ⟨gd, 3, none⟩ (.int .i64 0)).setCell ⟨gd, 4, none⟩ (.int .i64 c)) := by
  rcases h with ⟨rfl, h⟩ | ⟨rfl, h⟩
  · exact ⟨.inl ⟨rfl, (h.start c).1⟩, (h.start c).2⟩
  · exact ⟨.inr ⟨rfl, (h.start c).1⟩, (h.start c).2⟩
theorem do_results (t : Array Value) (g : Nat) (w : World) (b : Bool) (h6 : t.getD 6 undef = .pointer (some ⟨g, 0, none⟩)) (hx : Own w g 4 [.bool b]) :
    (results Tryz.f37 t).run Tryz.prog w = .ok (.bool b) w := by
  have x0 := hx.cell (i := 0) rfl
  have h6' : t[6]?.getD undef = .pointer (some ⟨g, 0, none⟩) := by simpa using h6
  simp [results, h6', asAddr, x0, go_sem]
set_option maxHeartbeats 1000000 in
theorem do_any (gd : Nat) (live : Int) (x y : Value) (s0 c0 crash : Int) (f : FuncId) (first cap : Array Value) (R : Bool → World → Prop) (w : World) (h : DiskL w gd live x y s0 c0)
    (hi : ∀ w, (callFunc f (first ++ cap)).run Tryz.prog w = .ok (.enter f (first ++ cap)) w)
    (hwork : ∀ w1, DiskL w1 gd live x y 0 crash → Fr (fun b => b = gd) w w1 → w.heap.size < w1.heap.size → Calls Tryz.prog f (first ++ cap) w1 fun e w' => ∃ b : Bool, e = (if b then .panicked [blown] else .returned (.tuple #[])) ∧ R b w' ∧ Fr (fun b => b = gd) w1 w')
    (hcl : ∀ b w2 w3 v, R b w2 → Own w2 w.heap.size 4 [v] → Fr (fun k => k = w.heap.size) w2 w3 → R b w3) :
    Calls Tryz.prog 37 #[.pointer (some ⟨gd, 0, none⟩), .int .i64 crash, .func (.func f) first cap] w fun e w' => ∃ b : Bool, e = .returned (.bool b) ∧ R b w' := by
  have hmf : ∀ (fn : Fn) (first cap : Array Value) (w : World), (Instr.makeFunc fn first cap).run Tryz.prog w = .ok (.func fn first cap) w := fun _ _ _ _ => rfl
  have hlt : gd < w.heap.size := by obtain ⟨xs, o⟩ := h.own; exact o.lt
  have hcell2 : w.cell? ⟨gd, 3, none⟩ = some (.int .i64 s0) ∧ w.cell? ⟨gd, 4, none⟩ = some (.int .i64 c0) ∧ w.frozen? ⟨gd, 3, none⟩ = false ∧ w.frozen? ⟨gd, 4, none⟩ = false := by
    rcases h with ⟨-, h⟩ | ⟨-, h⟩ <;> exact ⟨Own.cell h rfl, Own.cell h rfl, Own.free h 3 (by simp), Own.free h 4 (by simp)⟩
  obtain ⟨k3', k4', z3', z4'⟩ := hcell2
  have hd := h.start crash
  have hA := (Fr.refl (fun _ => False) ((w.setCell ⟨gd, 3, none⟩ (.int .i64 0)).setCell ⟨gd, 4, none⟩ (.int .i64 crash))).alloc (.cells #[.bool false] 4)
  have hO := Own.alloc ((w.setCell ⟨gd, 3, none⟩ (.int .i64 0)).setCell ⟨gd, 4, none⟩ (.int .i64 crash)) #[.bool false] 4
  have hsz0 : ((w.setCell ⟨gd, 3, none⟩ (.int .i64 0)).setCell ⟨gd, 4, none⟩ (.int .i64 crash)).heap.size = w.heap.size := by simp
  have hsz1 : (((w.setCell ⟨gd, 3, none⟩ (.int .i64 0)).setCell ⟨gd, 4, none⟩ (.int .i64 crash)).alloc (.cells #[.bool false] 4)).heap.size = w.heap.size + 1 := by simp
  rw [hsz0] at hO
  obtain ⟨w1, hw1⟩ : ∃ w1, ((w.setCell ⟨gd, 3, none⟩ (.int .i64 0)).setCell ⟨gd, 4, none⟩ (.int .i64 crash)).alloc (.cells #[.bool false] 4) = w1 := ⟨_, rfl⟩
  rw [hw1] at hO hsz1 hA
  obtain ⟨fb, hfb⟩ : ∃ fb, w.heap.size = fb := ⟨_, rfl⟩
  rw [hfb] at hO hlt hcl hwork hsz1
  have hne : ¬ fb = gd := by omega
  have HW := Lib.hid (hwork w1 (hd.1.keep hA id) (hd.2.step hA (fun _ h _ => h.elim)) (by omega))
  have HO1 := Lib.hid hO
  have HC := Lib.hid hcl
  clear hd hwork hcl hO h hA hsz0 hsz1
  go_enter_defers Tryz.func37, Tryz.ntmps37
  go_wp2_with fail
  clear hw1
  refine HW.out.mono ?_
  rintro e w2 ⟨b, rfl, hR, hf2⟩
  have HR := Lib.hid hR
  have ho2 := HO1.out.keep hf2 hne
  have x0 := ho2.cell (i := 0) rfl
  have f0 := ho2.free 0 (by simp)
  have HO2 := Lib.hid ho2
  clear hR ho2 HW HO1
  cases b
  · go_wp2_with fail
    refine leaves_cons (f := 72) (args := #[.pointer (some ⟨fb, 0, none⟩)]) (by simp) (by simp [go_sem]) ?_
    refine (dcatch_idle ⟨fb, 0, none⟩ _).mono ?_
    rintro e u' w3 ⟨rfl, rfl, rfl⟩
    exact ⟨_, do_results _ fb _ false rfl (HO2.out.set 0 (.bool false)), false, rfl, HC.out false w2 _ _ HR.out HO2.out ((Fr.refl (fun k => k = fb) w2).setCell ⟨fb, 0, none⟩ (.bool false) (fun _ => rfl))⟩
  · go_wp2_with fail
    refine leaves_cons (f := 72) (args := #[.pointer (some ⟨fb, 0, none⟩)]) (by simp) (by simp [go_sem]) ?_
    refine (dcatch_panicking fb _ _ HO2.out).mono ?_
    rintro e u' w3 ⟨rfl, rfl, h3, hf3⟩
    exact ⟨_, do_results _ fb _ true rfl h3, true, rfl, HC.out true w2 _ _ HR.out HO2.out hf3⟩
end Go.Proofs.YtlcdgbhigfgehabGreatDoor
/- A mirror's Recover; plain.Recover. -/
namespace Go.Proofs.YtlcdgbhigfgehabGreatDoor
open Go.RowKit Go.MuLone
set_option maxRecDepth 100000

/-- Down or up. -/
theorem MirC.mark {w : World} {gm gd : Nat} {s room : Int} {down : Bool} (h : MirC w gm gd s room down) (b : Bool) : MirC (w.setCell ⟨gm, 4, none⟩ (.bool b)) gm gd s room b ∧ Fr (fun b => b = gm) w (w.setCell ⟨gm, 4, none⟩ (.bool b)) :=
  ⟨Own.set h 4 (.bool b), (Fr.refl (fun b => b = gm) w).setCell ⟨gm, 4, none⟩ (.bool b) (fun _ => rfl)⟩
def againK (b : Bool) : Int := if b then 12 else 0
/-- What starting again leaves. -/
def AgainP (gm gd B : Nat) (tr : List Fil) (room crash : Int) (w : World) (e : Ending) (w' : World) : Prop := ∃ b : Bool, e = .returned (.int .i64 (againK b)) ∧ (b = true ↔ crash = 1) ∧ MirAt w' B gm gd tr room b ∧ Fr (fun b => b = gm ∨ b = gd) w w'
/-- What starting again leaves on the disk. -/
def AgainR (w : World) (gd : Nat) (live : Int) (x y : Value) (crash : Int) (b : Bool) (w' : World) : Prop :=
  Fr (fun b => b = gd) w w' ∧ ((b = true ∧ crash = 1 ∧ ∃ s, DiskL w' gd live x y s crash) ∨ (b = false ∧ crash ≠ 1 ∧ ∃ s, DiskL w' gd live x (.slice none 0 0) s crash))
theorem held_both {w : World} {gm gd : Nat} {s room : Int} {down : Bool} {live : Int} {x y : Value} {t c : Int} (h : MirC w gm gd s room down) (d : DiskL w gd live x y t c) : Held w (fun b => b = gm ∨ b = gd) := fun b hb => by
  rcases hb with rfl | rfl
  · exact .inl ⟨_, h⟩
  · exact .inr d.own
theorem again_any (gd : Nat) (live : Int) (x y : Value) (s0 c0 crash : Int) (w : World) (h : DiskL w gd live x y s0 c0) :
    Calls Tryz.prog 37 #[.pointer (some ⟨gd, 0, none⟩), .int .i64 crash, .func (.func 42) #[.pointer (some ⟨gd, 0, none⟩)] #[]] w fun e w' => ∃ b : Bool, e = .returned (.bool b) ∧ AgainR w gd live x y crash b w' := by
  have hlt : gd < w.heap.size := by obtain ⟨xs, o⟩ := h.own; exact o.lt
  refine do_any gd live x y s0 c0 crash 42 #[.pointer (some ⟨gd, 0, none⟩)] #[] (AgainR w gd live x y crash) w h (fun w => run_callFunc_enter Tryz.func42 (by kernel_rfl) rfl _ w) ?_ ?_
  · intro w1 h1 hf hz
    by_cases hc : (0 : Int) + 1 = crash
    · refine (clean_off gd live x y 0 crash w1 h1 (by omega) hc).mono ?_
      rintro e w2 ⟨rfl, h2, f2⟩
      exact ⟨true, rfl, ⟨hf.step f2 (fun _ h _ => h), .inl ⟨rfl, by omega, _, h2⟩⟩, f2⟩
    · refine (clean_on gd live x y 0 crash w1 h1 (by omega) hc).mono ?_
      rintro e w2 ⟨rfl, h2, f2⟩
      exact ⟨false, rfl, ⟨hf.step f2 (fun _ h _ => h), .inr ⟨rfl, by omega, _, h2⟩⟩, f2⟩
  · rintro b w2 w3 _ ⟨h1, h2⟩ _ k
    refine ⟨h1.step k (fun b hb hl => by omega), ?_⟩
    rcases h2 with ⟨a, b, s, h⟩ | ⟨a, b, s, h⟩
    · exact .inl ⟨a, b, s, h.keep k (by omega)⟩
    · exact .inr ⟨a, b, s, h.keep k (by omega)⟩
set_option maxHeartbeats 1000000 in
theorem mrecover_up (gm gd B : Nat) (tr : List Fil) (room crash : Int) (w : World) (h : MirAt w B gm gd tr room false) :
    Calls Tryz.prog 27 #[.pointer (some ⟨gm, 0, none⟩), .int .i64 crash] w fun e w' => e = .returned (.iface 30 (.int .i64 8)) ∧ MirAt w' B gm gd tr room false ∧ Fr (fun b => b = gm) w w' := by
  have x0 := Own.cell h.mir (i := 0) rfl
  have f0 := Own.free h.mir 0 (by simp)
  obtain ⟨h1, k1⟩ := h.mir.lock 1
  have H1 := Lib.hid h1
  have K1 := Lib.hid k1
  have H := Lib.hid h
  have x4 := Own.cell h1 (i := 4) rfl
  clear h h1 k1
  go_enter_defers Tryz.func27, Tryz.ntmps27
  go_wp2_with (go_at_call 34; refine (lock_free muLib ⟨gm, 0, none⟩ _ x0 f0).mono ?_; rintro e w' ⟨rfl, rfl⟩)
  refine leaves_cons (f := 35) (args := #[.pointer (some ⟨gm, 0, none⟩)]) (by simp) (by simp [go_sem]) ?_
  refine (unlock_deferred muLib ⟨gm, 0, none⟩ .returning _ (Own.cell H1.out (i := 0) rfl) (Own.free H1.out 0 (by simp))).mono ?_
  rintro e u' w'' ⟨rfl, rfl, rfl⟩
  have h2 := H1.out.lock 0
  have hk := K1.out.step h2.2 (fun _ h _ => h)
  exact ⟨_, results_tmp rfl _ _ _, rfl, ⟨h2.1, H.out.disk.held hk (held_mir H.out.mir) (fun e => H.out.ne e.symm), H.out.tree, H.out.rm⟩, hk⟩
set_option maxHeartbeats 2000000 in
theorem mrecover_down (gm gd B : Nat) (tr : List Fil) (room crash : Int) (w : World) (h : MirAt w B gm gd tr room true) :
    Calls Tryz.prog 27 #[.pointer (some ⟨gm, 0, none⟩), .int .i64 crash] w fun e w' => ∃ y b, e = .returned y ∧ IsErr w' y (if b then .kind 12 else .none) ∧ (b = true ↔ crash = 1) ∧ MirAt w' B gm gd tr room b ∧ Fr (fun b => b = gm ∨ b = gd) w w' := by
  have hmf : ∀ (fn : Fn) (first cap : Array Value) (w : World), (Instr.makeFunc fn first cap).run Tryz.prog w = .ok (.func fn first cap) w := fun _ _ _ _ => rfl
  have x0 := Own.cell h.mir (i := 0) rfl
  have f0 := Own.free h.mir 0 (by simp)
  obtain ⟨h1, k1⟩ := h.mir.lock 1
  obtain ⟨live, x, y, s, c, m, hd, hk, hm, hy⟩ := h.part
  have hne := h.ne
  have HD := Lib.hid (hd.keep k1 (fun e => hne e.symm))
  have HK := Lib.hid (hk.held k1 (held_mir h.mir))
  have HM := Lib.hid hm
  have HT := Lib.hid h.tree
  have HRM := Lib.hid h.rm
  obtain ⟨w1, hw1⟩ : ∃ w1, w.setCell ⟨gm, 0, none⟩ (.int .i32 1) = w1 := ⟨_, rfl⟩
  rw [hw1] at h1 k1 HD HK
  have H1 := Lib.hid h1
  have K1 := Lib.hid k1
  have x2 := Own.cell h1 (i := 2) rfl
  have x4 := Own.cell h1 (i := 4) rfl
  clear h h1 k1 hd hk hy hm
  go_enter_defers Tryz.func27, Tryz.ntmps27
  go_wp2_with (go_at_call 34; refine (lock_free muLib ⟨gm, 0, none⟩ _ x0 f0).mono ?_; rintro e w' ⟨rfl, rfl⟩)
  clear hw1
  refine wp_region_noPanic ?_
  go_region_law
    (go_simp; go_at_call 37; refine (again_any gd live x y s c crash w1.drew (HD.out.keep (Fr.drew (Fr.refl (fun _ => False) w1)) id)).mono ?_; rintro e w5 ⟨b, rfl, hr⟩; have hf5 := ((Fr.refl (fun _ => False) w1).drew.mono (S' := fun b => b = gd) (fun _ h _ => h.elim)).step hr.1 (fun _ h _ => h); have z := Own.keep H1.out hf5 hne; have z4 := Own.cell z (i := 4) rfl; have zf4 := Own.free z 4 (by simp); have HZ := Lib.hid (show MirC w5 gm gd 1 room true from z); have HR := Lib.hid hr; have HF5 := Lib.hid hf5; clear z hr hf5)
  all_goals
    refine NoPanic.normal ?_
    cases b
    · have h6 := HZ.out.mark false
      have y4 := Own.cell h6.1 (i := 4) rfl
      have h7 := h6.1.lock 0
      have hall : Fr (fun b => b = gm ∨ b = gd) w1 ((w5.setCell ⟨gm, 4, none⟩ (.bool false)).setCell ⟨gm, 0, none⟩ (.int .i32 0)) := ((HF5.out.mono (S' := fun b => b = gm ∨ b = gd) (fun _ h _ => .inr h)).step h6.2 (fun _ h _ => .inl h)).step h7.2 (fun _ h _ => .inl h)
      have HALL := Lib.hid hall
      have H6 := Lib.hid h6
      have H7 := Lib.hid h7
      clear h7 hall h6
      go_wp2_with fail
      refine leaves_cons (f := 35) (args := #[.pointer (some ⟨gm, 0, none⟩)]) (by simp) (by simp [go_sem]) ?_
      refine (unlock_deferred muLib ⟨gm, 0, none⟩ .returning _ (Own.cell H6.out.1 (i := 0) rfl) (Own.free H6.out.1 0 (by simp))).mono ?_
      rintro e u' w'' ⟨rfl, rfl, rfl⟩
      rcases HR.out.2 with ⟨hb, -, -⟩ | ⟨-, hc, s', hd⟩
      · cases hb
      refine ⟨_, results_tmp rfl _ _ _, _, false, rfl, (by rfl), ⟨fun e => (by cases e), fun e => absurd e hc⟩, ⟨H7.out.1, ⟨live, x, .slice none 0 0, s', crash, m, (hd.keep H6.out.2 (fun e => hne e.symm)).keep H7.out.2 (fun e => hne e.symm), HK.out.held HALL.out (held_both H1.out HD.out), HM.out, fun _ => rfl⟩, HT.out, HRM.out⟩, (K1.out.mono (S' := fun b => b = gm ∨ b = gd) (fun _ h _ => .inl h)).step HALL.out (fun _ h _ => h)⟩
    · have h6 := HZ.out.mark true
      have y4 := Own.cell h6.1 (i := 4) rfl
      have h7 := h6.1.lock 0
      have hall : Fr (fun b => b = gm ∨ b = gd) w1 ((w5.setCell ⟨gm, 4, none⟩ (.bool true)).setCell ⟨gm, 0, none⟩ (.int .i32 0)) := ((HF5.out.mono (S' := fun b => b = gm ∨ b = gd) (fun _ h _ => .inr h)).step h6.2 (fun _ h _ => .inl h)).step h7.2 (fun _ h _ => .inl h)
      have HALL := Lib.hid hall
      have H6 := Lib.hid h6
      have H7 := Lib.hid h7
      clear h7 hall h6
      go_wp2_with fail
      refine leaves_cons (f := 35) (args := #[.pointer (some ⟨gm, 0, none⟩)]) (by simp) (by simp [go_sem]) ?_
      refine (unlock_deferred muLib ⟨gm, 0, none⟩ .returning _ (Own.cell H6.out.1 (i := 0) rfl) (Own.free H6.out.1 0 (by simp))).mono ?_
      rintro e u' w'' ⟨rfl, rfl, rfl⟩
      rcases HR.out.2 with ⟨-, hc, s', hd⟩ | ⟨hb, -, -⟩
      · refine ⟨_, results_tmp rfl _ _ _, _, true, rfl, (by rfl), ⟨fun _ => hc, fun _ => rfl⟩, ⟨H7.out.1, ⟨live, x, y, s', crash, m, (hd.keep H6.out.2 (fun e => hne e.symm)).keep H7.out.2 (fun e => hne e.symm), HK.out.held HALL.out (held_both H1.out HD.out), HM.out, fun e => (by cases e)⟩, HT.out, HRM.out⟩, (K1.out.mono (S' := fun b => b = gm ∨ b = gd) (fun _ h _ => .inl h)).step HALL.out (fun _ h _ => h)⟩
      · cases hb
set_option maxHeartbeats 1000000 in
theorem precover_up (gm gd B : Nat) (tr : List Fil) (room crash : Int) (w : World) (hg : ErrType w) (hge : gm ≠ 0) (h : MirAt w B gm gd tr room false) :
    Calls Tryz.prog 18 #[.pointer (some ⟨gm, 0, none⟩), .int .i64 crash] w fun e w' => e = .returned (.int .i64 8) ∧ MirAt w' B gm gd tr room false ∧ Fr (fun b => b = gm ∨ b = gd) w w' := by
  have H := Lib.hid (mrecover_up gm gd B tr room crash w h)
  clear h
  go_enter Tryz.func18, Tryz.ntmps18
  go_wp2_with fail
  refine H.out.mono ?_
  rintro e w1 ⟨rfl, h3, h4⟩
  have HT := Lib.hid (told_kind 8 w1 (hg.keep h4 (fun e => hge e.symm)))
  have H3 := Lib.hid h3
  have H4 := Lib.hid h4
  clear h3 h4
  go_wp2_with fail
  refine HT.out.mono ?_
  rintro e w2 ⟨rfl, hf⟩
  go_wp2_with fail
  go_ret
  exact ⟨rfl, H3.out.keep0 hf, (H4.out.step hf (fun _ h _ => h.elim)).mono (fun _ h _ => .inl h)⟩
set_option maxHeartbeats 1000000 in
theorem precover_down (gm gd B : Nat) (tr : List Fil) (room crash : Int) (w : World) (hg : ErrType w) (hge : gm ≠ 0 ∧ gd ≠ 0) (h : MirAt w B gm gd tr room true) :
    Calls Tryz.prog 18 #[.pointer (some ⟨gm, 0, none⟩), .int .i64 crash] w (AgainP gm gd B tr room crash w) := by
  have H := Lib.hid (mrecover_down gm gd B tr room crash w h)
  clear h
  go_enter Tryz.func18, Tryz.ntmps18
  go_wp2_with fail
  refine H.out.mono ?_
  rintro e w1 ⟨y, b, rfl, he, hb, h3, h4⟩
  have HT := Lib.hid (told_any y _ w1 (hg.keep h4 (fun e => by rcases e with e | e; exact hge.1 e.symm; exact hge.2 e.symm)) he)
  have H3 := Lib.hid h3
  have H4 := Lib.hid h4
  have HB := Lib.hid hb
  have hq : (if b = true then Err.kind 12 else Err.none).k = againK b := by cases b <;> rfl
  rw [hq] at HT
  clear h3 h4 he hb hq
  generalize (if b = true then Err.kind 12 else Err.none) = E at HT
  go_wp2_with fail
  refine HT.out.mono ?_
  rintro e w2 ⟨rfl, hf⟩
  go_wp2_with fail
  go_ret
  exact ⟨b, rfl, HB.out, H3.out.keep0 hf, H4.out.step hf (fun _ h _ => h.elim)⟩
end Go.Proofs.YtlcdgbhigfgehabGreatDoor
/- The form's error, as it lies there when the call begins. -/
namespace Go.Proofs.YtlcdgbhigfgehabGreatDoor
open Go.RowKit
/-- The form's error as it lies there. -/
def ErrForm (w : World) : Prop := ∃ T u, w.cell? ⟨1, 0, none⟩ = some (.iface T u)
theorem ErrForm.keep {w w1 : World} (h : ErrForm w) (k : Fr (fun _ => False) w w1) : ErrForm w1 := by
  obtain ⟨T, u, h⟩ := h
  exact ⟨T, u, k.cell h id⟩
end Go.Proofs.YtlcdgbhigfgehabGreatDoor
/- A mirror's Replay; plain.Replay. -/
namespace Go.Proofs.YtlcdgbhigfgehabGreatDoor
open Go.RowKit Go.MuLone
set_option maxRecDepth 100000

theorem takeT_ok (tr : List Fil) (blk : Nat) : ∀ (ts : List Targ) (acc l : List Fil), takeT tr blk ts acc = .inr l → l.map (·.name) = acc.map (·.name) ++ ts.map (·.ent.name) ∧ ((∀ f ∈ acc, f.data.length ≤ 300) → ∀ f ∈ l, f.data.length ≤ 300) := by
  intro ts
  induction ts with
  | nil => intro acc l h; simp only [takeT, Sum.inr.injEq] at h; subst h; simp
  | cons t ts ih =>
    intro acc l h
    unfold takeT at h
    split at h
    · cases h
    · rename_i d hd
      split at h
      · have := ih _ _ h
        refine ⟨by rw [this.1]; simp, fun ha => this.2 (fun f hf => ?_)⟩
        rcases List.mem_append.1 hf with hf | hf
        · exact ha f hf
        · obtain rfl := List.mem_singleton.1 hf
          exact applyK_len hd
      · cases h
/-- What comes out of a plan is a tree. -/
theorem plan_tree {tr : List Fil} {room : Int} {b : List UInt8} {l : List Fil} (h : planK tr room b = .inr l) : IsTree l := by
  unfold planK at h
  split at h
  · cases h
  · rename_i x hx
    have hok := readOf_ok hx
    unfold planB at h
    split at h
    · cases h
    · split at h
      · cases h
      · have h1 := takeT_ok _ _ _ _ _ h
        have hn : l.map (·.name) = (x.targs.map (·.ent)).map (·.name) := by rw [h1.1]; simp
        have hl : l.length ≤ 8 := by
          have h2 := congrArg List.length hn
          have := hok.nt
          simp at h2
          omega
        refine ⟨fun f hf => ⟨?_, h1.2 (fun _ h => by simp at h) f hf⟩, ?_, hl⟩
        · have : f.name ∈ l.map (·.name) := List.mem_map_of_mem hf
          rw [hn, List.map_map] at this
          obtain ⟨t, ht, he⟩ := List.mem_map.1 this
          rw [← he]
          exact (hok.ts t ht).1
        · have hu := hok.up
          have : (l.map (·.name)).Pairwise fun a b => Op.bytesLess a b = true := by
            rw [hn, List.pairwise_map]; exact hu
          rwa [List.pairwise_map] at this
theorem takeT_ne {tr : List Fil} {blk : Nat} : ∀ (ts : List Targ) (acc : List Fil) (e : Err), takeT tr blk ts acc = .inl e → e ≠ .none := by
  intro ts
  induction ts with
  | nil => intro acc e h; cases h
  | cons t ts ih =>
    intro acc e h
    unfold takeT at h
    split at h
    · cases h; simp
    · split at h
      · exact ih _ _ h
      · cases h; simp
theorem plan_ne {tr : List Fil} {room : Int} {b : List UInt8} {e : Err} (h : planK tr room b = .inl e) : e ≠ .none := by
  unfold planK planB at h
  split at h
  · cases h; simp
  · split at h
    · cases h; simp
    · split at h
      · cases h; simp
      · exact takeT_ne _ _ _ h
theorem IsErr.iface {w : World} {v : Value} {e : Err} (h : IsErr w v e) (hne : e ≠ .none) : ∃ T u, v = .iface T u := by
  cases e with
  | none => exact absurd rfl hne
  | kind k => exact ⟨_, _, h⟩
  | file n k => obtain ⟨g, h, -⟩ := h; exact ⟨_, _, h⟩
theorem IsErr.keepH {w w1 : World} {v : Value} {e : Err} {S : Nat → Prop} (h : IsErr w v e) (k : Fr S w w1) (hS : Held w S) : IsErr w1 v e := by
  cases e with
  | none => exact h
  | kind k => exact h
  | file n k' =>
    obtain ⟨g, h, ho⟩ := h
    refine ⟨g, h, ho.keep k (fun hs => ?_)⟩
    rcases hS g hs with ⟨ys, o⟩ | ⟨ys, o⟩
    · exact own_ne ho o (by decide) rfl
    · exact own_ne ho o (by decide) rfl
/-- What a replay tells; the tree behind it; is the mirror down then? -/
def replayE (tr : List Fil) (room : Int) (b : List UInt8) (crash : Int) : Err := match planK tr room b with
  | .inl e => e
  | .inr l => if 1 ≤ crash ∧ crash ≤ l.length + 3 then .kind 12 else .none
def replayT (tr : List Fil) (room : Int) (b : List UInt8) (crash : Int) : List Fil := match planK tr room b with
  | .inl _ => tr
  | .inr l => if 1 ≤ crash ∧ crash ≤ l.length + 2 then tr else l
def replayD (tr : List Fil) (room : Int) (b : List UInt8) (crash : Int) : Bool := match planK tr room b with
  | .inl _ => false
  | .inr l => decide (1 ≤ crash ∧ crash ≤ l.length + 3)
theorem replay_bad {tr : List Fil} {room : Int} {b : List UInt8} {e : Err} (crash : Int) (h : planK tr room b = .inl e) : replayE tr room b crash = e ∧ replayT tr room b crash = tr ∧ replayD tr room b crash = false := by
  unfold replayE replayT replayD; rw [h]; exact ⟨rfl, rfl, rfl⟩
theorem replay_good {tr : List Fil} {room : Int} {b : List UInt8} {l : List Fil} (crash : Int) (h : planK tr room b = .inr l) : replayE tr room b crash = (if 1 ≤ crash ∧ crash ≤ l.length + 3 then .kind 12 else .none) ∧ replayT tr room b crash = (if 1 ≤ crash ∧ crash ≤ l.length + 2 then tr else l) ∧ replayD tr room b crash = decide (1 ≤ crash ∧ crash ≤ l.length + 3) := by
  unfold replayE replayT replayD; rw [h]; exact ⟨rfl, rfl, rfl⟩
/-- A mirror's blocks are none of the errors'. -/
structure Clear (gm gd : Nat) : Prop where
  mt : gm ≠ 0
  dt : gd ≠ 0
  mf : gm ≠ 1
  df : gd ≠ 1
theorem KFils.off {w w1 : World} {B g T : Nat} {v : Value} {l : List (Fil × Value)} {xs : List Value} (h : KFils w B v l) (ho : Own w g T xs) (h1 : T ≠ 37) (h2 : T ≠ 5) (k : Fr (fun b => b = g) w w1) : KFils w1 B v l :=
  h.keep k (fun _ hb e => h.vec.apartT ho (Ne.symm h1) (e ▸ hb)) (fun p hp _ hb e => (h.data p hp).apartT ho (Ne.symm h2) (e ▸ hb))
theorem rdo_any (gl ga gm gd : Nat) (lv : Value) (l : List (Fil × Value)) (B : Nat) (live : Int) (x : Value) (s0 c0 crash : Int) (s room : Int) (down : Bool) (w : World)
    (hl : Own w gl 23 [lv]) (ha : Own w ga 26 [.pointer (some ⟨gm, 0, none⟩)]) (hm : MirC w gm gd s room down) (hd : DiskL w gd live x (.slice none 0 0) s0 c0) (hk : KFils w B lv l) (hB : B ≤ w.heap.size) (hn : l.length ≤ 8) :
    Calls Tryz.prog 37 #[.pointer (some ⟨gd, 0, none⟩), .int .i64 crash, .func (.func 38) #[] #[.pointer (some ⟨gl, 0, none⟩), .pointer (some ⟨ga, 0, none⟩)]] w fun e w' => ∃ b : Bool, e = .returned (.bool b) ∧ WorkR w gd B live x l crash b w' := by
  obtain ⟨xs, hdo⟩ := hd.own
  have hlt := hdo.lt
  have n1 : ¬ gl = gd := own_ne hl hdo (by decide)
  have n2 : ¬ ga = gd := own_ne ha hdo (by decide)
  have n3 : ¬ gm = gd := own_ne hm hdo (by decide)
  refine do_any gd live x _ s0 c0 crash 38 #[] #[.pointer (some ⟨gl, 0, none⟩), .pointer (some ⟨ga, 0, none⟩)] (WorkR w gd B live x l crash) w hd (fun w => run_callFunc_enter Tryz.func38 (by kernel_rfl) rfl _ w) ?_ ?_
  · intro w1 h1 hf hz
    refine (work_any gl ga gm gd lv l B live x crash s room down w1 (hl.keep hf n1) (ha.keep hf n2) (Own.keep hm hf n3) h1 (hk.held hf (held_disk hd)) (by omega) hn).mono ?_
    rintro e w2 ⟨b, he, hr, hf2⟩
    exact ⟨b, he, ⟨hf.step hf2 (fun _ h _ => h), hr.2⟩, hf2⟩
  · rintro b w2 w3 v ⟨h1, h2⟩ ho k
    refine ⟨h1.step k (fun b hb hl => by omega), ?_⟩
    rcases h2 with ⟨a, b1, b2, y, s, h⟩ | ⟨a, b1, y, s, h, hkf⟩ | ⟨a, b1, y, s, h, hkf⟩
    · exact .inl ⟨a, b1, b2, y, s, h.keep k (by omega)⟩
    · exact .inr (.inl ⟨a, b1, y, s, h.keep k (by omega), hkf.off ho (by decide) (by decide) k⟩)
    · exact .inr (.inr ⟨a, b1, y, s, h.keep k (by omega), hkf.off ho (by decide) (by decide) k⟩)
set_option maxHeartbeats 1000000 in
theorem mreplay_down (gm gd B : Nat) (tr : List Fil) (room crash : Int) (v : Value) (w : World) (h : MirAt w B gm gd tr room true) :
    Calls Tryz.prog 24 #[.pointer (some ⟨gm, 0, none⟩), v, .int .i64 crash] w fun e w' => e = .returned (.iface 30 (.int .i64 7)) ∧ MirAt w' B gm gd tr room true ∧ Fr (fun b => b = gm ∨ b = gd) w w' := by
  have hA : Fr (fun _ => False) w (w.alloc (.cells #[.pointer (some ⟨gm, 0, none⟩)] 26)) := (Fr.refl _ _).alloc _
  have hO := Own.alloc w #[.pointer (some ⟨gm, 0, none⟩)] 26
  have hm : MirC (w.alloc (.cells #[.pointer (some ⟨gm, 0, none⟩)] 26)) gm gd 0 room true := Own.keep h.mir hA id
  have hlt := Own.lt h.mir
  obtain ⟨ga, hga⟩ : ∃ ga, w.heap.size = ga := ⟨_, rfl⟩
  rw [hga] at hO hlt
  obtain ⟨h1, k1⟩ := hm.lock 1
  have x0 := Own.cell hm (i := 0) rfl
  have f0 := Own.free hm 0 (by simp)
  have y0 := (hO.keep k1 (by omega)).cell (i := 0) rfl
  have x4 := Own.cell h1 (i := 4) rfl
  have H := Lib.hid h
  have HA := Lib.hid hA
  have H1 := Lib.hid h1
  have K1 := Lib.hid k1
  clear h hA hO hm h1 k1
  go_enter_defers Tryz.func24, Tryz.ntmps24
  go_wp2_with fail
  generalize w.alloc (.cells #[.pointer (some ⟨gm, 0, none⟩)] 26) = wA at *
  refine (lock_free muLib ⟨gm, 0, none⟩ _ x0 f0).mono ?_
  rintro e w' ⟨rfl, rfl⟩
  generalize wA.setCell ⟨gm, 0, none⟩ (.int .i32 1) = w1 at *
  go_wp2_with fail
  refine leaves_cons (f := 35) (args := #[.pointer (some ⟨gm, 0, none⟩)]) (by simp) (by simp [go_sem]) ?_
  refine (unlock_deferred muLib ⟨gm, 0, none⟩ .returning _ (Own.cell H1.out (i := 0) rfl) (Own.free H1.out 0 (by simp))).mono ?_
  rintro e u' w'' ⟨rfl, rfl, rfl⟩
  have h2 := H1.out.lock 0
  have hk := (HA.out.mono (S' := fun b => b = gm) (fun _ h _ => h.elim)).step (K1.out.step h2.2 (fun _ h _ => h)) (fun _ h _ => h)
  exact ⟨_, results_tmp rfl _ _ _, rfl, ⟨h2.1, H.out.disk.held hk (held_mir H.out.mir) (fun e => H.out.ne e.symm), H.out.tree, H.out.rm⟩, hk.mono (fun _ h _ => .inl h)⟩
/-- What a replay on a mirror that is up gives. -/
def ReplayP (gm gd B : Nat) (tr : List Fil) (room : Int) (b : List UInt8) (crash : Int) (w : World) (e : Ending) (w' : World) : Prop :=
  ∃ y, e = .returned y ∧ IsErr w' y (replayE tr room b crash) ∧ MirAt w' B gm gd (replayT tr room b crash) room (replayD tr room b crash) ∧ Fr (fun b => b = gm ∨ b = gd) w w'
set_option maxHeartbeats 1000000 in
theorem mreplay_up (gm gd B : Nat) (tr : List Fil) (room crash : Int) (db dof dcap : Nat) (bs : List UInt8) (w : World) (h : MirAt w B gm gd tr room false) (hB : B ≤ w.heap.size) (hcl : Clear gm gd) (hf : ErrForm w)
    (hb : IsB w (.slice (some ⟨db, dof, none⟩) bs.length dcap) bs) :
    Calls Tryz.prog 24 #[.pointer (some ⟨gm, 0, none⟩), .slice (some ⟨db, dof, none⟩) bs.length dcap, .int .i64 crash] w (ReplayP gm gd B tr room bs crash w) := by
  have hmf : ∀ (fn : Fn) (first cap : Array Value) (w : World), (Instr.makeFunc fn first cap).run Tryz.prog w = .ok (.func fn first cap) w := fun _ _ _ _ => rfl
  have hA : Fr (fun _ => False) w (w.alloc (.cells #[.pointer (some ⟨gm, 0, none⟩)] 26)) := (Fr.refl _ _).alloc _
  have hO := Own.alloc w #[.pointer (some ⟨gm, 0, none⟩)] 26
  have hm : MirC (w.alloc (.cells #[.pointer (some ⟨gm, 0, none⟩)] 26)) gm gd 0 room false := Own.keep h.mir hA id
  have hlt := Own.lt h.mir
  have hzA := hA.size
  have hsA : (w.alloc (.cells #[.pointer (some ⟨gm, 0, none⟩)] 26)).heap.size = w.heap.size + 1 := by simp
  obtain ⟨ga, hga⟩ : ∃ ga, w.heap.size = ga := ⟨_, rfl⟩
  rw [hga] at hO hlt hsA
  obtain ⟨h1, k1⟩ := hm.lock 1
  have x0 := Own.cell hm (i := 0) rfl
  have f0 := Own.free hm 0 (by simp)
  have hO1 := hO.keep k1 (by omega)
  have y0 := hO1.cell (i := 0) rfl
  have x4 := Own.cell h1 (i := 4) rfl
  have H := Lib.hid h
  have hne := h.ne
  obtain ⟨T, u, hu⟩ := hf
  have HK1 := Lib.hid ((hA.mono (S' := fun b => b = gm) (fun _ h _ => h.elim)).step k1 (fun _ h _ => h))
  have HO1 := Lib.hid hO1
  have H1 := Lib.hid h1
  obtain ⟨live, x, y, s, c, m, hd, hk, hmm, hy⟩ := h.part
  obtain rfl := hy rfl
  have HMM := Lib.hid hmm
  have HD1 := Lib.hid (hd.keep HK1.out (fun e => hne e.symm))
  have HKF1 := Lib.hid (hk.held HK1.out (held_mir h.mir))
  have HPL := Lib.hid (plan_any gm gd B tr 1 room false live x _ s c m db dof dcap bs T u _ h1 HD1.out HKF1.out hmm h.tree h.rm (hb.keep HK1.out ((held_mir h.mir).isB hb)) (HK1.out.cell hu (fun e => hcl.mf e.symm)))
  clear h hA hO hm h1 k1 hO1 hd hk hmm hy hb hu
  go_enter_defers Tryz.func24, Tryz.ntmps24
  go_wp2_with fail
  generalize w.alloc (.cells #[.pointer (some ⟨gm, 0, none⟩)] 26) = wA at *
  refine (lock_free muLib ⟨gm, 0, none⟩ _ x0 f0).mono ?_
  rintro e w' ⟨rfl, rfl⟩
  have hz1 := HK1.out.size
  generalize wA.setCell ⟨gm, 0, none⟩ (.int .i32 1) = w1 at *
  go_wp2_with fail
  refine HPL.out.mono ?_
  rintro e w2 ⟨px, py, rfl, hf2, hpm⟩
  cases hpk : planK tr room bs with
  | inl er =>
    have HR := Lib.hid (replay_bad crash hpk)
    have hne2 := plan_ne hpk
    rw [hpk] at hpm
    obtain ⟨rfl, hie⟩ := hpm
    obtain ⟨eT, eu, rfl⟩ := hie.iface hne2
    have HIE := Lib.hid hie
    have HF2 := Lib.hid hf2
    have y0' := (HO1.out.keep hf2 id).cell (i := 0) rfl
    clear hie hpk hf2 hne2
    go_wp2_with fail
    have hA2 := (Fr.refl (fun _ => False) w2).alloc (.cells #[.slice none 0 0] 23)
    have h3 : MirC (w2.alloc (.cells #[.slice none 0 0] 23)) gm gd 1 room false := Own.keep H1.out (HF2.out.step hA2 (fun _ h _ => h)) id
    refine leaves_cons (f := 35) (args := #[.pointer (some ⟨gm, 0, none⟩)]) (by simp) (by simp [go_sem]) ?_
    refine (unlock_deferred muLib ⟨gm, 0, none⟩ .returning _ (Own.cell h3 (i := 0) rfl) (Own.free h3 0 (by simp))).mono ?_
    rintro e u' w'' ⟨rfl, rfl, rfl⟩
    have h4 := MirC.lock h3 0
    have hk := (HK1.out.step (HF2.out.step hA2 (fun _ h _ => h)) (fun _ h _ => h.elim)).step h4.2 (fun _ h _ => h)
    refine ⟨_, results_tmp rfl _ _ _, _, rfl, ?_, ?_, hk.mono (fun _ h _ => .inl h)⟩
    · rw [HR.out.1]; exact (HIE.out.keepH hA2 (Held.none _)).keepH h4.2 (held_mir h3)
    · rw [HR.out.2.1, HR.out.2.2]; exact ⟨h4.1, H.out.disk.held hk (held_mir H.out.mir) (fun e => hne e.symm), H.out.tree, H.out.rm⟩
  | inr l =>
    have HR := Lib.hid (replay_good crash hpk)
    have HTR := Lib.hid (plan_tree hpk)
    rw [hpk] at hpm
    obtain ⟨rfl, m2, hk2, rfl⟩ := hpm
    obtain ⟨pa, pc, rfl, -⟩ := hk2.vec.shape
    have hA2 := (Fr.refl (fun _ => False) w2).alloc (.cells #[.slice pa m2.length pc] 23)
    have HF3 := Lib.hid (hf2.step hA2 (fun _ h _ => h))
    have HL3 := Lib.hid (Own.alloc w2 #[.slice pa m2.length pc] 23)
    have HK3 := Lib.hid ((hk2.keep0 hA2).lift (B' := B) (by omega))
    have h8 : m2.length ≤ 8 := by have := HTR.out.len; simpa using this
    have hz2 := hf2.size
    have hz3 := hA2.size
    clear hpk hf2 hA2 hk2 x4 y0
    go_upto_region 8 with fail
    obtain ⟨gl, hgl⟩ : ∃ gl, w2.heap.size = gl := ⟨_, rfl⟩
    rw [hgl] at HL3 ⊢
    clear hgl
    generalize w2.alloc (.cells #[.slice pa m2.length pc] 23) = w3 at *
    have hO3 := HO1.out.keep HF3.out id
    have hM3 : MirC w3 gm gd 1 room false := Own.keep H1.out HF3.out id
    have hnga : ¬ ga = gm := own_ne hO3 hM3 (by decide)
    obtain ⟨dxs, hdo⟩ := (HD1.out.keep HF3.out id).own
    have hngd : ¬ ga = gd := own_ne hO3 hdo (by decide)
    have y0 := hO3.cell (i := 0) rfl
    have m2c := Own.cell hM3 (i := 2) rfl
    have HO3 := Lib.hid hO3
    have HM3 := Lib.hid hM3
    have HD3 := Lib.hid (HD1.out.keep HF3.out id)
    have HRD := Lib.hid (rdo_any gl ga gm gd _ m2 B live x s c crash 1 room false w3.drew (HL3.out.keep (Fr.drew (Fr.refl (fun _ => False) w3)) id) (hO3.keep (Fr.drew (Fr.refl (fun _ => False) w3)) id) (Own.keep hM3 (Fr.drew (Fr.refl (fun _ => False) w3)) id) (HD3.out.keep (Fr.drew (Fr.refl (fun _ => False) w3)) id) (HK3.out.keep0 (Fr.drew (Fr.refl (fun _ => False) w3))) (by show _ ≤ w3.heap.size; omega) h8)
    clear hO3 hM3 hdo HO1 H1 HD1 HL3 HK3
    refine wp_region_noPanic ?_
    go_region_law
      (go_simp; go_at_call 37; refine HRD.out.mono ?_; rintro e w5 ⟨b, rfl, hr⟩; have hf5 := ((Fr.refl (fun _ => False) w3).drew.mono (S' := fun b => b = gd) (fun _ h _ => h.elim)).step hr.1 (fun _ h _ => h); have z := Own.keep HM3.out hf5 hne; have z4 := Own.cell z (i := 4) rfl; have zf4 := Own.free z 4 (by simp); have HZ := Lib.hid (show MirC w5 gm gd 1 room false from z); have HWR := Lib.hid hr; have HF5 := Lib.hid hf5; have zo := HO3.out.keep hf5 hngd; have y0 := zo.cell (i := 0) rfl; have HO5 := Lib.hid zo; clear z hr hf5 zo)
    all_goals
      refine NoPanic.normal ?_
      cases b
      · have h6 := HZ.out.mark false
        have y4 := Own.cell h6.1 (i := 4) rfl
        have y0 := (HO5.out.keep h6.2 hnga).cell (i := 0) rfl
        have h7 := h6.1.lock 0
        have hall : Fr (fun b => b = gm ∨ b = gd) w3 ((w5.setCell ⟨gm, 4, none⟩ (.bool false)).setCell ⟨gm, 0, none⟩ (.int .i32 0)) := ((HF5.out.mono (S' := fun b => b = gm ∨ b = gd) (fun _ h _ => .inr h)).step h6.2 (fun _ h _ => .inl h)).step h7.2 (fun _ h _ => .inl h)
        have HALL := Lib.hid hall
        have H6 := Lib.hid h6
        have H7 := Lib.hid h7
        have h67 : Fr (fun b => b = gm) w5 ((w5.setCell ⟨gm, 4, none⟩ (.bool false)).setCell ⟨gm, 0, none⟩ (.int .i32 0)) := h6.2.step h7.2 (fun _ h _ => h)
        have H67 := Lib.hid h67
        have hfin : Fr (fun b => b = gm ∨ b = gd) w ((w5.setCell ⟨gm, 4, none⟩ (.bool false)).setCell ⟨gm, 0, none⟩ (.int .i32 0)) := ((HK1.out.step HF3.out (fun _ h _ => h.elim)).mono (S' := fun b => b = gm ∨ b = gd) (fun _ h _ => .inl h)).step hall (fun _ h _ => h)
        have HFIN := Lib.hid hfin
        clear h7 hall h6 h67 hfin
        go_wp2_with fail
        refine leaves_cons (f := 35) (args := #[.pointer (some ⟨gm, 0, none⟩)]) (by simp) (by simp [go_sem]) ?_
        refine (unlock_deferred muLib ⟨gm, 0, none⟩ .returning _ (Own.cell H6.out.1 (i := 0) rfl) (Own.free H6.out.1 0 (by simp))).mono ?_
        rintro e u' w'' ⟨rfl, rfl, rfl⟩
        rcases HWR.out.2 with ⟨hb, -⟩ | ⟨hb, -⟩ | ⟨-, hc, y', s', hd', hk'⟩
        · cases hb
        · cases hb
        have hc' : ¬ (1 ≤ crash ∧ crash ≤ ((m2.map (·.1)).length : Int) + 3) := by rw [List.length_map]; exact hc
        have hc2 : ¬ (1 ≤ crash ∧ crash ≤ ((m2.map (·.1)).length : Int) + 2) := by omega
        refine ⟨_, results_tmp rfl _ _ _, _, rfl, ?_, ?_, HFIN.out⟩
        · rw [HR.out.1, if_neg hc']; rfl
        · rw [HR.out.2.1, HR.out.2.2, if_neg hc2, decide_eq_false hc']
          exact ⟨H7.out.1, ⟨1 - live, y', .slice none 0 0, s', crash, m2, hd'.keep H67.out (fun e => hne e.symm), hk'.held H67.out (held_mir HZ.out), rfl, fun _ => rfl⟩, HTR.out, H.out.rm⟩
      · have h6 := HZ.out.mark true
        have y4 := Own.cell h6.1 (i := 4) rfl
        have y0 := (HO5.out.keep h6.2 hnga).cell (i := 0) rfl
        have h7 := h6.1.lock 0
        have hall : Fr (fun b => b = gm ∨ b = gd) w3 ((w5.setCell ⟨gm, 4, none⟩ (.bool true)).setCell ⟨gm, 0, none⟩ (.int .i32 0)) := ((HF5.out.mono (S' := fun b => b = gm ∨ b = gd) (fun _ h _ => .inr h)).step h6.2 (fun _ h _ => .inl h)).step h7.2 (fun _ h _ => .inl h)
        have HALL := Lib.hid hall
        have H6 := Lib.hid h6
        have H7 := Lib.hid h7
        have h67 : Fr (fun b => b = gm) w5 ((w5.setCell ⟨gm, 4, none⟩ (.bool true)).setCell ⟨gm, 0, none⟩ (.int .i32 0)) := h6.2.step h7.2 (fun _ h _ => h)
        have H67 := Lib.hid h67
        have hfin : Fr (fun b => b = gm ∨ b = gd) w ((w5.setCell ⟨gm, 4, none⟩ (.bool true)).setCell ⟨gm, 0, none⟩ (.int .i32 0)) := ((HK1.out.step HF3.out (fun _ h _ => h.elim)).mono (S' := fun b => b = gm ∨ b = gd) (fun _ h _ => .inl h)).step hall (fun _ h _ => h)
        have HFIN := Lib.hid hfin
        clear h7 hall h6 h67 hfin
        go_wp2_with fail
        refine leaves_cons (f := 35) (args := #[.pointer (some ⟨gm, 0, none⟩)]) (by simp) (by simp [go_sem]) ?_
        refine (unlock_deferred muLib ⟨gm, 0, none⟩ .returning _ (Own.cell H6.out.1 (i := 0) rfl) (Own.free H6.out.1 0 (by simp))).mono ?_
        rintro e u' w'' ⟨rfl, rfl, rfl⟩
        rcases HWR.out.2 with ⟨-, c1, c2, y', s', hd'⟩ | ⟨-, hc, y', s', hd', hk'⟩ | ⟨hb, -⟩
        · have hc' : 1 ≤ crash ∧ crash ≤ ((m2.map (·.1)).length : Int) + 3 := by rw [List.length_map]; omega
          have hc2 : 1 ≤ crash ∧ crash ≤ ((m2.map (·.1)).length : Int) + 2 := by rw [List.length_map]; omega
          refine ⟨_, results_tmp rfl _ _ _, _, rfl, ?_, ?_, HFIN.out⟩
          · rw [HR.out.1, if_pos hc']; rfl
          · rw [HR.out.2.1, HR.out.2.2, if_pos hc2, decide_eq_true hc']
            exact ⟨H7.out.1, ⟨live, x, y', s', crash, m, hd'.keep H67.out (fun e => hne e.symm), (HKF1.out.keep0 HF3.out).held HALL.out (held_both HM3.out HD3.out), HMM.out, fun e => (by cases e)⟩, H.out.tree, H.out.rm⟩
        · have hc' : 1 ≤ crash ∧ crash ≤ ((m2.map (·.1)).length : Int) + 3 := by rw [List.length_map]; omega
          have hc2 : ¬ (1 ≤ crash ∧ crash ≤ ((m2.map (·.1)).length : Int) + 2) := by rw [List.length_map]; omega
          refine ⟨_, results_tmp rfl _ _ _, _, rfl, ?_, ?_, HFIN.out⟩
          · rw [HR.out.1, if_pos hc']; rfl
          · rw [HR.out.2.1, HR.out.2.2, if_neg hc2, decide_eq_true hc']
            exact ⟨H7.out.1, ⟨1 - live, y', x, s', crash, m2, hd'.keep H67.out (fun e => hne e.symm), hk'.held H67.out (held_mir HZ.out), rfl, fun e => (by cases e)⟩, HTR.out, H.out.rm⟩
        · cases hb
end Go.Proofs.YtlcdgbhigfgehabGreatDoor
/- The keeps' has and brought. -/
namespace Go.Proofs.YtlcdgbhigfgehabGreatDoor
open Go.RowKit
set_option maxRecDepth 100000

/-- What 'has' answers. -/
def HasP (w : World) (B gm gd : Nat) (tr l : List Fil) (room : Int) (e : Ending) (w' : World) : Prop := ∃ b : Bool, e = .returned (.bool b) ∧ (b = true ↔ tr = l) ∧ MirAt w' B gm gd tr room false ∧ Fr (fun b => b = gm) w w'
set_option maxHeartbeats 1000000 in
theorem khas_any (gm gd B : Nat) (tr : List Fil) (room : Int) (v : Value) (l : List (Fil × Value)) (B2 : Nat) (w : World) (h : MirAt w B gm gd tr room false) (hl : Fils w B2 v l) (hn : l.length ≤ 8) :
    Calls Tryz.prog 13 #[.pointer (some ⟨gm, 0, none⟩), v] w (HasP w B gm gd tr (l.map (·.1)) room) := by
  have HP := Lib.hid (pfiles_up gm gd B tr room w h)
  have HH := Lib.hid (held_mir h.mir)
  have HL := Lib.hid hl
  have ht := h.tree
  have HT := Lib.hid ht
  obtain ⟨va, vc, rfl, -⟩ := hl.vec.shape
  clear h hl ht
  go_enter Tryz.func13, Tryz.ntmps13
  go_wp2_with fail
  refine HP.out.mono ?_
  rintro e w1 ⟨v1, m, rfl, hm, hk, hmi, hf⟩
  obtain ⟨v1a, v1c, rfl, -⟩ := hk.vec.shape
  have hm8 := (tree_data hm HT.out).2.2
  have HS := Lib.hid (ksame_any _ _ m l w.heap.size B2 w1 hk.fils (HL.out.held hf HH.out) hm8 hn)
  rw [hm] at HS
  have HF := Lib.hid hf
  have HMI := Lib.hid hmi
  clear hm hk hmi hf
  go_wp2_with fail
  refine HS.out.mono ?_
  rintro e w2 ⟨b, rfl, hb, hf2⟩
  have HB := Lib.hid hb
  have HF2 := Lib.hid hf2
  clear hb hf2
  go_wp2_with fail
  go_ret
  exact ⟨b, rfl, HB.out, HMI.out.keep0 HF2.out, HF.out.step HF2.out (fun _ h _ => h.elim)⟩
/-- The batch of two trees, and a mirror of the older one. -/
def BroughtP (w : World) (src ref : List Fil) (blk : Nat) (room : Int) (e : Ending) (w' : World) : Prop := ∃ bv gm gd, e = .returned (.tuple #[bv, .pointer (some ⟨gm, 0, none⟩), .bool true]) ∧
  Vec w' w.heap.size 5 1 bv (recOf src ref blk).length (bcells (recOf src ref blk)) ∧ 0 < (recOf src ref blk).length ∧ w.heap.size ≤ gm ∧ w.heap.size ≤ gd ∧ MirAt w' w.heap.size gm gd ref room false ∧ Fr (fun _ => False) w w'
theorem recOf_pos (src ref : List Fil) (blk : Nat) : 0 < (recOf src ref blk).length := by
  unfold recOf
  rw [List.length_append, length_putN]; omega
theorem recErr_no {blk : Nat} {src ref : List Fil} (h1 : 1 ≤ blk) (h2 : blk ≤ 64) (hs : IsTree src) (hr : IsTree ref) : recErr blk src ref = .none := by
  unfold recErr
  rw [if_neg (by omega), (treeErr_none _).2 hs, (treeErr_none _).2 hr]; rfl
theorem small_tree {m : List (Fil × Value)} (ht : IsTree (m.map (·.1))) : Small m := fun p hp => by
  have h := tree_data rfl ht
  exact ⟨by have := h.2.1 p hp; omega, by have := h.1 p hp; omega⟩
set_option maxHeartbeats 2000000 in
theorem kbrought_any (v0 v1 : Value) (src ref : List (Fil × Value)) (B : Nat) (block room : Int) (w : World) (hg : ErrType w) (h0 : Fils w B v0 src) (h1 : Fils w B v1 ref) (hs : IsTree (src.map (·.1))) (hr : IsTree (ref.map (·.1)))
    (b1 : -9223372036854775808 ≤ block) (b2 : block ≤ 9223372036854775807) (r1 : 0 ≤ room) (r2 : room ≤ 1048576) (blk : Nat) (hblk : 1 + pickOf block 64 = blk) :
    Calls Tryz.prog 10 #[v0, v1, .int .i64 block, .int .i64 room] w (BroughtP w (src.map (·.1)) (ref.map (·.1)) blk room) := by
  have hpb := pickOf_bounds block 64 (by omega)
  have hbb : 1 ≤ blk ∧ blk ≤ 64 := by omega
  have HPK := Lib.hid (pick_any block 64 w (by omega) b1 b2 (by omega))
  have hpr := precord_any v0 v1 src ref B blk w hg h0 h1 (small_tree hs) (small_tree hr)
  have hne : recErr blk (src.map (·.1)) (ref.map (·.1)) = .none := recErr_no hbb.1 hbb.2 hs hr
  rw [show (recErr blk (src.map (·.1)) (ref.map (·.1))).k = 0 by rw [hne]; rfl, show (recErr blk (src.map (·.1)) (ref.map (·.1))).name = ByteArray.empty by rw [hne]; rfl] at hpr
  have HPR := Lib.hid hpr
  have HNE := Lib.hid hne
  have HBE := Lib.hid hblk
  have H1 := Lib.hid h1
  have HR := Lib.hid hr
  have hre := newErr_none hr r1 r2
  have HRE := Lib.hid hre
  have hrt := tree_data rfl hr
  have HRT := Lib.hid hrt
  obtain ⟨a0, c0, rfl, -⟩ := h0.vec.shape
  obtain ⟨a1, c1, rfl, -⟩ := h1.vec.shape
  generalize pickOf block 64 = pk at *
  clear hpr hne h0 h1 hs hr hre hrt hblk b1 b2 hpb
  have hpk2 : wrap64 (1 + pk) = 1 + pk := IntWalk.wrap64_in _ (by have := HBE.out; omega)
  go_enter Tryz.func10, Tryz.ntmps10
  go_wp2_with fail
  refine HPK.out.mono ?_
  rintro e w' ⟨rfl, rfl⟩
  go_wp2_with fail
  rw [HBE.out]
  refine HPR.out.mono ?_
  rintro e w3 ⟨x, rfl, hf3, hx⟩
  have hv := hx.good HNE.out
  rw [Int.toNat_natCast] at hv
  obtain ⟨R, hR⟩ : ∃ R, recOf (src.map (·.1)) (ref.map (·.1)) blk = R := ⟨_, rfl⟩
  have hrl : 0 < R.length := by rw [← hR]; exact recOf_pos _ _ _
  rw [hR] at hv
  have HRP := Lib.hid hR
  obtain ⟨gb, cb, rb, hqb, -, -, -⟩ := hv.row hrl
  subst hqb
  have HV := Lib.hid hv
  have HF3 := Lib.hid hf3
  have HN := Lib.hid (pnew_any _ ref B room w3 (hg.keep hf3 id) (H1.out.keep0 hf3) (fun p hp => by have := HRT.out.2.1 p hp; omega) (fun p hp => by have := HRT.out.1 p hp; omega) (by have := HRT.out.2.2; omega))
  rw [show (newErr (ref.map (·.1)) room).k = 0 by rw [HRE.out]; rfl, show (newErr (ref.map (·.1)) room).name = ByteArray.empty by rw [HRE.out]; rfl] at HN
  have hz3 := hf3.size
  clear hx hv hf3 hR HPR hg
  go_wp2_with fail
  refine HN.out.mono ?_
  rintro e w4 ⟨p, rfl, hf4, hnp⟩
  obtain ⟨gm, gd, rfl, hgm, hgd, hmi⟩ := hnp.1 HRE.out
  have HMI := Lib.hid hmi
  have HF4 := Lib.hid hf4
  have HV4 := Lib.hid (HV.out.keep hf4 (fun _ _ h => h))
  have z1 : decide ((R.length : Int) > 0) = true := by simp; omega
  clear hnp hmi hf4
  go_wp2_with fail
  go_ret3
  refine ⟨_, gm, gd, rfl, by rw [HRP.out]; exact HV4.out, by rw [HRP.out]; exact hrl, by omega, by omega, ⟨HMI.out.mir, HMI.out.disk.lift hz3, HMI.out.tree, HMI.out.rm⟩, HF3.out.step HF4.out (fun _ h _ => h)⟩
end Go.Proofs.YtlcdgbhigfgehabGreatDoor
/- plain.Replay. -/
namespace Go.Proofs.YtlcdgbhigfgehabGreatDoor
open Go.RowKit
set_option maxRecDepth 100000

theorem ErrForm.off {w w1 : World} {S : Nat → Prop} (h : ErrForm w) (k : Fr S w w1) (hS : ¬ S 1) : ErrForm w1 := by
  obtain ⟨T, u, hu⟩ := h
  exact ⟨T, u, k.cell hu hS⟩
def PReplayP (gm gd B : Nat) (tr : List Fil) (room : Int) (b : List UInt8) (crash : Int) (w : World) (e : Ending) (w' : World) : Prop :=
  e = .returned (.tuple #[.int .i64 (replayE tr room b crash).k, .string (replayE tr room b crash).name]) ∧ MirAt w' B gm gd (replayT tr room b crash) room (replayD tr room b crash) ∧ Fr (fun b => b = gm ∨ b = gd) w w'
set_option maxHeartbeats 1000000 in
theorem preplay_up (gm gd B : Nat) (tr : List Fil) (room crash : Int) (db dof dcap : Nat) (bs : List UInt8) (w : World) (h : MirAt w B gm gd tr room false) (hB : B ≤ w.heap.size) (hcl : Clear gm gd) (hg : ErrType w) (hf : ErrForm w)
    (hb : IsB w (.slice (some ⟨db, dof, none⟩) bs.length dcap) bs) :
    Calls Tryz.prog 12 #[.pointer (some ⟨gm, 0, none⟩), .slice (some ⟨db, dof, none⟩) bs.length dcap, .int .i64 crash] w (PReplayP gm gd B tr room bs crash w) := by
  have H := Lib.hid (mreplay_up gm gd B tr room crash db dof dcap bs w h hB hcl hf hb)
  unfold ReplayP at H
  unfold PReplayP
  obtain ⟨E, hE⟩ : ∃ E, replayE tr room bs crash = E := ⟨_, rfl⟩
  obtain ⟨D, hD⟩ : ∃ D, replayD tr room bs crash = D := ⟨_, rfl⟩
  obtain ⟨T, hT⟩ : ∃ T, replayT tr room bs crash = T := ⟨_, rfl⟩
  rw [hE, hD, hT] at H ⊢
  clear h hb hE hD hT hf
  go_enter Tryz.func12, Tryz.ntmps12
  go_wp2_with fail
  refine H.out.mono ?_
  rintro e w1 ⟨y, rfl, h1, h2, h3⟩
  have HT := Lib.hid (told_any y E w1 (hg.keep h3 (fun e => by rcases e with e | e; exact hcl.mt e.symm; exact hcl.dt e.symm)) h1)
  have H2 := Lib.hid h2
  have H3 := Lib.hid h3
  clear h1 h2 h3
  go_wp2_with fail
  refine HT.out.mono ?_
  rintro e w2 ⟨rfl, hf⟩
  go_wp2_with fail
  go_ret2
  exact ⟨rfl, H2.out.keep0 hf, H3.out.step hf (fun _ h _ => h.elim)⟩
set_option maxHeartbeats 1000000 in
theorem preplay_down (gm gd B : Nat) (tr : List Fil) (room crash : Int) (v : Value) (w : World) (h : MirAt w B gm gd tr room true) (hcl : Clear gm gd) (hg : ErrType w) :
    Calls Tryz.prog 12 #[.pointer (some ⟨gm, 0, none⟩), v, .int .i64 crash] w fun e w' => e = .returned (.tuple #[.int .i64 7, .string ByteArray.empty]) ∧ MirAt w' B gm gd tr room true ∧ Fr (fun b => b = gm ∨ b = gd) w w' := by
  have H := Lib.hid (mreplay_down gm gd B tr room crash v w h)
  clear h
  go_enter Tryz.func12, Tryz.ntmps12
  go_wp2_with fail
  refine H.out.mono ?_
  rintro e w1 ⟨rfl, h2, h3⟩
  have HT := Lib.hid (told_kind 7 w1 (hg.keep h3 (fun e => by rcases e with e | e; exact hcl.mt e.symm; exact hcl.dt e.symm)))
  have H2 := Lib.hid h2
  have H3 := Lib.hid h3
  clear h2 h3
  go_wp2_with fail
  refine HT.out.mono ?_
  rintro e w2 ⟨rfl, hf⟩
  go_wp2_with fail
  go_ret2
  exact ⟨rfl, H2.out.keep0 hf, H3.out.step hf (fun _ h _ => h.elim)⟩
end Go.Proofs.YtlcdgbhigfgehabGreatDoor
/- A walk of one goroutine serves a row that says 'leaving' and 'outside := [.timePasses]', laid, at the assumption calm; the tied card that says 'goes'. For any program. -/
namespace Go.Proofs.YtlcdgbhigfgehabGreatDoor
open Go Go.Conc Go.ConcM

/-- At the return of a lone machine nobody else is there. -/
theorem leaving_of_lone {P : Program} {n : Nat} {m : Machine} {fr : Frame} {w w' : World} (h : runN P n m = .next (lone fr [] w)) : leavingAtReturn P (lone fr [] w) w' (runNT P (n + 1) m #[]).2 :=
  ⟨handedOver_of_lone h, ⟨fun g hg => by simp [lone] at hg, by simp [lone]⟩, fun i g hg hi => by
    cases i with
    | zero => exact absurd rfl hi
    | succ k => simp [lone] at hg⟩
section
variable {H : Type} {enc : TypeId × Value → H}
theorem post_os {P : Program} {f : Func} {s : ChangeSpec} {apart fresh handsOn again : Bool} {W W' : World} {args : Array Value} {v : Value} (h : s.post enc P f apart fresh handsOn again W args v W') : W'.os = W.os := by
  obtain ⟨ds, gs, before, pr, pa, pv, h1, h2, h3, h4, h5, _⟩ := h
  exact h5.1
/-- The row out of the contract. -/
theorem returnsInLeaving_of_row_time {a : Assume} {C : Checked} {os : Os} {f : FuncId} {fn : Func} {s : ChangeSpec} {F : Stop.Interp} {conds : List PathCond} {apart fresh handsOn : Bool} {laid : List (String × DataW Unit)}
    (own : ownKnob C.prog.godebug = none) (started : os.Started) (noInit : C.prog.inits.idxOf? f = none) (hfn : C.prog.funcs[f]? = some fn)
    (witness : ∃ (w : World) (tape : Tape) (i : Input), w.os = os ∧ (w.forCall tape i).Shaped C.prog ∧ i.vars = [] ∧ Input.okWide C.prog (w.forCall tape i) .any w.heap.size f i ∧
      (OpenSpec.ofChange s).preRow enc C.prog fn conds apart laid (w.forCall tape i).memory i.args ∧ a.holds C.prog (lone (Frame.enter C.prog f i.args .normal) [] (w.forCall tape i)))
    (contract : ∀ (W : World) (base : Nat) (args : Array Value) (ds gs : List (DataW H)) (before : List MemPlace),
      (∀ (j : Nat) t v, fn.params[j]? = some t → args[j]? = some v → Value.okWide C.prog W .any base t v) →
      DataW.Whole enc C.prog fn.params.toList s.vars apart W args.toList ds gs before →
      laidMetH C.prog laid W →
      Calls C.prog f args W fun e W' => ∃ v, e = .returned v ∧ s.post enc C.prog fn apart fresh handsOn false W args v W') :
    ReturnsInLeavingWide a C os f .any ((OpenSpec.ofChange s).preRow enc C.prog fn conds apart laid) ((OpenSpec.ofChange s).postWith enc C.prog fn F (outsideKept [.timePasses]) apart fresh handsOn) := fun enter => by
  obtain ⟨w0, t0, i0, a1, a2, a3, a4, a5, a6⟩ := witness
  refine ⟨enter, own, started, ⟨w0, t0, i0, a1, a2, a3, a4, a5, a6, trivial⟩, fun w tape i h => ?_⟩
  obtain ⟨_, _, hiv, hok, hpre, _, _⟩ := h
  obtain ⟨_, _, _, fn', hfn', _, _, _, _, hval⟩ := hok
  have e : fn' = fn := Option.some.inj (hfn'.symm.trans hfn)
  subst e
  obtain ⟨⟨hp, hl⟩, hz⟩ := hpre
  obtain ⟨ds, gs, before, hw, hc, hk⟩ := OpenSpec.pre_parts hp
  have hw' := DataW.Whole.of_heap (w' := w.forCall tape i) (by rfl) hw
  have hcon := contract (w.forCall tape i) w.heap.size i.args ds gs before hval hw' (hl.of_heap (by rfl))
  have hcall : Calls C.prog f i.args (w.forCall tape i) fun
      | .returned v, w' => (OpenSpec.ofChange s).postWith enc C.prog fn' F (outsideKept [.timePasses]) apart fresh handsOn (w.forCall tape i).blind i.args v w'.blind
      | _, _ => False := hcon.mono fun e W' ⟨v, he, hp⟩ => by
    subst he
    have hos := post_os hp
    have hW : ({ W' with os := (w.forCall tape i).os } : World) = W' := by rw [← hos]
    exact postWith_blind (postWith_of_post (by rw [hW]; exact hp) (by rw [hos]; exact OsLater.refl _))
  obtain ⟨n, v, w', fr, hn, hend, hp⟩ := hcall.done_lone noInit
  exact ⟨n + 1, v, w', hend, (clean_of_lone hn).2, roomy_placeholder .., hp, ⟨n, _, hn, step_of_runs hn hend, leaving_of_lone hn⟩, fun _ _ _ => trivial⟩
/-- 'There is an input that fits', at the assumption calm. -/
theorem witness_row_calm {C : Checked} {os : Os} {f : FuncId} {fn : Func} {s : OpenSpec} {conds : List PathCond} {apart : Bool} {laid : List (String × DataW Unit)} (w0 : World) (args : Array Value) (hos : w0.os = os)
    (hv : (w0.forCall (fun _ _ => 0) ⟨#[], args, []⟩).variablesRefB C.prog = true)
    (hr : ((w0.forCall (fun _ _ => 0) ⟨#[], args, []⟩).heap.toList.drop C.prog.globals.size).take ((begin C.prog (fun _ _ => 0) default).world.heap.size - C.prog.globals.size) =
      (begin C.prog (fun _ _ => 0) default).world.heap.toList.drop C.prog.globals.size)
    (hok : Input.okWideB C.prog (w0.forCall (fun _ _ => 0) ⟨#[], args, []⟩) f ⟨#[], args, []⟩ = true)
    (hrow : s.preRow enc C.prog fn conds apart laid (w0.forCall (fun _ _ => 0) ⟨#[], args, []⟩).memory args) :
    ∃ (w : World) (tape : Tape) (i : Input), w.os = os ∧ (w.forCall tape i).Shaped C.prog ∧ i.vars = [] ∧ Input.okWide C.prog (w.forCall tape i) .any w.heap.size f i ∧
      s.preRow enc C.prog fn conds apart laid (w.forCall tape i).memory i.args ∧ ({ calm := true } : Assume).holds C.prog (lone (Frame.enter C.prog f i.args .normal) [] (w.forCall tape i)) :=
  ⟨w0, fun _ _ => 0, ⟨#[], args, []⟩, hos, World.shaped_of_RefB hv hr, (Input.okWide_of_okWideB (base := 0) hok).1, (Input.okWide_of_okWideB hok).2, hrow, by
    simp only [Assume.holds]
    exact ⟨by simp, fun _ _ _ _ => rfl, by simp, by simp, by simp⟩⟩
end
/-- A tied card without a companion, of a call that can start goroutines. -/
theorem holds_tied_goes_at (Lk : Looks) (g : Bool) {p : Pinned} {s : OpenSpec} {c : OpenClaim} (kinds : List LaidKind) (tests : Bool) (har : Bool × String) (lk : Bool)
    (hc : c.holds p s) (hw : c.wfByText s = true) (htie : c.laidByTextAt Lk p kinds tests)
    (hst : c.start = .entering) (hnb : c.noBlocks = false ∧ c.again = false) (hm : p.checked.prog.mainIs = some (har.1, har.2.toList)) (hn : (!har.1 && har.2.isEmpty && !lk) = false)
    (hl : ∀ f fn, p.checked.prog.funcNamed c.func = some f → p.checked.prog.funcs[f]? = some fn → lk = p.checked.prog.looks [] ∧ ∀ (j : Nat) t, fn.params[j]? = some t → p.checked.prog.wantsStandIn t = false)
    (hg : g = c.goesBy p.checked.prog) :
    Claim7.holds p (.plain s) { stood := { row := c, standIns := [], harness := har, looks := lk }, kinds := [], alts := [], goes := g, laidByText := true, laidKinds := kinds, laidTests := tests, laidLooks := Lk } := by
  have h6 : ∀ r : OpenClaim, Claim7.isSixth { stood := { row := r, standIns := [], harness := har, looks := lk }, kinds := [] } = false := fun r => by simpa [Claim7.isSixth] using hn
  exact ⟨Claim7.tied_new_at Lk kinds tests (Claim7.new_of_sixth hc har lk hst hnb hm (h6 c) hl) hw, fun D hD => (by cases hD), htie, (fun h => by cases h), hg⟩
end Go.Proofs.YtlcdgbhigfgehabGreatDoor
