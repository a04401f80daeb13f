/- RepPure, RDiffers, RMir, RRTokens, RRead, RefApply, RReplay, AppendTwo, Turned, RefDiff, RRecord, Files, Recorded, Filleds, Broughts in one text. -/
import Derived.Test.YtlcdgbhigfgehabGreatDoorMirAll
import Derived.Test.YtlcdgbhigfgehabGreatDoorFilMem
import Derived.Test.YtlcdgbhigfgehabGreatDoorReadMem
import Derived.Test.YtlcdgbhigfgehabGreatDoorSumsWalk
import Derived.Test.YtlcdgbhigfgehabGreatDoorTree
import Derived.BigQuiet
import Derived.Test.YtlcdgbhigfgehabGreatDoorREntry
import Derived.Test.YtlcdgbhigfgehabGreatDoorOToks
import Derived.Test.YtlcdgbhigfgehabGreatDoorRoomy
import Derived.Test.YtlcdgbhigfgehabGreatDoorBRead
import Derived.Deep.CutBlock
import Derived.Test.YtlcdgbhigfgehabGreatDoorApply
import Derived.Test.YtlcdgbhigfgehabGreatDoorUpTo
import Derived.Laws.Bits64
import Derived.Laws.BitsLemmas
import Derived.Test.YtlcdgbhigfgehabGreatDoorVecStr
import Derived.Test.YtlcdgbhigfgehabGreatDoorDiff
import Derived.Test.YtlcdgbhigfgehabGreatDoorCheck
import Derived.Test.YtlcdgbhigfgehabGreatDoorBRecord
import Derived.Deep.AppendLies
import Derived.Test.YtlcdgbhigfgehabGreatDoorAlike
import Derived.Test.YtlcdgbhigfgehabGreatDoorKTree
/- What the document's mirror does, in plain terms: its tokens make files without an error. -/
namespace Go.Proofs.YtlcdgbhigfgehabGreatDoor
open Go.Op

theorem tokN_make {blk basis : Nat} {r r' : List UInt8} {x : Tok × Nat} (h : tokN blk basis r = some (x, r')) : tokOk (nBlocks basis blk) x.1 = true ∧ makesN basis blk x.1 = x.2 := by
  unfold tokN at h
  split at h
  · cases h
  · split at h
    · split at h
      · cases h
      · rename_i k r2 hk
        split at h
        · cases h
        · split at h
          · cases h
          · rename_i d r3 hd
            cases h
            refine ⟨by simp [tokOk], ?_⟩
            unfold takeN at hd
            split at hd
            · cases hd
            · cases hd
              simp [makesN]; omega
    · split at h
      · split at h
        · cases h
        · split at h
          · cases h
          · split at h
            · rename_i hc
              cases h
              refine ⟨by simp [tokOk]; omega, ?_⟩
              unfold makesN
              rw [if_neg (by dsimp only; omega)]
              simp
            · cases h
      · cases h
theorem toksF_make {blk basis : Nat} : ∀ (n : Nat) (acc : List Tok) (s : Nat) (r r' : List UInt8) (x : List Tok × Nat), toksF blk basis n acc s r = some (x, r') →
    (∀ t ∈ acc, tokOk (nBlocks basis blk) t = true) → (acc.map (makesN basis blk)).sum = s → (∀ t ∈ x.1, tokOk (nBlocks basis blk) t = true) ∧ (x.1.map (makesN basis blk)).sum = x.2 := by
  intro n
  induction n with
  | zero => intro acc s r r' x h h1 h2; cases h; exact ⟨h1, h2⟩
  | succ n ih =>
    intro acc s r r' x h h1 h2
    unfold toksF at h
    split at h
    · cases h
    · rename_i t k r2 ht
      have hm := tokN_make ht
      refine ih _ _ _ _ _ h (fun e he => ?_) ?_
      · rcases List.mem_append.1 he with he | he
        · exact h1 e he
        · obtain rfl := List.mem_singleton.1 he; exact hm.1
      · rw [List.map_append, List.sum_append, h2, List.map_cons, List.map_nil, hm.2]; simp
theorem tksN_make {blk basis size : Nat} {r r' : List UInt8} {x : List Tok} (h : tksN blk basis size r = some (x, r')) : (∀ t ∈ x, tokOk (nBlocks basis blk) t = true) ∧ (x.map (makesN basis blk)).sum = size := by
  unfold tksN at h
  split at h
  · cases h
  · split at h
    · cases h
    · rename_i l s r2 ht
      split at h
      · rename_i hs
        cases h
        have := toksF_make _ _ _ _ _ _ ht (fun _ h => by simp at h) rfl
        exact ⟨this.1, by rw [this.2]; exact hs⟩
      · cases h
theorem applyF_makes (base : List UInt8) (blk : Nat) : ∀ (l : List Tok) (o : List UInt8), (∀ t ∈ l, tokOk (nBlocks base.length blk) t = true) → o.length + (l.map (makesN base.length blk)).sum ≤ 300 → ∃ d, applyF base blk l o = .inr d := by
  intro l
  induction l with
  | nil => intro o _ _; exact ⟨o, rfl⟩
  | cons t l ih =>
    intro o h1 h2
    simp only [List.map_cons, List.sum_cons, makesN_eq] at h2
    unfold applyF
    rw [if_pos (h1 t (by simp)), if_neg (by rw [List.length_append]; omega)]
    exact ih _ (fun t' ht' => h1 t' (by simp [ht'])) (by rw [List.length_append]; omega)
/-- What a target's tokens are known to make. -/
def TargMade (blk : Nat) (basis : List Ent) (t : Targ) : Prop := (∀ k ∈ t.toks, tokOk (nBlocks (sizeIn basis t.ent.name) blk) k = true) ∧ (t.toks.map (makesN (sizeIn basis t.ent.name) blk)).sum = t.ent.size
theorem targsF_made {blk : Nat} {basis : List Ent} : ∀ (n : Nat) (acc : List Targ) (r r' : List UInt8) (x : List Targ), targsF blk basis n acc r = some (x, r') → (∀ t ∈ acc, TargMade blk basis t) → ∀ t ∈ x, TargMade blk basis t := by
  intro n
  induction n with
  | zero => intro acc r r' x h ha; cases h; exact ha
  | succ n ih =>
    intro acc r r' x h ha
    unfold targsF at h
    split at h
    · cases h
    · rename_i e r2 he
      split at h
      · cases h
      · rename_i l r3 hl
        refine ih _ _ _ _ h (fun t ht => ?_)
        rcases List.mem_append.1 ht with ht | ht
        · exact ha t ht
        · obtain rfl := List.mem_singleton.1 ht
          exact tksN_make hl
theorem bodyN_made {s r : List UInt8} {x : Bat} (h : bodyN s = some (x, r)) : ∀ t ∈ x.targs, TargMade x.block x.basis t := by
  unfold bodyN at h
  split at h
  · cases h
  · split at h
    · cases h
    · split at h
      · cases h
      · split at h
        · cases h
        · split at h
          · cases h
          · split at h
            · cases h
            · split at h
              · cases h
              · split at h
                · cases h
                · split at h
                  · cases h
                  · split at h
                    · cases h
                    · rename_i ht
                      cases h
                      exact targsF_made _ _ _ _ _ ht (fun _ h => by simp at h)
theorem readOf_made {s : List UInt8} {x : Bat} (h : readOf s = some x) : ∀ t ∈ x.targs, TargMade x.block x.basis t := by
  obtain ⟨r, h1, -⟩ := readOf_some h
  exact bodyN_made h1
/-- Over a tree that is the basis no target's tokens err. -/
theorem made_apply {s : List UInt8} {x : Bat} {tr : List Fil} (h : readOf s = some x) (ht : IsTree tr) (hd : difN tr x.basis = none) (t : Targ) (hm : t ∈ x.targs) :
    sized x.block (baseOf tr t.ent.name).length = 0 ∧ ∃ d, applyF (baseOf tr t.ent.name) x.block t.toks [] = .inr d ∧ applyK (baseOf tr t.ent.name) x.block t.toks = .inr d ∧ d.length = t.ent.size := by
  have hok := readOf_ok h
  have h1 := readOf_made h t hm
  have hb := difN_none _ _ hd
  unfold TargMade at h1
  rw [← hb, sizeIn_base tr ht.up] at h1
  have hl := baseOf_len tr (fun g hg => (ht.ok g hg).2) t.ent.name
  have hz : sized x.block (baseOf tr t.ent.name).length = 0 := by unfold sized; rw [if_neg (by have := hok.blk; omega), if_neg (by omega)]
  obtain ⟨d, h2⟩ := applyF_makes (baseOf tr t.ent.name) x.block t.toks [] h1.1 (by rw [h1.2]; have := (hok.ts t hm).2.1; simp; omega)
  refine ⟨hz, d, h2, ?_, ?_⟩
  · unfold applyK
    rw [if_pos hz, Int.toNat_natCast]; exact h2
  · have := applyF_sum _ _ _ _ _ h2
    rw [this, h1.2]; simp
/-- The files of the first targets. -/
theorem takeT_head {tr : List Fil} {blk : Nat} (t : Targ) (ts : List Targ) (acc : List Fil) {d : List UInt8} (h : applyK (baseOf tr t.ent.name) blk t.toks = .inr d) :
    takeT tr blk (t :: ts) acc = if dgN d = t.ent.dig then takeT tr blk ts (acc ++ [⟨t.ent.name, d⟩]) else .inl (.file ⟨t.ent.name.toArray⟩ 11) := by
  conv => lhs; unfold takeT
  rw [h]
/-- difN, read on from the i-th file and the k-th entry. -/
theorem difN_drop_lt {l : List Fil} {m : List Ent} {i : Nat} (hi : i < l.length) : difN (l.drop i) m = match m with
    | [] => some l[i].name
    | e :: m => if bytesLess l[i].name e.name then some l[i].name else if bytesLess e.name l[i].name then some e.name else if l[i].data.length = e.size ∧ dgN l[i].data = e.dig then difN (l.drop (i + 1)) m else some l[i].name := by
  rw [List.drop_eq_getElem_cons hi]
  cases m <;> rfl
end Go.Proofs.YtlcdgbhigfgehabGreatDoor
/- The document's differs: the first name by which a tree is not what is told. -/
namespace Go.Proofs.YtlcdgbhigfgehabGreatDoor
open Go.RowKit
set_option maxRecDepth 100000

/-- Draws behind draws. -/
theorem drew_step {w w1 w2 : World} (h : ∃ n, w1 = w.drewN n) (k : ∃ n, w2 = w1.drewN n) : ∃ n, w2 = w.drewN n := by
  obtain ⟨n, rfl⟩ := h
  obtain ⟨m, rfl⟩ := k
  exact ⟨n + m, World.drewN_drewN ..⟩
theorem Fr.of_drew {w w1 : World} (h : ∃ n, w1 = w.drewN n) : Fr (fun _ => False) w w1 := by obtain ⟨n, rfl⟩ := h; exact (Fr.refl _ _).drewN n
set_option maxHeartbeats 1000000 in
theorem rfind_same (v : Value) (l : List Fil) (B : Nat) (nm : ByteArray) (w : World) (h : Refs w B v l) :
    Calls Tryz.prog 135 #[v, .string nm] w fun e w' => e = .returned (.tuple #[.string ⟨(baseOf l nm.data.toList).toArray⟩, .bool (findF l nm.data.toList).isSome]) ∧ w' = w := by
  have hL := Vec.len h
  unfold maxLen at hL
  have H := Lib.hid h
  obtain ⟨va, vc, hq, -⟩ := Vec.shape h
  subst hq
  clear h
  unfold baseOf
  obtain ⟨TE, hTE⟩ : ∃ TE, findF l nm.data.toList = TE := ⟨_, rfl⟩
  rw [hTE]
  have HTE := Lib.hid hTE
  clear hTE
  go_enter Tryz.func135, Tryz.ntmps135
  go_wp2_with fail
  go_loop [6] (fun iv => ∃ k : Nat, k ≤ l.length ∧ iv = .int .i64 k ∧ TE = findF (l.drop k) nm.data.toList) (fun iv => l.length - (intOf iv).toNat)
  case atStart => exact ⟨0, Nat.zero_le _, rfl, HTE.out.symm⟩
  case round =>
    obtain ⟨k, hk, rfl, htr⟩ := hrel
    have HTR := Lib.hid htr
    clear htr
    by_cases hlt : k < l.length
    · obtain ⟨g, cap, hq, e0, e1, hgl⟩ := Refs.get H.out k hlt
      simp only [Value.slice.injEq, true_and] at hq
      obtain ⟨rfl, rfl⟩ := hq
      have HST := Lib.hid (find_step l k hlt nm.data.toList)
      generalize l[k] = f at *
      by_cases hnm : f.name = nm.data.toList
      · have hne : (f.name == nm.toList) = true := by rw [ByteArray.toList_eq]; simp [hnm]
        have HNM := Lib.hid hnm
        clear hnm
        go_wp2_with fail
        go_ret2
        exact ⟨by rw [HTR.out, HST.out, if_pos HNM.out]; rfl, rfl⟩
      · have hne : (f.name == nm.toList) = false := by rw [ByteArray.toList_eq]; simp [hnm]
        have HNM := Lib.hid hnm
        clear hnm
        go_wp2_with fail
        exact ⟨⟨k + 1, by omega, by go_num, by rw [HTR.out, HST.out, if_neg HNM.out]⟩, by simp [intOf]; omega⟩
    · obtain rfl : k = l.length := by omega
      have hnone : TE = none := by rw [HTR.out, List.drop_of_length_le (Nat.le_refl _)]; rfl
      have HNO := Lib.hid hnone
      clear hnone
      go_wp2_with fail
      go_ret2
      exact ⟨by rw [HNO.out]; rfl, rfl⟩
def difOut (o : Option (List UInt8)) : Value := .tuple #[.string ⟨(o.getD []).toArray⟩, .bool o.isSome]
set_option maxHeartbeats 4000000 in
theorem rdiffers_any (v b : Value) (l : List Fil) (E : List Ent) (B B2 : Nat) (w : World) (h : Refs w B v l) (hb : Vec w B2 152 3 b E.length (entCells E)) (hl : l.length ≤ 8) (he : E.length ≤ 8) (hd : ∀ p ∈ l, p.data.length ≤ 300) :
    Calls Tryz.prog 139 #[v, b] w fun e w' => e = .returned (difOut (difN l E)) ∧ ∃ n, w' = w.drewN n := by
  obtain ⟨va, vc, rfl, -⟩ := Vec.shape h
  obtain ⟨ba, bc, rfl, -⟩ := hb.shape
  have H := Lib.hid h
  have HB := Lib.hid hb
  have HD := Lib.hid hd
  clear h hb hd
  go_enter Tryz.func139, Tryz.ntmps139
  go_wp2_with fail
  go_loopw [6, 7] (fun iv kv wr => ∃ k : Nat, k ≤ l.length ∧ k ≤ E.length ∧ iv = .int .i64 k ∧ kv = .int .i64 k ∧ (∃ n, wr = w.drewN n) ∧ difN l E = difN (l.drop k) (E.drop k)) (fun iv _ _ => 8 - (intOf iv).toNat)
  case atStart => exact ⟨0, Nat.zero_le _, Nat.zero_le _, rfl, rfl, ⟨0, rfl⟩, rfl⟩
  case round =>
    obtain ⟨k, hk1, hk2, rfl, rfl, hdr, hdif⟩ := hrel
    have HFR := Lib.hid hdr
    have hfr : Fr (fun _ => False) w wr := by obtain ⟨n, rfl⟩ := hdr; exact (Fr.refl _ _).drewN n
    clear hdr
    have HDIF := Lib.hid hdif
    clear hdif
    by_cases h1 : k < l.length
    · have hfl : Refs wr B (.slice va l.length vc) l := Vec.keep H.out hfr (fun _ _ h => h)
      obtain ⟨g, cap, hq, f0, f1, -⟩ := hfl.get k h1
      simp only [Value.slice.injEq, true_and] at hq
      obtain ⟨rfl, rfl⟩ := hq
      have hdl := HD.out l[k] (List.getElem_mem _)
      have hLd : l.drop k = l[k] :: l.drop (k + 1) := List.drop_eq_getElem_cons h1
      clear hfl
      by_cases h2 : k < E.length
      · obtain ⟨gE, cE, rE, hqE, -, hoE, -⟩ := (HB.out.keep hfr (fun _ _ h => h)).row (by omega)
        simp only [Value.slice.injEq, true_and] at hqE
        obtain ⟨rfl, rfl⟩ := hqE
        have hge := entCells_get E k h2
        have e0 := hoE.cell (i := k * 3) (by rw [List.getElem?_append_left (by simp; omega)]; exact hge.1)
        have e1 := hoE.cell (i := k * 3 + 1) (by rw [List.getElem?_append_left (by simp; omega)]; exact hge.2.1)
        have e2 := hoE.cell (i := k * 3 + 2) (by rw [List.getElem?_append_left (by simp; omega)]; exact hge.2.2)
        have hEd : E.drop k = E[k] :: E.drop (k + 1) := List.drop_eq_getElem_cons h2
        have hdk : difN l E = difN (l[k] :: l.drop (k + 1)) (E[k] :: E.drop (k + 1)) := by rw [HDIF.out, hLd, hEd]
        have HDK := Lib.hid hdk
        clear hge hoE hdk hLd hEd hfr
        generalize l[k] = lk at *
        generalize E[k] = ek at *
        obtain ⟨nm, dt⟩ := lk
        obtain ⟨en, sz, dg⟩ := ek
        dsimp only at hdl f0 f1 e0 e1 e2 HDK
        obtain ⟨dtB, hdB⟩ : ∃ s : ByteArray, s = ⟨dt.toArray⟩ := ⟨_, rfl⟩
        have hdd : dt = dtB.data.toList := by rw [hdB]
        rw [← hdB] at f1
        subst hdd
        have hds : dtB.data.toList.length = dtB.size := by simp
        rw [hds] at hdl
        clear hdB
        have z1 : decide ((k : Int) < (l.length : Int)) = true := by simp; omega
        have z2 : ((k : Int) == (E.length : Int)) = false := by simp; omega
        have z3 : ((k : Int) == (l.length : Int)) = false := by simp; omega
        have z4 : decide ((k : Int) < (E.length : Int)) = true := by simp; omega
        by_cases b1 : Op.bytesLess nm en = true
        · have HN := Lib.hid (show difN l E = some nm by rw [HDK.out]; unfold difN; rw [if_pos b1])
          clear hds
          go_wp2_with fail
          go_quiet (fail)
          go_wp2_with fail
          go_ret2
          exact ⟨by rw [HN.out]; rfl, drew_step HFR.out ⟨_, rfl⟩⟩
        · have b1' : Op.bytesLess nm en = false := by simpa using b1
          by_cases b2 : Op.bytesLess en nm = true
          · have HN := Lib.hid (show difN l E = some en by rw [HDK.out]; unfold difN; rw [if_neg b1, if_pos b2])
            clear b1 hds
            go_wp2_with fail
            go_quiet (fail)
            go_wp2_with fail
            go_quiet (fail)
            go_wp2_with fail
            go_ret2
            exact ⟨by rw [HN.out]; rfl, drew_step HFR.out ⟨_, rfl⟩⟩
          · have b2' : Op.bytesLess en nm = false := by simpa using b2
            by_cases hs : dtB.data.toList.length = sz
            · have hs' : dtB.size = sz := by rw [← hds]; exact hs
              by_cases hdg : dgN dtB.data.toList = dg
              · have HN := Lib.hid (show difN l E = difN (l.drop (k + 1)) (E.drop (k + 1)) by rw [HDK.out]; conv => lhs; unfold difN; rw [if_neg b1, if_neg b2, if_pos ⟨hs, hdg⟩])
                have q2 : (dgOf dtB.data.toList == (dg : Int)) = true := by rw [← hdg, dgN_int]; simp
                have q3 : (dgOf dtB.data.toList != (dg : Int)) = false := by rw [← hdg, dgN_int]; simp
                subst hs'
                have q4 : ((dtB.size : Int) != (dtB.size : Int)) = false := by simp
                clear b1 b2 hdg hs hds
                have HDG := Lib.hid (fun w => rdigest_any dtB w (by unfold maxLen; omega))
                generalize dgOf dtB.data.toList = dgv at *
                go_wp2_with fail
                go_quiet (fail)
                go_wp2_with fail
                go_quiet (fail)
                go_wp2_with fail
                refine (HDG.out _).mono ?_
                rintro e w' ⟨rfl, hw'⟩
                subst hw'
                clear HDG
                go_wp2_with fail
                go_quiet (fail)
                go_wp2_with fail
                refine ⟨⟨k + 1, by omega, by omega, by go_num, by go_num, drew_step HFR.out ⟨_, rfl⟩, HN.out⟩, by simp [intOf]; omega⟩
              · have HN := Lib.hid (show difN l E = some nm by rw [HDK.out]; unfold difN; rw [if_neg b1, if_neg b2, if_neg (fun h => hdg h.2)])
                have q2 : (dgOf dtB.data.toList == (dg : Int)) = false := by rw [← dgN_int]; simp; omega
                have q3 : (dgOf dtB.data.toList != (dg : Int)) = true := by rw [← dgN_int]; simp; omega
                subst hs'
                have q4 : ((dtB.size : Int) != (dtB.size : Int)) = false := by simp
                clear b1 b2 hdg hs hds
                have HDG := Lib.hid (fun w => rdigest_any dtB w (by unfold maxLen; omega))
                generalize dgOf dtB.data.toList = dgv at *
                go_wp2_with fail
                go_quiet (fail)
                go_wp2_with fail
                go_quiet (fail)
                go_wp2_with fail
                refine (HDG.out _).mono ?_
                rintro e w' ⟨rfl, hw'⟩
                subst hw'
                clear HDG
                go_wp2_with fail
                go_quiet (fail)
                go_wp2_with fail
                go_ret2
                exact ⟨by rw [HN.out]; rfl, drew_step HFR.out ⟨_, rfl⟩⟩
            · have HN := Lib.hid (show difN l E = some nm by rw [HDK.out]; unfold difN; rw [if_neg b1, if_neg b2, if_neg (fun h => hs h.1)])
              have hs' : dtB.size ≠ sz := by rw [← hds]; exact hs
              have q4 : ((dtB.size : Int) != (sz : Int)) = true := by simp; omega
              have q5 : ((dtB.size : Int) == (sz : Int)) = false := by simp; omega
              clear b1 b2 hs hds
              have HDG := Lib.hid (fun w => rdigest_any dtB w (by unfold maxLen; omega))
              generalize dgOf dtB.data.toList = dgv at *
              go_wp2_with fail
              go_quiet (fail)
              go_wp2_with fail
              go_quiet (fail)
              go_wp2_with fail
              refine (HDG.out _).mono ?_
              rintro e w' ⟨rfl, hw'⟩
              subst hw'
              clear HDG
              go_wp2_with fail
              go_quiet (fail)
              go_wp2_with fail
              go_ret2
              exact ⟨by rw [HN.out]; rfl, drew_step HFR.out ⟨_, rfl⟩⟩
      · have hEn : E.drop k = [] := List.drop_eq_nil_of_le (by omega)
        have HN := Lib.hid (show difN l E = some l[k].name by rw [HDIF.out, hLd, hEn]; rfl)
        have hkE : k = E.length := by omega
        clear hLd hEn hfr hdl
        generalize l[k] = lk at *
        have z1 : decide ((k : Int) < (l.length : Int)) = true := by simp; omega
        have z2 : ((k : Int) == (E.length : Int)) = true := by simp; omega
        clear hkE
        go_wp2_with fail
        go_quiet (fail)
        go_wp2_with fail
        go_ret2
        exact ⟨by rw [HN.out]; rfl, drew_step HFR.out ⟨_, rfl⟩⟩
    · have hLn : l.drop k = [] := List.drop_eq_nil_of_le (by omega)
      have hkl : k = l.length := by omega
      by_cases h2 : k < E.length
      · obtain ⟨gE, cE, rE, hqE, -, hoE, -⟩ := (HB.out.keep hfr (fun _ _ h => h)).row (by omega)
        simp only [Value.slice.injEq, true_and] at hqE
        obtain ⟨rfl, rfl⟩ := hqE
        have hge := entCells_get E k h2
        have e0 := hoE.cell (i := k * 3) (by rw [List.getElem?_append_left (by simp; omega)]; exact hge.1)
        have hEd : E.drop k = E[k] :: E.drop (k + 1) := List.drop_eq_getElem_cons h2
        have HN := Lib.hid (show difN l E = some E[k].name by rw [HDIF.out, hLn, hEd]; rfl)
        clear hge hoE hEd hLn hfr
        generalize E[k] = ek at *
        have z1 : decide ((k : Int) < (l.length : Int)) = false := by simp; omega
        have z2 : ((k : Int) == (E.length : Int)) = false := by simp; omega
        have z3 : ((k : Int) == (l.length : Int)) = true := by simp; omega
        have z4 : decide ((k : Int) < (E.length : Int)) = true := by simp; omega
        clear hkl
        go_wp2_with fail
        go_quiet (fail)
        go_wp2_with fail
        go_quiet (fail)
        go_wp2_with fail
        go_ret2
        exact ⟨by rw [HN.out]; rfl, drew_step HFR.out ⟨_, rfl⟩⟩
      · have hEn : E.drop k = [] := List.drop_eq_nil_of_le (by omega)
        have HN := Lib.hid (show difN l E = none by rw [HDIF.out, hLn, hEn]; rfl)
        have z1 : decide ((k : Int) < (l.length : Int)) = false := by simp; omega
        have z4 : decide ((k : Int) < (E.length : Int)) = false := by simp; omega
        clear hLn hEn hfr hkl
        go_wp2_with fail
        go_ret2
        exact ⟨by rw [HN.out]; rfl, HFR.out⟩
end Go.Proofs.YtlcdgbhigfgehabGreatDoor
/- The document's mirror: made, started again. -/
namespace Go.Proofs.YtlcdgbhigfgehabGreatDoor
open Go.RowKit
set_option maxRecDepth 100000

/-- A mirror of the document's in memory. -/
def RMirC (w : World) (gr : Nat) (tv : Value) (room : Int) (down : Bool) (hv : Value) : Prop := Own w gr 203 [tv, .int .i64 room, .bool down, hv]
def RNewP (w : World) (l : List Fil) (v : Value) (room : Int) (p : Value) (w' : World) : Prop :=
  (newErr l room = .none → ∃ gr, p = .pointer (some ⟨gr, 0, none⟩) ∧ w.heap.size ≤ gr ∧ RMirC w' gr v room false (.slice none 0 0)) ∧ (newErr l room ≠ .none → p = .pointer none)
def RNewQ (w : World) (l : List Fil) (v : Value) (room : Int) (e : Ending) (w' : World) : Prop := ∃ p, e = .returned (.tuple #[p, .int .i64 (newErr l room).k, .string (newErr l room).name]) ∧ Fr (fun _ => False) w w' ∧ RNewP w l v room p w'
theorem RNewQ.bad {w w' : World} {l : List Fil} {v : Value} {room : Int} (E : Err) (h : newErr l room = E) (hE : E ≠ .none) (hf : Fr (fun _ => False) w w') : RNewQ w l v room (.returned (.tuple #[.pointer none, .int .i64 E.k, .string E.name])) w' :=
  ⟨_, by rw [h], hf, fun e => absurd (h.symm.trans e) hE, fun _ => rfl⟩
theorem RNewQ.good {w w' : World} {l : List Fil} {v : Value} {room : Int} {gr : Nat} (h : newErr l room = .none) (hf : Fr (fun _ => False) w w') (hg : w.heap.size ≤ gr) (ho : RMirC w' gr v room false (.slice none 0 0)) : RNewQ w l v room (.returned (.tuple #[.pointer (some ⟨gr, 0, none⟩), .int .i64 0, .string ByteArray.empty])) w' :=
  ⟨_, by rw [h]; rfl, hf, fun _ => ⟨gr, rfl, hg, ho⟩, fun e => absurd h e⟩
set_option maxHeartbeats 1000000 in
theorem rnew_any (v : Value) (l : List Fil) (B : Nat) (room : Int) (w : World) (h : Refs w B v l) (hn : ∀ p ∈ l, p.name.length ≤ 1000000) (hd : ∀ p ∈ l, p.data.length ≤ 1000000) :
    Calls Tryz.prog 103 #[v, .int .i64 room] w (RNewQ w l v room) := by
  have HT := Lib.hid (rtree_any v l B w h hn hd)
  obtain ⟨va, vc, rfl, -⟩ := Vec.shape h
  clear h hn hd
  go_enter Tryz.func103, Tryz.ntmps103
  go_wp2_with fail
  refine HT.out.mono ?_
  rintro e w1 ⟨rfl, hf1⟩
  have HF1 := Lib.hid hf1
  have hz1 := hf1.size
  cases htr : treeErr l with
  | some n =>
    have HE := Lib.hid (show newErr l room = .file ⟨n.toArray⟩ 4 by unfold newErr; rw [htr])
    clear htr hf1
    go_wp2_with fail
    go_ret3
    exact RNewQ.bad _ HE.out (by simp) HF1.out
  | none =>
    by_cases h3 : room < 0 ∨ 1048576 < room
    · have HE := Lib.hid (show newErr l room = .kind 6 by unfold newErr; rw [htr]; exact if_pos h3)
      clear htr hf1
      rcases h3 with h1 | h2
      · go_wp2_with fail
        go_ret3
        exact RNewQ.bad _ HE.out (by simp) HF1.out
      · have h1 : ¬ room < 0 := by omega
        go_wp2_with fail
        go_ret3
        exact RNewQ.bad _ HE.out (by simp) HF1.out
    · have HE := Lib.hid (show newErr l room = .none by unfold newErr; rw [htr]; exact if_neg h3)
      have h1 : ¬ room < 0 := by omega
      have h2 : ¬ 1048576 < room := by omega
      clear htr hf1 h3
      go_wp2_with fail
      go_ret3
      exact RNewQ.good HE.out (HF1.out.alloc _) hz1 (Own.alloc w1 #[.slice va l.length vc, .int .i64 room, .bool false, .slice none 0 0] 203)
/-- What Recover tells, and does. -/
def RRecQ (w : World) (gr : Nat) (tv hv : Value) (room crash : Int) (down : Bool) (e : Ending) (w' : World) : Prop :=
  (down = false ∧ e = .returned (.int .i64 8) ∧ Fr (fun _ => False) w w') ∨ (down = true ∧ crash = 1 ∧ e = .returned (.int .i64 12) ∧ Fr (fun _ => False) w w') ∨
      (down = true ∧ crash ≠ 1 ∧ e = .returned (.int .i64 0) ∧ RMirC w' gr hv room false hv ∧ Fr (fun b => b = gr) w w')
set_option maxHeartbeats 1000000 in
theorem rrecover_any (gr : Nat) (tv hv : Value) (room crash : Int) (down : Bool) (w : World) (h : RMirC w gr tv room down hv) (ht : ∃ a n c, hv = .slice a n c) :
    Calls Tryz.prog 59 #[.pointer (some ⟨gr, 0, none⟩), .int .i64 crash] w (RRecQ w gr tv hv room crash down) := by
  obtain ⟨ha, hn, hc, rfl⟩ := ht
  have c0 := Own.cell h (i := 0) rfl
  have c2 := Own.cell h (i := 2) rfl
  have c3 := Own.cell h (i := 3) rfl
  have f0 := Own.free h 0 (by simp)
  have f2 := Own.free h 2 (by simp)
  have H := Lib.hid h
  clear h
  cases down with
  | false =>
    go_enter Tryz.func59, Tryz.ntmps59
    go_wp2_with fail
    go_ret
    exact .inl ⟨rfl, rfl, Fr.refl _ _⟩
  | true =>
    by_cases hcr : crash = 1
    · subst hcr
      go_enter Tryz.func59, Tryz.ntmps59
      go_wp2_with fail
      go_ret
      exact .inr (.inl ⟨rfl, rfl, rfl, Fr.refl _ _⟩)
    · have z1 : (crash == 1) = false := by simpa using hcr
      have HC := Lib.hid hcr
      clear hcr
      go_enter Tryz.func59, Tryz.ntmps59
      go_wp2_with fail
      go_ret
      refine .inr (.inr ⟨rfl, HC.out, rfl, ?_, ?_⟩)
      · exact (Own.set H.out 2 (.bool false)).set 0 (.slice ha hn hc)
      · exact ((Fr.refl (fun b => b = gr) w).setCell ⟨gr, 2, none⟩ _ (fun _ => rfl)).setCell ⟨gr, 0, none⟩ _ (fun _ => rfl)
end Go.Proofs.YtlcdgbhigfgehabGreatDoor
/- The document's reader of batches: a target's tokens. -/
namespace Go.Proofs.YtlcdgbhigfgehabGreatDoor
open Go.RowKit
set_option maxRecDepth 100000

set_option maxHeartbeats 1000000 in
theorem rmade_any (size blk b c : Nat) (w : World) (h1 : size ≤ 300) (h2 : 1 ≤ blk) (h3 : blk ≤ 64) (h4 : 0 < c) (h5 : b + c ≤ nBlocks size blk) :
    Calls Tryz.prog 159 #[.int .i64 size, .int .i64 blk, .int .i64 b, .int .i64 c] w fun e w' => e = .returned (.int .i64 (madeOf size blk b c : Nat)) ∧ w = w' := by
  have hnb := (nBlocks_mul size blk (by omega)).2.2
  have hp1 : (b + c) * blk ≤ 300 * 64 := Nat.mul_le_mul (by omega) h3
  have hp2 : b * blk ≤ 300 * 64 := Nat.mul_le_mul (by omega) h3
  have hm1 : IntKind.i64.wrap (((b : Int) + c) * blk) = (((b + c) * blk : Nat) : Int) := by
    rw [show ((b : Int) + c) * blk = (((b + c) * blk : Nat) : Int) by push_cast; rfl]
    exact IntWalk.i64_in _ (by omega)
  have hm2 : IntKind.i64.wrap ((b : Int) * blk) = ((b * blk : Nat) : Int) := by
    rw [show (b : Int) * blk = ((b * blk : Nat) : Int) by push_cast; rfl]
    exact IntWalk.i64_in _ (by omega)
  have hm3 : IntKind.i64.wrap ((b : Int) + c) = (b : Int) + c := IntWalk.i64_in _ (by omega)
  have hlt : b * blk < size := (lt_nBlocks size blk b (by omega)).1 (by omega)
  have hle : b * blk ≤ (b + c) * blk := Nat.mul_le_mul_right _ (by omega)
  have hmo : madeOf size blk b c = min ((b + c) * blk) size - b * blk := rfl
  obtain ⟨A, hA⟩ : ∃ A, (b + c) * blk = A := ⟨_, rfl⟩
  obtain ⟨D, hD⟩ : ∃ D, b * blk = D := ⟨_, rfl⟩
  rw [hA] at hm1 hp1 hle hmo
  rw [hD] at hm2 hp2 hle hlt hmo
  have HMO := Lib.hid hmo
  clear hA hD hmo
  by_cases hAs : (size : Int) < (A : Int)
  · have hw : IntKind.i64.wrap ((size : Int) - D) = (size : Int) - D := IntWalk.i64_in _ (by omega)
    go_enter Tryz.func159, Tryz.ntmps159
    go_wp2_with fail
    go_ret
    refine ⟨?_, rfl⟩
    have : ((madeOf size blk b c : Nat) : Int) = (size : Int) - D := by rw [HMO.out]; omega
    rw [this]; rfl
  · have hw : IntKind.i64.wrap ((A : Int) - D) = (A : Int) - D := IntWalk.i64_in _ (by omega)
    go_enter Tryz.func159, Tryz.ntmps159
    go_wp2_with fail
    go_ret
    refine ⟨?_, rfl⟩
    have : ((madeOf size blk b c : Nat) : Int) = (A : Int) - D := by rw [HMO.out]; omega
    rw [this]; rfl
theorem tokA_rel {s : ByteArray} {blk basis q q1 q2 q3 kd k : Nat} {t : List UInt8} {ok1 ok2 ok3 ok4 ok5 : Bool} (h1 : NumRel true s q 1 kd q1 ok1) (h0 : kd = 0) (h2 : (ok1 && decide ((kd : Int) < 2)) = ok2) (h3 : NumRel ok2 s q1 1 k q2 ok3) (h4 : (ok3 && decide (0 < k)) = ok4) (h5 : TxtRel ok4 s q2 k t q3 ok5) :
    match tokN blk basis (s.data.toList.drop q) with
    | none => ok5 = false
    | some ((tk, m), r) => ok5 = true ∧ tk = ⟨0, 0, t⟩ ∧ m = t.length ∧ r = s.data.toList.drop q3 := by
  unfold tokN
  subst h0
  rcases h1 with ⟨rfl, -, e1⟩ | ⟨rfl, -, e1⟩
  · rw [e1]; simp only [if_true]
    simp at h2; subst h2
    rcases h3 with ⟨rfl, -, e3⟩ | ⟨rfl, -, e3⟩
    · rw [e3]; simp only
      by_cases hk : k = 0
      · rw [if_pos hk]
        rw [decide_eq_false (by omega)] at h4
        simp at h4; subst h4
        exact h5.dead
      · rw [if_neg hk]
        rw [decide_eq_true (by omega)] at h4
        simp at h4; subst h4
        rcases h5 with ⟨rfl, -, e5⟩ | ⟨rfl, e5⟩
        · rw [e5]
          refine ⟨rfl, rfl, ?_, rfl⟩
          unfold takeN at e5
          split at e5
          · cases e5
          · rename_i hlk
            simp only [Option.some.injEq, Prod.mk.injEq] at e5
            rw [← e5.1, List.length_take]; omega
        · rw [e5 rfl]
    · rw [e3 rfl]
      simp at h4; subst h4
      exact h5.dead
  · rw [e1 rfl]
    simp at h2; subst h2
    have := h3.dead; subst this
    simp at h4; subst h4
    exact h5.dead
theorem tokB_rel {s : ByteArray} {blk basis q q1 q2 q3 kd b c : Nat} {ok1 ok2 ok3 ok4 ok5 B : Bool} (h1 : NumRel true s q 1 kd q1 ok1) (h0 : kd ≠ 0) (h2 : (ok1 && decide ((kd : Int) < 2)) = ok2) (h3 : NumRel ok2 s q1 2 b q2 ok3) (h4 : NumRel ok3 s q2 1 c q3 ok4) (hB : B = decide (0 < c ∧ b + c ≤ nBlocks basis blk)) (h5 : (ok4 && B) = ok5) :
    match tokN blk basis (s.data.toList.drop q) with
    | none => ok5 = false
    | some ((tk, m), r) => ok5 = true ∧ tk = ⟨b, c, []⟩ ∧ m = madeOf basis blk b c ∧ r = s.data.toList.drop q3 ∧ 0 < c ∧ b + c ≤ nBlocks basis blk := by
  unfold tokN
  rcases h1 with ⟨rfl, -, e1⟩ | ⟨rfl, -, e1⟩
  · rw [e1]; simp only
    rw [if_neg h0]
    by_cases hk : kd = 1
    · subst hk
      rw [if_pos rfl]
      simp at h2; subst h2
      rcases h3 with ⟨rfl, -, e3⟩ | ⟨rfl, -, e3⟩
      · rw [e3]; simp only
        rcases h4 with ⟨rfl, -, e4⟩ | ⟨rfl, -, e4⟩
        · rw [e4]; simp only
          by_cases hc : 0 < c ∧ b + c ≤ nBlocks basis blk
          · rw [if_pos hc]
            rw [hB, decide_eq_true hc] at h5
            exact ⟨h5.symm, rfl, rfl, rfl, hc.1, hc.2⟩
          · rw [if_neg hc]
            rw [hB, decide_eq_false hc] at h5
            exact h5.symm
        · rw [e4 rfl]
          simp at h5; subst h5; rfl
      · rw [e3 rfl]
        have := h4.dead; subst this
        simp at h5; subst h5; rfl
    · rw [if_neg hk]
      rw [decide_eq_false (by omega)] at h2
      simp at h2; subst h2
      have := h3.dead; subst this
      have := h4.dead; subst this
      simp at h5; subst h5; rfl
  · rw [e1 rfl]
    simp at h2; subst h2
    have := h3.dead; subst this
    have := h4.dead; subst this
    simp at h5; subst h5; rfl
theorem toksF_succ (blk basis n : Nat) (acc : List Tok) (s : Nat) (r : List UInt8) : toksF blk basis (n + 1) acc s r = (match tokN blk basis r with | none => none | some ((t, k), r) => toksF blk basis n (acc ++ [t]) (s + k) r) := rfl
/-- What the document's reading of tokens gives. -/
def RTksO (ok : Bool) (s : ByteArray) (p blk size : Nat) : Option ((List Tok × Nat) × List UInt8) :=
  if ok = true then (match numN 2 (s.data.toList.drop p) with | none => none | some (n, r) => toksF blk size n [] 0 r) else none
def RTksPost (w : World) (rb : Nat) (s : ByteArray) (o : Option ((List Tok × Nat) × List UInt8)) (e : Ending) (w' : World) : Prop :=
  Fr (fun k => k = rb) w w' ∧ ∃ (v : Value) (l : List (Tok × Value)) (all p' : Nat) (ok' : Bool), e = .returned (.tuple #[v, .int .i64 all]) ∧ OToks w' w.heap.size v l ∧ all ≤ 65536 * 20000 ∧ RR w' rb s p' ok' ∧
    match o with
    | none => ok' = false
    | some ((t, m), r) => ok' = true ∧ l.map (·.1) = t ∧ all = m ∧ r = s.data.toList.drop p'
set_option maxHeartbeats 1500000 in
theorem rrtokens_any (w : World) (rb : Nat) (s : ByteArray) (p : Nat) (ok : Bool) (h : RR w rb s p ok) (hs : s.size ≤ 1000000) (size blk : Nat) (hb1 : 1 ≤ blk) (hb2 : blk ≤ 64) (hb3 : size ≤ 300) :
    Calls Tryz.prog 156 #[.pointer (some ⟨rb, 0, none⟩), .int .i64 size, .int .i64 blk] w (RTksPost w rb s (RTksO ok s p blk size)) := by
  have hrb := h.own.lt
  have HR := Lib.hid h
  obtain ⟨O, hO⟩ : ∃ O, RTksO ok s p blk size = O := ⟨_, rfl⟩
  have HOO := Lib.hid hO
  rw [hO]
  clear hO h
  go_enter Tryz.func156, Tryz.ntmps156
  go_wp2_with fail
  go_at_call 154; refine (rnum_any _ rb s p 2 _ rfl ok HR.out hs (by omega)).mono ?_
  rintro e w1 ⟨n0, p1, ok1, rfl, hr1, hf1, hn0, hn1⟩
  have hn0' : n0 < 65536 := hn0
  have hG : (ok1 = true ∧ O = toksF blk size n0 [] 0 (s.data.toList.drop p1)) ∨ (ok1 = false ∧ O = none) := by
    have h2 := HOO.out
    unfold RTksO at h2
    rcases hn1 with ⟨rfl, rfl, e1⟩ | ⟨rfl, -, e1⟩
    · rw [if_pos rfl, e1] at h2
      exact .inl ⟨rfl, h2.symm⟩
    · refine .inr ⟨rfl, ?_⟩
      cases ok with
      | true => rw [if_pos rfl, e1 rfl] at h2; exact h2.symm
      | false => exact h2.symm
  have HG := Lib.hid hG
  have HR1 := Lib.hid hr1
  have HF1 := Lib.hid hf1
  clear hG hr1 hf1 hn1 hn0
  go_wp2_with fail
  go_loopw [9, 10, 11] (fun lv av iv wr => ∃ (i q S : Nat) (okc : Bool) (l : List (Tok × Value)), av = .int .i64 S ∧ iv = .int .u64 i ∧ i ≤ n0 ∧ RR wr rb s q okc ∧ OToks wr w.heap.size lv l ∧ l.length ≤ i ∧ S ≤ i * 20000 ∧ Fr (fun k => k = rb) w wr ∧
    ((okc = true ∧ O = toksF blk size (n0 - i) (l.map (·.1)) S (s.data.toList.drop q)) ∨ (okc = false ∧ O = none))) (fun _ _ iv _ => n0 - (intOf iv).toNat)
  case atStart => exact ⟨0, p1, 0, ok1, [], rfl, rfl, Nat.zero_le _, HR1.out, OToks.nil _ _, Nat.zero_le _, Nat.zero_le _, HF1.out, HG.out⟩
  case round =>
    obtain ⟨i, q, S, okc, l, rfl, rfl, hi, hrr, hot, hli, hS, hfr, hgh⟩ := hrel
    have y2 := hrr.own.cell (i := 2) rfl
    have HRR := Lib.hid hrr
    have HOT := Lib.hid hot
    have HFR := Lib.hid hfr
    have HGH := Lib.hid hgh
    obtain ⟨la, lc, hlv, -⟩ := hot.vec.shape
    subst hlv
    have hS2 : S ≤ 65536 * 20000 := by omega
    have hwz := hfr.size
    clear hrr hot hfr hgh
    by_cases hlt : i < n0
    · cases okc with
      | false =>
        have hON : O = none := by
          rcases HGH.out with ⟨h, _⟩ | ⟨_, h⟩
          · cases h
          · exact h
        have HON := Lib.hid hON
        clear hON
        go_wp2_with fail
        go_ret2
        rw [HON.out]
        exact ⟨HFR.out, .slice la l.length lc, l, S, q, false, rfl, HOT.out, hS2, HRR.out, rfl⟩
      | true =>
        have hGO : O = toksF blk size (n0 - i) (l.map (·.1)) S (s.data.toList.drop q) := by
          rcases HGH.out with ⟨_, h⟩ | ⟨h, _⟩
          · exact h
          · cases h
        have GO := Lib.hid hGO
        clear hGO
        go_wp2_with fail
        go_at_call 154; refine (rnum_any _ rb s q 1 _ rfl true HRR.out hs (by omega)).mono ?_
        rintro e w2 ⟨kd, q1, ok1', rfl, hr2, hf2, hkd, hn2⟩
        have hkd' : kd < 256 := hkd
        have HN2 := Lib.hid hn2
        have HR2 := Lib.hid hr2
        have HF2 := Lib.hid hf2
        clear hn2 hr2 hf2 hkd
        go_wp2_with fail
        go_at_call 153; refine (rmust_any _ rb s q1 ok1' (decide ((kd : Int) < 2)) HR2.out).mono ?_
        rintro e w3 ⟨rfl, hr3, hf3⟩
        obtain ⟨ok2, hok2⟩ : ∃ b, (ok1' && decide ((kd : Int) < 2)) = b := ⟨_, rfl⟩
        rw [hok2] at hr3
        have HK2 := Lib.hid hok2
        have HR3 := Lib.hid hr3
        have HF3 := Lib.hid (HF2.out.step hf3 (fun _ h _ => h))
        clear hok2 hr3 hf3
        by_cases hk0 : kd = 0
        · subst hk0
          go_wp2_with fail
          go_at_call 154; refine (rnum_any _ rb s q1 1 _ rfl ok2 HR3.out hs (by omega)).mono ?_
          rintro e w4 ⟨k, q2, ok3, rfl, hr4, hf4, hkl, hn4⟩
          have hkl' : k < 256 := hkl
          have HN4 := Lib.hid hn4
          have HR4 := Lib.hid hr4
          have HF4 := Lib.hid (HF3.out.step hf4 (fun _ h _ => h))
          clear hn4 hr4 hf4 hkl
          go_wp2_with fail
          go_at_call 153; refine (rmust_any _ rb s q2 ok3 (decide (0 < k)) HR4.out).mono ?_
          rintro e w5 ⟨rfl, hr5, hf5⟩
          obtain ⟨ok4, hok4⟩ : ∃ b, (ok3 && decide (0 < k)) = b := ⟨_, rfl⟩
          rw [hok4] at hr5
          have HK4 := Lib.hid hok4
          have HR5 := Lib.hid hr5
          have HF5 := Lib.hid (HF4.out.step hf5 (fun _ h _ => h))
          have hck : IntKind.i64.wrap (k : Int) = (k : Int) := IntWalk.i64_in _ (by omega)
          clear hok4 hr5 hf5
          go_wp2_with fail
          go_at_call 152; refine (rtext_any _ rb s q2 k _ rfl ok4 HR5.out hs (by omega)).mono ?_
          rintro e w6 ⟨t, q3, ok5, rfl, hr6, hf6, htl, hn6⟩
          have HN6 := Lib.hid hn6
          have HR6 := Lib.hid hr6
          have HF6 := Lib.hid (HF5.out.step hf6 (fun _ h _ => h))
          clear hn6 hr6 hf6
          obtain ⟨tb, htb⟩ : ∃ tb : ByteArray, tb = ⟨t.toArray⟩ := ⟨_, rfl⟩
          have htbl : tb.data.toList = t := by rw [htb]
          have htbs : tb.size = t.length := by
            have : tb.data.toList.length = tb.size := by simp
            rw [htbl] at this; omega
          rw [← htb]
          clear htb
          obtain ⟨cap, rest, w7, c1, c2, c3, c4, c5, c6, c7, -⟩ := run_bytes_from (P := Tryz.prog) w6 9 25 5 tb Tryz.underlying9 Tryz.underlying25 Tryz.underlying5 (by omega)
          rw [htbl] at c4
          rw [htbs] at c1 c2 c5
          have hwz6 := HF6.out.size
          have HDV := Lib.hid (show Vec w7 w.heap.size 5 1 (.slice (some ⟨w6.heap.size, 0, none⟩) t.length cap) t.length (bcells t) from ⟨by simp, .inr ⟨w6.heap.size, cap, rest, rfl, by omega, c4, by simp; omega, c2, c3⟩⟩)
          have HF7 := Lib.hid (HF6.out.step c6 (fun _ h _ => h.elim))
          have HR7 := Lib.hid (HR6.out.keep c6 id)
          have HOT7 := Lib.hid (HOT.out.below HF7.out (fun b hb => by subst hb; exact hrb))
          have RTK := Lib.hid (tokA_rel (blk := blk) (basis := size) HN2.out rfl HK2.out HN4.out HK4.out HN6.out)
          have hwS : IntKind.i64.wrap ((S : Int) + t.length) = (S : Int) + t.length := IntWalk.i64_in _ (by omega)
          have hui : IntKind.u64.wrap ((i : Int) + 1) = (i : Int) + 1 := by rw [show ∀ n : Int, IntKind.u64.wrap n = n % 18446744073709551616 from fun n => by simp [IntKind.wrap, IntKind.bits, IntKind.signed]]; omega
          clear c4 c6 c2 c3 c5
          go_wp2_with (at_builtin; refine wpList_append_vec rfl (.tmp 50) (.tmp 54) _ rfl w.heap.size 171 3 40 elt_tok (HOT7.out.vec.keep ((Fr.refl (fun _ => False) _).alloc _) (fun _ _ h => h)) rfl (m := 1) (Reads.new _ _ _ _ (by first | omega | simp) _ _) rfl rfl (tok_one _ _ _ _ _) (by unfold maxLen; omega) (by omega) (by simp; omega) ?_; intro v8 w8 hv8 hf8 hd8 hn8; obtain ⟨a8, c8, hsh8, -⟩ := hv8.shape; subst hsh8; have HV8 := Lib.hid hv8; have HF8 := Lib.hid hf8; clear hv8 hf8 hd8 hn8)
          have hota := HOT7.out.keep0 ((Fr.refl (fun _ => False) w7).alloc (.cells #[.int .i64 0, .int .i64 0, .slice (some ⟨w6.heap.size, 0, none⟩) t.length cap] 171))
          have hdva := (HDV.out.keep ((Fr.refl (fun _ => False) w7).alloc (.cells #[.int .i64 0, .int .i64 0, .slice (some ⟨w6.heap.size, 0, none⟩) t.length cap] 171)) (fun _ _ h => h)).keep HF8.out (fun b hb hs => by
            have := (HOT.out.vec.lt b hs).2
            simp [Value.ownBlock] at hb
            have := HF6.out.size
            omega)
          have hsn := hota.snoc (t := ⟨0, 0, t⟩) HV8.out HF8.out hdva (fun p hp b hb hb2 => by
            have := (HOT.out.lt p hp b hb).2
            simp [Value.ownBlock] at hb2
            have := HF6.out.size
            omega)
          have hF8 : Fr (fun k => k = rb) w w8 := (HFR.out.step (HF7.out.alloc (.cells #[.int .i64 0, .int .i64 0, .slice (some ⟨w6.heap.size, 0, none⟩) t.length cap] 171)) (fun _ h _ => h)).step HF8.out (fun b hb hl => by have := (HOT.out.vec.lt b hb).1; omega)
          have hR8 := (HR7.out.keep ((Fr.refl (fun _ => False) w7).alloc (.cells #[.int .i64 0, .int .i64 0, .slice (some ⟨w6.heap.size, 0, none⟩) t.length cap] 171)) id).keep HF8.out (fun hb => by have := (HOT.out.vec.lt _ hb).1; omega)
          refine ⟨⟨i + 1, q3, S + t.length, ok5, l ++ [(⟨0, 0, t⟩, .slice (some ⟨w6.heap.size, 0, none⟩) t.length cap)], congrArg (Value.int .i64) (by omega), congrArg (Value.int .u64) (by omega), by omega, hR8, hsn, by simp; omega, by omega, hF8, ?_⟩, by simp [intOf]; omega⟩
          have hr2 := RTK.out
          rw [GO.out, show n0 - i = (n0 - (i + 1)) + 1 by omega, toksF_succ]
          cases hT : tokN blk size (s.data.toList.drop q) with
          | none => rw [hT] at hr2; exact .inr ⟨hr2, rfl⟩
          | some x =>
            obtain ⟨⟨tk, m⟩, r⟩ := x
            rw [hT] at hr2
            obtain ⟨h1, rfl, rfl, rfl⟩ := hr2
            refine .inl ⟨h1, ?_⟩
            simp
        · have hk0' : ((kd : Int) == 0) = false := by rw [beq_eq_false_iff_ne]; omega
          go_wp2_with fail
          go_at_call 154; refine (rnum_any _ rb s q1 2 _ rfl ok2 HR3.out hs (by omega)).mono ?_
          rintro e w4 ⟨b, q2, ok3, rfl, hr4, hf4, hbl, hn4⟩
          have hbl' : b < 65536 := hbl
          have HN4 := Lib.hid hn4
          have HR4 := Lib.hid hr4
          have HF4 := Lib.hid (HF3.out.step hf4 (fun _ h _ => h))
          have hcb : IntKind.i64.wrap (b : Int) = (b : Int) := IntWalk.i64_in _ (by omega)
          clear hn4 hr4 hf4 hbl
          go_wp2_with fail
          go_at_call 154; refine (rnum_any _ rb s q2 1 _ rfl ok3 HR4.out hs (by omega)).mono ?_
          rintro e w5 ⟨c, q3, ok4, rfl, hr5, hf5, hcl, hn5⟩
          have hcl' : c < 256 := hcl
          have HN5 := Lib.hid hn5
          have HR5 := Lib.hid hr5
          have HF5 := Lib.hid (HF4.out.step hf5 (fun _ h _ => h))
          have hcc : IntKind.i64.wrap (c : Int) = (c : Int) := IntWalk.i64_in _ (by omega)
          clear hn5 hr5 hf5 hcl
          go_wp2_with fail
          go_at_call 158; refine (rcount_any size blk _ (by omega) hb1 (by omega)).mono ?_
          rintro e w' ⟨rfl, rfl⟩
          have hui : IntKind.u64.wrap ((i : Int) + 1) = (i : Int) + 1 := by rw [show ∀ n : Int, IntKind.u64.wrap n = n % 18446744073709551616 from fun n => by simp [IntKind.wrap, IntKind.bits, IntKind.signed]]; omega
          have hbc : IntKind.i64.wrap ((b : Int) + c) = (b : Int) + c := IntWalk.i64_in _ (by omega)
          by_cases hc0 : c = 0
          · subst hc0
            go_wp2_with fail
            go_at_call 153; refine (rmust_any _ rb s q3 ok4 (false) HR5.out).mono ?_
            rintro e w6 ⟨rfl, hr6, hf6⟩
            obtain ⟨ok5, hok5⟩ : ∃ bb, (ok4 && (false)) = bb := ⟨_, rfl⟩
            rw [hok5] at hr6
            have RTK := Lib.hid (tokB_rel (blk := blk) (basis := size) (B := false) HN2.out hk0 HK2.out HN4.out HN5.out (by simp) hok5)
            have HR6 := Lib.hid hr6
            have HF6 := Lib.hid (HF5.out.step hf6 (fun _ h _ => h))
            have y6 := HR6.out.own.cell (i := 2) rfl
            clear hok5 hr6 hf6
            have h5f : ok5 = false := by
              have := RTK.out
              cases hT : tokN blk size (s.data.toList.drop q) with
              | none => rw [hT] at this; exact this
              | some x => obtain ⟨⟨tk, m⟩, r⟩ := x; rw [hT] at this; have := this.2.2.2.2.1; omega
            subst h5f
            go_wp2_with fail
            exact ⟨⟨i + 1, q3, S, false, l, rfl, congrArg (Value.int .u64) (by omega), by omega, HR6.out, HOT.out.below HF6.out (fun b hb => by subst hb; exact hrb), by omega, by omega, HFR.out.step HF6.out (fun _ h _ => h), .inr ⟨rfl, by
              have hr2 := RTK.out
              rw [GO.out, show n0 - i = (n0 - (i + 1)) + 1 by omega, toksF_succ]
              cases hT : tokN blk size (s.data.toList.drop q) with
              | none => rfl
              | some x =>
                obtain ⟨⟨tk, m⟩, r⟩ := x
                rw [hT] at hr2
                cases hr2.1⟩⟩, by simp [intOf]; omega⟩
          have hcpos : (0 : Int) < (c : Int) := by omega
          go_wp2_with fail
          go_at_call 153; refine (rmust_any _ rb s q3 ok4 (decide ((b : Int) + c ≤ (nBlocks size blk : Nat))) HR5.out).mono ?_
          rintro e w6 ⟨rfl, hr6, hf6⟩
          obtain ⟨ok5, hok5⟩ : ∃ bb, (ok4 && (decide ((b : Int) + c ≤ (nBlocks size blk : Nat)))) = bb := ⟨_, rfl⟩
          rw [hok5] at hr6
          have RTK := Lib.hid (tokB_rel (blk := blk) (basis := size) (B := decide ((b : Int) + c ≤ (nBlocks size blk : Nat))) HN2.out hk0 HK2.out HN4.out HN5.out (by congr 1; apply propext; constructor <;> intro h <;> omega) hok5)
          have HR6 := Lib.hid hr6
          have HF6 := Lib.hid (HF5.out.step hf6 (fun _ h _ => h))
          have y6 := HR6.out.own.cell (i := 2) rfl
          clear hok5 hr6 hf6
          cases ok5 with
          | false =>
            go_wp2_with fail
            exact ⟨⟨i + 1, q3, S, false, l, rfl, congrArg (Value.int .u64) (by omega), by omega, HR6.out, HOT.out.below HF6.out (fun b hb => by subst hb; exact hrb), by omega, by omega, HFR.out.step HF6.out (fun _ h _ => h), .inr ⟨rfl, by
              have hr2 := RTK.out
              rw [GO.out, show n0 - i = (n0 - (i + 1)) + 1 by omega, toksF_succ]
              cases hT : tokN blk size (s.data.toList.drop q) with
              | none => rfl
              | some x =>
                obtain ⟨⟨tk, m⟩, r⟩ := x
                rw [hT] at hr2
                cases hr2.1⟩⟩, by simp [intOf]; omega⟩
          | true =>
            have hfit : 0 < c ∧ b + c ≤ nBlocks size blk := by
              have := RTK.out
              cases hT : tokN blk size (s.data.toList.drop q) with
              | none => rw [hT] at this; cases this
              | some x => obtain ⟨⟨tk, m⟩, r⟩ := x; rw [hT] at this; exact ⟨this.2.2.2.2.1, this.2.2.2.2.2⟩
            have hmle : madeOf size blk b c ≤ 300 := by unfold madeOf; omega
            have hwS : IntKind.i64.wrap ((S : Int) + (madeOf size blk b c : Nat)) = (S : Int) + (madeOf size blk b c : Nat) := IntWalk.i64_in _ (by omega)
            go_wp2_with fail
            go_at_call 159; refine (rmade_any size blk b c _ hb3 hb1 hb2 hfit.1 hfit.2).mono ?_
            rintro e w' ⟨rfl, rfl⟩
            have HOT6 := Lib.hid (HOT.out.below HF6.out (fun b hb => by subst hb; exact hrb))
            have hz6 := HF6.out.size
            go_wp2_with (at_builtin; refine wpList_append_vec rfl (.tmp 92) (.tmp 96) _ rfl w.heap.size 171 3 40 elt_tok (HOT6.out.vec.keep ((Fr.refl (fun _ => False) _).alloc _) (fun _ _ h => h)) rfl (m := 1) (Reads.new _ _ _ _ (by first | omega | simp) _ _) rfl rfl (tok_one _ _ _ _ _) (by unfold maxLen; omega) (by omega) (by simp; omega) ?_; intro v8 w8 hv8 hf8 hd8 hn8; obtain ⟨a8, c8, hsh8, -⟩ := hv8.shape; subst hsh8; have HV8 := Lib.hid hv8; have HF8 := Lib.hid hf8; clear hv8 hf8 hd8 hn8)
            have hota := HOT6.out.keep0 ((Fr.refl (fun _ => False) w6).alloc (.cells #[.int .i64 b, .int .i64 c, .slice none 0 0] 171))
            have hsn := hota.snoc (t := ⟨b, c, []⟩) HV8.out HF8.out (Vec.nil _ _ _ _) (fun p hp b hb hb2 => by simp [Value.ownBlock] at hb2)
            have hF8 : Fr (fun k => k = rb) w w8 := (HFR.out.step (HF6.out.alloc (.cells #[.int .i64 b, .int .i64 c, .slice none 0 0] 171)) (fun _ h _ => h)).step HF8.out (fun b hb hl => by have := (HOT.out.vec.lt b hb).1; omega)
            have hR8 := (HR6.out.keep ((Fr.refl (fun _ => False) w6).alloc (.cells #[.int .i64 b, .int .i64 c, .slice none 0 0] 171)) id).keep HF8.out (fun hb => by have := (HOT.out.vec.lt _ hb).1; omega)
            refine ⟨⟨i + 1, q3, S + madeOf size blk b c, true, l ++ [(⟨b, c, []⟩, .slice none 0 0)], congrArg (Value.int .i64) (by omega), congrArg (Value.int .u64) (by omega), by omega, hR8, hsn, by simp; omega, by omega, hF8, ?_⟩, by simp [intOf]; omega⟩
            have hr2 := RTK.out
            rw [GO.out, show n0 - i = (n0 - (i + 1)) + 1 by omega, toksF_succ]
            cases hT : tokN blk size (s.data.toList.drop q) with
            | none => rw [hT] at hr2; cases hr2
            | some x =>
              obtain ⟨⟨tk, m⟩, r⟩ := x
              rw [hT] at hr2
              obtain ⟨h1, rfl, rfl, rfl, -⟩ := hr2
              refine .inl ⟨rfl, ?_⟩
              simp
    · obtain rfl : i = n0 := by omega
      go_wp2_with fail
      go_ret2
      refine ⟨HFR.out, .slice la l.length lc, l, S, q, okc, rfl, HOT.out, hS2, HRR.out, ?_⟩
      rcases HGH.out with ⟨rfl, h⟩ | ⟨rfl, h⟩
      · rw [h, Nat.sub_self]; exact ⟨rfl, rfl, rfl, rfl⟩
      · rw [h]
end Go.Proofs.YtlcdgbhigfgehabGreatDoor
/- The walk of the document's Read. -/
namespace Go.Proofs.YtlcdgbhigfgehabGreatDoor
open Go.RowKit
set_option maxRecDepth 100000

/-- Between two steps of the document's Read: x lies at xb. -/
structure QI (w W : World) (xb : Nat) (s : ByteArray) (blk : Int) (bv tv : Value) (q : Nat) (ok : Bool) : Prop where
  x : Own W xb 146 [.int .i64 blk, bv, tv]
  g : Own W w.heap.size 146 [.int .i64 0, .slice none 0 0, .slice none 0 0]
  r : RR W (w.heap.size + 1) s q ok
  fr : Fr (fun _ => False) w W
  lo : w.heap.size + 2 ≤ xb
section
variable {w W W' : World} {xb : Nat} {s : ByteArray} {bv tv : Value} {blk : Int} {q q' : Nat} {ok ok' : Bool}
theorem QI.step (h : QI w W xb s blk bv tv q ok) (hf : Fr (fun k => k = w.heap.size + 1) W W') (hr : RR W' (w.heap.size + 1) s q' ok') : QI w W' xb s blk bv tv q' ok' :=
  ⟨h.x.keep hf (by have := h.lo; omega), h.g.keep hf (by omega), hr, h.fr.step hf (fun k hk hl => by omega), h.lo⟩
theorem QI.keep {S : Nat → Prop} (h : QI w W xb s blk bv tv q ok) (hf : Fr S W W') (hS : ∀ k, S k → xb < k) : QI w W' xb s blk bv tv q ok :=
  ⟨h.x.keep hf (fun hs => by have := hS _ hs; omega), h.g.keep hf (fun hs => by have := hS _ hs; have := h.lo; omega), h.r.keep hf (fun hs => by have := hS _ hs; have := h.lo; omega), h.fr.step hf (fun k hk hl => by have := hS k hk; have := h.lo; omega), h.lo⟩
theorem QI.set (h : QI w W xb s blk bv tv q ok) (i : Nat) (v : Value) (blk' : Int) (bv' tv' : Value) (he : ([.int .i64 blk, bv, tv] : List Value).set i v = [.int .i64 blk', bv', tv']) : QI w (W.setCell ⟨xb, i, none⟩ v) xb s blk' bv' tv' q ok := by
  have hs : Fr (fun k => k = xb) W (W.setCell ⟨xb, i, none⟩ v) := (Fr.refl _ _).setCell _ _ (fun _ => rfl)
  exact ⟨he ▸ h.x.set i v, h.g.keep hs (by have := h.lo; omega), h.r.keep hs (by have := h.lo; omega), h.fr.step hs (fun k hk hl => by have := h.lo; omega), h.lo⟩
end
/-- What the head of a batch comes to. -/
theorem head_rel {s : ByteArray} {hd : List UInt8} {p1 p3 p5 bk n : Nat} {ok1 ok2 ok3 ok4 ok5 ok6 B : Bool} (h1 : TxtRel true s 0 3 hd p1 ok1) (h2 : (ok1 && (hd == [66, 65, 84])) = ok2) (h3 : NumRel ok2 s p1 1 bk p3 ok3) (hB : B = decide (1 ≤ bk ∧ bk ≤ 64)) (h4 : (ok3 && B) = ok4) (h5 : NumRel ok4 s p3 1 n p5 ok5) (h6 : (ok5 && decide ((n : Int) ≤ 8)) = ok6) :
    (ok6 = true ∧ 1 ≤ bk ∧ bk ≤ 64 ∧ n ≤ 8 ∧ bodyN s.data.toList = (match entsF n [] (s.data.toList.drop p5) with | none => none | some (basis, r) => body4 bk basis r)) ∨ (ok6 = false ∧ bodyN s.data.toList = none) := by
  unfold bodyN
  rcases h1 with ⟨rfl, -, e1⟩ | ⟨rfl, e1⟩
  · rw [List.drop_zero] at e1
    rw [e1]; simp only
    by_cases hm : hd = [66, 65, 84]
    · rw [if_neg (fun h => h hm)]
      rw [Bool.true_and, beq_iff_eq.2 hm] at h2
      subst h2
      rcases h3 with ⟨rfl, -, e3⟩ | ⟨rfl, -, e3⟩
      · rw [e3]; simp only
        by_cases hb : 1 ≤ bk ∧ bk ≤ 64
        · rw [if_neg (by omega)]
          rw [hB, decide_eq_true hb] at h4
          simp at h4; subst h4
          rcases h5 with ⟨rfl, -, e5⟩ | ⟨rfl, -, e5⟩
          · rw [e5]; simp only
            by_cases hn : 8 < n
            · rw [if_pos hn]
              rw [decide_eq_false (by omega)] at h6
              exact .inr ⟨by simpa using h6.symm, rfl⟩
            · rw [if_neg hn]
              rw [decide_eq_true (by omega)] at h6
              exact .inl ⟨by simpa using h6.symm, hb.1, hb.2, by omega, rfl⟩
          · rw [e5 rfl]
            exact .inr ⟨by simpa using h6.symm, rfl⟩
        · rw [if_pos (by omega)]
          rw [hB, decide_eq_false hb] at h4
          simp at h4; subst h4
          have := h5.dead; subst this
          exact .inr ⟨by simpa using h6.symm, rfl⟩
      · rw [e3 rfl]
        simp at h4; subst h4
        have := h5.dead; subst this
        exact .inr ⟨by simpa using h6.symm, rfl⟩
    · rw [if_pos hm]
      rw [Bool.true_and, beq_eq_false_iff_ne.2 hm] at h2
      subst h2
      have := h3.dead; subst this
      simp at h4; subst h4
      have := h5.dead; subst this
      exact .inr ⟨by simpa using h6.symm, rfl⟩
  · have e1' := e1 rfl
    rw [List.drop_zero] at e1'
    rw [e1']
    simp at h2; subst h2
    have := h3.dead; subst this
    simp at h4; subst h4
    have := h5.dead; subst this
    exact .inr ⟨by simpa using h6.symm, rfl⟩
theorem entsF_sizes : ∀ (n : Nat) (acc : List Ent) (r r' : List UInt8) (E : List Ent), entsF n acc r = some (E, r') → (∀ e ∈ acc, e.size ≤ 300) → ∀ e ∈ E, e.size ≤ 300 := by
  intro n
  induction n with
  | zero => intro acc r r' E h ha; simp [entsF] at h; obtain ⟨rfl, rfl⟩ := h; exact ha
  | succ n ih =>
    intro acc r r' E h ha
    unfold entsF at h
    split at h
    · cases h
    · rename_i e r2 he
      refine ih _ _ _ _ h (fun x hx => ?_)
      rcases List.mem_append.1 hx with hx | hx
      · exact ha x hx
      · simp at hx; subst hx
        unfold entN at he
        repeat' (split at he)
        all_goals first | cases he | skip
        all_goals (dsimp only; omega)
theorem tail_rel {s : ByteArray} {bk q m p9 : Nat} {E : List Ent} {okc ok9 ok10 : Bool} (h9 : NumRel okc s q 1 m p9 ok9) (h10 : (ok9 && decide ((m : Int) ≤ 8)) = ok10) :
    (ok10 = true ∧ okc = true ∧ m ≤ 8 ∧ body4 bk E (s.data.toList.drop q) = (match targsF bk E m [] (s.data.toList.drop p9) with | none => none | some (ts, r) => some (⟨bk, E, ts⟩, r))) ∨ (ok10 = false ∧ (okc = true → body4 bk E (s.data.toList.drop q) = none)) := by
  unfold body4
  rcases h9 with ⟨rfl, rfl, e⟩ | ⟨rfl, -, e⟩
  · rw [e]; simp only
    by_cases hm : 8 < m
    · rw [decide_eq_false (by omega)] at h10
      exact .inr ⟨by simpa using h10.symm, fun _ => by rw [if_pos hm]⟩
    · rw [decide_eq_true (by omega)] at h10
      exact .inl ⟨by simpa using h10.symm, trivial, by omega, by rw [if_neg hm]; rfl⟩
  · exact .inr ⟨by simpa using h10.symm, fun h => by rw [e h]⟩
theorem end_rel {s : ByteArray} {x : Bat} {q p' v : Nat} {okv : Bool} (hq : q ≤ s.size) (hb : bodyN s.data.toList = some (x, s.data.toList.drop q)) (h : NumRel true s q 8 v p' okv) (hp : p' ≤ s.size) :
    readOf s.data.toList = if okv = true ∧ (v : Int) = dgOf (s.data.toList.take q) ∧ p' = s.size then some x else none := by
  have hsl : s.data.toList.length = s.size := by simp
  unfold readOf
  rw [hb]; simp only
  have hl : s.data.toList.length - (s.data.toList.drop q).length = q := by rw [List.length_drop]; omega
  rw [hl]
  rcases h with ⟨rfl, -, e⟩ | ⟨rfl, -, e⟩
  · unfold numN at e
    split at e
    · cases e
    · rename_i h8
      simp only [Option.some.injEq, Prod.mk.injEq] at e
      obtain ⟨rfl, e2⟩ := e
      have hl2 := congrArg List.length e2
      rw [List.length_drop, List.length_drop, List.length_drop, hsl] at hl2
      rw [List.length_drop, hsl] at h8 ⊢
      by_cases hp' : p' = s.size
      · have h8' : s.size - q = 8 := by omega
        rw [List.take_of_length_le (l := s.data.toList.drop q) (i := 8) (by rw [List.length_drop]; omega)]
        simp only [true_and, hp', and_true, h8']
      · rw [if_neg (by omega), if_neg (by omega)]
  · have h8 : (s.data.toList.drop q).length < 8 := by
      have := e rfl
      unfold numN at this
      split at this
      · assumption
      · cases this
    rw [if_neg (by omega), if_neg (by simp)]
theorem tks_rel (s : ByteArray) (p blk basis size : Nat) : tksN blk basis size (s.data.toList.drop p) = (match RTksO true s p blk basis with | none => none | some ((l, k), r) => if k = size then some (l, r) else none) := by
  unfold tksN RTksO
  rw [if_pos rfl]
  cases numN 2 (s.data.toList.drop p) with
  | none => rfl
  | some y => rfl
/-- What the document's Read gives. -/
def RRdPost (w : World) (s : List UInt8) (e : Ending) (w' : World) : Prop :=
  ∃ b0 b1 b2 ok, e = .returned (.tuple #[.agg #[b0, b1, b2], .bool ok]) ∧ (∃ n a1 m1 c1 a2 m2 c2, b0 = .int .i64 n ∧ b1 = .slice a1 m1 c1 ∧ b2 = .slice a2 m2 c2) ∧ Fr (fun _ => False) w w' ∧ match readOf s with
    | none => ok = false
    | some x => ok = true ∧ ∃ mt, b0 = .int .i64 x.block ∧ Vec w' w.heap.size 152 3 b1 x.basis.length (entCells x.basis) ∧ Targs w' w.heap.size b2 mt ∧ mt.map (·.t) = x.targs
theorem rread_results (t : Array Value) (g : Nat) (w : World) (b0 b1 b2 : Value) (h2 : t.getD 2 undef = .pointer (some ⟨g, 0, none⟩)) (hx : Own w g 146 [b0, b1, b2]) :
    (results Tryz.f138 t).run Tryz.prog w = .ok (.tuple #[.agg #[b0, b1, b2], t.getD 3 undef]) w := by
  have x0 := hx.cell (i := 0) rfl
  have x1 := hx.cell (i := 1) rfl
  have x2 := hx.cell (i := 2) rfl
  have h2' : t[2]?.getD undef = .pointer (some ⟨g, 0, none⟩) := by simpa using h2
  simp [results, h2', asAddr, x0, x1, x2, go_sem]
theorem readOf_noBody {s : List UInt8} (h : bodyN s = none) : readOf s = none := by unfold readOf; rw [h]
theorem take_extract (s : ByteArray) (q : Nat) : (s.extract 0 q).data.toList = s.data.toList.take q := by
  rw [ByteArray.data_extract, Array.toList_extract]
  simp [List.extract_eq_take_drop]
theorem set3 {w W : World} {xb : Nat} {s : ByteArray} {blk : Int} {bv tv : Value} {q : Nat} {ok : Bool} (hQ : QI w W xb s blk bv tv q ok) (v0 v1 v2 : Value) :
    Own (((W.setCell ⟨w.heap.size, 0, none⟩ v0).setCell ⟨w.heap.size, 1, none⟩ v1).setCell ⟨w.heap.size, 2, none⟩ v2) w.heap.size 146 [v0, v1, v2] ∧ Fr (fun k => k = w.heap.size) W (((W.setCell ⟨w.heap.size, 0, none⟩ v0).setCell ⟨w.heap.size, 1, none⟩ v1).setCell ⟨w.heap.size, 2, none⟩ v2) :=
  ⟨((hQ.g.set 0 v0).set 1 v1).set 2 v2, (((Fr.refl (fun k => k = w.heap.size) W).setCell ⟨w.heap.size, 0, none⟩ v0 (fun _ => rfl)).setCell ⟨w.heap.size, 1, none⟩ v1 (fun _ => rfl)).setCell ⟨w.heap.size, 2, none⟩ v2 (fun _ => rfl)⟩
theorem rrd_none {w W : World} {xb : Nat} {s : ByteArray} {blk : Int} {bv tv : Value} {q : Nat} {ok : Bool} (hQ : QI w W xb s blk bv tv q ok) (hn : readOf s.data.toList = none) (t : Array Value) (h2 : t.getD 2 undef = .pointer (some ⟨w.heap.size, 0, none⟩)) (h3 : t.getD 3 undef = .bool false) :
    bodyPost Tryz.prog Tryz.f138 (RRdPost w s.data.toList) Exit.ret ⟨t, []⟩ (((W.setCell ⟨w.heap.size, 0, none⟩ (.int .i64 0)).setCell ⟨w.heap.size, 1, none⟩ (.slice none 0 0)).setCell ⟨w.heap.size, 2, none⟩ (.slice none 0 0)) := by
  have h := set3 hQ (.int .i64 0) (.slice none 0 0) (.slice none 0 0)
  refine bodyPost_ret (rread_results t w.heap.size _ _ _ _ h2 h.1) rfl ?_
  rw [h3]
  refine ⟨_, _, _, false, rfl, ⟨_, _, _, _, _, _, _, rfl, rfl, rfl⟩, hQ.fr.step h.2 (fun k hk hl => by omega), ?_⟩
  rw [hn]
theorem rrd_some {w W : World} {xb : Nat} {s : ByteArray} {q bk : Nat} {ok : Bool} {a1 a2 : Option Addr} {m1 c1 m2 c2 : Nat} {E : List Ent} {mt : List MT} (hQ : QI w W xb s bk (.slice a1 m1 c1) (.slice a2 m2 c2) q ok)
    (hV : Vec W (xb + 1) 152 3 (.slice a1 m1 c1) E.length (entCells E)) (hT : Targs W (xb + 1) (.slice a2 m2 c2) mt) (hn : readOf s.data.toList = some ⟨bk, E, mt.map (·.t)⟩) (t : Array Value) (h2 : t.getD 2 undef = .pointer (some ⟨w.heap.size, 0, none⟩)) (h3 : t.getD 3 undef = .bool true) :
    bodyPost Tryz.prog Tryz.f138 (RRdPost w s.data.toList) Exit.ret ⟨t, []⟩ (((W.setCell ⟨w.heap.size, 0, none⟩ (.int .i64 bk)).setCell ⟨w.heap.size, 1, none⟩ (.slice a1 m1 c1)).setCell ⟨w.heap.size, 2, none⟩ (.slice a2 m2 c2)) := by
  have h := set3 hQ (.int .i64 bk) (.slice a1 m1 c1) (.slice a2 m2 c2)
  have hlo := hQ.lo
  refine bodyPost_ret (rread_results t w.heap.size _ _ _ _ h2 h.1) rfl ?_
  rw [h3]
  refine ⟨_, _, _, true, rfl, ⟨_, _, _, _, _, _, _, rfl, rfl, rfl⟩, hQ.fr.step h.2 (fun k hk hl => by omega), ?_⟩
  rw [hn]
  exact ⟨rfl, mt, rfl, (hV.keep h.2 (fun b hb hs => by have := (hV.lt b hb).1; omega)).mono (by omega), (hT.below h.2 (fun b hb => by omega)).lift (by omega), rfl⟩
set_option maxHeartbeats 1500000 in
theorem rread_any (s : ByteArray) (w : World) (hs : s.size ≤ 1000000) :
    Calls Tryz.prog 138 #[.string s] w (RRdPost w s.data.toList) := by
  have hsl : s.data.toList.length = s.size := by simp
  have HSL := Lib.hid hsl
  clear hsl
  have hg0 := (Own.alloc w #[.int .i64 0, .slice none 0 0, .slice none 0 0] 146).keep ((Fr.refl (fun _ => False) _).alloc (.cells #[.string s, .int .i64 0, .bool true] 272)) id
  have hr0 : RR ((w.alloc (.cells #[.int .i64 0, .slice none 0 0, .slice none 0 0] 146)).alloc (.cells #[.string s, .int .i64 0, .bool true] 272)) (w.heap.size + 1) s 0 true := by
    have := Own.alloc (w.alloc (.cells #[.int .i64 0, .slice none 0 0, .slice none 0 0] 146)) #[.string s, .int .i64 0, .bool true] 272
    exact ⟨by simpa using this, Nat.zero_le _⟩
  have hf0 : Fr (fun _ => False) w ((w.alloc (.cells #[.int .i64 0, .slice none 0 0, .slice none 0 0] 146)).alloc (.cells #[.string s, .int .i64 0, .bool true] 272)) := ((Fr.refl _ _).alloc _).alloc _
  have HG0 := Lib.hid hg0
  have HR0 := Lib.hid hr0
  have HF0 := Lib.hid hf0
  clear hg0 hr0 hf0
  go_enter Tryz.func138, Tryz.ntmps138
  go_wp2_with fail
  go_at_call 152; refine (rtext_any _ _ s 0 3 _ rfl true HR0.out hs (by omega)).mono ?_
  rintro e w1 ⟨hd, p1, ok1, rfl, hr1, hf1, hdl, hn1⟩
  have HN1 := Lib.hid hn1
  have HR1 := Lib.hid hr1
  have HG1 := Lib.hid (HG0.out.keep hf1 (by omega))
  have HF1 := Lib.hid (HF0.out.step hf1 (fun k hk hl => by omega))
  clear hn1 hr1 hf1
  go_wp2_with fail
  go_at_call 153; refine (rmust_any _ _ s p1 ok1 (hd == [66, 65, 84]) HR1.out).mono ?_
  rintro e w2 ⟨rfl, hr2, hf2⟩
  obtain ⟨ok2, hok2⟩ : ∃ b, (ok1 && (hd == [66, 65, 84])) = b := ⟨_, rfl⟩
  rw [hok2] at hr2
  have HK2 := Lib.hid hok2
  have hG2 := HG1.out.keep hf2 (by omega)
  have hF2 := HF1.out.step hf2 (fun k hk hl => by omega)
  have hz2 := hr2.own.lt
  have hq3 : QI w (w2.alloc (.cells #[.int .i64 0, .slice none 0 0, .slice none 0 0] 146)) w2.heap.size s 0 (.slice none 0 0) (.slice none 0 0) p1 ok2 :=
    ⟨Own.alloc w2 #[.int .i64 0, .slice none 0 0, .slice none 0 0] 146, hG2.keep ((Fr.refl (fun _ => False) _).alloc _) id, hr2.keep ((Fr.refl (fun _ => False) _).alloc _) id, hF2.alloc _, by omega⟩
  obtain ⟨xb, hxb⟩ : ∃ xb, w2.heap.size = xb := ⟨_, rfl⟩
  rw [hxb] at hq3
  have HQ3 := Lib.hid hq3
  clear hok2 hr2 hf2 hG2 hF2 hq3
  go_wp2_with fail
  go_at_call 154; refine (rnum_any _ _ s p1 1 _ rfl ok2 HQ3.out.r hs (by omega)).mono ?_
  rintro e w4 ⟨bk, p3, ok3, rfl, hr4, hf4, hbk, hn4⟩
  have hbk' : bk < 256 := hbk
  have HN4 := Lib.hid hn4
  have HQ4 := Lib.hid (HQ3.out.step hf4 hr4)
  have hcb : IntKind.i64.wrap (bk : Int) = (bk : Int) := IntWalk.i64_in _ (by omega)
  clear hr4 hf4 hbk hn4
  go_upto_region 6 with fail
  go_cut [4] from 20 (fun s4 wx => s4 = .pointer (some ⟨w.heap.size + 1, 0, none⟩) ∧ ∃ ok4, (ok3 && decide (1 ≤ bk ∧ bk ≤ 64)) = ok4 ∧ QI w wx xb s 0 (.slice none 0 0) (.slice none 0 0) p3 ok4)
  case first =>
    by_cases hb1 : (1 : Int) ≤ (bk : Int)
    · go_wp2_with fail
      go_at_call 153; refine (rmust_any _ _ s p3 ok3 (decide ((bk : Int) ≤ 64)) HQ4.out.r).mono ?_
      rintro e w5 ⟨rfl, hr5, hf5⟩
      go_wp2_with fail
      go_meet
      case rel => exact ⟨rfl, _, rfl, by
        have e : decide ((bk : Int) ≤ 64) = decide (1 ≤ bk ∧ bk ≤ 64) := decide_eq_decide.2 (by omega)
        rw [e] at hr5
        exact HQ4.out.step hf5 hr5⟩
    · go_wp2_with fail
      go_at_call 153; refine (rmust_any _ _ s p3 ok3 false HQ4.out.r).mono ?_
      rintro e w5 ⟨rfl, hr5, hf5⟩
      go_wp2_with fail
      go_meet
      case rel => exact ⟨rfl, _, rfl, by
        have e : decide (1 ≤ bk ∧ bk ≤ 64) = false := decide_eq_false (by omega)
        rw [e]
        exact HQ4.out.step hf5 hr5⟩
  case rest =>
  obtain ⟨rfl, ok4, hok4, hQ5⟩ := hcut
  clear HR1 HG1 HF1 HQ3 HQ4 HG0 HR0 HF0 hcb
  have hcb : IntKind.i64.wrap (bk : Int) = (bk : Int) := IntWalk.i64_in _ (by omega)
  have x0 := hQ5.x.cell (i := 0) rfl
  have xf := hQ5.x.free 0 (by simp)
  have HK4 := Lib.hid hok4
  have HQ6 := Lib.hid (hQ5.set 0 (.int .i64 bk) bk _ _ rfl)
  clear hok4 hQ5
  go_wp2_with fail
  clear x0 xf
  generalize wc.setCell ⟨xb, 0, none⟩ (.int .i64 bk) = w6 at *
  go_at_call 154; refine (rnum_any _ _ s p3 1 _ rfl ok4 HQ6.out.r hs (by omega)).mono ?_
  rintro e w7 ⟨n, p5, ok5, rfl, hr7, hf7, hnl, hn7⟩
  have hnl' : n < 256 := hnl
  have HN7 := Lib.hid hn7
  have HQ7 := Lib.hid (HQ6.out.step hf7 hr7)
  clear hr7 hf7 hnl hn7
  go_wp2_with fail
  go_at_call 153; refine (rmust_any _ _ s p5 ok5 (decide ((n : Int) ≤ 8)) HQ7.out.r).mono ?_
  rintro e w8 ⟨rfl, hr8, hf8⟩
  obtain ⟨ok6, hok6⟩ : ∃ b, (ok5 && decide ((n : Int) ≤ 8)) = b := ⟨_, rfl⟩
  rw [hok6] at hr8
  have HHD := Lib.hid (head_rel HN1.out HK2.out HN4.out rfl HK4.out HN7.out hok6)
  have HQ8 := Lib.hid (HQ7.out.step hf8 hr8)
  clear hok6 hr8 hf8 HN1 HK2 HN4 HK4 HN7 HQ6 HQ7
  obtain ⟨R1, hR1⟩ : ∃ R1, (if ok6 = true then entsF n [] (s.data.toList.drop p5) else none) = R1 := ⟨_, rfl⟩
  have hxl : xb < w8.heap.size := HQ8.out.x.lt
  have hgh0 : (ok6 = true ∧ R1 = entsF (n - 0) [] (s.data.toList.drop p5)) ∨ (ok6 = false ∧ R1 = none) := by
    rw [← hR1]
    cases ok6 with
    | true => exact .inl ⟨rfl, rfl⟩
    | false => exact .inr ⟨rfl, rfl⟩
  have HGH0 := Lib.hid hgh0
  have HR1' := Lib.hid hR1
  clear hR1 hgh0
  go_upto_block 0 with fail
  go_cut [9] from 20 (fun lv wx => ∃ (q : Nat) (okc : Bool) (E : List Ent) (bv : Value), lv = .string ⟨(lastName E).toArray⟩ ∧ QI w wx xb s bk bv (.slice none 0 0) q okc ∧ Vec wx (xb + 1) 152 3 bv E.length (entCells E) ∧ E.length ≤ 256 ∧ (okc = true → ok6 = true) ∧ ((okc = true ∧ R1 = some (E, s.data.toList.drop q)) ∨ (okc = false ∧ R1 = none)))
  case first =>
    go_wp2_with fail
    go_loopw [9, 10] (fun lv iv wr => ∃ (i q : Nat) (okc : Bool) (E : List Ent) (bv : Value), lv = .string ⟨(lastName E).toArray⟩ ∧ iv = .int .u64 i ∧ i ≤ n ∧ QI w wr xb s bk bv (.slice none 0 0) q okc ∧ Vec wr (xb + 1) 152 3 bv E.length (entCells E) ∧ E.length = i ∧ (okc = true → ok6 = true) ∧
      ((okc = true ∧ R1 = entsF (n - i) E (s.data.toList.drop q)) ∨ (okc = false ∧ R1 = none))) (fun _ iv _ => n - (intOf iv).toNat)
    case atStart => exact ⟨0, p5, ok6, [], _, rfl, rfl, Nat.zero_le _, HQ8.out, Vec.nil _ _ _ _, rfl, id, HGH0.out⟩
    case round =>
      obtain ⟨i, q, okc, E, bv, rfl, rfl, hi, hq, hv, hE, hok, hgh⟩ := hrel
      obtain ⟨ba, bc, hbv, -⟩ := hv.shape
      subst hbv
      have y2 := hq.r.own.cell (i := 2) rfl
      have HQ := Lib.hid hq
      have HV := Lib.hid hv
      have HGH := Lib.hid hgh
      have HE := Lib.hid hE
      have HOK := Lib.hid hok
      have hel : E.length ≤ 256 := by omega
      clear hq hv hgh hE hok
      by_cases hlt : i < n
      · cases okc with
        | false =>
          go_wp2_with fail
          go_meet
          case rel => exact ⟨q, false, E, _, rfl, HQ.out, HV.out, by omega, by simp, .inr ⟨rfl, by
            rcases HGH.out with ⟨h, _⟩ | ⟨_, h⟩
            · cases h
            · exact h⟩⟩
        | true =>
          have hfi : ((i : Int) == 0) = E.isEmpty := by
            have hE := HE.out
            cases E with
            | nil =>
              have : i = 0 := by simpa using hE.symm
              subst this; rfl
            | cons a l =>
              have : i ≠ 0 := by simp at hE; omega
              show _ = false
              rw [beq_eq_false_iff_ne]; omega
          have hen := rentry_any wr (w.heap.size + 1) s q true HQ.out.r hs ⟨(lastName E).toArray⟩ E.isEmpty
          rw [show (⟨(lastName E).toArray⟩ : ByteArray).data.toList = lastName E from by simp, if_pos rfl] at hen
          have HEN := Lib.hid hen
          have hui : IntKind.u64.wrap ((i : Int) + 1) = (i : Int) + 1 := by rw [show ∀ n : Int, IntKind.u64.wrap n = n % 18446744073709551616 from fun n => by simp [IntKind.wrap, IntKind.bits, IntKind.signed]]; omega
          clear hen
          go_wp2_with fail
          go_at_call 155; refine HEN.out.mono ?_
          rintro e w9 ⟨hf9, x, q', ok9, rfl, hx1, hx2, hx3, hr9, hm⟩
          have hsz9 := hf9.size
          have HM := Lib.hid hm
          have hQ9 := (HQ.out.step hf9 hr9).keep ((Fr.refl (fun _ => False) w9).alloc (.cells #[.string ⟨x.name.toArray⟩, .int .i64 x.size, .int .u64 x.dig] 152)) (fun _ h => h.elim)
          have hV9 := (HV.out.keep hf9 (fun b hb hs => by have := (HV.out.lt b hb).1; have := HQ.out.lo; omega)).keep ((Fr.refl (fun _ => False) w9).alloc (.cells #[.string ⟨x.name.toArray⟩, .int .i64 x.size, .int .u64 x.dig] 152)) (fun _ _ h => h)
          have hO9 := Own.alloc w9 #[.string ⟨x.name.toArray⟩, .int .i64 x.size, .int .u64 x.dig] 152
          have g0 := hO9.cell (i := 0) rfl
          have g1 := hO9.cell (i := 1) rfl
          have g2 := hO9.cell (i := 2) rfl
          have x1 := hQ9.x.cell (i := 1) rfl
          have hxl9 := hQ9.x.lt
          have HQ9 := Lib.hid hQ9
          have HV9 := Lib.hid hV9
          have HO9 := Lib.hid hO9
          clear hf9 hr9 hm hQ9 hV9 hO9
          have hz9 : wr.heap.size ≤ w9.heap.size := hsz9
          have hbw : ∀ b, (Value.slice ba E.length bc).ownBlock = some b → b < w9.heap.size := fun b hb => Nat.lt_of_lt_of_le (HV.out.lt b hb).2 hz9
          have HBW := Lib.hid hbw
          have hxe : ¬ xb = w9.heap.size := by have := HQ.out.x.lt; omega
          have hxe2 : ¬ w9.heap.size = xb := fun h => hxe h.symm
          clear hbw
          go_wp2_with (at_builtin; refine wpList_append_vec rfl (.tmp 66) (.tmp 68) _ rfl (xb + 1) 152 3 32 elt_ent (HV9.out.keep ((Fr.refl (fun _ => False) _).alloc _) (fun _ _ h => h)) rfl (m := 1) (Reads.new _ _ _ _ (by simp) _ _) rfl rfl (ent_one x) (by unfold maxLen; omega) (by omega) (by simp at hxl9 ⊢; omega) ?_; intro v10 w10 hv10 hf10 hd10 hn10; obtain ⟨a10, c10, hsh10, -⟩ := hv10.shape; subst hsh10; have HQ10 := Lib.hid ((HQ9.out.keep ((Fr.refl (fun _ => False) _).alloc _) (fun _ h => h.elim)).keep hf10 (fun k hk => by have := (HV9.out.lt k hk).1; omega)); have HO10 := Lib.hid ((HO9.out.keep ((Fr.refl (fun _ => False) _).alloc _) id).keep hf10 (fun hb => Nat.lt_irrefl _ (HBW.out _ hb))); have z1 := HQ10.out.x.cell (i := 1) rfl; have zf := HQ10.out.x.free 1 (by simp); have k0 := HO10.out.cell (i := 0) rfl; have HV10 := Lib.hid hv10; clear hv10 hf10 hd10 hn10)
          have hs11 : Fr (fun k => k = xb) w10 (w10.setCell ⟨xb, 1, none⟩ (.slice a10 (E.length + 1) c10)) := (Fr.refl _ _).setCell _ _ (fun _ => rfl)
          refine ⟨⟨i + 1, q', ok9, E ++ [x], .slice a10 (E.length + 1) c10, by rw [lastName_snoc], congrArg (Value.int .u64) (by omega), by omega, HQ10.out.set 1 _ _ _ _ rfl, by rw [List.length_append, entCells_snoc]; exact HV10.out.keep hs11 (fun b hb hs => by have := (HV10.out.lt b hb).1; omega), by simp [HE.out], fun _ => HOK.out trivial, ?_⟩, by simp [intOf]; omega⟩
          have hR : R1 = entsF (n - i) E (s.data.toList.drop q) := by
            rcases HGH.out with ⟨_, h⟩ | ⟨h, _⟩
            · exact h
            · cases h
          have hM := HM.out
          rw [hR, show n - i = (n - (i + 1)) + 1 by omega]
          have hst : entsF (n - (i + 1) + 1) E (s.data.toList.drop q) = (match entN (lastName E) E.isEmpty (s.data.toList.drop q) with | none => none | some (e, r) => entsF (n - (i + 1)) (E ++ [e]) r) := rfl
          rw [hst]
          cases hT : entN (lastName E) E.isEmpty (s.data.toList.drop q) with
          | none => rw [hT] at hM; exact .inr ⟨hM, rfl⟩
          | some y =>
            obtain ⟨y, r⟩ := y
            rw [hT] at hM
            obtain ⟨h1, rfl, rfl⟩ := hM
            exact .inl ⟨h1, rfl⟩
      · go_wp2_with fail
        go_meet
        case rel => exact ⟨q, okc, E, _, rfl, HQ.out, HV.out, by omega, HOK.out, by
          obtain rfl : i = n := by omega
          rcases HGH.out with ⟨h, e⟩ | ⟨h, e⟩
          · exact .inl ⟨h, by rw [e, Nat.sub_self]; rfl⟩
          · exact .inr ⟨h, e⟩⟩
  case rest =>
  obtain ⟨q, okc, E, bv, rfl, hq, hv, hel, hok, hgh⟩ := hcut
  rename_i w9
  have HQ := Lib.hid hq
  have HV := Lib.hid hv
  have HOK := Lib.hid hok
  have HGH := Lib.hid hgh
  clear hq hv hok hgh HQ8 HGH0
  go_wp2_with fail
  go_at_call 154; refine (rnum_any _ _ s q 1 _ rfl okc HQ.out.r hs (by omega)).mono ?_
  rintro e w9 ⟨m, p9, ok9, rfl, hr9, hf9, hml, hn9⟩
  have hml' : m < 256 := hml
  have HN9 := Lib.hid hn9
  have HQ9 := Lib.hid (HQ.out.step hf9 hr9)
  have HV9 := Lib.hid (HV.out.keep hf9 (fun b hb hs => by have := (HV.out.lt b hb).1; have := HQ.out.lo; omega))
  clear hr9 hf9 hml hn9
  go_wp2_with fail
  go_at_call 153; refine (rmust_any _ _ s p9 ok9 (decide ((m : Int) ≤ 8)) HQ9.out.r).mono ?_
  rintro e w10 ⟨rfl, hr10, hf10⟩
  obtain ⟨ok10, hok10⟩ : ∃ b, (ok9 && decide ((m : Int) ≤ 8)) = b := ⟨_, rfl⟩
  rw [hok10] at hr10
  have HTL := Lib.hid (tail_rel (bk := bk) (E := E) HN9.out hok10)
  have HQ10 := Lib.hid (HQ9.out.step hf10 hr10)
  have HV10 := Lib.hid (HV9.out.keep hf10 (fun b hb hs => by have := (HV9.out.lt b hb).1; have := HQ.out.lo; omega))
  clear hok10 hr10 hf10 HN9 HQ9 HV9 HQ HV
  -- what all comes to so far
  have HS1 : Hid ((ok10 = true ∧ 1 ≤ bk ∧ bk ≤ 64 ∧ (∀ e ∈ E, e.size ≤ 300) ∧ bodyN s.data.toList = (match targsF bk E m [] (s.data.toList.drop p9) with | none => none | some (ts, r) => some (⟨bk, E, ts⟩, r))) ∨ (ok10 = false ∧ bodyN s.data.toList = none)) := by
    show _ ∨ _
    rcases HTL.out with ⟨h1, h2, h3, h4⟩ | ⟨h1, h2⟩
    · left
      rcases HGH.out with ⟨-, g⟩ | ⟨g, -⟩
      · have h6 := HOK.out h2
        rcases HHD.out with ⟨-, k2, k3, -, k5⟩ | ⟨k1, -⟩
        · have hR := HR1'.out
          rw [if_pos h6, g] at hR
          refine ⟨h1, k2, k3, entsF_sizes _ _ _ _ _ hR (fun _ h => by simp at h), ?_⟩
          rw [k5, hR]; simp only; rw [h4]
        · rw [h6] at k1; cases k1
      · rw [h2] at g; cases g
    · right
      refine ⟨h1, ?_⟩
      rcases HHD.out with ⟨k1, k2, k3, -, k5⟩ | ⟨-, k1⟩
      · have hR := HR1'.out
        rw [if_pos k1] at hR
        rw [k5, hR]
        rcases HGH.out with ⟨g0, g⟩ | ⟨g0, g⟩
        · rw [g]; simp only; exact h2 g0
        · rw [g]
      · exact k1
  clear HTL HGH HOK HHD HR1'
  obtain ⟨R2, hR2⟩ : ∃ R2, (if ok10 = true then targsF bk E m [] (s.data.toList.drop p9) else none) = R2 := ⟨_, rfl⟩
  have hgh0 : (ok10 = true ∧ R2 = targsF bk E (m - 0) [] (s.data.toList.drop p9)) ∨ (ok10 = false ∧ R2 = none) := by
    rw [← hR2]
    cases ok10 with
    | true => exact .inl ⟨rfl, rfl⟩
    | false => exact .inr ⟨rfl, rfl⟩
  have HGH0 := Lib.hid hgh0
  have HR2' := Lib.hid hR2
  clear hR2 hgh0
  obtain ⟨ba, bc, hbv, -⟩ := HV10.out.shape
  subst hbv
  go_upto_block 2 with fail
  go_cut [4] from 20 (fun s4 wx => s4 = .pointer (some ⟨w.heap.size + 1, 0, none⟩) ∧ ∃ (q : Nat) (okc : Bool) (mt : List MT) (tv : Value), QI w wx xb s bk (.slice ba E.length bc) tv q okc ∧ Vec wx (xb + 1) 152 3 (.slice ba E.length bc) E.length (entCells E) ∧ Targs wx (xb + 1) tv mt ∧ ((okc = true ∧ R2 = some (mt.map (·.t), s.data.toList.drop q)) ∨ (okc = false ∧ R2 = none)))
  case first =>
    have hxl : xb < w10.heap.size := HQ10.out.x.lt
    have hbase : ok10 = true → 1 ≤ bk ∧ bk ≤ 64 ∧ ∀ e ∈ E, e.size ≤ 300 := fun h => by
      rcases HS1.out with ⟨-, h1, h2, h3, -⟩ | ⟨h1, -⟩
      · exact ⟨h1, h2, h3⟩
      · rw [h] at h1; cases h1
    have HBASE := Lib.hid hbase
    clear hbase
    go_wp2_with fail
    go_loopw [9, 12] (fun lv iv wr => ∃ (i q : Nat) (okc : Bool) (mt : List MT) (tv : Value), lv = .string ⟨(lastT E (mt.map (·.t))).toArray⟩ ∧ iv = .int .u64 i ∧ i ≤ m ∧ QI w wr xb s bk (.slice ba E.length bc) tv q okc ∧ Vec wr (xb + 1) 152 3 (.slice ba E.length bc) E.length (entCells E) ∧ Targs wr (xb + 1) tv mt ∧ mt.length = i ∧ (okc = true → ok10 = true) ∧
      ((okc = true ∧ R2 = targsF bk E (m - i) (mt.map (·.t)) (s.data.toList.drop q)) ∨ (okc = false ∧ R2 = none))) (fun _ iv _ => m - (intOf iv).toNat)
    case atStart => exact ⟨0, p9, ok10, [], _, rfl, rfl, Nat.zero_le _, HQ10.out, HV10.out, Targs.nil _ _, rfl, id, HGH0.out⟩
    case round =>
      obtain ⟨i, q, okc, mt, tv, rfl, rfl, hi, hq, hv, ht, hE, hok, hgh⟩ := hrel
      obtain ⟨ta, tc, htv, -⟩ := ht.vec.shape
      subst htv
      have y2 := hq.r.own.cell (i := 2) rfl
      have HQ := Lib.hid hq
      have HV := Lib.hid hv
      have HT := Lib.hid ht
      have HGH := Lib.hid hgh
      have HE := Lib.hid hE
      have HOK := Lib.hid hok
      have hml2 : mt.length ≤ 256 := by omega
      have hlo := hq.lo
      clear hq hv ht hgh hE hok
      by_cases hlt : i < m
      · cases okc with
        | false =>
          go_wp2_with fail
          go_meet
          case rel => exact ⟨rfl, q, false, mt, _, HQ.out, HV.out, HT.out, .inr ⟨rfl, by
            rcases HGH.out with ⟨h, _⟩ | ⟨_, h⟩
            · cases h
            · exact h⟩⟩
        | true =>
          have hb := HBASE.out (HOK.out rfl)
          have hb1 := hb.1
          have hb2 := hb.2.1
          have HB3 := Lib.hid hb.2.2
          clear hb
          have hfi : ((i : Int) == 0) = mt.isEmpty := by
            have hE := HE.out
            cases mt with
            | nil =>
              have : i = 0 := by simpa using hE.symm
              subst this; rfl
            | cons a l =>
              have : i ≠ 0 := by simp at hE; omega
              show _ = false
              rw [beq_eq_false_iff_ne]; omega
          have hen := rentry_any wr (w.heap.size + 1) s q true HQ.out.r hs ⟨(lastT E (mt.map (·.t))).toArray⟩ mt.isEmpty
          rw [show (⟨(lastT E (mt.map (·.t))).toArray⟩ : ByteArray).data.toList = lastT E (mt.map (·.t)) from by simp, if_pos rfl] at hen
          have HEN := Lib.hid hen
          have hui : IntKind.u64.wrap ((i : Int) + 1) = (i : Int) + 1 := by rw [show ∀ n : Int, IntKind.u64.wrap n = n % 18446744073709551616 from fun n => by simp [IntKind.wrap, IntKind.bits, IntKind.signed]]; omega
          clear hen
          go_wp2_with fail
          go_at_call 155; refine HEN.out.mono ?_
          rintro e w11 ⟨hf11, x, q', ok11, rfl, hx1, hx2, hx3, hr11, hm⟩
          have hsz11 := hf11.size
          have HM := Lib.hid hm
          have hA : Fr (fun _ => False) w11 (w11.alloc (.cells #[.string ⟨x.name.toArray⟩, .int .i64 x.size, .int .u64 x.dig] 152)) := (Fr.refl (fun _ => False) w11).alloc _
          have HQ11 := Lib.hid ((HQ.out.step hf11 hr11).keep hA (fun _ h => h.elim))
          have HV11 := Lib.hid ((HV.out.keep hf11 (fun b hb hs => by have := (HV.out.lt b hb).1; omega)).keep hA (fun _ _ h => h))
          have HT11 := Lib.hid ((HT.out.below hf11 (fun b hb => by omega)).below hA (fun _ h => h.elim))
          have hO11 := Own.alloc w11 #[.string ⟨x.name.toArray⟩, .int .i64 x.size, .int .u64 x.dig] 152
          have g0 := hO11.cell (i := 0) rfl
          have g1 := hO11.cell (i := 1) rfl
          have HO11 := Lib.hid hO11
          have hxl11 : xb < w11.heap.size := by have := HQ.out.x.lt; omega
          have x1 := HQ11.out.x.cell (i := 1) rfl
          clear hf11 hr11 hm hA hO11
          obtain ⟨eb, heb⟩ : ∃ eb, w11.heap.size = eb := ⟨_, rfl⟩
          have hebx : xb < eb := by omega
          rw [heb] at HO11 g0 g1
          go_wp2_with fail
          generalize w11.alloc (.cells #[.string ⟨x.name.toArray⟩, .int .i64 x.size, .int .u64 x.dig] 152) = w12 at *
          clear y2 g0 g1 x1 heb hsz11
          go_loopw [14, 15] (fun sv kv wi => ∃ k : Nat, k ≤ E.length ∧ sv = .int .i64 (sizeIn (E.take k) x.name) ∧ kv = .int .i64 k ∧ Fr (fun _ => False) w12 wi) (fun _ kv _ => E.length - (intOf kv).toNat)
          case atStart => exact ⟨0, Nat.zero_le _, rfl, rfl, Fr.refl _ _⟩
          case round =>
            rename_i wi _
            obtain ⟨k, hk, rfl, rfl, hfr⟩ := hrel
            have hQi := HQ11.out.keep hfr (fun _ h => h.elim)
            have x1 := hQi.x.cell (i := 1) rfl
            have g0 := (HO11.out.keep hfr id).cell (i := 0) rfl
            have HFR := Lib.hid hfr
            by_cases hlk : k < E.length
            · obtain ⟨gE, cE, rE, hqE, -, hoE, -⟩ := (HV11.out.keep hfr (fun _ _ h => h)).row (by omega)
              simp only [Value.slice.injEq, true_and] at hqE
              obtain ⟨rfl, rfl⟩ := hqE
              have hge := entCells_get E k hlk
              have e0 := hoE.cell (i := k * 3) (by rw [List.getElem?_append_left (by simp; omega)]; exact hge.1)
              have e1 := hoE.cell (i := k * 3 + 1) (by rw [List.getElem?_append_left (by simp; omega)]; exact hge.2.1)
              have hsu : sizeIn (E.take (k + 1)) x.name = if E[k].name = x.name then E[k].size else sizeIn (E.take k) x.name := by
                rw [List.take_succ_eq_append_getElem hlk, sizeIn_snoc]
              have HSU := Lib.hid hsu
              clear hoE hge hsu hQi hfr
              generalize E[k] = ek at *
              by_cases hnm : ek.name = x.name
              · have hne : (ek.name == x.name) = true := by simpa using hnm
                have HNM := Lib.hid hnm
                clear hnm
                go_wp2_with fail
                go_quiet (fail)
                go_wp2_with fail
                exact ⟨⟨k + 1, by omega, by rw [HSU.out, if_pos HNM.out], by go_num, HFR.out.drewN _⟩, by simp [intOf]; omega⟩
              · have hne : (ek.name == x.name) = false := by simpa using hnm
                have HNM := Lib.hid hnm
                clear hnm
                go_wp2_with fail
                go_quiet (fail)
                go_wp2_with fail
                exact ⟨⟨k + 1, by omega, by rw [HSU.out, if_neg HNM.out], by go_num, HFR.out.drewN _⟩, by simp [intOf]; omega⟩
            · obtain rfl : k = E.length := by omega
              rw [List.take_length]
              clear hQi hfr
              have HQ13 := Lib.hid (HQ11.out.keep HFR.out (fun _ h => h.elim))
              have HV13 := Lib.hid (HV11.out.keep HFR.out (fun _ _ h => h))
              have HT13 := Lib.hid (HT11.out.below HFR.out (fun _ h => h.elim))
              have HO13 := Lib.hid (HO11.out.keep HFR.out id)
              have x0 := HQ13.out.x.cell (i := 0) rfl
              have hsl := sizeIn_le E x.name HB3.out
              obtain ⟨SZ, hSZ⟩ : ∃ SZ, sizeIn E x.name = SZ := ⟨_, rfl⟩
              rw [hSZ] at hsl ⊢
              have HSZ := Lib.hid hSZ
              clear hSZ g0 HQ11 HV11 HT11 HO11
              go_wp2_with fail
              go_at_call 156; refine (rrtokens_any wr (w.heap.size + 1) s q' ok11 HQ13.out.r hs SZ bk hb1 hb2 hsl).mono ?_
              rintro e w14 ⟨hf14, lv, ll, all, q3, ok14, rfl, hot, hall, hr14, hm14⟩
              obtain ⟨la, lc, hlv, -⟩ := hot.vec.shape
              subst hlv
              have hz14 := hf14.size
              have HM14 := Lib.hid hm14
              have HOT := Lib.hid hot
              have HQ14 := Lib.hid (HQ13.out.step hf14 hr14)
              have HV14 := Lib.hid (HV13.out.keep hf14 (fun b hb hs => by have := (HV13.out.lt b hb).1; omega))
              have HO14 := Lib.hid (HO13.out.keep hf14 (by omega))
              have HF14 := Lib.hid hf14
              have g1 := HO14.out.cell (i := 1) rfl
              clear hf14 hr14 hm14 hot x0 x1
              go_wp2_with fail
              go_at_call 153; refine (rmust_any _ _ s q3 ok14 ((all : Int) == (x.size : Int)) HQ14.out.r).mono ?_
              rintro e w15 ⟨rfl, hr15, hf15⟩
              obtain ⟨ok15, hok15⟩ : ∃ b, (ok14 && ((all : Int) == (x.size : Int))) = b := ⟨_, rfl⟩
              rw [hok15] at hr15
              have HK15 := Lib.hid hok15
              have hz15 := hf15.size
              have HQ15 := Lib.hid (HQ14.out.step hf15 hr15)
              have HV15 := Lib.hid (HV14.out.keep hf15 (fun b hb hs => by have := (HV14.out.lt b hb).1; omega))
              have HO15 := Lib.hid (HO14.out.keep hf15 (by omega))
              have HOT15 := Lib.hid (HOT.out.below hf15 (fun b hb => by have := HQ13.out.lo; have := HQ13.out.x.lt; omega))
              have HF15 := Lib.hid ((HF14.out.mono (fun b hb _ => by have hb' : b < xb + 1 := by omega
                                                                     exact hb')).step hf15 (fun b hb hl => by omega) : Fr (fun b => b < xb + 1) wr w15)
              have hT15 := HT13.out.below HF15.out (fun b hb => hb)
              have HT15 := Lib.hid hT15
              have g0 := HO15.out.cell (i := 0) rfl
              have g1 := HO15.out.cell (i := 1) rfl
              have g2 := HO15.out.cell (i := 2) rfl
              have x2 := HQ15.out.x.cell (i := 2) rfl
              have hxr : xb < wr.heap.size := HQ13.out.x.lt
              clear hok15 hr15 hf15 hT15 HQ14 HV14 HO14 HOT HF14
              go_wp2_with (at_builtin; refine wpList_append_vec rfl (.tmp 134) (.tmp 138) _ rfl (xb + 1) 155 4 56 elt_targ (HT15.out.vec.keep ((Fr.refl (fun _ => False) _).alloc _) (fun _ _ h => h)) rfl (m := 1) (Reads.new _ _ _ _ (by simp) _ _) rfl rfl (targ_one ⟨⟨x, ll.map (·.1)⟩, .slice la ll.length lc, ll⟩ la _ lc rfl) (by unfold maxLen; omega) (by omega) (by simp; omega) ?_; intro v16 w16 hv16 hf16 hd16 hn16; obtain ⟨a16, c16, hsh16, -⟩ := hv16.shape; subst hsh16; have HQ16 := Lib.hid ((HQ15.out.keep ((Fr.refl (fun _ => False) _).alloc _) (fun _ h => h.elim)).keep hf16 (fun k hk => by have := (HT15.out.vec.lt k hk).1; omega)); have z1 := HQ16.out.x.cell (i := 2) rfl; have zf := HQ16.out.x.free 2 (by simp); have HV16 := Lib.hid hv16; have HF16 := Lib.hid hf16; clear hv16 hf16 hd16 hn16)
              have hA15 : Fr (fun _ => False) w15 (w15.alloc (.cells #[.string ⟨x.name.toArray⟩, .int .i64 x.size, .int .u64 x.dig, .slice la ll.length lc] 155)) := (Fr.refl (fun _ => False) w15).alloc _
              have hs17 : Fr (fun k => k = xb) w16 (w16.setCell ⟨xb, 2, none⟩ (.slice a16 (mt.length + 1) c16)) := (Fr.refl _ _).setCell _ _ (fun _ => rfl)
              have hsn := Targs.snoc (x := ⟨⟨x, ll.map (·.1)⟩, .slice la ll.length lc, ll⟩) HT13.out (HF15.out.step hA15 (fun _ h _ => h.elim)) (HOT15.out.keep0 hA15) rfl (by omega) HV16.out HF16.out
              have hvb := HV15.out.keep hA15 (fun _ _ h => h)
              have hta := HT15.out.vec.keep hA15 (fun _ _ h => h)
              have hvb2 := hvb.keep HF16.out (fun b hb => hvb.apartV hta (by decide) b hb)
              refine ⟨⟨i + 1, q3, ok15, mt ++ [⟨⟨x, ll.map (·.1)⟩, .slice la ll.length lc, ll⟩], .slice a16 (mt.length + 1) c16, by rw [List.map_append, List.map_singleton, lastT_snoc], congrArg (Value.int .u64) (by omega), by omega, HQ16.out.set 2 _ _ _ _ rfl, hvb2.keep hs17 (fun b hb hs => by have := (hvb2.lt b hb).1; omega), hsn.below hs17 (fun b hb => by omega), by simp [HE.out], fun _ => HOK.out trivial, ?_⟩, by simp [intOf]; omega⟩
              have hR : R2 = targsF bk E (m - i) (mt.map (·.t)) (s.data.toList.drop q) := by
                rcases HGH.out with ⟨_, h⟩ | ⟨h, _⟩
                · exact h
                · cases h
              have hM := HM.out
              have hM14 := HM14.out
              have hK := HK15.out
              have hstep : targsF bk E (m - i) (mt.map (·.t)) (s.data.toList.drop q) = (match entN (lastT E (mt.map (·.t))) mt.isEmpty (s.data.toList.drop q) with
                | none => none
                | some (e, r) => match tksN bk (sizeIn E e.name) e.size r with | none => none | some (l, r) => targsF bk E (m - (i + 1)) (mt.map (·.t) ++ [⟨e, l⟩]) r) := by
                rw [show m - i = (m - (i + 1)) + 1 by omega, show mt.isEmpty = (mt.map (·.t)).isEmpty by simp]; rfl
              rw [hR, hstep, List.map_append, List.map_singleton]
              cases hT : entN (lastT E (mt.map (·.t))) mt.isEmpty (s.data.toList.drop q) with
              | none =>
                rw [hT] at hM
                have hM : ok11 = false := hM
                subst hM
                have hM14 : ok14 = false := hM14
                subst hM14
                exact .inr ⟨by simpa using hK.symm, rfl⟩
              | some y =>
                obtain ⟨y, r⟩ := y
                rw [hT] at hM
                obtain ⟨h1, rfl, rfl⟩ := hM
                subst h1
                simp only
                rw [tks_rel, HSZ.out]
                cases hO : RTksO true s q' bk SZ with
                | none =>
                  rw [hO] at hM14
                  have hM14 : ok14 = false := hM14
                  subst hM14
                  exact .inr ⟨by simpa using hK.symm, rfl⟩
                | some z =>
                  obtain ⟨⟨l, k⟩, r⟩ := z
                  rw [hO] at hM14
                  obtain ⟨h1, rfl, rfl, rfl⟩ := hM14
                  subst h1
                  simp only
                  by_cases hal : all = x.size
                  · rw [if_pos hal]
                    left
                    refine ⟨?_, rfl⟩
                    rw [← hK]; simp [hal]
                  · rw [if_neg hal]
                    right
                    refine ⟨?_, rfl⟩
                    rw [← hK]; simp; omega
      · go_wp2_with fail
        go_meet
        case rel => exact ⟨rfl, q, okc, mt, _, HQ.out, HV.out, HT.out, by
          obtain rfl : i = m := by omega
          rcases HGH.out with ⟨h, e⟩ | ⟨h, e⟩
          · exact .inl ⟨h, by rw [e, Nat.sub_self]; rfl⟩
          · exact .inr ⟨h, e⟩⟩
  case rest =>
  obtain ⟨rfl, q2, okd, mt, tv, hq, hv, ht, hgh⟩ := hcut
  have HQ := Lib.hid hq
  have HV := Lib.hid hv
  have HT := Lib.hid ht
  have HGH := Lib.hid hgh
  clear hq hv ht hgh HQ10 HV10 HGH0
  have HBD : Hid ((okd = true ∧ bodyN s.data.toList = some (⟨bk, E, mt.map (·.t)⟩, s.data.toList.drop q2)) ∨ (okd = false ∧ bodyN s.data.toList = none)) := by
    show _ ∨ _
    have hR := HR2'.out
    rcases HS1.out with ⟨h1, -, -, -, h5⟩ | ⟨h1, h2⟩
    · rw [if_pos h1] at hR
      rw [h5, hR]
      rcases HGH.out with ⟨g0, g⟩ | ⟨g0, g⟩
      · exact .inl ⟨g0, by rw [g]⟩
      · exact .inr ⟨g0, by rw [g]⟩
    · rw [if_neg (by rw [h1]; decide)] at hR
      rcases HGH.out with ⟨g0, g⟩ | ⟨g0, g⟩
      · rw [← hR] at g; cases g
      · exact .inr ⟨g0, h2⟩
  clear HS1 HR2' HGH
  have g0 := HQ.out.g.cell (i := 0) rfl
  have g1 := HQ.out.g.cell (i := 1) rfl
  have g2 := HQ.out.g.cell (i := 2) rfl
  have f0 := HQ.out.g.free 0 (by simp)
  have f1 := HQ.out.g.free 1 (by simp)
  have f2 := HQ.out.g.free 2 (by simp)
  have y0 := HQ.out.r.own.cell (i := 0) rfl
  have y1 := HQ.out.r.own.cell (i := 1) rfl
  have y2 := HQ.out.r.own.cell (i := 2) rfl
  obtain ⟨ta, tc, htv, -⟩ := HT.out.vec.shape
  subst htv
  cases okd with
  | false =>
    have hnone : readOf s.data.toList = none := by
      rcases HBD.out with ⟨h, -⟩ | ⟨-, h⟩
      · cases h
      · exact readOf_noBody h
    have HNO := Lib.hid hnone
    clear hnone
    go_wp2_with fail
    exact rrd_none HQ.out HNO.out _ rfl rfl
  | true =>
    have hbody : bodyN s.data.toList = some (⟨bk, E, mt.map (·.t)⟩, s.data.toList.drop q2) := by
      rcases HBD.out with ⟨-, h⟩ | ⟨h, -⟩
      · exact h
      · cases h
    have HBO := Lib.hid hbody
    have hq2 := HQ.out.r.le
    clear hbody
    go_wp2_with fail
    go_at_call 132; refine (rdigest_any (s.extract 0 q2) wc (by unfold maxLen; simp; omega)).mono ?_
    rintro e w' ⟨rfl, rfl⟩
    rw [take_extract]
    obtain ⟨D, hD⟩ : ∃ D, dgOf (s.data.toList.take q2) = D := ⟨_, rfl⟩
    rw [hD]
    have HD := Lib.hid hD
    clear hD
    go_wp2_with fail
    go_at_call 154; refine (rnum_any _ _ s q2 8 _ rfl true HQ.out.r hs (by omega)).mono ?_
    rintro e w11 ⟨v, p', okv, rfl, hr11, hf11, hvl, hn11⟩
    have hp' := hr11.le
    have her := end_rel hq2 HBO.out hn11 hp'
    rw [HD.out] at her
    have HER := Lib.hid her
    have HQ11 := Lib.hid (HQ.out.step hf11 hr11)
    have hlo := HQ.out.lo
    have HV11 := Lib.hid (HV.out.keep hf11 (fun b hb hs => by have := (HV.out.lt b hb).1; omega))
    have HT11 := Lib.hid (HT.out.below hf11 (fun b hb => by omega))
    clear g0 g1 g2 f0 f1 f2 y0 y1 y2 her hn11 hr11 hf11 hvl
    have g0 := HQ11.out.g.cell (i := 0) rfl
    have g1 := HQ11.out.g.cell (i := 1) rfl
    have g2 := HQ11.out.g.cell (i := 2) rfl
    have f0 := HQ11.out.g.free 0 (by simp)
    have f1 := HQ11.out.g.free 1 (by simp)
    have f2 := HQ11.out.g.free 2 (by simp)
    have x0 := HQ11.out.x.cell (i := 0) rfl
    have x1 := HQ11.out.x.cell (i := 1) rfl
    have x2 := HQ11.out.x.cell (i := 2) rfl
    have y0 := HQ11.out.r.own.cell (i := 0) rfl
    have y1 := HQ11.out.r.own.cell (i := 1) rfl
    have y2 := HQ11.out.r.own.cell (i := 2) rfl
    cases okv with
    | false =>
      have hno : readOf s.data.toList = none := by rw [HER.out, if_neg (by simp)]
      have HNO := Lib.hid hno
      clear hno
      go_wp2_with fail
      exact rrd_none HQ11.out HNO.out _ rfl rfl
    | true =>
      by_cases hvD : (v : Int) = D
      · have hvn : ((v : Int) != D) = false := by simp [hvD]
        have HVD := Lib.hid hvD
        clear hvD
        by_cases hpS : p' = s.size
        · have hpn : ((p' : Int) != (s.size : Int)) = false := by simp [hpS]
          have HPS := Lib.hid hpS
          have hso : readOf s.data.toList = some ⟨bk, E, mt.map (·.t)⟩ := by rw [HER.out, if_pos ⟨rfl, HVD.out, HPS.out⟩]
          have HSO := Lib.hid hso
          clear hso hpS
          go_wp2_with fail
          exact rrd_some HQ11.out HV11.out HT11.out HSO.out _ rfl rfl
        · have hpn : ((p' : Int) != (s.size : Int)) = true := by simp; omega
          have hno : readOf s.data.toList = none := by rw [HER.out, if_neg (fun h => hpS h.2.2)]
          have HNO := Lib.hid hno
          clear hno hpS
          go_wp2_with fail
          exact rrd_none HQ11.out HNO.out _ rfl rfl
      · have hvn : ((v : Int) != D) = true := by simpa using hvD
        have hno : readOf s.data.toList = none := by rw [HER.out, if_neg (fun h => hvD h.2.1)]
        have HNO := Lib.hid hno
        clear hno hvD
        go_wp2_with fail
        exact rrd_none HQ11.out HNO.out _ rfl rfl
end Go.Proofs.YtlcdgbhigfgehabGreatDoor
/- The walk of the document's Apply. -/
namespace Go.Proofs.YtlcdgbhigfgehabGreatDoor
open Go.RowKit
set_option maxRecDepth 100000

def RefApplied (r : Int ⊕ List UInt8) (s : ByteArray) (k : Int) : Prop :=
  match r with
  | .inl e => s = ByteArray.empty ∧ k = e
  | .inr out => k = 0 ∧ s.data.toList = out
def RefApplyPost (w : World) (r : Int ⊕ List UInt8) (e : Ending) (w' : World) : Prop :=
  ∃ s k, e = .returned (.tuple #[.string s, .int .i64 k]) ∧ RefApplied r s k ∧ Fr (fun _ => False) w w'

theorem ba_app (a b : ByteArray) : (a ++ b).data.toList = a.data.toList ++ b.data.toList := by simp
set_option maxHeartbeats 2000000 in
theorem rapply_any (s : ByteArray) (v1 : Value) (l : List (Tok × Value)) (blk B : Nat) (w : World) (ht : Toks w B v1 l) (hs : sized blk s.size = 0) (hd : ∀ p ∈ l, p.1.d.length ≤ 1000) :
    Calls Tryz.prog 140 #[.string s, v1, .int .i64 blk] w (RefApplyPost w (applyF s.data.toList blk (l.map (·.1)) [])) := by
  have hblk : 1 ≤ blk ∧ blk ≤ 64 ∧ s.size ≤ 300 := by
    unfold sized at hs
    split at hs
    · omega
    · split at hs
      · omega
      · omega
  obtain ⟨hb1, hb2, hb3⟩ := hblk
  have hsl : s.data.toList.length = s.size := by simp
  have hNle : nBlocks s.size blk ≤ 300 := by have := (nBlocks_mul s.size blk (by omega)).2.2; omega
  obtain ⟨a1, c1, hv1, hc1, hc2, -⟩ := ht.vec.shape
  subst hv1
  have hl := ht.vec.len
  unfold maxLen at hl
  have HT := Lib.hid ht
  have HD := Lib.hid hd
  have HSL := Lib.hid hsl
  clear ht hd hs hc1 hc2 hsl
  go_enter Tryz.func140, Tryz.ntmps140
  go_wp2_with fail
  refine (blocks_any s blk blk w rfl (by omega) hb2 (by omega)).mono ?_
  rintro e w1 ⟨bv, rfl, hbv, hf1⟩
  obtain ⟨ab, cb, rfl, -⟩ := hbv.shape
  generalize hNN : nBlocks s.size blk = N at hbv hNle
  have HNN := Lib.hid hNN
  have HBV := Lib.hid hbv
  have HF1 := Lib.hid hf1
  clear hNN hbv hf1
  go_wp2_with fail
  go_loopw [9, 10] (fun x i wr => ∃ (k : Nat) (o : ByteArray), k ≤ l.length ∧ i = .int .i64 k ∧ x = .string o ∧ applyF s.data.toList blk ((l.map (·.1)).take k) [] = .inr o.data.toList ∧ Fr (fun _ => False) w1 wr) (fun _ i _ => l.length - (intOf i).toNat)
  case atStart => exact ⟨0, ByteArray.empty, Nat.zero_le _, rfl, rfl, rfl, Fr.refl _ _⟩
  case round =>
    obtain ⟨k, o, hk, rfl, rfl, happ, hfr⟩ := hrel
    have hout : o.size ≤ 300 := by have := applyF_len s.data.toList blk _ [] _ (by simp) happ; simpa using this
    by_cases hlt : k < l.length
    · have hkm : k < (l.map (·.1)).length := by simpa using hlt
      have hstep := applyF_take s.data.toList blk (l.map (·.1)) k hkm _ happ
      rw [List.getElem_map, HSL.out, HNN.out] at hstep
      have hF : Fr (fun _ => False) w wr := HF1.out.step hfr (fun _ h _ => h)
      have e1 := HT.out.keep0 hF
      obtain ⟨g1, c1', q1, x1, y1, z1⟩ := e1.get k hlt
      simp only [Value.slice.injEq, true_and] at q1
      obtain ⟨rfl, rfl⟩ := q1
      have d1 := e1.data l[k] (List.getElem_mem hlt)
      have hd1 := HD.out l[k] (List.getElem_mem hlt)
      obtain ⟨da, dc, hdv, hdl, hdc⟩ := d1.shape
      rw [hdv] at z1 d1
      have HSTEP := Lib.hid hstep
      have HAPP := Lib.hid happ
      have HF := Lib.hid hfr
      have HDI := Lib.hid d1
      clear e1 hstep happ hF hfr d1 hdv
      generalize l[k].1 = t at *
      obtain ⟨tb, tc, td⟩ := t
      simp only at x1 y1 hd1 hdl z1
      replace HDI : Hid (IsB wr (.slice da td.length dc) td) := HDI
      have stop3 : tokOk N ⟨tb, tc, td⟩ = false → applyF s.data.toList blk (l.map (·.1)) [] = .inl 3 := fun h =>
        applyF_stop _ blk _ (k + 1) 3 (by rw [HSTEP.out, h]; rfl)
      have stop2 : tokOk N ⟨tb, tc, td⟩ = true → 300 < (o.data.toList ++ tokMake s.data.toList blk ⟨tb, tc, td⟩).length → applyF s.data.toList blk (l.map (·.1)) [] = .inl 2 := fun h h' =>
        applyF_stop _ blk _ (k + 1) 2 (by rw [HSTEP.out, if_pos h, if_pos h'])
      have okk : tokOk N ⟨tb, tc, td⟩ = true → ¬ 300 < (o.data.toList ++ tokMake s.data.toList blk ⟨tb, tc, td⟩).length → applyF s.data.toList blk ((l.map (·.1)).take (k + 1)) [] = .inr (o.data.toList ++ tokMake s.data.toList blk ⟨tb, tc, td⟩) := fun h h' => by
        rw [HSTEP.out, if_pos h, if_neg h']
      have S3 := Lib.hid stop3
      have S2 := Lib.hid stop2
      have OKK := Lib.hid okk
      clear stop3 stop2 okk
      by_cases h1 : tc < 0
      · have hbad : tokOk N ⟨tb, tc, td⟩ = false := by simp [tokOk]; omega
        have HBAD := Lib.hid hbad
        clear hbad
        go_wp2_with fail
        go_ret2
        rw [S3.out HBAD.out]
        exact ⟨_, 3, rfl, ⟨rfl, rfl⟩, (HF1.out.step HF.out (fun _ h _ => h)).alloc _⟩
      by_cases h2 : tb < 0
      · have hbad : tokOk N ⟨tb, tc, td⟩ = false := by simp [tokOk]; omega
        have HBAD := Lib.hid hbad
        clear hbad
        go_wp2_with fail
        go_ret2
        rw [S3.out HBAD.out]
        exact ⟨_, 3, rfl, ⟨rfl, rfl⟩, (HF1.out.step HF.out (fun _ h _ => h)).alloc _⟩
      by_cases h3 : tc = 0
      · subst h3
        by_cases h4 : tb = 0
        · subst h4
          have hok : tokOk N ⟨0, 0, td⟩ = true := by simp [tokOk]
          have hmk : tokMake s.data.toList blk ⟨0, 0, td⟩ = td := by simp [tokMake]
          rw [hmk, List.length_append] at S2 OKK
          have HOK := Lib.hid hok
          have hcv := run_string_of (P := Tryz.prog) (wr.alloc (.cells #[.int .i64 0, .int .i64 0, .slice da td.length dc] 171)) 25 9 5 _ _ Tryz.underlying25 Tryz.underlying5 Tryz.underlying9 (HDI.out.keep0 ((Fr.refl (fun _ => False) _).alloc _))
          have hos : o.data.toList.length = o.size := by simp
          rw [hos] at S2 OKK
          clear hok hmk hos
          by_cases hbig : 300 < o.size + td.length
          · go_wp2_with fail
            refine wp_loop_rounds 1 ?_
            rw [rounds_succ]
            go_wp2_with fail
            go_ret2
            rw [S2.out HOK.out hbig]
            exact ⟨_, 2, rfl, ⟨rfl, rfl⟩, (HF1.out.step HF.out (fun _ h _ => h)).alloc _⟩
          · go_wp2_with fail
            refine wp_loop_rounds 1 ?_
            rw [rounds_succ]
            go_wp2_with fail
            refine ⟨⟨k + 1, _, by omega, by go_num, rfl, ?_, HF.out.alloc _⟩, by simp [intOf]; omega⟩
            rw [OKK.out HOK.out hbig, ba_app]
        · have hbad : tokOk N ⟨tb, 0, td⟩ = false := by simp [tokOk]; omega
          have HBAD := Lib.hid hbad
          clear hbad
          have h4' : (tb != 0) = true := by simpa using h4
          go_wp2_with fail
          go_ret2
          rw [S3.out HBAD.out]
          exact ⟨_, 3, rfl, ⟨rfl, rfl⟩, (HF1.out.step HF.out (fun _ h _ => h)).alloc _⟩
      have h3' : (tc == 0) = false := by simpa using h3
      have h3'' : 0 < tc := by omega
      by_cases h5 : 0 < td.length
      · have hbad : tokOk N ⟨tb, tc, td⟩ = false := by
          have : td.isEmpty = false := by cases td <;> simp at h5 ⊢
          simp [tokOk, this]; omega
        have HBAD := Lib.hid hbad
        clear hbad
        go_wp2_with fail
        go_ret2
        rw [S3.out HBAD.out]
        exact ⟨_, 3, rfl, ⟨rfl, rfl⟩, (HF1.out.step HF.out (fun _ h _ => h)).alloc _⟩
      by_cases h6 : (N : Int) < tb
      · have hbad : tokOk N ⟨tb, tc, td⟩ = false := by simp [tokOk]; omega
        have HBAD := Lib.hid hbad
        clear hbad
        go_wp2_with fail
        go_ret2
        rw [S3.out HBAD.out]
        exact ⟨_, 3, rfl, ⟨rfl, rfl⟩, (HF1.out.step HF.out (fun _ h _ => h)).alloc _⟩
      by_cases h7 : (N : Int) - tb < tc
      · have hbad : tokOk N ⟨tb, tc, td⟩ = false := by simp [tokOk]; omega
        have HBAD := Lib.hid hbad
        clear hbad
        go_wp2_with fail
        go_ret2
        rw [S3.out HBAD.out]
        exact ⟨_, 3, rfl, ⟨rfl, rfl⟩, (HF1.out.step HF.out (fun _ h _ => h)).alloc _⟩
      · obtain ⟨bn, rfl⟩ := Int.eq_ofNat_of_zero_le (a := tb) (by omega)
        obtain ⟨cn, rfl⟩ := Int.eq_ofNat_of_zero_le (a := tc) (by omega)
        have htd : td = [] := by cases td with | nil => rfl | cons _ _ => simp at h5
        subst htd
        replace HDI : Hid (IsB wr (.slice da 0 dc) []) := HDI
        have hok : tokOk N ⟨bn, cn, []⟩ = true := by simp [tokOk]; omega
        have HOK := Lib.hid hok
        have hcv := run_string_of (P := Tryz.prog) (wr.alloc (.cells #[.int .i64 bn, .int .i64 cn, .slice da 0 dc] 171)) 25 9 5 _ _ Tryz.underlying25 Tryz.underlying5 Tryz.underlying9 (HDI.out.keep0 ((Fr.refl (fun _ => False) _).alloc _))
        have hmk : tokMake s.data.toList blk ⟨bn, cn, []⟩ = (s.data.toList.drop (bn * blk)).take (cn * blk) := by
          unfold tokMake
          rw [if_neg (show ¬ (cn : Int) = 0 by omega)]
          rfl
        rw [hmk] at S2 OKK
        obtain ⟨gb, cb', rest, hq, -, hob, -⟩ := HBV.out.row (by omega)
        simp only [Value.slice.injEq, true_and] at hq
        obtain ⟨rfl, rfl⟩ := hq
        have hcell : ∀ i, i < N → (wr.alloc (.cells #[.int .i64 bn, .int .i64 cn, .slice da 0 dc] 171)).cell? ⟨gb, i, none⟩ = some (.string ⟨((s.data.toList.drop (i * blk)).take blk).toArray⟩) := by
          intro i hi
          have hob' := hob.keep (HF.out.alloc (.cells #[.int .i64 bn, .int .i64 cn, .slice da 0 dc] 171)) id
          refine hob'.cell ?_
          have hi' : i < nBlocks s.data.toList.length blk := by rw [HSL.out, HNN.out]; exact hi
          rw [List.getElem?_append_left (by simp [length_blocksOf]; rw [show s.data.toList.length = s.size by simp] at hi'; simpa using hi'), List.getElem?_map, List.getElem?_eq_getElem (by rw [length_blocksOf]; exact hi'), blocksOf_get _ _ _ hi']
          rfl
        have HCELL := Lib.hid hcell
        clear hok hmk hcell hob
        go_wp2_with fail
        go_loop [9, 12] (fun x j => ∃ (q : Nat) (o2 : ByteArray), q ≤ cn ∧ j = .int .i64 q ∧ x = .string o2 ∧ o2.data.toList = o.data.toList ++ (s.data.toList.drop (bn * blk)).take (q * blk)) (fun _ j => cn - (intOf j).toNat)
        case atStart => exact ⟨0, o, Nat.zero_le _, rfl, rfl, by simp⟩
        case round =>
          obtain ⟨q, o2, hq, rfl, rfl, ho2⟩ := hrel
          have hz2 : o2.size ≤ 600 := by
            rw [show o2.size = o2.data.toList.length by simp, ho2]
            simp; omega
          have HO2 := Lib.hid ho2
          clear ho2
          by_cases hq2 : q < cn
          · have hc := HCELL.out (bn + q) (by omega)
            go_wp2_with fail
            refine ⟨⟨q + 1, _, by omega, by go_num, rfl, ?_⟩, by simp [intOf]; omega⟩
            rw [ba_app, HO2.out, List.append_assoc]
            show _ ++ (_ ++ List.take blk _) = _
            rw [make_succ]
          · obtain rfl : q = cn := by omega
            have hos : o2.data.toList.length = o2.size := by simp
            have HOS := Lib.hid hos
            rw [← HO2.out] at S2 OKK
            clear hos
            by_cases hbig : 300 < o2.size
            · go_wp2_with fail
              go_ret2
              rw [S2.out HOK.out (by rw [HOS.out]; exact hbig)]
              exact ⟨_, 2, rfl, ⟨rfl, rfl⟩, (HF1.out.step HF.out (fun _ h _ => h)).alloc _⟩
            · go_wp2_with fail
              refine ⟨⟨k + 1, _, by omega, by go_num, rfl, ?_, HF.out.alloc _⟩, by simp [intOf]; omega⟩
              rw [OKK.out HOK.out (by rw [HOS.out]; exact hbig), ba_app]
              simp
    · obtain rfl : k = l.length := by omega
      have HAPP := Lib.hid happ
      have HF := Lib.hid hfr
      clear happ hfr
      go_wp2_with fail
      go_ret2
      have h := HAPP.out
      rw [List.take_of_length_le (by simp)] at h
      rw [h]
      exact ⟨_, 0, rfl, ⟨rfl, rfl⟩, HF1.out.step HF.out (fun _ h _ => h)⟩
end Go.Proofs.YtlcdgbhigfgehabGreatDoor
/- The document's Replay. -/
namespace Go.Proofs.YtlcdgbhigfgehabGreatDoor
open Go.RowKit
set_option maxRecDepth 100000

/-- What the document's Replay tells, and makes of its mirror. -/
def RRepQ (w : World) (B gr : Nat) (tv hv : Value) (tr : List Fil) (room crash : Int) (s : List UInt8) (e : Ending) (w' : World) : Prop :=
  e = .returned (.tuple #[.int .i64 (replayE tr room s crash).k, .string (replayE tr room s crash).name]) ∧ Fr (fun b => b = gr) w w' ∧
  ∃ tv' hv' tr' th', RMirC w' gr tv' room (replayD tr room s crash) hv' ∧ Refs w' B tv' tr' ∧ Refs w' B hv' th' ∧ (replayD tr room s crash = false → tr' = replayT tr room s crash) ∧ (replayD tr room s crash = true → th' = replayT tr room s crash) ∧
    (∀ b, tv'.ownBlock = some b ∨ hv'.ownBlock = some b → tv.ownBlock = some b ∨ hv.ownBlock = some b ∨ w.heap.size ≤ b)
theorem Refs.off {w w1 : World} {B g T : Nat} {v : Value} {l : List Fil} {xs : List Value} (h : Refs w B v l) (ho : Own w g T xs) (hT : T ≠ 188) (k : Fr (fun b => b = g) w w1) : Refs w1 B v l :=
  Vec.keep h k (fun _ hb e => Vec.apartT h ho (Ne.symm hT) (e ▸ hb))
theorem RRepQ.bad {w w' : World} {B gr : Nat} {tv hv : Value} {tr th : List Fil} {room crash : Int} {s : List UInt8} (E : Err) (h : planK tr room s = .inl E) (hm : RMirC w gr tv room false hv) (ht : Refs w B tv tr) (hh : Refs w B hv th) (hf : Fr (fun _ => False) w w') :
    RRepQ w B gr tv hv tr room crash s (.returned (.tuple #[.int .i64 E.k, .string E.name])) w' := by
  have hb := replay_bad crash h
  refine ⟨by rw [hb.1], hf.mono (fun _ h _ => h.elim), tv, hv, tr, th, ?_, Vec.keep ht hf (fun _ _ h => h), Vec.keep hh hf (fun _ _ h => h), fun _ => hb.2.1.symm, fun h => by rw [hb.2.2] at h; simp at h, fun b hb => ?_⟩
  · rw [hb.2.2]; exact Own.keep hm hf id
  · rcases hb with h | h
    · exact .inl h
    · exact .inr (.inl h)
/-- Where a plan comes out, and the power holds. -/
theorem RRepQ.whole {w w1 : World} {B gr : Nat} {tv hv lv : Value} {tr th l : List Fil} {room crash : Int} {s : List UInt8} (h : planK tr room s = .inr l) (hc : ¬ (1 ≤ crash ∧ crash ≤ l.length + 3)) (hm : RMirC w gr tv room false hv) (hh : Refs w B hv th) (hf : Fr (fun _ => False) w w1) (hl : Refs w1 w.heap.size lv l) (hB : B ≤ w.heap.size) :
    RRepQ w B gr tv hv tr room crash s (.returned (.tuple #[.int .i64 0, .string ByteArray.empty])) (w1.setCell ⟨gr, 0, none⟩ lv) := by
  have hb := replay_good crash h
  rw [if_neg hc, if_neg (by omega), decide_eq_false hc] at hb
  have hm1 := Own.keep hm hf id
  have k : Fr (fun b => b = gr) w1 (w1.setCell ⟨gr, 0, none⟩ lv) := (Fr.refl _ _).setCell _ _ (fun _ => rfl)
  refine ⟨by rw [hb.1]; rfl, (hf.mono (fun _ h _ => h.elim)).step k (fun _ h _ => h), lv, hv, l, th, ?_, ?_, ?_, fun _ => hb.2.1.symm, fun h => by rw [hb.2.2] at h; simp at h, fun b hb => ?_⟩
  · rw [hb.2.2]; exact hm1.set 0 lv
  · exact Vec.mono (Refs.off hl hm1 (by decide) k) hB
  · exact Refs.off (Vec.keep hh hf (fun _ _ h => h)) hm1 (by decide) k
  · rcases hb with h | h
    · exact .inr (.inr (Vec.lt hl b h).1)
    · exact .inr (.inl h)
theorem RRepQ.torn {w w1 : World} {B gr : Nat} {tv hv : Value} {tr l : List Fil} {room crash : Int} {s : List UInt8} (h : planK tr room s = .inr l) (hc : 1 ≤ crash ∧ crash ≤ l.length + 2) (hm : RMirC w gr tv room false hv) (ht : Refs w B tv tr) (hf : Fr (fun _ => False) w w1) :
    RRepQ w B gr tv hv tr room crash s (.returned (.tuple #[.int .i64 12, .string ByteArray.empty])) ((w1.setCell ⟨gr, 2, none⟩ (.bool true)).setCell ⟨gr, 3, none⟩ tv) := by
  have hb := replay_good crash h
  rw [if_pos ⟨hc.1, by omega⟩, if_pos hc, decide_eq_true ⟨hc.1, by omega⟩] at hb
  have hm1 := Own.keep hm hf id
  have k : Fr (fun b => b = gr) w1 ((w1.setCell ⟨gr, 2, none⟩ (.bool true)).setCell ⟨gr, 3, none⟩ tv) := ((Fr.refl (fun b => b = gr) _).setCell ⟨gr, 2, none⟩ _ (fun _ => rfl)).setCell ⟨gr, 3, none⟩ _ (fun _ => rfl)
  have ht1 : Refs ((w1.setCell ⟨gr, 2, none⟩ (.bool true)).setCell ⟨gr, 3, none⟩ tv) B tv tr := Refs.off (Vec.keep ht hf (fun _ _ h => h)) hm1 (by decide) k
  refine ⟨by rw [hb.1]; rfl, (hf.mono (fun _ h _ => h.elim)).step k (fun _ h _ => h), tv, tv, tr, tr, ?_, ht1, ht1, fun h => by rw [hb.2.2] at h; simp at h, fun _ => hb.2.1.symm, fun b hb => ?_⟩
  · rw [hb.2.2]; exact (hm1.set 2 (.bool true)).set 3 tv
  · rcases hb with h | h <;> exact .inl h
theorem RRepQ.late {w w1 : World} {B gr : Nat} {tv hv lv : Value} {tr l : List Fil} {room crash : Int} {s : List UInt8} (h : planK tr room s = .inr l) (hc : crash = l.length + 3) (hm : RMirC w gr tv room false hv) (ht : Refs w B tv tr) (hf : Fr (fun _ => False) w w1) (hl : Refs w1 w.heap.size lv l) (hB : B ≤ w.heap.size) :
    RRepQ w B gr tv hv tr room crash s (.returned (.tuple #[.int .i64 12, .string ByteArray.empty])) (((w1.setCell ⟨gr, 2, none⟩ (.bool true)).setCell ⟨gr, 3, none⟩ tv).setCell ⟨gr, 3, none⟩ lv) := by
  have hb := replay_good crash h
  rw [if_pos (by omega), if_neg (by omega), decide_eq_true (by omega)] at hb
  have hm1 := Own.keep hm hf id
  have k : Fr (fun b => b = gr) w1 (((w1.setCell ⟨gr, 2, none⟩ (.bool true)).setCell ⟨gr, 3, none⟩ tv).setCell ⟨gr, 3, none⟩ lv) := (((Fr.refl (fun b => b = gr) _).setCell ⟨gr, 2, none⟩ _ (fun _ => rfl)).setCell ⟨gr, 3, none⟩ _ (fun _ => rfl)).setCell ⟨gr, 3, none⟩ _ (fun _ => rfl)
  refine ⟨by rw [hb.1]; rfl, (hf.mono (fun _ h _ => h.elim)).step k (fun _ h _ => h), tv, lv, tr, l, ?_, Refs.off (Vec.keep ht hf (fun _ _ h => h)) hm1 (by decide) k, Vec.mono (Refs.off hl hm1 (by decide) k) hB, fun h => by rw [hb.2.2] at h; simp at h, fun _ => hb.2.1.symm, fun b hb => ?_⟩
  · rw [hb.2.2]; exact ((hm1.set 2 (.bool true)).set 3 tv).set 3 lv
  · rcases hb with h | h
    · exact .inl h
    · exact .inr (.inr (Vec.lt hl b h).1)
set_option maxHeartbeats 1000000 in
theorem rreplay_down (gr : Nat) (tv hv : Value) (room crash : Int) (s : ByteArray) (w : World) (h : RMirC w gr tv room true hv) :
    Calls Tryz.prog 107 #[.pointer (some ⟨gr, 0, none⟩), .string s, .int .i64 crash] w fun e w' => e = .returned (.tuple #[.int .i64 7, .string ByteArray.empty]) ∧ w' = w := by
  have c2 := Own.cell h (i := 2) rfl
  clear h
  go_enter Tryz.func107, Tryz.ntmps107
  go_wp2_with fail
  go_ret2
  exact ⟨rfl, rfl⟩
def IsW (a b : World) : Prop := a = b
set_option maxHeartbeats 8000000 in
theorem rreplay_up (B gr : Nat) (tv hv : Value) (tr th : List Fil) (room crash : Int) (s : ByteArray) (w : World) (h : RMirC w gr tv room false hv) (ht : Refs w B tv tr) (hh : Refs w B hv th) (hit : IsTree tr) (hs : s.size ≤ 1000000) (hB : B ≤ w.heap.size) (hrm : 0 ≤ room ∧ room ≤ 1048576) :
    Calls Tryz.prog 107 #[.pointer (some ⟨gr, 0, none⟩), .string s, .int .i64 crash] w (RRepQ w B gr tv hv tr room crash s.data.toList) := by
  have c0 := Own.cell h (i := 0) rfl
  have c1 := Own.cell h (i := 1) rfl
  have c2 := Own.cell h (i := 2) rfl
  obtain ⟨ta, tc, rfl, -⟩ := Vec.shape ht
  obtain ⟨ha, hc, rfl, -⟩ := Vec.shape hh
  have HM := Lib.hid h
  have HT := Lib.hid ht
  have HH := Lib.hid hh
  have HIT := Lib.hid hit
  have HRD := Lib.hid (rread_any s w hs)
  have ht8 := hit.len
  clear h ht hh hit
  go_enter Tryz.func107, Tryz.ntmps107
  go_wp2_with fail
  refine HRD.out.mono ?_
  rintro e w1 ⟨b0, b1, b2, ok, rfl, ⟨n, a1, m1, d1, a2, m2, d2, rfl, rfl, rfl⟩, hf1, hm⟩
  have HF1 := Lib.hid hf1
  cases hr : readOf s.data.toList with
  | none =>
    rw [hr] at hm
    subst hm
    have HP := Lib.hid (plan_none (tree := tr) (room := room) hr)
    clear hr hf1
    go_wp2_with fail
    go_ret2
    exact RRepQ.bad _ HP.out HM.out HT.out HH.out (HF1.out.alloc _)
  | some x =>
    rw [hr] at hm
    obtain ⟨rfl, mt, hb0, hv1, hv2, hmt⟩ := hm
    have hbn : n = (x.block : Int) := by simpa using hb0
    subst hbn
    obtain ⟨e1, f1, hq1, -⟩ := hv1.shape
    simp only [Value.slice.injEq] at hq1
    obtain ⟨rfl, rfl, rfl⟩ := hq1
    obtain ⟨e2, f2, hq2, -⟩ := hv2.vec.shape
    simp only [Value.slice.injEq] at hq2
    obtain ⟨rfl, rfl, rfl⟩ := hq2
    have hok := readOf_ok hr
    have HOK := Lib.hid hok
    have hml : mt.length = x.targs.length := by rw [← hmt]; simp
    have hmt8 : mt.length ≤ 8 := by have := hok.nt; omega
    have hblk := hok.blk
    have HMT := Lib.hid hmt
    have HML := Lib.hid hml
    have HR := Lib.hid hr
    have hA2 : Fr (fun _ => False) w1 (w1.alloc (.cells #[.int .i64 x.block, .slice a1 x.basis.length d1, .slice a2 mt.length d2] 146)) := (Fr.refl _ _).alloc _
    have HX2 := Lib.hid (Own.alloc w1 #[.int .i64 x.block, .slice a1 x.basis.length d1, .slice a2 mt.length d2] 146)
    have HF2 := Lib.hid (HF1.out.step hA2 (fun _ h _ => h))
    have HV12 := Lib.hid (hv1.keep hA2 (fun _ _ h => h))
    have HTV2 := Lib.hid (hv2.below hA2 (fun _ h => h.elim))
    have hz1 := hf1.size
    have hz2 := HF2.out.size
    clear hok hb0 hv1 hv2 hmt hml hr hf1 hA2 HRD
    go_upto_region 6 with fail
    generalize hw2 : w1.alloc (.cells #[.int .i64 x.block, .slice a1 x.basis.length d1, .slice a2 mt.length d2] 146) = w2 at *
    obtain ⟨gx, hgx⟩ : ∃ gx, w1.heap.size = gx := ⟨_, rfl⟩
    rw [hgx] at HX2 hz1 ⊢
    have x0 := HX2.out.cell (i := 0) rfl
    have x1 := HX2.out.cell (i := 1) rfl
    have x2 := HX2.out.cell (i := 2) rfl
    have m0 := HF2.out.cell c0 id
    have m1' := HF2.out.cell c1 id
    have m2' := HF2.out.cell c2 id
    have HDF := Lib.hid (fun n => rdiffers_any _ _ tr x.basis B w.heap.size (w2.drewN n) (Vec.keep HT.out (HF2.out.drewN n) (fun _ _ h => h)) (HV12.out.keep ((Fr.refl (fun _ => False) _).drewN n) (fun _ _ h => h)) ht8 HOK.out.nb (fun p hp => (HIT.out.ok p hp).2))
    clear c0 c1 c2 hw2
    cases hd : difN tr x.basis with
    | some nm =>
      rw [hd] at HDF
      have HP := Lib.hid (show planK tr room s.data.toList = .inl (.file ⟨nm.toArray⟩ 9) by unfold planK; rw [HR.out]; simp only [planB, hd])
      unfold difOut at HDF
      simp only [Option.getD_some, Option.isSome_some] at HDF
      clear hd
      go_quiet ((go_at_call 139; exact Calls.quiet_of (HDF.out _)))
      go_wp2_with fail
      go_ret2
      exact RRepQ.bad _ HP.out HM.out HT.out HH.out (HF2.out.drewN _)
    | none =>
      rw [hd] at HDF
      have HP := Lib.hid (show planK tr room s.data.toList = if room < roomOf x.targs then .inl (.kind 10) else takeT tr x.block x.targs [] by unfold planK; rw [HR.out]; simp only [planB, hd])
      have HMA := Lib.hid (fun t ht => made_apply HR.out HIT.out hd t ht)
      unfold difOut at HDF
      simp only [Option.getD_none, Option.isSome_none] at HDF
      clear hd
      go_quiet ((go_at_call 139; exact Calls.quiet_of (HDF.out _)))
      have hA3 : Fr (fun _ => False) w2 (w2.drewN nq) := (Fr.refl _ _).drewN nq
      have HX3 := Lib.hid (HX2.out.keep hA3 id)
      have HF3 := Lib.hid (HF2.out.step hA3 (fun _ h _ => h))
      have HTV3 := Lib.hid (HTV2.out.below hA3 (fun _ h => h.elim))
      have hz3 := hA3.size
      clear HDF HV12 HX2 HF2 HTV2 x0 x1 x2 m0 m1' m2' hA3
      generalize w2.drewN nq = w3 at *
      have x2 := HX3.out.cell (i := 2) rfl
      go_wp2_with fail
      go_loopw [12, 13] (fun av iv wr => ∃ k : Nat, k ≤ mt.length ∧ iv = .int .i64 k ∧ av = .int .i64 (roomOf (x.targs.take k) : Nat) ∧ IsW wr w3) (fun _ iv _ => mt.length - (intOf iv).toNat)
      case atStart => exact ⟨0, Nat.zero_le _, rfl, by simp [roomOf], rfl⟩
      case round =>
        obtain ⟨k, hk, rfl, rfl, hwr⟩ := hrel
        have hwr2 : wr = w3 := hwr
        subst hwr2
        clear hwr
        obtain ⟨w3, hw3⟩ : ∃ w3, w3 = wr := ⟨_, rfl⟩
        subst hw3
        have hrb := roomOf_le x.targs (fun t ht => (HOK.out.ts t ht).2.1) k
        by_cases hlt : k < mt.length
        · have hkt : k < x.targs.length := by rw [← HML.out]; exact hlt
          have hsu := roomOf_take x.targs k hkt
          have htk : x.targs[k] = mt[k].t := by
            have := congrArg (·[k]?) HMT.out
            simp only [List.getElem?_map, List.getElem?_eq_getElem hlt, List.getElem?_eq_getElem hkt, Option.map_some, Option.some.injEq] at this
            exact this.symm
          have hsz := (HOK.out.ts x.targs[k] (List.getElem_mem _)).2.1
          rw [htk] at hsu hsz
          obtain ⟨gT, cT, rT, hqT, -, hoT, -⟩ := HTV3.out.vec.row (by omega)
          simp only [Value.slice.injEq, true_and] at hqT
          obtain ⟨rfl, rfl⟩ := hqT
          have hge := targCells_get mt k hlt
          have t1 := hoT.cell (i := k * 4 + 1) (by rw [List.getElem?_append_left (by simp; omega)]; exact hge.2.1)
          clear hge hoT htk
          obtain ⟨R, hR⟩ : ∃ R, roomOf (x.targs.take k) = R := ⟨_, rfl⟩
          rw [hR] at hsu hrb ⊢
          have HSU := Lib.hid hsu
          clear hR hsu
          generalize mt[k].t.ent.size = ts at *
          have hw : wrap64 ((R : Int) + (ts : Int)) = (R : Int) + (ts : Int) := IntWalk.wrap64_in _ (by omega)
          go_wp2_with fail
          exact ⟨⟨k + 1, by omega, by go_num, by rw [HSU.out, hw, Int.natCast_add], rfl⟩, by simp [intOf]; omega⟩
        · obtain rfl : k = mt.length := by omega
          have htl : x.targs.take mt.length = x.targs := List.take_of_length_le (by rw [HML.out]; exact Nat.le_refl _)
          rw [htl] at hrb ⊢
          have m1 := (Own.keep HM.out HF3.out id).cell (i := 1) rfl
          clear htl
          by_cases hroom : room < (roomOf x.targs : Nat)
          · have HP2 := Lib.hid (show planK tr room s.data.toList = .inl (.kind 10) by rw [HP.out, if_pos hroom])
            have hd1 : decide (((roomOf x.targs : Nat) : Int) > room) = true := by simp; omega
            go_wp2_with fail
            go_ret2
            exact RRepQ.bad _ HP2.out HM.out HT.out HH.out HF3.out
          · have HP2 := Lib.hid (show planK tr room s.data.toList = takeT tr x.block x.targs [] by rw [HP.out, if_neg hroom])
            have hd1 : decide (((roomOf x.targs : Nat) : Int) > room) = false := by simp; omega
            clear hroom hrb
            go_wp2_with fail
            clear hd1 m1
            go_loopw [14, 15] (fun ov iv wr => ∃ (k : Nat) (l : List Fil), k ≤ mt.length ∧ iv = .int .i64 k ∧ l.length = k ∧ Fr (fun _ => False) w3 wr ∧ Refs wr w3.heap.size ov l ∧ planK tr room s.data.toList = takeT tr x.block (x.targs.drop k) l) (fun _ iv _ => mt.length - (intOf iv).toNat)
            case atStart => exact ⟨0, [], Nat.zero_le _, rfl, rfl, Fr.refl _ _, Vec.nil _ _ _ _, HP2.out⟩
            case round =>
              obtain ⟨k, l, hk, rfl, hlk, hfr, hrl, hpk⟩ := hrel
              obtain ⟨oa, oc, rfl, -⟩ := Vec.shape hrl
              have HFR := Lib.hid hfr
              have HRL := Lib.hid hrl
              have HPK := Lib.hid hpk
              have HLK := Lib.hid hlk
              have hwz := hfr.size
              have hl8 : l.length ≤ 8 := by omega
              have hk3 : Fr (fun _ => False) w wr := HF3.out.step hfr (fun _ h _ => h)
              have HK3 := Lib.hid hk3
              have x2 := (HX3.out.keep hfr id).cell (i := 2) rfl
              have x0 := (HX3.out.keep hfr id).cell (i := 0) rfl
              have m0 := (Own.keep HM.out hk3 id).cell (i := 0) rfl
              clear hpk hlk hrl hk3
              by_cases hlt : k < mt.length
              · have hkt : k < x.targs.length := by rw [← HML.out]; exact hlt
                have hts := takeT_step tr x.block x.targs k hkt l
                have htk : x.targs[k] = mt[k].t := by
                  have := congrArg (·[k]?) HMT.out
                  simp only [List.getElem?_map, List.getElem?_eq_getElem hlt, List.getElem?_eq_getElem hkt, Option.map_some, Option.some.injEq] at this
                  exact this.symm
                have hsz := HOK.out.ts x.targs[k] (List.getElem_mem _)
                have hma := HMA.out x.targs[k] (List.getElem_mem _)
                rw [htk] at hts hsz hma
                have htt := HTV3.out.below hfr (fun _ h => h.elim)
                obtain ⟨gT, cT, rT, hqT, -, hoT, -⟩ := htt.vec.row (by omega)
                simp only [Value.slice.injEq, true_and] at hqT
                obtain ⟨rfl, rfl⟩ := hqT
                have hge := targCells_get mt k hlt
                have t0 := hoT.cell (i := k * 4) (by rw [List.getElem?_append_left (by simp; omega)]; exact hge.1)
                have t1 := hoT.cell (i := k * 4 + 1) (by rw [List.getElem?_append_left (by simp; omega)]; exact hge.2.1)
                have t2 := hoT.cell (i := k * 4 + 2) (by rw [List.getElem?_append_left (by simp; omega)]; exact hge.2.2.1)
                have t3 := hoT.cell (i := k * 4 + 3) (by rw [List.getElem?_append_left (by simp; omega)]; exact hge.2.2.2)
                have hto := htt.toks mt[k] (List.getElem_mem _)
                obtain ⟨va, vc, hvq, -⟩ := hto.1.vec.shape
                rw [hvq] at t3
                have hto1 := hto.1.toks
                rw [hvq] at hto1
                have hto2 := hto.2
                clear hge hoT htt hfr htk hto hvq
                generalize mt[k].t = tk at *
                generalize mt[k].l = tl at *
                obtain ⟨⟨tn, ts, tdg⟩, tts⟩ := tk
                dsimp only at hsz t0 t1 t2 hts hto2 hma
                obtain ⟨nm, hnm⟩ : ∃ nm : ByteArray, nm = ⟨tn.toArray⟩ := ⟨_, rfl⟩
                have hnd : tn = nm.data.toList := by rw [hnm]
                rw [← hnm] at t0 hts
                subst hnd
                have hk255 : ∀ p ∈ tl, p.1.d.length ≤ 1000 := fun p hp => hsz.2.2 p.1 (by rw [← hto2]; exact List.mem_map_of_mem hp)
                obtain ⟨hz0, d, hap, hak, hdl⟩ := hma
                rw [hak] at hts
                dsimp only at hts
                have hd3 : d.length ≤ 300 := by have := hsz.2.1; omega
                have HTS := Lib.hid hts
                have HTO2 := Lib.hid hto2
                have HK255 := Lib.hid hk255
                have hA : Fr (fun _ => False) wr (wr.alloc (.cells #[.string nm, .int .i64 ts, .int .u64 tdg, .slice va tl.length vc] 155)) := (Fr.refl _ _).alloc _
                have HA := Lib.hid hA
                have HO := Lib.hid (Own.alloc wr #[.string nm, .int .i64 ts, .int .u64 tdg, .slice va tl.length vc] 155)
                have HTO := Lib.hid (hto1.keep0 hA)
                have hzA := hA.size
                have HFI := Lib.hid (fun n => rfind_same _ tr B nm ((wr.alloc (.cells #[.string nm, .int .i64 ts, .int .u64 tdg, .slice va tl.length vc] 155)).drewN n) (Vec.keep (Vec.keep HT.out HK3.out (fun _ _ h => h)) (hA.drewN n) (fun _ _ h => h)))
                obtain ⟨bs, hbs⟩ : ∃ bs : ByteArray, bs = ⟨(baseOf tr nm.data.toList).toArray⟩ := ⟨_, rfl⟩
                have hbd : baseOf tr nm.data.toList = bs.data.toList := by rw [hbs]
                rw [← hbs] at HFI
                rw [hbd] at hz0 hap
                have hbs2 : bs.data.toList.length = bs.size := by simp
                rw [hbs2] at hz0
                have HZ0 := Lib.hid hz0
                have HAP := Lib.hid hap
                clear hto1 hto2 hA hbs hbd hbs2 hz0 hap hak hts hnm hk255 hsz hdl
                go_upto_region 21 with fail
                have m0A := HA.out.cell m0 id
                clear t0 t1 t2 t3 m0 x2 x0
                generalize wr.alloc (.cells #[.string nm, .int .i64 ts, .int .u64 tdg, .slice va tl.length vc] 155) = wA at *
                obtain ⟨gt, hgt⟩ : ∃ gt, wr.heap.size = gt := ⟨_, rfl⟩
                rw [hgt] at HO ⊢
                have y0 := HO.out.cell (i := 0) rfl
                go_quiet ((go_at_call 135; exact Calls.quiet_of_same (HFI.out _)))
                have hk7 : Fr (fun _ => False) wr (wA.drewN nq) := HA.out.drewN nq
                have HO7 := Lib.hid (HO.out.keep ((Fr.refl (fun _ => False) _).drewN nq) id)
                have HTO7 := Lib.hid (HTO.out.keep0 ((Fr.refl (fun _ => False) _).drewN nq))
                have x0 := (HX3.out.keep (HFR.out.step hk7 (fun _ h _ => h)) id).cell (i := 0) rfl
                have HK7 := Lib.hid hk7
                have hz7 := hk7.size
                clear HFI HO HTO HA hk7 m0A y0
                generalize wA.drewN nq = w7 at *
                have y3 := HO7.out.cell (i := 3) rfl
                go_wp2_with fail
                refine (rapply_any bs _ tl x.block w.heap.size w7 HTO7.out HZ0.out HK255.out).mono ?_
                rintro e w8 ⟨sd, kk, rfl, hap, hf8⟩
                rw [HTO2.out, HAP.out] at hap
                obtain ⟨rfl, rfl⟩ := hap
                have hsd : sd.data.toList.length = sd.size := by simp
                rw [hsd] at hd3
                have HO8 := Lib.hid (HO7.out.keep hf8 id)
                have HK8 := Lib.hid (HK7.out.step hf8 (fun _ h _ => h))
                have hz8 := hf8.size
                have y0 := HO8.out.cell (i := 0) rfl
                have y2 := HO8.out.cell (i := 2) rfl
                have HDG := Lib.hid (rdigest_any sd w8 (by unfold maxLen; omega))
                clear hf8 y3 x0 HO7 HTO7 HK7 hsd
                by_cases hdg : dgN sd.data.toList = tdg
                · have q2 : (dgOf sd.data.toList == (tdg : Int)) = true := by rw [← hdg, dgN_int]; simp
                  have q3 : (dgOf sd.data.toList != (tdg : Int)) = false := by rw [← hdg, dgN_int]; simp
                  have HP3 := Lib.hid (show planK tr room s.data.toList = takeT tr x.block (x.targs.drop (k + 1)) (l ++ [⟨nm.data.toList, sd.data.toList⟩]) by rw [HPK.out, HTS.out, if_pos hdg])
                  clear hdg
                  generalize dgOf sd.data.toList = dgv at *
                  go_wp2_with fail
                  refine HDG.out.mono ?_
                  rintro e w' ⟨rfl, hw'⟩
                  subst hw'
                  clear HDG
                  go_wp2_with (at_builtin; go_must (refine wpList_append_vec rfl _ _ _ rfl w3.heap.size 188 2 32 elt_ref (Vec.keep (Vec.keep HRL.out HK8.out (fun _ _ h => h)) ((Fr.refl (fun _ => False) _).alloc _) (fun _ _ h => h)) rfl (m := 1) (Reads.new _ _ _ _ (by simp) _ _) rfl rfl (ref_one _ _) (by unfold maxLen; omega) (by omega) (by simp; omega) ?_); intro v9 w9 hv9 hf9 hd9 hn9; have HV9 := Lib.hid hv9; have HF9 := Lib.hid hf9; clear hv9 hf9 hd9 hn9)
                  have hlr : ∀ b, (Value.slice oa l.length oc).ownBlock = some b → w3.heap.size ≤ b := fun b hb => (Vec.lt HRL.out b hb).1
                  refine ⟨⟨k + 1, l ++ [⟨nm.data.toList, sd.data.toList⟩], by omega, by go_num, by rw [List.length_append, HLK.out]; rfl, (HFR.out.step (HK8.out.alloc _) (fun _ h _ => h)).step HF9.out (fun b hb hl => by have := hlr b hb; omega), ?_, HP3.out⟩, by simp [intOf]; omega⟩
                  · have hv := HV9.out
                    unfold Refs
                    rw [List.length_append, refCells_snoc]
                    rw [show refRow (⟨nm.data.toList, sd.data.toList⟩ : Fil) = [.string nm, .string sd] from by unfold refRow; rw [ba_eq, ba_eq]]
                    exact hv
                · have q2 : (dgOf sd.data.toList == (tdg : Int)) = false := by rw [← dgN_int]; simp; omega
                  have q3 : (dgOf sd.data.toList != (tdg : Int)) = true := by rw [← dgN_int]; simp; omega
                  have HP3 := Lib.hid (show planK tr room s.data.toList = .inl (.file nm 11) by rw [HPK.out, HTS.out, if_neg hdg])
                  clear hdg
                  generalize dgOf sd.data.toList = dgv at *
                  go_wp2_with fail
                  refine HDG.out.mono ?_
                  rintro e w' ⟨rfl, hw'⟩
                  subst hw'
                  clear HDG
                  go_wp2_with fail
                  go_quiet (fail)
                  go_wp2_with fail
                  go_ret2
                  exact RRepQ.bad _ HP3.out HM.out HT.out HH.out ((HK3.out.step HK8.out (fun _ h _ => h)).step ((Fr.refl (fun _ => False) _).drewN _) (fun _ h _ => h))
              · obtain rfl : k = mt.length := by omega
                have hdr : x.targs.drop mt.length = [] := List.drop_eq_nil_of_le (by rw [HML.out]; exact Nat.le_refl _)
                have HP3 := Lib.hid (show planK tr room s.data.toList = .inr l by rw [HPK.out, hdr]; rfl)
                clear hdr hfr m0 x0
                have hml := HM.out.keep HK3.out id
                have f0 := Own.free hml 0 (by simp)
                have f2 := Own.free hml 2 (by simp)
                have f3 := Own.free hml 3 (by simp)
                have m0 := Own.cell hml (i := 0) rfl
                have m2 := Own.cell hml (i := 2) rfl
                have m3 := Own.cell hml (i := 3) rfl
                clear hml
                by_cases h1 : 1 ≤ crash
                · by_cases h2 : crash ≤ (l.length : Int) + 2
                  · have q1 : decide (crash ≥ 1) = true := by simp; omega
                    have q2 : decide (crash ≤ (l.length : Int) + 3) = true := by simp; omega
                    have q3 : decide (crash > (l.length : Int) + 2) = false := by simp; omega
                    go_wp2_with fail
                    go_ret2
                    exact RRepQ.torn HP3.out ⟨h1, h2⟩ HM.out HT.out HK3.out
                  · by_cases h3 : crash ≤ (l.length : Int) + 3
                    · have q1 : decide (crash ≥ 1) = true := by simp; omega
                      have q2 : decide (crash ≤ (l.length : Int) + 3) = true := by simp; omega
                      have q3 : decide (crash > (l.length : Int) + 2) = true := by simp; omega
                      go_wp2_with fail
                      go_ret2
                      exact RRepQ.late HP3.out (by omega) HM.out HT.out HK3.out (Vec.mono HRL.out (by omega)) hB
                    · have q1 : decide (crash ≥ 1) = true := by simp; omega
                      have q2 : decide (crash ≤ (l.length : Int) + 3) = false := by simp; omega
                      go_wp2_with fail
                      go_ret2
                      exact RRepQ.whole HP3.out (by omega) HM.out HH.out HK3.out (Vec.mono HRL.out (by omega)) hB
                · have q1 : decide (crash ≥ 1) = false := by simp; omega
                  go_wp2_with fail
                  go_ret2
                  exact RRepQ.whole HP3.out (by omega) HM.out HH.out HK3.out (Vec.mono HRL.out (by omega)) hB
end Go.Proofs.YtlcdgbhigfgehabGreatDoor
/- append: what is written; bytes turned and turned back. -/
namespace Go.Proofs.YtlcdgbhigfgehabGreatDoor
open Go.RowKit
set_option maxRecDepth 100000
section
variable {P : Program}
/-- append(v, x..): as run_append_vec; and it's v's own row that is written, or no old block at all. -/
theorem run_append_two (w : World) (B : Nat) (t ty e : TypeId) (i : TypeInfo) (z : Value) (size bytes : Nat) (ht : P.underlying t = some (.slice e)) (hi : P.info? e = some i) (hz : i.zero = some z)
    (hsize : i.size = size) (hby : i.bytes = bytes) (hzs : z.cells.size = size)
    (v : Value) (n : Nat) (xs : List Value) (hown : Vec w B e size v n xs)
    (x : Value) (m : Nat) (news : List Value) (hx : Reads w x m news) (hl : news.length = m * size) (h1 : ∀ u ∈ news, u.oneCell' = true)
    (h63 : n + m ≤ maxLen) (hbytes : (n + m) * bytes ≤ 140737488355328) (hB : B ≤ w.heap.size) :
    ∃ v' w', (Builtin.append_ #[t, t] ty #[v, x]).run P w = .ok v' w' ∧ Vec w' B e size v' (n + m) (xs ++ news) ∧ Fr (fun k => v.ownBlock = some k) w w' ∧
      (v'.ownBlock = v.ownBlock ∨ Fr (fun _ => False) w w') := by
  subst hsize
  subst hby
  have hsmall : n + m ≤ 9223372036854775807 := by simp only [maxLen] at h63; omega
  have hlen : (xs ++ news).length = (n + m) * i.size := by rw [List.length_append, hown.1, hl, Nat.add_mul]
  have grown : ∀ (old : Nat), old < n + m →
      Vec (w.drew.alloc (.cells (xs.toArray ++ news.toArray ++ Builtin.zeroCells z.cells (grownCap w (n + m) old e - (n + m))) e)) B e i.size
        (.slice (some ⟨w.heap.size, 0, none⟩) (n + m) (grownCap w (n + m) old e)) (n + m) (xs ++ news) ∧
      Fr (fun _ => False) w (w.drew.alloc (.cells (xs.toArray ++ news.toArray ++ Builtin.zeroCells z.cells (grownCap w (n + m) old e - (n + m))) e)) := by
    intro old ho
    have hge := grownCap_ge w (n + m) old e
    have hcm : grownCap w (n + m) old e ≤ maxLen := grownCap_le_maxLen w (n + m) old e h63
    have hz0 : (xs ++ news ++ (Builtin.zeroCells z.cells (grownCap w (n + m) old e - (n + m))).toList).length = grownCap w (n + m) old e * i.size := by
      rw [List.length_append, hlen, Array.length_toList, size_zeroCells, hzs, ← Nat.add_mul]
      congr 1
      omega
    refine ⟨⟨hlen, .inr ⟨w.heap.size, grownCap w (n + m) old e, (Builtin.zeroCells z.cells (grownCap w (n + m) old e - (n + m))).toList, rfl, hB, ?_, hz0, hge, hcm⟩⟩, ?_⟩
    · have := Own.alloc w.drew (xs.toArray ++ news.toArray ++ Builtin.zeroCells z.cells (grownCap w (n + m) old e - (n + m))) e
      simpa using this
    · exact Fr.alloc (Fr.drew (Fr.refl _ w)) _
  by_cases hm0 : m = 0
  · subst hm0
    have hn0 : news = [] := List.eq_nil_of_length_eq_zero (by simpa using hl)
    subst hn0
    refine ⟨v, w, ?_, by simpa using hown, Fr.refl _ _, .inl rfl⟩
    obtain ⟨a, cap, rfl, hc1, -, hc3⟩ := hown.shape
    have hs0 : ∀ (p : Addr), (storeCells p [] 0).run P w = .ok () w := fun p => rfl
    rcases hx with ⟨rfl, -, -⟩ | ⟨b, off, c, rfl, -⟩
    · cases a with
      | none => simp [Builtin.append_, run_underlying ht, sizeOf, typeInfo, hi, Builtin.lenOf, hc1, Builtin.firstCells]
      | some a => simp [Builtin.append_, run_underlying ht, sizeOf, typeInfo, hi, Builtin.lenOf, hc1, Builtin.firstCells, hs0]
    · have hf := run_firstCells_some (P := P) w i.size 0 ⟨b, off, none⟩ 0 c [] (by simp) (by simp)
      cases a with
      | none => simp [Builtin.append_, run_underlying ht, sizeOf, typeInfo, hi, Builtin.lenOf, hc1, hf]
      | some a => simp [Builtin.append_, run_underlying ht, sizeOf, typeInfo, hi, Builtin.lenOf, hc1, hf, hs0]
  rcases hx with ⟨_, h0, _⟩ | ⟨b, off, c, rfl, hnews0⟩
  · exact absurd h0 hm0
  have hnews : ∀ j u, news[j]? = some u → w.cell? ((⟨b, off, none⟩ : Addr).add j) = some u := fun j u hu => by rw [addr_add]; exact hnews0 j u hu
  rcases hown.2 with ⟨rfl, rfl⟩ | ⟨g, cap, rest, rfl, hbg, hg, hcs, hnc, hcm⟩
  · have hxe : xs = [] := List.eq_nil_of_length_eq_zero (by simpa using hown.1)
    subst hxe
    have hr := run_append_nil (P := P) w t ty e i z ht hi hz ⟨b, off, none⟩ m c news hl hnews (by omega) (by omega) (by have hb := hbytes; simp only [Nat.zero_add] at hb; omega)
    have hgr := grown 0 (by omega)
    simp only [Nat.zero_add, List.nil_append] at hgr ⊢
    refine ⟨_, _, hr, ?_, ?_, .inr ?_⟩
    · simpa using hgr.1
    · exact Fr.mono (S := fun _ => False) (by simpa using hgr.2) (fun _ h _ => h.elim)
    · simpa using hgr.2
  · by_cases hroom : n + m ≤ cap
    · have hfit : n * i.size + news.length ≤ (xs ++ rest).length := by rw [hl, hcs, ← Nat.add_mul]; exact Nat.mul_le_mul_right _ hroom
      obtain ⟨w', r1, r2, r3, r4, r5⟩ := run_storeCells_own (P := P) g (n * i.size) e news 0 (xs ++ rest) w hg (by simpa using hfit) h1
      have hf := run_firstCells_some (P := P) w i.size m ⟨b, off, none⟩ m c news hl hnews
      refine ⟨.slice (some ⟨g, 0, none⟩) (n + m) cap, w', ?_, ⟨hlen, .inr ⟨g, cap, rest.drop news.length, rfl, hbg, ?_, ?_, hroom, hcm⟩⟩, ?_, .inl rfl⟩
      · simp [Builtin.append_, run_underlying ht, sizeOf, typeInfo, hi, Builtin.lenOf, hroom, hf, Addr.add_lit, r1]
      · have e1 : (xs ++ rest).take (n * i.size + 0) = xs := by rw [Nat.add_zero, ← hown.1]; exact List.take_left
        have e2 : (xs ++ rest).drop (n * i.size + 0 + news.length) = rest.drop news.length := by
          rw [Nat.add_zero, ← hown.1, List.drop_append]
          simp [List.drop_eq_nil_of_le]
        rw [e1, e2] at r2
        exact r2
      · rw [List.length_append] at hcs hfit
        rw [List.length_append, List.length_append, List.length_drop, ← hcs, hown.1]
        rw [hown.1] at hfit
        omega
      · exact r3.mono fun k hk _ => by simp [Value.ownBlock, hk]
    · have hxs : ∀ j u, xs[j]? = some u → w.cell? ((⟨g, 0, none⟩ : Addr).add j) = some u := fun j u hu => by
        rw [addr_add, Nat.zero_add]
        exact hg.cell (by rw [List.getElem?_append_left ((List.getElem?_eq_some_iff.1 hu).1)]; exact hu)
      have hr := run_append_grow (P := P) w t ty e i z ht hi hz ⟨g, 0, none⟩ n cap xs hown.1 hxs ⟨b, off, none⟩ m c news hl hnews (by omega) (by omega) (growslice_fits (by omega) hbytes)
      have hgr := grown cap (by omega)
      exact ⟨_, _, hr, hgr.1, hgr.2.mono (fun _ h _ => h.elim), .inr hgr.2⟩

theorem wpList_append_two {ops : Array Oper} {rest : List Oper} {o : Oper} {a : Act} {w : World} {Q : Exit → Act → World → Prop} (hgd : o.guard = none) (s x : Operand) (t : TypeId)
    (ho : o.op = .call { callee := .builtin .append, args := #[s, x], argTypes := #[t, t] })
    (B : Nat) (e : TypeId) (size bytes : Nat) (helt : Elt P t e size bytes)
    {v : Value} {n : Nat} {xs : List Value} (hown : Vec w B e size v n xs) (hs : a.eval s = v)
    {xv : Value} {m : Nat} {news : List Value} (hx : Reads w xv m news) (hxv : a.eval x = xv) (hl : news.length = m * size) (h1 : ∀ u ∈ news, u.oneCell' = true)
    (h63 : n + m ≤ maxLen) (hbytes : (n + m) * bytes ≤ 140737488355328) (hB : B ≤ w.heap.size)
    (h : ∀ v' w', Vec w' B e size v' (n + m) (xs ++ news) → Fr (fun k => v.ownBlock = some k) w w' →
      (v'.ownBlock = v.ownBlock ∨ Fr (fun _ => False) w w') → wpList P ops Q rest (a.put o.dst v') w') : wpList P ops Q (o :: rest) a w := by
  refine wpList_plain hgd fun K hK => ?_
  obtain ⟨i, z, e1, e2, e3, e4, e5, e6⟩ := helt
  obtain ⟨v', w', hr, h2, h3, h4⟩ := run_append_two (P := P) w B t o.type e i z size bytes e1 e2 e3 e4 e5 e6 v n xs hown xv m news hx hl h1 h63 hbytes hB
  unfold Oper.wp execOp
  simp only [ho, resolve, invoke, builtin, Sem.run_bind, Sem.run_pure, Result.andThen_ok, List.map_toArray, List.map_cons, List.map_nil, hs, hxv, hr]
  exact hK _ _ (h v' w' h2 h3 h4)
end
theorem xor8 (x y : UInt8) : Go.bits .xor .u8 (x.toNat : Int) (y.toNat : Int) = ((x ^^^ y).toNat : Int) := by
  have h : Go.bits .xor .u8 (x.toNat : Int) (y.toNat : Int) = ((BitVec.ofInt 8 (x.toNat : Int) ^^^ BitVec.ofInt 8 (y.toNat : Int)).toNat : Int) := by
    unfold Go.bits
    have := (BitVec.ofInt 8 (x.toNat : Int) ^^^ BitVec.ofInt 8 (y.toNat : Int)).isLt
    exact IntWalk.u8_in _ (by show 0 ≤ ((BitVec.ofInt 8 (x.toNat : Int) ^^^ BitVec.ofInt 8 (y.toNat : Int)).toNat : Int) ∧ ((BitVec.ofInt 8 (x.toNat : Int) ^^^ BitVec.ofInt 8 (y.toNat : Int)).toNat : Int) ≤ 255; omega)
  rw [h]
  have e : ∀ z : UInt8, BitVec.ofInt 8 (z.toNat : Int) = z.toBitVec := fun z => by
    apply BitVec.eq_of_toNat_eq
    simp
  rw [e, e, ← UInt8.toBitVec_xor]; rfl
theorem xor_back (x y : UInt8) : (x ^^^ y) ^^^ y = x := by rw [UInt8.xor_assoc, UInt8.xor_self, UInt8.xor_zero]
theorem xor_ne (x y : UInt8) (h : y ≠ 0) : x ≠ x ^^^ y := by
  intro e
  apply h
  have := congrArg (x ^^^ ·) e
  simp only [UInt8.xor_self] at this
  rw [← UInt8.xor_assoc, UInt8.xor_self, UInt8.zero_xor] at this
  exact this.symm
end Go.Proofs.YtlcdgbhigfgehabGreatDoor
/- turned: a batch with a byte turned: as many bytes. -/
namespace Go.Proofs.YtlcdgbhigfgehabGreatDoor
open Go.RowKit
set_option maxRecDepth 100000

def TurnedQ (w : World) (n : Nat) (e : Ending) (w' : World) : Prop := ∃ t : ByteArray, e = .returned (.string t) ∧ t.size = n ∧ Fr (fun _ => False) w w'
/-- A row whose first n cells are bytes. -/
def BRow (w : World) (g n cap : Nat) : Prop := ∃ (l : List UInt8) (rest : List Value), l.length = n ∧ Own w g 5 (bcells l ++ rest) ∧ n + rest.length = cap
theorem BRow.set {w : World} {g n cap : Nat} (h : BRow w g n cap) (i : Nat) (hi : i < n) (x : Int) (h0 : 0 ≤ x) (h1 : x ≤ 255) : BRow (w.setCell ⟨g, i, none⟩ (.int .u8 x)) g n cap := by
  obtain ⟨l, rest, hl, ho, hc⟩ := h
  refine ⟨l.set i (UInt8.ofNat x.toNat), rest, by simpa using hl, ?_, hc⟩
  have h := ho.set i (.int .u8 x)
  rw [List.set_append_left _ _ (by simp; omega)] at h
  have e : (bcells l).set i (.int .u8 x) = bcells (l.set i (UInt8.ofNat x.toNat)) := by
    unfold bcells
    rw [List.map_set]
    congr 1
    simp; omega
  rw [e] at h
  exact h
theorem BRow.get {w : World} {g n cap : Nat} (h : BRow w g n cap) (i : Nat) (hi : i < n) : ∃ c : UInt8, w.cell? ⟨g, i, none⟩ = some (.int .u8 c.toNat) ∧ w.frozen? ⟨g, i, none⟩ = false := by
  obtain ⟨l, rest, hl, ho, hc⟩ := h
  refine ⟨l[i], ho.cell ?_, ho.free i (by simp; omega)⟩
  rw [List.getElem?_append_left (by simp; omega)]
  exact bcells_get l i (by omega)
theorem BRow.keep {w w1 : World} {S : Nat → Prop} {g n cap : Nat} (h : BRow w g n cap) (k : Fr S w w1) (hg : ¬ S g) : BRow w1 g n cap := by
  obtain ⟨l, rest, hl, ho, hc⟩ := h
  exact ⟨l, rest, hl, ho.keep k hg, hc⟩
/-- Its first bytes as a slice. -/
theorem BRow.isB {w : World} {g n cap : Nat} (h : BRow w g n cap) (k : Nat) (hk : k ≤ n) (hm : cap ≤ maxLen) : ∃ l : List UInt8, l.length = k ∧ IsB w (.slice (some ⟨g, 0, none⟩) k cap) l := by
  obtain ⟨l, rest, hl, ho, hc⟩ := h
  refine ⟨l.take k, by rw [List.length_take]; omega, ?_⟩
  have := IsB.ofOwn0 (l := l.take k) (rest := bcells (l.drop k) ++ rest) (cap := cap) ho (by rw [← List.append_assoc, ← bcells_append, List.take_append_drop]) (by rw [List.length_take]; omega) hm
  rwa [show (l.take k).length = k by rw [List.length_take]; omega] at this
theorem BRow.lt {w : World} {g n cap : Nat} (h : BRow w g n cap) : g < w.heap.size := by
  obtain ⟨l, rest, hl, ho, hc⟩ := h
  exact ho.lt
set_option maxHeartbeats 4000000 in
theorem turned_any (s : ByteArray) (at_ : Int) (anew : Bool) (w : World) (hs : s.size ≤ 1000000) (h1 : -9223372036854775808 ≤ at_) (h2 : at_ ≤ 9223372036854775807) :
    Calls Tryz.prog 97 #[.string s, .int .i64 at_, .bool anew] w (TurnedQ w s.size) := by
  by_cases hz : s.size = 0
  · have z1 : ((s.size : Int) == 0) = true := by simp [hz]
    go_enter Tryz.func97, Tryz.ntmps97
    go_wp2_with fail
    go_ret
    exact ⟨s, rfl, rfl, Fr.refl _ _⟩
  have z1 : ((s.size : Int) == 0) = false := by simp [hz]
  have hp1 := pickOf_bounds at_ s.size (by omega)
  have HP1 := Lib.hid (fun w => lpick_any at_ s.size w (by omega) h1 h2 (by omega))
  obtain ⟨k, hk⟩ : ∃ k : Nat, pickOf at_ s.size = k := ⟨(pickOf at_ s.size).toNat, by omega⟩
  rw [hk] at HP1 hp1
  have hkn : k < s.size := by omega
  have hp2 := pickOf_bounds at_ 255 (by omega)
  have HP2 := Lib.hid (fun w => lpick_any at_ 255 w (by omega) h1 h2 (by omega))
  generalize pickOf at_ 255 = p2 at *
  obtain ⟨p, rfl⟩ := Int.eq_ofNat_of_zero_le hp2.1
  have HW1 := Lib.hid (show IntKind.i64.wrap (1 + (p : Int)) = 1 + (p : Int) from IntWalk.i64_in _ (by omega))
  have HW2 := Lib.hid (show IntKind.u8.wrap (1 + (p : Int)) = ((1 + p : Nat) : Int) by rw [IntWalk.u8_in _ (by omega)]; omega)
  clear hk hp1 h1 h2 hz
  go_enter Tryz.func97, Tryz.ntmps97
  go_wp2_with fail
  obtain ⟨cap, rest, w1, r1, r2, r3, r4, r5, r6, r7, -⟩ := run_bytes_from (P := Tryz.prog) w 9 25 5 s Tryz.underlying9 Tryz.underlying25 (by first | exact Tryz.underlying5 | rfl) (by omega)
  rw [r1]
  have HB1 := Lib.hid (show BRow w1 w.heap.size s.size cap from ⟨s.data.toList, rest, by simp, r4, r5⟩)
  have HF1 := Lib.hid r6
  clear r1 r4 r5 r6
  go_wp2_with fail
  refine (HP1.out _).mono ?_
  rintro e w' ⟨rfl, hw'⟩
  subst hw'
  obtain ⟨gb, hgb⟩ : ∃ gb, w.heap.size = gb := ⟨_, rfl⟩
  rw [hgb] at HB1 ⊢
  obtain ⟨c, hc1, hc2⟩ := HB1.out.get k hkn
  have d1 : w1.drew.cell? ⟨gb, k, none⟩ = some (.int .u8 c.toNat) := by simpa using hc1
  have d2 : w1.drew.frozen? ⟨gb, k, none⟩ = false := by simpa using hc2
  have hgl := HB1.out.lt
  go_upto_region 5 with fail
  go_region_law (first | (go_simp; go_at_call 55; refine (HP2.out _).mono ?_; rintro e w' ⟨rfl, hw'⟩; subst hw'))
  all_goals
    rw [HW1.out, HW2.out]
    obtain ⟨v8, hv8⟩ : ∃ v8 : UInt8, v8.toNat = 1 + p := ⟨UInt8.ofNat (1 + p), by simp; omega⟩
    have hx := xor8 c v8
    rw [hv8] at hx
    rw [hx]
    have hxb := (c ^^^ v8).toNat_lt
    have HB2 := Lib.hid ((HB1.out.set k hkn ((c ^^^ v8).toNat : Int) (by omega) (by omega)).keep ((Fr.refl (fun _ => False) _).drew) id)
    have HF2 := Lib.hid (show Fr (fun _ => False) w (w1.setCell ⟨gb, k, none⟩ (.int .u8 ((c ^^^ v8).toNat : Int))).drew from (HF1.out.setCell ⟨gb, k, none⟩ _ (fun h => by dsimp only at h; omega)).drew)
    generalize (w1.setCell ⟨gb, k, none⟩ (.int .u8 ((c ^^^ v8).toNat : Int))).drew = w2 at *
    clear hx hxb hv8 HW1 HW2 hc1 hc2 d1 d2 HB1 HF1 HP1 HP2 hp2
    by_cases hb : anew = true ∧ 8 ≤ s.size
    · obtain ⟨rfl, h8⟩ := hb
      have q1 : decide ((s.size : Int) ≥ 8) = true := by simp; omega
      obtain ⟨m, hsub, hml⟩ : ∃ m : Nat, (s.size : Int) - 8 = (m : Int) ∧ m ≤ s.size := ⟨s.size - 8, by omega, by omega⟩
      obtain ⟨l8, hl8, hib⟩ := HB2.out.isB m (by omega) r3
      rw [← hl8] at hib
      have hcv := run_string_of (P := Tryz.prog) _ 25 9 5 _ _ Tryz.underlying25 (by first | exact Tryz.underlying5 | rfl) Tryz.underlying9 hib
      rw [hl8] at hcv
      have hmc : (m : Int) ≤ (cap : Int) := by omega
      have hm0 : ¬ ((m : Int) < 0) := by omega
      have HDG := Lib.hid (rdigest_any ⟨l8.toArray⟩ w2 (by show l8.length ≤ maxLen; rw [hl8]; unfold maxLen; omega))
      generalize dgOf _ = dg at HDG
      have HMM := Lib.hid hsub
      go_wp2_with fail
      refine HDG.out.mono ?_
      rintro e w' ⟨rfl, hw'⟩
      subst hw'
      clear HDG hcv hib hl8
      go_wp2_with fail
      go_loopw [10] (fun iv wr => ∃ j : Nat, j ≤ 8 ∧ iv = .int .i64 j ∧ BRow wr gb s.size cap ∧ Fr (fun _ => False) w wr) (fun iv _ => 8 - (intOf iv).toNat)
      case atStart => exact ⟨0, by omega, rfl, HB2.out, HF2.out⟩
      case round =>
        obtain ⟨j, hj, rfl, hbr, hfr⟩ := hrel
        have HBR := Lib.hid hbr
        have HFR := Lib.hid hfr
        clear hbr hfr
        by_cases hlt : j < 8
        · obtain ⟨q, hq1, hq2⟩ : ∃ q : Nat, (s.size : Int) - 1 - (j : Int) = (q : Int) ∧ q < s.size := ⟨s.size - 1 - j, by omega, by omega⟩
          obtain ⟨c9, e1, e2⟩ := HBR.out.get q hq2
          have hg9 := HBR.out.lt
          clear hsub
          go_wp2_with fail
          exact ⟨⟨j + 1, by omega, by go_num, HBR.out.set q hq2 _ (Int.emod_nonneg _ (by decide)) (Int.le_of_lt_add_one (Int.emod_lt_of_pos _ (by decide))), HFR.out.setCell ⟨gb, q, none⟩ _ (fun h => by dsimp only at h; omega)⟩, by simp [intOf]; omega⟩
        · obtain rfl : j = 8 := by omega
          obtain ⟨lz, hlz, hib⟩ := HBR.out.isB s.size (Nat.le_refl _) r3
          rw [← hlz] at hib
          have hcv := run_string_of (P := Tryz.prog) _ 25 9 5 _ _ Tryz.underlying25 (by first | exact Tryz.underlying5 | rfl) Tryz.underlying9 hib
          rw [hlz] at hcv
          have HLZ := Lib.hid hlz
          clear hlz hib hsub
          go_wp2_with fail
          go_ret
          exact ⟨⟨lz.toArray⟩, rfl, HLZ.out, HFR.out⟩
    · obtain ⟨lz, hlz, hib⟩ := HB2.out.isB s.size (Nat.le_refl _) r3
      rw [← hlz] at hib
      have hcv := run_string_of (P := Tryz.prog) _ 25 9 5 _ _ Tryz.underlying25 (by first | exact Tryz.underlying5 | rfl) Tryz.underlying9 hib
      rw [hlz] at hcv
      have HLZ := Lib.hid hlz
      clear hlz hib
      cases anew with
      | false =>
        clear hb
        go_wp2_with fail
        go_ret
        exact ⟨⟨lz.toArray⟩, rfl, HLZ.out, HF2.out⟩
      | true =>
        have q1 : decide ((s.size : Int) ≥ 8) = false := by
          have : ¬ 8 ≤ s.size := fun h => hb ⟨rfl, h⟩
          simp; omega
        clear hb
        go_wp2_with fail
        go_ret
        exact ⟨⟨lz.toArray⟩, rfl, HLZ.out, HF2.out⟩
end Go.Proofs.YtlcdgbhigfgehabGreatDoor
/- The walk of the document's Diff. -/
namespace Go.Proofs.YtlcdgbhigfgehabGreatDoor
open Go.RowKit
set_option maxRecDepth 100000

/-- The first of bs that is t. -/
def placeI (bs : List (List UInt8)) (t : List UInt8) : Option Nat := (List.range bs.length).find? fun i => bs.getD i [] == t
theorem placeI_blocks (base : List UInt8) (blk : Nat) (rest : List UInt8) (h : blk ≤ rest.length) : placeI (blocksOf base blk) (rest.take blk) = placeOf base blk rest := by
  unfold placeI placeOf
  rw [if_neg (by omega), length_blocksOf]
  have : ∀ (l : List Nat), (∀ i ∈ l, i < nBlocks base.length blk) → l.find? (fun i => (blocksOf base blk).getD i [] == rest.take blk) = l.find? (fun i => (base.drop (i * blk)).take blk == rest.take blk) := by
    intro l
    induction l with
    | nil => intro _; rfl
    | cons i l ih =>
      intro hl
      have hi := hl i (by simp)
      have e : (blocksOf base blk).getD i [] = (base.drop (i * blk)).take blk := by
        rw [List.getD_eq_getElem?_getD, List.getElem?_eq_getElem (by rw [length_blocksOf]; exact hi)]
        exact blocksOf_get _ _ _ hi
      rw [List.find?_cons, List.find?_cons, e, ih (fun j hj => hl j (by simp [hj]))]
  exact this _ (fun i hi => by simpa using hi)
def placeInt (o : Option Nat) : Int := match o with | some k => k | none => -1

set_option maxHeartbeats 1000000 in
theorem place_any (v : Value) (bs : List (List UInt8)) (B : Nat) (s : ByteArray) (w : World) (hv : Vec w B 9 1 v bs.length (bs.map fun l => .string ⟨l.toArray⟩)) (hn : bs.length ≤ 100000) :
    Calls Tryz.prog 151 #[v, .string s] w fun e w' => e = .returned (.int .i64 (placeInt (placeI bs s.data.toList))) ∧ w = w' := by
  obtain ⟨a, c, rfl, -⟩ := hv.shape
  have HV := Lib.hid hv
  generalize hN : bs.length = N at *
  have HN := Lib.hid hN
  clear hv hN
  go_enter Tryz.func151, Tryz.ntmps151
  go_wp2_with fail
  go_loop [5] (fun i => ∃ k : Nat, k ≤ N ∧ i = .int .i64 k ∧ ∀ j, j < k → (bs.getD j [] == s.data.toList) = false) (fun i => N - (intOf i).toNat)
  case atStart => exact ⟨0, Nat.zero_le _, rfl, fun j h => by omega⟩
  case round =>
    obtain ⟨k, hk, rfl, hno⟩ := hrel
    have HNO := Lib.hid hno
    clear hno
    by_cases hlt : k < N
    · obtain ⟨g, cap, rest, hq, -, ho, -⟩ := HV.out.row (by omega)
      simp only [Value.slice.injEq, true_and] at hq
      obtain ⟨rfl, rfl⟩ := hq
      have hkl : k < bs.length := by rw [HN.out]; exact hlt
      have y0 := ho.cell (i := k) (v := .string ⟨(bs.getD k []).toArray⟩) (by rw [List.getElem?_append_left (by simpa using hkl), List.getElem?_map, List.getElem?_eq_getElem hkl, List.getD_eq_getElem?_getD, List.getElem?_eq_getElem hkl]; rfl)
      clear ho
      have HG : Hid (∀ x, bs.getD k [] = x → (x == s.data.toList) = true → placeI bs s.data.toList = some k) := fun x hx he => by
        unfold placeI
        rw [List.find?_range_eq_some]
        exact ⟨by rw [hx]; exact he, by simpa using hkl, fun j hj => by simpa using HNO.out j hj⟩
      have HG2 : Hid (∀ x, bs.getD k [] = x → (x == s.data.toList) = false → ∀ j, j < k + 1 → (bs.getD j [] == s.data.toList) = false) := fun x hx he j hj => by
        by_cases hjk : j = k
        · subst hjk; rw [hx]; exact he
        · exact HNO.out j (by omega)
      generalize hx : bs.getD k [] = x at *
      have hsl : s.toList = s.data.toList := ByteArray.toList_eq s
      cases he : (x == s.data.toList) with
      | true =>
        have hd : (x == s.toList) = true := by rw [hsl]; exact he
        have HR := Lib.hid (HG.out x rfl he)
        clear he hsl
        go_wp2_with fail
        go_ret
        exact ⟨by rw [HR.out]; rfl, rfl⟩
      | false =>
        have hd : (x == s.toList) = false := by rw [hsl]; exact he
        have HR := Lib.hid (HG2.out x rfl he)
        clear he hsl
        go_wp2_with fail
        exact ⟨⟨k + 1, by omega, by go_num, HR.out⟩, by simp [intOf]; omega⟩
    · obtain rfl : k = N := by omega
      have hr : placeI bs s.data.toList = none := by
        unfold placeI
        rw [List.find?_range_eq_none]
        intro j hj
        simpa using HNO.out j (by rw [← HN.out]; simpa using hj)
      have HR := Lib.hid hr
      clear hr
      go_wp2_with fail
      go_ret
      exact ⟨by rw [HR.out]; rfl, rfl⟩
theorem set_data (l0 : List (Tok × Value)) (t : Tok) (tv tv' : Value) (rest : List Value) (m : Nat) (hm : l0.length = m) (d : List UInt8) :
    (tokCells (l0 ++ [(t, tv)]) ++ rest).set (m * 3 + 2) tv' = tokCells (l0 ++ [(⟨t.b, t.c, d⟩, tv')]) ++ rest := by
  subst hm
  rw [tokCells_append, tokCells_append, List.append_assoc, List.append_assoc, List.set_append, if_neg (by simp)]
  simp [tokCells]
/-- The last token's data is another row now. -/
theorem OToks.grow {w w1 : World} {B : Nat} {g m cap : Nat} {l0 : List (Tok × Value)} {t : Tok} {tv tv' : Value} {d : List UInt8} (h : OToks w B (.slice (some ⟨g, 0, none⟩) (m + 1) cap) (l0 ++ [(t, tv)])) (hm : l0.length = m)
    (hk : Fr (fun k => tv.ownBlock = some k) w w1) (hd : Vec w1 B 5 1 tv' d.length (bcells d)) (hloc : tv'.ownBlock = tv.ownBlock ∨ ∃ k, tv'.ownBlock = some k ∧ w.heap.size ≤ k) :
    OToks (w1.setCell ⟨g, m * 3 + 2, none⟩ tv') B (.slice (some ⟨g, 0, none⟩) (m + 1) cap) (l0 ++ [(⟨t.b, t.c, d⟩, tv')]) := by
  have hs : Fr (fun k => k = g) w1 (w1.setCell ⟨g, m * 3 + 2, none⟩ tv') := (Fr.refl _ _).setCell _ _ (fun _ => rfl)
  have hvec := h.vec
  obtain ⟨g', cap', rest, hq, h1, h2, h3, h4, h5⟩ := hvec.row (by simp)
  simp only [Value.slice.injEq, Option.some.injEq, Addr.mk.injEq, and_true, true_and] at hq
  obtain ⟨rfl, hlen, rfl⟩ := hq
  have hgt : tv.ownBlock ≠ some g := (h.data (t, tv) (by simp)).apartT h2 (by decide)
  have h2' := h2.keep hk hgt
  have htwo := h.two
  rw [List.pairwise_append] at htwo
  refine ⟨⟨by simp, .inr ⟨g, cap, rest, by simp [hm], h1, ?_, ?_, by simpa using h4, h5⟩⟩, ?_, ?_⟩
  · have := h2'.set (m * 3 + 2) tv'
    rwa [set_data l0 t tv tv' rest m hm d] at this
  · simpa using h3
  · intro p hp
    rcases List.mem_append.1 hp with hp | hp
    · have hpd := h.data p (List.mem_append.2 (.inl hp))
      exact (hpd.keep hk (fun b hb hbt => htwo.2.2 p hp (t, tv) (by simp) b hb hbt)).keep hs (fun b hb hbg => by subst hbg; exact hpd.apartT h2 (by decide) hb)
    · simp at hp; subst hp
      exact hd.keep hs (fun b hb hbg => by subst hbg; exact hd.apartT h2' (by decide) hb)
  · rw [List.pairwise_append]
    refine ⟨htwo.1, List.pairwise_singleton _ _, fun a ha b hb k hk' hk2 => ?_⟩
    simp at hb; subst hb
    simp only at hk2
    rcases hloc with h6 | ⟨k', h6, h7⟩
    · exact htwo.2.2 a ha (t, tv) (by simp) k hk' (h6 ▸ hk2)
    · rw [h6] at hk2
      cases hk2
      have := ((h.data a (List.mem_append.2 (.inl ha))).lt k hk').2
      omega
theorem addByte_snoc (L : List Tok) (t : Tok) (c : UInt8) : addByte (L ++ [t]) c = if t.c = 0 ∧ t.d.length < 255 then L ++ [⟨t.b, t.c, t.d ++ [c]⟩] else L ++ [t] ++ [⟨0, 0, [c]⟩] := by
  unfold addByte
  simp
theorem addByte_b (n : Int) (hn : 0 ≤ n) (L : List Tok) (c : UInt8) (h : ∀ t ∈ L, t.b ≤ n) : ∀ t ∈ addByte L c, t.b ≤ n := by
  intro t ht
  unfold addByte at ht
  split at ht
  · rename_i t0 h0
    have hm : t0 ∈ L := List.mem_of_getLast? h0
    split at ht
    · rcases List.mem_append.1 ht with ht | ht
      · exact h t (mem_dropLast ht)
      · simp at ht; subst ht; exact h t0 hm
    · rcases List.mem_append.1 ht with ht | ht
      · exact h t ht
      · simp at ht; subst ht; exact hn
  · simp at ht; subst ht; exact hn
theorem addByte_len (L : List Tok) (c : UInt8) : (addByte L c).length ≤ L.length + 1 := by
  unfold addByte
  split
  · split
    · simp
      try omega
    · simp
  · simp
/-- Between two rounds of the document's Diff: r is what is left. -/
structure RI (w wr : World) (v : Value) (base data : List UInt8) (blk : Nat) (L : List Tok) (r : List UInt8) : Prop where
  mem : ∃ l, OToks wr w.heap.size v l ∧ l.map (·.1) = L
  at_ : diffOf base data blk = diffF base blk L r
  shaped : ∀ t ∈ L, Shaped t ∧ t.b ≤ 300
  len : L.length + r.length ≤ 300
  fr : Fr (fun _ => False) w wr
theorem RI.byte {w wr w1 : World} {v v' : Value} {base data : List UInt8} {blk : Nat} {L : List Tok} {c : UInt8} {r : List UInt8} (h : RI w wr v base data blk L (c :: r)) (hp : placeOf base blk (c :: r) = none)
    (hm : ∃ l, OToks w1 w.heap.size v' l ∧ l.map (·.1) = addByte L c) (hf : Fr (fun _ => False) w w1) : RI w w1 v' base data blk (addByte L c) r := by
  refine ⟨hm, ?_, fun t ht => ⟨addByte_shaped L c (fun t ht => (h.shaped t ht).1) t ht, addByte_b 300 (by omega) L c (fun t ht => (h.shaped t ht).2) t ht⟩, ?_, hf⟩
  · rw [h.at_, diffF_cons, hp]
  · have := h.len
    have := addByte_len L c
    simp at *
    omega
theorem RI.block {w wr w1 : World} {v v' : Value} {base data : List UInt8} {blk k : Nat} {L : List Tok} {r : List UInt8} (h : RI w wr v base data blk L r) (hb : 0 < blk) (hr : 0 < r.length) (hl : base.length ≤ 300) (hp : placeOf base blk r = some k)
    (hm : ∃ l, OToks w1 w.heap.size v' l ∧ l.map (·.1) = addBlock L k) (hf : Fr (fun _ => False) w w1) : RI w w1 v' base data blk (addBlock L k) (r.drop blk) := by
  have hk := (placeOf_some base blk hb _ k hp).2.1
  have hbl := (placeOf_some base blk hb _ k hp).1
  have hk3 : k ≤ 300 := by
    have : (k + 1) * 1 ≤ (k + 1) * blk := Nat.mul_le_mul_left _ hb
    omega
  refine ⟨hm, ?_, fun t ht => ⟨addBlock_shaped L k (fun t ht => (h.shaped t ht).1) t ht, addBlock_b 300 L k (by omega) (fun t ht => (h.shaped t ht).2) t ht⟩, ?_, hf⟩
  · have := diffF_some base blk hb L r 0 k hr (by simpa using hp)
    rw [h.at_]
    simpa using this
  · have := h.len
    have := addBlock_len L k
    simp
    omega

set_option maxHeartbeats 8000000 in
theorem rdiff_any (s t : ByteArray) (blk : Nat) (w : World) (hs0 : sized blk s.size = 0) (hs1 : sized blk t.size = 0) :
    Calls Tryz.prog 136 #[.string s, .string t, .int .i64 blk] w fun e w' => ∃ v l, e = .returned v ∧ OToks w' w.heap.size v l ∧ l.map (·.1) = diffOf s.data.toList t.data.toList blk ∧ Fr (fun _ => False) w w' := by
  have hblk : 1 ≤ blk ∧ blk ≤ 64 ∧ s.size ≤ 300 := by
    unfold sized at hs0
    split at hs0
    · omega
    · split at hs0 <;> omega
  have hdl : t.size ≤ 300 := by
    unfold sized at hs1
    split at hs1
    · omega
    · split at hs1 <;> omega
  clear hs0 hs1
  have hsl : s.data.toList.length = s.size := by simp
  have HSL := Lib.hid hsl
  have hNL : (blocksOf s.data.toList blk).length = nBlocks s.size blk := by rw [length_blocksOf, hsl]
  have HNL := Lib.hid hNL
  clear hsl hNL
  go_enter Tryz.func136, Tryz.ntmps136
  go_wp2_with fail
  refine (blocks_any s blk blk _ rfl (by omega) (by omega) (by omega)).mono ?_
  rintro e w2 ⟨bv, rfl, hbv, hf2⟩
  rw [← HNL.out] at hbv
  have hNle : (blocksOf s.data.toList blk).length ≤ 300 := by rw [HNL.out]; have := (nBlocks_mul s.size blk (by omega)).2.2; omega
  have HBV := Lib.hid hbv
  have HF2 := Lib.hid hf2
  have hst : RI w2 w2 (.slice none 0 0) s.data.toList t.data.toList blk [] t.data.toList := ⟨⟨[], OToks.nil _ _, rfl⟩, rfl, fun _ h => by simp at h, by simpa using hdl, Fr.refl _ _⟩
  have HST := Lib.hid hst
  clear hbv hf2 hst
  go_wp2_with fail
  go_loopw [1, 8] (fun x v wr => ∃ (r : ByteArray) (L : List Tok), x = .string r ∧ RI w2 wr v s.data.toList t.data.toList blk L r.data.toList) (fun x _ _ => match x with | .string r => r.size | _ => 0)
  case atStart => exact ⟨t, [], rfl, HST.out⟩
  case round =>
    obtain ⟨r, L, rfl, hri⟩ := hrel
    have HRI := Lib.hid hri
    obtain ⟨l, hot, hL⟩ := hri.mem
    have hsh := hri.shaped
    have hlen := hri.len
    have hwz := hri.fr.size
    have hrl : r.data.toList.length = r.size := by simp
    rw [hrl] at hlen
    have HRL := Lib.hid hrl
    clear hri hrl
    obtain ⟨la, lc, hlv, -⟩ := hot.vec.shape
    subst hlv
    have hLl : L.length = l.length := by rw [← hL]; simp
    rw [hLl] at hlen
    have HLE := Lib.hid hL
    have HSH := Lib.hid hsh
    clear hsh hLl
    have HOT := Lib.hid hot
    by_cases h0 : r.size = 0
    · have h0' : ¬ 0 < r.size := by omega
      have hd : L = diffOf s.data.toList t.data.toList blk := by
        rw [HRI.out.at_, show r.data.toList = [] from List.length_eq_zero_iff.1 (by rw [HRL.out]; exact h0), diffF_nil]
      have HD := Lib.hid hd
      clear hd hot hL
      go_wp2_with fail
      go_ret
      exact ⟨_, l, rfl, HOT.out.lift HF2.out.size, by rw [HLE.out, HD.out], HF2.out.step HRI.out.fr (fun _ h _ => h)⟩
    · have h0' : 0 < r.size := by omega
      have hhd : ∃ c rr, r.data.toList = c :: rr := by
        cases hr : r.data.toList with
        | nil => have := HRL.out; rw [hr] at this; simp at this; omega
        | cons c rr => exact ⟨c, rr, rfl⟩
      obtain ⟨c, rr, hcr⟩ := hhd
      have hc0 : r[0] = c := by
        have : r.data.toList[0]'(by rw [HRL.out]; exact h0') = c := by simp [hcr]
        exact this
      have hrr : (r.extract 1 r.size).data.toList = rr := by
        have : (r.extract 1 r.size).data.toList = r.data.toList.drop 1 := by simp; rw [List.take_of_length_le (by simp)]
        rw [this, hcr]; rfl
      have hrz : (r.extract 1 r.size).size = r.size - 1 := by simp
      have hrb : (r.extract blk r.size).data.toList = r.data.toList.drop blk := by simp; rw [List.take_of_length_le (by simp)]
      have HRB := Lib.hid hrb
      have HRR := Lib.hid hrr
      have HCR := Lib.hid hcr
      have hc255 := c.toNat_lt
      have push : ∀ (w1 : World) (v4 dv : Value) (tk : Tok), Vec w1 w2.heap.size 171 3 v4 (l.length + 1) (tokCells l ++ [.int .i64 tk.b, .int .i64 tk.c, dv]) → Fr (fun k => (Value.slice la l.length lc).ownBlock = some k) wr w1 →
          Vec w1 w2.heap.size 5 1 dv tk.d.length (bcells tk.d) → (∀ k, dv.ownBlock = some k → wr.heap.size ≤ k) → (∃ l', OToks w1 w2.heap.size v4 l' ∧ l'.map (·.1) = L ++ [tk]) ∧ Fr (fun _ => False) w2 w1 := by
        intro w1 v4 dv tk h1 h2 h3 h4
        refine ⟨⟨l ++ [(tk, dv)], hot.snoc h1 h2 h3 (fun p hp k hk hk2 => ?_), by rw [← hL]; simp⟩, HRI.out.fr.step h2 (fun k hk hlt => ?_)⟩
        · have h5 := (hot.lt p hp k hk).2
          have h6 := h4 k hk2
          omega
        · have h5 := (hot.vec.lt k hk).1
          omega
      have PUSH := Lib.hid push
      have endB : ∀ (w1 : World) (v' : Value), placeOf s.data.toList blk (c :: rr) = none → (∃ l', OToks w1 w2.heap.size v' l' ∧ l'.map (·.1) = addByte L c) → Fr (fun _ => False) w2 w1 → RI w2 w1 v' s.data.toList t.data.toList blk (addByte L c) rr := by
        intro w1 v' hp hm hf
        have := HRI.out
        rw [HCR.out] at this
        exact this.byte hp hm hf
      have ENDB := Lib.hid endB
      have endK : ∀ (w1 : World) (v' : Value) (k : Nat), placeOf s.data.toList blk (c :: rr) = some k → (∃ l', OToks w1 w2.heap.size v' l' ∧ l'.map (·.1) = addBlock L k) → Fr (fun _ => False) w2 w1 → RI w2 w1 v' s.data.toList t.data.toList blk (addBlock L k) (r.extract blk r.size).data.toList := by
        intro w1 v' k hp hm hf
        rw [HRB.out]
        exact HRI.out.block (by omega) (by rw [HRL.out]; exact h0') (by rw [HSL.out]; omega) (by rw [HCR.out]; exact hp) hm hf
      have ENDK := Lib.hid endK
      have hone : ∀ (w1 : World) (W : World), W.heap.size = wr.heap.size → Fr (fun k => (Value.slice la l.length lc).ownBlock = some k) ((W.alloc (.cells #[.int .u8 c.toNat] 5)).alloc (.cells #[.int .i64 0, .int .i64 0, .slice (some ⟨wr.heap.size, 0, none⟩) 1 1] 171)) w1 →
          Vec w1 w2.heap.size 5 1 (.slice (some ⟨wr.heap.size, 0, none⟩) 1 1) 1 (bcells [c]) := by
        intro w1 W hW h1
        have o : Own (W.alloc (.cells #[.int .u8 c.toNat] 5)) W.heap.size 5 [.int .u8 c.toNat] := Own.alloc _ _ _
        have o2 := (o.keep ((Fr.refl (fun _ => False) _).alloc _) id).keep h1 (fun hk => by
          have h5 := (hot.vec.lt _ hk).2
          omega)
        rw [hW] at o2
        exact ⟨rfl, .inr ⟨wr.heap.size, 1, [], rfl, hwz, o2, rfl, Nat.le_refl _, by unfold maxLen; omega⟩⟩
      have HONE := Lib.hid hone
      clear hone endB endK push hcr hrr hrb hL
      by_cases hge : blk ≤ r.size
      · have hge' : (blk : Int) ≤ (r.size : Int) := by omega
        have hpi : placeInt (placeI (blocksOf s.data.toList blk) (r.extract 0 blk).data.toList) = placeInt (placeOf s.data.toList blk (c :: rr)) := by
          rw [show (r.extract 0 blk).data.toList = r.data.toList.take blk from by simp, placeI_blocks _ _ _ (by rw [HRL.out]; exact hge), HCR.out]
        have hpa := place_any bv (blocksOf s.data.toList blk) w.heap.size (r.extract 0 blk) wr (HBV.out.keep HRI.out.fr (fun _ _ h => h)) (by omega)
        rw [hpi] at hpa
        cases hpl : placeOf s.data.toList blk (c :: rr) with
        | none =>
          rw [hpl] at hpa
          simp only [placeInt] at hpa
          have HPL := Lib.hid hpl
          have CALL := Lib.hid hpa
          clear hpl hpi hpa
          rcases List.eq_nil_or_concat l with rfl | ⟨l0, ⟨tk, tv⟩, rfl⟩
          · have hvec := hot.vec
            have HVE := Lib.hid hvec
            have hL0 : L = [] := by rw [← HLE.out]; rfl
            have HADD : Hid (L ++ [⟨0, 0, [c]⟩] = addByte L c) := Lib.hid (by rw [hL0]; rfl)
            clear hvec hot hL0
            simp only [List.length_nil] at HVE HRI HOT HLE PUSH HONE ⊢
            go_wp2_with (first | (go_at_call 151; refine CALL.out.mono ?_; rintro e w9 ⟨rfl, rfl⟩) | (at_builtin; refine wpList_append_vec rfl (.tmp 66) (.tmp 71) _ rfl w2.heap.size 171 3 40 elt_tok (HVE.out.keep (((Fr.refl (fun _ => False) _).alloc _).alloc _) (fun _ _ h => h)) rfl (m := 1) (Reads.new _ _ _ _ (by simp) _ _) rfl rfl (tok_one _ _ _ _ _) (by unfold maxLen; omega) (by omega) (by simp; omega) ?_; intro v4 w4 hv4 hf4 hd4 hn4; obtain ⟨a4, c4, hsh4, -⟩ := hv4.shape; subst hsh4; have HV4 := Lib.hid hv4; have HF4 := Lib.hid hf4; clear hv4 hf4 hd4 hn4))
            obtain ⟨q1, q2⟩ := PUSH.out w4 (.slice a4 _ c4) (.slice (some ⟨wr.heap.size, 0, none⟩) 1 1) ⟨0, 0, [c]⟩ HV4.out (((((Fr.refl (fun _ => False) wr).alloc _).alloc _).mono (fun _ h _ => h.elim)).step HF4.out (fun k hk _ => hk)) (HONE.out w4 wr rfl HF4.out) (fun k hk => by simp [Value.ownBlock] at hk; omega)
            exact ⟨⟨r.extract 1 r.size, addByte L c, rfl, by rw [HRR.out]; exact ENDB.out _ _ HPL.out (HADD.out ▸ q1) q2⟩, by show (r.extract 1 r.size).size < r.size; omega⟩
          · rw [List.concat_eq_append] at *
            obtain ⟨m, hm⟩ : ∃ m, l0.length = m := ⟨_, rfl⟩
            have HM := Lib.hid hm
            have hlen2 : (l0 ++ [(tk, tv)]).length = m + 1 := by simp [hm]
            have hLT : L = l0.map (·.1) ++ [tk] := by rw [← HLE.out]; simp
            have HLT := Lib.hid hLT
            obtain ⟨g, cap, rest, hq, hg1, hg2, -, -, -⟩ := hot.vec.row (by simp)
            simp only [Value.slice.injEq, true_and] at hq
            obtain ⟨rfl, rfl⟩ := hq
            have hcl : ∀ i v, (tokCells [(tk, tv)])[i]? = some v → (tokCells (l0 ++ [(tk, tv)]) ++ rest)[m * 3 + i]? = some v := by
              intro i v hi
              rw [tokCells_append, List.append_assoc, List.getElem?_append_right (by simp; omega), List.getElem?_append_left (by have := (List.getElem?_eq_some_iff.1 hi).1; simp [hm] at this ⊢; omega)]
              simpa [hm] using hi
            have hcell := fun i v hi => hg2.cell (hcl i v hi)
            have hc2 := hcl 2 tv rfl
            have HC2 := Lib.hid hc2
            have y0 := hcell 0 _ rfl
            rw [Nat.add_zero] at y0
            have y1 := hcell 1 _ rfl
            have y2 := hcell 2 _ rfl
            have yf1 := hg2.free (m * 3 + 1) (by simp [hm]; omega)
            have yf2 := hg2.free (m * 3 + 2) (by simp [hm]; omega)
            have hvec := hot.vec
            have HVE := Lib.hid hvec
            have HG2 := Lib.hid hg2
            rw [hlen2] at hlen HVE HOT HRI PUSH HONE ⊢
            have hll : m + 1 ≤ 300 := by omega
            clear hcell hcl hc2 hg2 hvec hot hLT hm hlen2
            have hAB := addByte_snoc (l0.map (·.1)) tk c
            rw [← HLT.out] at hAB
            have hdm : tk.c = 0 → tk.d.length ≤ 255 := fun h => by
              rcases (HSH.out tk (by rw [HLT.out]; simp)).1 with h2 | h2 <;> omega
            have hDV := HOT.out.data (tk, tv) (by simp)
            obtain ⟨da, dc, hdv, hdcl, hdcm⟩ := hDV.shape
            simp only at hdv
            subst hdv
            have HDV := Lib.hid hDV
            obtain ⟨tb, tc, td⟩ := tk
            simp only at hAB hdm y1 y2 HDV hdcl hdcm
            clear hDV
            by_cases hc : tc = 0
            · by_cases hd : td.length < 255
              · have hc1 : (tc == (0 : Int)) = true := by simpa using hc
                have hd1 : (td.length : Int) < 255 := by omega
                have hadd : addByte L c = l0.map (·.1) ++ [⟨tb, tc, td ++ [c]⟩] := by rw [hAB, if_pos ⟨hc, hd⟩]
                have HADD := Lib.hid hadd
                clear hAB hadd hdm
                go_wp2_with (first | (go_at_call 151; refine CALL.out.mono ?_; rintro e w9 ⟨rfl, rfl⟩) | fail)
                have i1 : (0 : Int) ≤ (m : Int) := by omega
                have i2 : (m : Int) < (m : Int) + 1 := by omega
                have i4 : (m : Int) ≤ 300 := by omega
                have i5 : (m : Int) + 1 ≤ 300 := by omega
                have i6 : IntKind.i64.wrap ((m : Int) + 1 - 1) = (m : Int) := by rw [IntWalk.i64_in _ (by omega)]; omega
                have i7 : IntKind.i64.wrap (m : Int) = (m : Int) := IntWalk.i64_in _ (by omega)
                have i3 : (0 : Int) < (r.size : Int) := by omega
                have e2 := (HG2.out.keep ((Fr.refl (fun _ => False) wr).alloc (.cells #[.int .u8 c.toNat] 5)).drew id).cell HC2.out
                go_region_law
                  (first | (rw [if_pos (by rfl)]; refine wp_append_vec (.tmp 59) (.tmp 62) 25 rfl w2.heap.size 5 1 1 elt_u8 (v := .slice da td.length dc) (n := td.length) (xs := bcells td) (HDV.out.keep ((Fr.refl (fun _ => False) _).drew.alloc _) (fun _ _ h => h)) rfl (m := 1) (Reads.new _ _ _ _ (by simp) _ _) rfl rfl (bcells_one [c]) (by unfold maxLen; omega) (by omega) (by simp; omega) ?_; intro v4 w4 hv4 hf4 hd4; obtain ⟨a4, c4, hsh4, -⟩ := hv4.shape; subst hsh4; have z := (HG2.out.keep ((Fr.refl (fun _ => False) _).drew.alloc _) id).keep hf4 (HDV.out.apartT HG2.out (by decide)); have z1 := z.cell HC2.out; have z2 := z.free (m * 3 + 2) (by simp [HM.out]; omega); have HV4 := Lib.hid hv4; have HF4 := Lib.hid hf4; have HD4 := Lib.hid hd4; clear z hv4 hf4 hd4))
                all_goals
                  go_wp2_with fail
                  have hF9 : Fr (fun k => (Value.slice da td.length dc).ownBlock = some k) wr w4 := (((Fr.refl (fun _ => False) wr).alloc (.cells #[.int .u8 c.toNat] 5)).drew.mono (fun _ h _ => h.elim)).step HF4.out (fun k hk _ => hk)
                  have hv9 : Vec w4 w2.heap.size 5 1 (.slice a4 (td.length + 1) c4) (td ++ [c]).length (bcells (td ++ [c])) := by
                    have := HV4.out
                    rw [List.length_append, bcells_append]
                    exact this
                  have q := HOT.out.grow HM.out hF9 hv9 (by
                    rcases HD4.out with h | ⟨g9, h, h9⟩
                    · exact .inl h
                    · exact .inr ⟨g9, h, by simp at h9; omega⟩)
                  have hgb := (HVE.out.lt g rfl).1
                  have hdb : ∀ k, (Value.slice da td.length dc).ownBlock = some k → w2.heap.size ≤ k := fun k hk => (HDV.out.lt k hk).1
                  exact ⟨⟨r.extract 1 r.size, addByte L c, rfl, by rw [HRR.out]; exact ENDB.out _ _ HPL.out ⟨_, q, by rw [HADD.out]; simp⟩ ((HRI.out.fr.step hF9 (fun k hk hl => by have := hdb k hk; omega)).setCell _ _ (fun h => by simp at h; omega))⟩, by show (r.extract 1 r.size).size < r.size; omega⟩
              · have hc1 : (tc == (0 : Int)) = true := by simpa using hc
                have hd1 : ¬ ((td.length : Int) < 255) := by omega
                have HADD : Hid (L ++ [⟨0, 0, [c]⟩] = addByte L c) := Lib.hid (by rw [hAB, if_neg (fun h => hd h.2)])
                clear hAB hdm
                go_wp2_with (first | (go_at_call 151; refine CALL.out.mono ?_; rintro e w9 ⟨rfl, rfl⟩) | (at_builtin; refine wpList_append_vec rfl (.tmp 66) (.tmp 71) _ rfl w2.heap.size 171 3 40 elt_tok (HVE.out.keep (((Fr.refl (fun _ => False) _).alloc _).alloc _) (fun _ _ h => h)) rfl (m := 1) (Reads.new _ _ _ _ (by simp) _ _) rfl rfl (tok_one _ _ _ _ _) (by unfold maxLen; omega) (by omega) (by simp; omega) ?_; intro v4 w4 hv4 hf4 hd4 hn4; obtain ⟨a4, c4, hsh4, -⟩ := hv4.shape; subst hsh4; have HV4 := Lib.hid hv4; have HF4 := Lib.hid hf4; clear hv4 hf4 hd4 hn4))
                obtain ⟨q1, q2⟩ := PUSH.out w4 (.slice a4 _ c4) (.slice (some ⟨wr.heap.size, 0, none⟩) 1 1) ⟨0, 0, [c]⟩ HV4.out (((((Fr.refl (fun _ => False) wr).alloc _).alloc _).mono (fun _ h _ => h.elim)).step HF4.out (fun k hk _ => hk)) (HONE.out w4 wr rfl HF4.out) (fun k hk => by simp [Value.ownBlock] at hk; omega)
                exact ⟨⟨r.extract 1 r.size, addByte L c, rfl, by rw [HRR.out]; exact ENDB.out _ _ HPL.out (HADD.out ▸ q1) q2⟩, by show (r.extract 1 r.size).size < r.size; omega⟩
            · have hc1 : (tc == (0 : Int)) = false := by simpa using hc
              have HADD : Hid (L ++ [⟨0, 0, [c]⟩] = addByte L c) := Lib.hid (by rw [hAB, if_neg (fun h => hc h.1)])
              clear hAB hdm
              go_wp2_with (first | (go_at_call 151; refine CALL.out.mono ?_; rintro e w9 ⟨rfl, rfl⟩) | (at_builtin; refine wpList_append_vec rfl (.tmp 66) (.tmp 71) _ rfl w2.heap.size 171 3 40 elt_tok (HVE.out.keep (((Fr.refl (fun _ => False) _).alloc _).alloc _) (fun _ _ h => h)) rfl (m := 1) (Reads.new _ _ _ _ (by simp) _ _) rfl rfl (tok_one _ _ _ _ _) (by unfold maxLen; omega) (by omega) (by simp; omega) ?_; intro v4 w4 hv4 hf4 hd4 hn4; obtain ⟨a4, c4, hsh4, -⟩ := hv4.shape; subst hsh4; have HV4 := Lib.hid hv4; have HF4 := Lib.hid hf4; clear hv4 hf4 hd4 hn4))
              obtain ⟨q1, q2⟩ := PUSH.out w4 (.slice a4 _ c4) (.slice (some ⟨wr.heap.size, 0, none⟩) 1 1) ⟨0, 0, [c]⟩ HV4.out (((((Fr.refl (fun _ => False) wr).alloc _).alloc _).mono (fun _ h _ => h.elim)).step HF4.out (fun k hk _ => hk)) (HONE.out w4 wr rfl HF4.out) (fun k hk => by simp [Value.ownBlock] at hk; omega)
              exact ⟨⟨r.extract 1 r.size, addByte L c, rfl, by rw [HRR.out]; exact ENDB.out _ _ HPL.out (HADD.out ▸ q1) q2⟩, by show (r.extract 1 r.size).size < r.size; omega⟩
        | some k =>
          rw [hpl] at hpa
          simp only [placeInt] at hpa
          have HPL := Lib.hid hpl
          have hk3 : k ≤ 300 := by
            have := (placeOf_some _ blk (by omega) _ k hpl).2.1
            have h2 : (k + 1) * 1 ≤ (k + 1) * blk := Nat.mul_le_mul_left _ (by omega)
            rw [HSL.out] at this
            omega
          have CALL := Lib.hid hpa
          clear hpl hpi hpa
          rcases List.eq_nil_or_concat l with rfl | ⟨l0, ⟨tk, tv⟩, rfl⟩
          · have hvec := hot.vec
            have HVE := Lib.hid hvec
            have hL0 : L = [] := by rw [← HLE.out]; rfl
            have HADD : Hid (L ++ [⟨k, 1, []⟩] = addBlock L k) := Lib.hid (by rw [hL0]; rfl)
            clear hvec hot hL0
            simp only [List.length_nil] at HVE HRI HOT HLE PUSH HONE ⊢
            go_wp2_with (first | (go_at_call 151; refine CALL.out.mono ?_; rintro e w9 ⟨rfl, rfl⟩))
            go_quiet (fail)
            go_wp2_with (at_builtin; refine wpList_append_vec rfl (.tmp 121) (.tmp 124) _ rfl w2.heap.size 171 3 40 elt_tok (HVE.out.keep (((Fr.refl (fun _ => False) _).drewN _).alloc _) (fun _ _ h => h)) rfl (m := 1) (Reads.new _ _ _ _ (by simp) _ _) rfl rfl (tok_one _ _ _ _ _) (by unfold maxLen; omega) (by omega) (by simp; omega) ?_; intro v4 w4 hv4 hf4 hd4 hn4; obtain ⟨a4, c4, hsh4, -⟩ := hv4.shape; subst hsh4; have HV4 := Lib.hid hv4; have HF4 := Lib.hid hf4; clear hv4 hf4 hd4 hn4)
            obtain ⟨q1, q2⟩ := PUSH.out w4 (.slice a4 _ c4) (.slice none 0 0) ⟨k, 1, []⟩ HV4.out (((((Fr.refl (fun _ => False) wr).drewN _).alloc _).mono (fun _ h _ => h.elim)).step HF4.out (fun k hk _ => hk)) (Vec.nil _ _ _ _) (fun k hk => by simp [Value.ownBlock] at hk)
            exact ⟨⟨r.extract blk r.size, addBlock L k, rfl, ENDK.out _ _ k HPL.out (HADD.out ▸ q1) q2⟩, by show (r.extract blk r.size).size < r.size; simp; omega⟩
          · rw [List.concat_eq_append] at *
            obtain ⟨m, hm⟩ : ∃ m, l0.length = m := ⟨_, rfl⟩
            have HM := Lib.hid hm
            have hlen2 : (l0 ++ [(tk, tv)]).length = m + 1 := by simp [hm]
            have hLT : L = l0.map (·.1) ++ [tk] := by rw [← HLE.out]; simp
            have HLT := Lib.hid hLT
            obtain ⟨g, cap, rest, hq, hg1, hg2, -, -, -⟩ := hot.vec.row (by simp)
            simp only [Value.slice.injEq, true_and] at hq
            obtain ⟨rfl, rfl⟩ := hq
            have hcl : ∀ i v, (tokCells [(tk, tv)])[i]? = some v → (tokCells (l0 ++ [(tk, tv)]) ++ rest)[m * 3 + i]? = some v := by
              intro i v hi
              rw [tokCells_append, List.append_assoc, List.getElem?_append_right (by simp; omega), List.getElem?_append_left (by have := (List.getElem?_eq_some_iff.1 hi).1; simp [hm] at this ⊢; omega)]
              simpa [hm] using hi
            have hcell := fun i v hi => hg2.cell (hcl i v hi)
            have hc2 := hcl 2 tv rfl
            have HC2 := Lib.hid hc2
            have y0 := hcell 0 _ rfl
            rw [Nat.add_zero] at y0
            have y1 := hcell 1 _ rfl
            have y2 := hcell 2 _ rfl
            have yf1 := hg2.free (m * 3 + 1) (by simp [hm]; omega)
            have yf2 := hg2.free (m * 3 + 2) (by simp [hm]; omega)
            have hvec := hot.vec
            have HVE := Lib.hid hvec
            have HG2 := Lib.hid hg2
            rw [hlen2] at hlen HVE HOT HRI PUSH HONE ⊢
            have hll : m + 1 ≤ 300 := by omega
            clear hcell hcl hc2 hg2 hvec hot hLT hm hlen2
            have hAB := addBlock_snoc (l0.map (·.1)) tk k
            rw [← HLT.out] at hAB
            have hbb : 0 ≤ tk.b ∧ tk.b ≤ 100000 ∧ 0 ≤ tk.c ∧ tk.c ≤ 255 := by
              have h9 := HSH.out tk (by rw [HLT.out]; simp)
              rcases h9.1 with h | h <;> omega
            obtain ⟨tb, tc, td⟩ := tk
            simp only at hAB hbb y0 y1
            have hsum : IntKind.i64.wrap (tb + tc) = tb + tc := IntWalk.i64_in _ (by omega)
            by_cases hc0 : 0 < tc
            · have hc0' : decide (0 < tc) = true := by simpa using hc0
              by_cases hc1 : tc < 255
              · have hc1' : decide (tc < 255) = true := by simpa using hc1
                by_cases hk2 : tb + tc = k
                · have hkk : (tb + tc == (k : Int)) = true := by simpa using hk2
                  have hadd : addBlock L k = l0.map (·.1) ++ [⟨tb, tc + 1, td⟩] := by rw [hAB, if_pos ⟨hc0, hc1, hk2⟩]
                  have HADD := Lib.hid hadd
                  clear hAB hadd hk2
                  go_wp2_with (first | (go_at_call 151; refine CALL.out.mono ?_; rintro e w9 ⟨rfl, rfl⟩))
                  go_quiet (fail)
                  go_wp2_with fail
                  have q2 := (HOT.out.keep0 ((Fr.refl (fun _ => False) wr).drewN nq)).count HM.out (tc + 1)
                  have hs : Fr (fun k => k = g) wr ((wr.drewN nq).setCell ⟨g, m * 3 + 1, none⟩ (.int .i64 (tc + 1))) := ((Fr.refl _ _).drewN nq).setCell _ _ (fun _ => rfl)
                  have hgb := (HVE.out.lt g rfl).1
                  exact ⟨⟨r.extract blk r.size, addBlock L k, rfl, ENDK.out _ _ k HPL.out ⟨_, q2, by rw [HADD.out]; simp⟩ (HRI.out.fr.step hs (fun b hb hl => by subst hb; omega))⟩, by show (r.extract blk r.size).size < r.size; simp; omega⟩
                · have hkk : (tb + tc == (k : Int)) = false := by simpa using hk2
                  have HADD : Hid (L ++ [⟨k, 1, []⟩] = addBlock L k) := Lib.hid (by rw [hAB, if_neg (fun h => hk2 h.2.2)])
                  clear hk2
                  clear hAB hbb
                  go_wp2_with (first | (go_at_call 151; refine CALL.out.mono ?_; rintro e w9 ⟨rfl, rfl⟩))
                  go_quiet (fail)
                  go_wp2_with (at_builtin; refine wpList_append_vec rfl (.tmp 121) (.tmp 124) _ rfl w2.heap.size 171 3 40 elt_tok (HVE.out.keep (((Fr.refl (fun _ => False) _).drewN _).alloc _) (fun _ _ h => h)) rfl (m := 1) (Reads.new _ _ _ _ (by simp) _ _) rfl rfl (tok_one _ _ _ _ _) (by unfold maxLen; omega) (by omega) (by simp; omega) ?_; intro v4 w4 hv4 hf4 hd4 hn4; obtain ⟨a4, c4, hsh4, -⟩ := hv4.shape; subst hsh4; have HV4 := Lib.hid hv4; have HF4 := Lib.hid hf4; clear hv4 hf4 hd4 hn4)
                  obtain ⟨q1, q2⟩ := PUSH.out w4 (.slice a4 _ c4) (.slice none 0 0) ⟨k, 1, []⟩ HV4.out (((((Fr.refl (fun _ => False) wr).drewN _).alloc _).mono (fun _ h _ => h.elim)).step HF4.out (fun k hk _ => hk)) (Vec.nil _ _ _ _) (fun k hk => by simp [Value.ownBlock] at hk)
                  exact ⟨⟨r.extract blk r.size, addBlock L k, rfl, ENDK.out _ _ k HPL.out (HADD.out ▸ q1) q2⟩, by show (r.extract blk r.size).size < r.size; simp; omega⟩
              · have hc1' : decide (tc < 255) = false := by simpa using hc1
                have HADD : Hid (L ++ [⟨k, 1, []⟩] = addBlock L k) := Lib.hid (by rw [hAB, if_neg (fun h => hc1 h.2.1)])
                clear hAB hbb
                go_wp2_with (first | (go_at_call 151; refine CALL.out.mono ?_; rintro e w9 ⟨rfl, rfl⟩))
                go_quiet (fail)
                go_wp2_with (at_builtin; refine wpList_append_vec rfl (.tmp 121) (.tmp 124) _ rfl w2.heap.size 171 3 40 elt_tok (HVE.out.keep (((Fr.refl (fun _ => False) _).drewN _).alloc _) (fun _ _ h => h)) rfl (m := 1) (Reads.new _ _ _ _ (by simp) _ _) rfl rfl (tok_one _ _ _ _ _) (by unfold maxLen; omega) (by omega) (by simp; omega) ?_; intro v4 w4 hv4 hf4 hd4 hn4; obtain ⟨a4, c4, hsh4, -⟩ := hv4.shape; subst hsh4; have HV4 := Lib.hid hv4; have HF4 := Lib.hid hf4; clear hv4 hf4 hd4 hn4)
                obtain ⟨q1, q2⟩ := PUSH.out w4 (.slice a4 _ c4) (.slice none 0 0) ⟨k, 1, []⟩ HV4.out (((((Fr.refl (fun _ => False) wr).drewN _).alloc _).mono (fun _ h _ => h.elim)).step HF4.out (fun k hk _ => hk)) (Vec.nil _ _ _ _) (fun k hk => by simp [Value.ownBlock] at hk)
                exact ⟨⟨r.extract blk r.size, addBlock L k, rfl, ENDK.out _ _ k HPL.out (HADD.out ▸ q1) q2⟩, by show (r.extract blk r.size).size < r.size; simp; omega⟩
            · have hc0' : decide (0 < tc) = false := by simpa using hc0
              have HADD : Hid (L ++ [⟨k, 1, []⟩] = addBlock L k) := Lib.hid (by rw [hAB, if_neg (fun h => hc0 h.1)])
              clear hAB hbb
              go_wp2_with (first | (go_at_call 151; refine CALL.out.mono ?_; rintro e w9 ⟨rfl, rfl⟩))
              go_quiet (fail)
              go_wp2_with (at_builtin; refine wpList_append_vec rfl (.tmp 121) (.tmp 124) _ rfl w2.heap.size 171 3 40 elt_tok (HVE.out.keep (((Fr.refl (fun _ => False) _).drewN _).alloc _) (fun _ _ h => h)) rfl (m := 1) (Reads.new _ _ _ _ (by simp) _ _) rfl rfl (tok_one _ _ _ _ _) (by unfold maxLen; omega) (by omega) (by simp; omega) ?_; intro v4 w4 hv4 hf4 hd4 hn4; obtain ⟨a4, c4, hsh4, -⟩ := hv4.shape; subst hsh4; have HV4 := Lib.hid hv4; have HF4 := Lib.hid hf4; clear hv4 hf4 hd4 hn4)
              obtain ⟨q1, q2⟩ := PUSH.out w4 (.slice a4 _ c4) (.slice none 0 0) ⟨k, 1, []⟩ HV4.out (((((Fr.refl (fun _ => False) wr).drewN _).alloc _).mono (fun _ h _ => h.elim)).step HF4.out (fun k hk _ => hk)) (Vec.nil _ _ _ _) (fun k hk => by simp [Value.ownBlock] at hk)
              exact ⟨⟨r.extract blk r.size, addBlock L k, rfl, ENDK.out _ _ k HPL.out (HADD.out ▸ q1) q2⟩, by show (r.extract blk r.size).size < r.size; simp; omega⟩
      · have hge' : ¬ ((blk : Int) ≤ (r.size : Int)) := by omega
        have hpl : placeOf s.data.toList blk (c :: rr) = none := placeOf_short _ _ _ (by rw [← HCR.out, HRL.out]; omega)
        have HPL := Lib.hid hpl
        clear hpl hge
        rcases List.eq_nil_or_concat l with rfl | ⟨l0, ⟨tk, tv⟩, rfl⟩
        · have hvec := hot.vec
          have HVE := Lib.hid hvec
          have hL0 : L = [] := by rw [← HLE.out]; rfl
          have HADD : Hid (L ++ [⟨0, 0, [c]⟩] = addByte L c) := Lib.hid (by rw [hL0]; rfl)
          clear hvec hot hL0
          simp only [List.length_nil] at HVE HRI HOT HLE PUSH HONE ⊢
          go_wp2_with (first | (at_builtin; refine wpList_append_vec rfl (.tmp 66) (.tmp 71) _ rfl w2.heap.size 171 3 40 elt_tok (HVE.out.keep (((Fr.refl (fun _ => False) _).alloc _).alloc _) (fun _ _ h => h)) rfl (m := 1) (Reads.new _ _ _ _ (by simp) _ _) rfl rfl (tok_one _ _ _ _ _) (by unfold maxLen; omega) (by omega) (by simp; omega) ?_; intro v4 w4 hv4 hf4 hd4 hn4; obtain ⟨a4, c4, hsh4, -⟩ := hv4.shape; subst hsh4; have HV4 := Lib.hid hv4; have HF4 := Lib.hid hf4; clear hv4 hf4 hd4 hn4))
          obtain ⟨q1, q2⟩ := PUSH.out w4 (.slice a4 _ c4) (.slice (some ⟨wr.heap.size, 0, none⟩) 1 1) ⟨0, 0, [c]⟩ HV4.out (((((Fr.refl (fun _ => False) wr).alloc _).alloc _).mono (fun _ h _ => h.elim)).step HF4.out (fun k hk _ => hk)) (HONE.out w4 wr rfl HF4.out) (fun k hk => by simp [Value.ownBlock] at hk; omega)
          exact ⟨⟨r.extract 1 r.size, addByte L c, rfl, by rw [HRR.out]; exact ENDB.out _ _ HPL.out (HADD.out ▸ q1) q2⟩, by show (r.extract 1 r.size).size < r.size; omega⟩
        · rw [List.concat_eq_append] at *
          obtain ⟨m, hm⟩ : ∃ m, l0.length = m := ⟨_, rfl⟩
          have HM := Lib.hid hm
          have hlen2 : (l0 ++ [(tk, tv)]).length = m + 1 := by simp [hm]
          have hLT : L = l0.map (·.1) ++ [tk] := by rw [← HLE.out]; simp
          have HLT := Lib.hid hLT
          obtain ⟨g, cap, rest, hq, hg1, hg2, -, -, -⟩ := hot.vec.row (by simp)
          simp only [Value.slice.injEq, true_and] at hq
          obtain ⟨rfl, rfl⟩ := hq
          have hcl : ∀ i v, (tokCells [(tk, tv)])[i]? = some v → (tokCells (l0 ++ [(tk, tv)]) ++ rest)[m * 3 + i]? = some v := by
            intro i v hi
            rw [tokCells_append, List.append_assoc, List.getElem?_append_right (by simp; omega), List.getElem?_append_left (by have := (List.getElem?_eq_some_iff.1 hi).1; simp [hm] at this ⊢; omega)]
            simpa [hm] using hi
          have hcell := fun i v hi => hg2.cell (hcl i v hi)
          have hc2 := hcl 2 tv rfl
          have HC2 := Lib.hid hc2
          have y0 := hcell 0 _ rfl
          rw [Nat.add_zero] at y0
          have y1 := hcell 1 _ rfl
          have y2 := hcell 2 _ rfl
          have yf1 := hg2.free (m * 3 + 1) (by simp [hm]; omega)
          have yf2 := hg2.free (m * 3 + 2) (by simp [hm]; omega)
          have hvec := hot.vec
          have HVE := Lib.hid hvec
          have HG2 := Lib.hid hg2
          rw [hlen2] at hlen HVE HOT HRI PUSH HONE ⊢
          have hll : m + 1 ≤ 300 := by omega
          clear hcell hcl hc2 hg2 hvec hot hLT hm hlen2
          have hAB := addByte_snoc (l0.map (·.1)) tk c
          rw [← HLT.out] at hAB
          have hdm : tk.c = 0 → tk.d.length ≤ 255 := fun h => by
            rcases (HSH.out tk (by rw [HLT.out]; simp)).1 with h2 | h2 <;> omega
          have hDV := HOT.out.data (tk, tv) (by simp)
          obtain ⟨da, dc, hdv, hdcl, hdcm⟩ := hDV.shape
          simp only at hdv
          subst hdv
          have HDV := Lib.hid hDV
          obtain ⟨tb, tc, td⟩ := tk
          simp only at hAB hdm y1 y2 HDV hdcl hdcm
          clear hDV
          by_cases hc : tc = 0
          · by_cases hd : td.length < 255
            · have hc1 : (tc == (0 : Int)) = true := by simpa using hc
              have hd1 : (td.length : Int) < 255 := by omega
              have hadd : addByte L c = l0.map (·.1) ++ [⟨tb, tc, td ++ [c]⟩] := by rw [hAB, if_pos ⟨hc, hd⟩]
              have HADD := Lib.hid hadd
              clear hAB hadd hdm
              go_wp2_with (first | fail)
              have i1 : (0 : Int) ≤ (m : Int) := by omega
              have i2 : (m : Int) < (m : Int) + 1 := by omega
              have i4 : (m : Int) ≤ 300 := by omega
              have i5 : (m : Int) + 1 ≤ 300 := by omega
              have i6 : IntKind.i64.wrap ((m : Int) + 1 - 1) = (m : Int) := by rw [IntWalk.i64_in _ (by omega)]; omega
              have i7 : IntKind.i64.wrap (m : Int) = (m : Int) := IntWalk.i64_in _ (by omega)
              have i3 : (0 : Int) < (r.size : Int) := by omega
              have e2 := (HG2.out.keep ((Fr.refl (fun _ => False) wr).alloc (.cells #[.int .u8 c.toNat] 5)).drew id).cell HC2.out
              go_region_law
                (first | (rw [if_pos (by rfl)]; refine wp_append_vec (.tmp 59) (.tmp 62) 25 rfl w2.heap.size 5 1 1 elt_u8 (v := .slice da td.length dc) (n := td.length) (xs := bcells td) (HDV.out.keep ((Fr.refl (fun _ => False) _).drew.alloc _) (fun _ _ h => h)) rfl (m := 1) (Reads.new _ _ _ _ (by simp) _ _) rfl rfl (bcells_one [c]) (by unfold maxLen; omega) (by omega) (by simp; omega) ?_; intro v4 w4 hv4 hf4 hd4; obtain ⟨a4, c4, hsh4, -⟩ := hv4.shape; subst hsh4; have z := (HG2.out.keep ((Fr.refl (fun _ => False) _).drew.alloc _) id).keep hf4 (HDV.out.apartT HG2.out (by decide)); have z1 := z.cell HC2.out; have z2 := z.free (m * 3 + 2) (by simp [HM.out]; omega); have HV4 := Lib.hid hv4; have HF4 := Lib.hid hf4; have HD4 := Lib.hid hd4; clear z hv4 hf4 hd4))
              all_goals
                go_wp2_with fail
                have hF9 : Fr (fun k => (Value.slice da td.length dc).ownBlock = some k) wr w4 := (((Fr.refl (fun _ => False) wr).alloc (.cells #[.int .u8 c.toNat] 5)).drew.mono (fun _ h _ => h.elim)).step HF4.out (fun k hk _ => hk)
                have hv9 : Vec w4 w2.heap.size 5 1 (.slice a4 (td.length + 1) c4) (td ++ [c]).length (bcells (td ++ [c])) := by
                  have := HV4.out
                  rw [List.length_append, bcells_append]
                  exact this
                have q := HOT.out.grow HM.out hF9 hv9 (by
                  rcases HD4.out with h | ⟨g9, h, h9⟩
                  · exact .inl h
                  · exact .inr ⟨g9, h, by simp at h9; omega⟩)
                have hgb := (HVE.out.lt g rfl).1
                have hdb : ∀ k, (Value.slice da td.length dc).ownBlock = some k → w2.heap.size ≤ k := fun k hk => (HDV.out.lt k hk).1
                exact ⟨⟨r.extract 1 r.size, addByte L c, rfl, by rw [HRR.out]; exact ENDB.out _ _ HPL.out ⟨_, q, by rw [HADD.out]; simp⟩ ((HRI.out.fr.step hF9 (fun k hk hl => by have := hdb k hk; omega)).setCell _ _ (fun h => by simp at h; omega))⟩, by show (r.extract 1 r.size).size < r.size; omega⟩
            · have hc1 : (tc == (0 : Int)) = true := by simpa using hc
              have hd1 : ¬ ((td.length : Int) < 255) := by omega
              have HADD : Hid (L ++ [⟨0, 0, [c]⟩] = addByte L c) := Lib.hid (by rw [hAB, if_neg (fun h => hd h.2)])
              clear hAB hdm
              go_wp2_with (first | (at_builtin; refine wpList_append_vec rfl (.tmp 66) (.tmp 71) _ rfl w2.heap.size 171 3 40 elt_tok (HVE.out.keep (((Fr.refl (fun _ => False) _).alloc _).alloc _) (fun _ _ h => h)) rfl (m := 1) (Reads.new _ _ _ _ (by simp) _ _) rfl rfl (tok_one _ _ _ _ _) (by unfold maxLen; omega) (by omega) (by simp; omega) ?_; intro v4 w4 hv4 hf4 hd4 hn4; obtain ⟨a4, c4, hsh4, -⟩ := hv4.shape; subst hsh4; have HV4 := Lib.hid hv4; have HF4 := Lib.hid hf4; clear hv4 hf4 hd4 hn4))
              obtain ⟨q1, q2⟩ := PUSH.out w4 (.slice a4 _ c4) (.slice (some ⟨wr.heap.size, 0, none⟩) 1 1) ⟨0, 0, [c]⟩ HV4.out (((((Fr.refl (fun _ => False) wr).alloc _).alloc _).mono (fun _ h _ => h.elim)).step HF4.out (fun k hk _ => hk)) (HONE.out w4 wr rfl HF4.out) (fun k hk => by simp [Value.ownBlock] at hk; omega)
              exact ⟨⟨r.extract 1 r.size, addByte L c, rfl, by rw [HRR.out]; exact ENDB.out _ _ HPL.out (HADD.out ▸ q1) q2⟩, by show (r.extract 1 r.size).size < r.size; omega⟩
          · have hc1 : (tc == (0 : Int)) = false := by simpa using hc
            have HADD : Hid (L ++ [⟨0, 0, [c]⟩] = addByte L c) := Lib.hid (by rw [hAB, if_neg (fun h => hc h.1)])
            clear hAB hdm
            go_wp2_with (first | (at_builtin; refine wpList_append_vec rfl (.tmp 66) (.tmp 71) _ rfl w2.heap.size 171 3 40 elt_tok (HVE.out.keep (((Fr.refl (fun _ => False) _).alloc _).alloc _) (fun _ _ h => h)) rfl (m := 1) (Reads.new _ _ _ _ (by simp) _ _) rfl rfl (tok_one _ _ _ _ _) (by unfold maxLen; omega) (by omega) (by simp; omega) ?_; intro v4 w4 hv4 hf4 hd4 hn4; obtain ⟨a4, c4, hsh4, -⟩ := hv4.shape; subst hsh4; have HV4 := Lib.hid hv4; have HF4 := Lib.hid hf4; clear hv4 hf4 hd4 hn4))
            obtain ⟨q1, q2⟩ := PUSH.out w4 (.slice a4 _ c4) (.slice (some ⟨wr.heap.size, 0, none⟩) 1 1) ⟨0, 0, [c]⟩ HV4.out (((((Fr.refl (fun _ => False) wr).alloc _).alloc _).mono (fun _ h _ => h.elim)).step HF4.out (fun k hk _ => hk)) (HONE.out w4 wr rfl HF4.out) (fun k hk => by simp [Value.ownBlock] at hk; omega)
            exact ⟨⟨r.extract 1 r.size, addByte L c, rfl, by rw [HRR.out]; exact ENDB.out _ _ HPL.out (HADD.out ▸ q1) q2⟩, by show (r.extract 1 r.size).size < r.size; omega⟩
end Go.Proofs.YtlcdgbhigfgehabGreatDoor
/- The document's Record: the batch of two trees. -/
namespace Go.Proofs.YtlcdgbhigfgehabGreatDoor
open Go.RowKit
set_option maxRecDepth 100000

set_option maxHeartbeats 4000000 in
theorem rrecord_any (v0 v1 : Value) (src ref : List Fil) (B0 B1 : Nat) (blk : Nat) (w : World) (h0 : Refs w B0 v0 src) (h1 : Refs w B1 v1 ref) (hb1 : 1 ≤ blk) (hb2 : blk ≤ 64) (hs : IsTree src) (hr : IsTree ref) :
    Calls Tryz.prog 100 #[v0, v1, .int .i64 blk] w fun e w' => e = .returned (.string ⟨(recOf src ref blk).toArray⟩) ∧ Fr (fun _ => False) w w' := by
  have H0 := Lib.hid h0
  have H1 := Lib.hid h1
  obtain ⟨a0, c0, rfl, -⟩ := Vec.shape h0
  obtain ⟨a1, c1, rfl, -⟩ := Vec.shape h1
  have HS := Lib.hid hs
  have HR := Lib.hid hr
  have hsl : src.length ≤ 8 := hs.len
  have hrl : ref.length ≤ 8 := hr.len
  have hname : ∀ p ∈ src, p.name.length ≤ 12 ∧ p.data.length ≤ 300 := fun p hp => by
    have h := hs.ok p hp
    have h3 := h.1
    unfold isName at h3
    simp at h3
    exact ⟨by omega, h.2⟩
  have hname1 : ∀ p ∈ ref, p.name.length ≤ 12 ∧ p.data.length ≤ 300 := fun p hp => by
    have h := hr.ok p hp
    have h3 := h.1
    unfold isName at h3
    simp at h3
    exact ⟨by omega, h.2⟩
  have HN0 := Lib.hid hname
  have HN1 := Lib.hid hname1
  clear h0 h1 hs hr hname hname1
  have hbw : IntKind.u8.wrap (blk : Int) = (blk : Int) := IntWalk.u8_in _ (by omega)
  have hlw : IntKind.u8.wrap (ref.length : Int) = (ref.length : Int) := IntWalk.u8_in _ (by omega)
  have hsw : IntKind.u8.wrap (src.length : Int) = (src.length : Int) := IntWalk.u8_in _ (by omega)
  have hbe : [Value.int .u8 66, .int .u8 65, .int .u8 84, .int .u8 blk, .int .u8 ref.length] = bcells (headB ref blk) := by
    have e1 := byte_small blk (by omega)
    have e2 := byte_small ref.length (by omega)
    unfold headB
    rw [show [66, 65, 84, UInt8.ofNat blk, UInt8.ofNat ref.length] = [66, 65, 84] ++ [UInt8.ofNat blk] ++ [UInt8.ofNat ref.length] from rfl, bcells_append, bcells_append, e1, e2]; rfl
  have hv3 : Vec (w.alloc (.cells #[.int .u8 66, .int .u8 65, .int .u8 84, .int .u8 blk, .int .u8 ref.length] 5)) w.heap.size 5 1 (.slice (some ⟨w.heap.size, 0, none⟩) 5 5) (headB ref blk).length (bcells (headB ref blk)) := by
    rw [← hbe]
    exact ⟨rfl, .inr ⟨_, 5, [], rfl, Nat.le_refl _, Own.alloc w #[.int .u8 66, .int .u8 65, .int .u8 84, .int .u8 blk, .int .u8 ref.length] _, rfl, Nat.le_refl _, by unfold maxLen; omega⟩⟩
  have HV3 := Lib.hid hv3
  have HF3 := Lib.hid (show Fr (fun _ => False) w (w.alloc (.cells #[.int .u8 66, .int .u8 65, .int .u8 84, .int .u8 blk, .int .u8 ref.length] 5)) from (Fr.refl _ _).alloc _)
  clear hbe hv3
  go_enter Tryz.func100, Tryz.ntmps100
  go_wp2_with fail
  have hh5 : (headB ref blk).length = 5 := rfl
  go_loopw [7, 8] (fun bv iv wr => ∃ k : Nat, k ≤ ref.length ∧ iv = .int .i64 k ∧ Fr (fun _ => False) w wr ∧ Vec wr w.heap.size 5 1 bv (headTo ref blk k).length (bcells (headTo ref blk k))) (fun _ iv _ => ref.length - (intOf iv).toNat)
  case atStart => exact ⟨0, Nat.zero_le _, rfl, HF3.out, by unfold headTo; rw [List.take_zero, List.flatMap_nil, List.append_nil]; exact HV3.out⟩
  case round =>
    obtain ⟨k, hk, rfl, hfr, hbv⟩ := hrel
    obtain ⟨ba, bc, hbq, -⟩ := hbv.shape
    subst hbq
    have HFR := Lib.hid hfr
    have HBV := Lib.hid hbv
    have hwz := hfr.size
    have hL := headTo_length ref blk (fun f hf => (HN1.out f hf).1) k hk
    clear hbv
    by_cases hlt : k < ref.length
    · have hfl : Refs wr B1 (.slice a1 ref.length c1) ref := Vec.keep H1.out hfr (fun _ _ h => h)
      obtain ⟨g, cap, hq, e0, e1, hgl⟩ := hfl.get k hlt
      simp only [Value.slice.injEq, true_and] at hq
      obtain ⟨rfl, rfl⟩ := hq
      have hnn := HN1.out ref[k] (List.getElem_mem _)
      have hsu := headTo_succ ref blk k hlt
      obtain ⟨L, hLe⟩ : ∃ L, headTo ref blk k = L := ⟨_, rfl⟩
      rw [hLe] at hsu hL HBV ⊢
      clear hfl hfr hLe
      obtain ⟨f, hf⟩ : ∃ f, ref[k] = f := ⟨_, rfl⟩
      rw [hf] at hnn hsu e0 e1
      obtain ⟨fn, d⟩ := f
      simp only at hnn hsu e0 e1
      obtain ⟨nm, hnm⟩ : ∃ nm : ByteArray, nm = ⟨fn.toArray⟩ := ⟨_, rfl⟩
      have hnd : fn = nm.data.toList := by rw [hnm]
      rw [← hnm] at e0
      subst hnd
      obtain ⟨dt, hdt⟩ : ∃ dt : ByteArray, dt = ⟨d.toArray⟩ := ⟨_, rfl⟩
      have hdd : d = dt.data.toList := by rw [hdt]
      rw [← hdt] at e1
      subst hdd
      have hns : nm.data.toList.length = nm.size := by simp
      have hds : dt.data.toList.length = dt.size := by simp
      rw [hns, hds] at hnn
      have HSU := Lib.hid hsu
      have hd3 := hnn.2
      have hn12 := hnn.1
      clear hnm hf hns hds hsu hnn hdt
      go_wp2_with fail
      refine (rentryW_any _ L nm dt w.heap.size _ HBV.out (by omega) (by omega) hd3 (by omega)).mono ?_
      rintro e w5 ⟨v5, rfl, hv5, hg5⟩
      rw [← HSU.out] at hv5
      obtain ⟨L5, hL5⟩ : ∃ L5, headTo ref blk (k + 1) = L5 := ⟨_, rfl⟩
      rw [hL5] at hv5
      obtain ⟨a5, c5, hs5, -⟩ := hv5.shape
      subst hs5
      have HV5 := Lib.hid hv5
      have HF5 := Lib.hid (HFR.out.step hg5.fr (fun b hb hl => by have := (HBV.out.lt b hb).1; omega))
      have HL5 := Lib.hid hL5
      clear hv5 hg5 hL5
      go_wp2_with fail
      refine ⟨⟨k + 1, by omega, by go_num, HF5.out, by rw [HL5.out]; exact HV5.out⟩, by simp [intOf]; omega⟩
    · obtain rfl : k = ref.length := by omega
      clear hfr
      obtain ⟨L, hLe⟩ : ∃ L, headTo ref blk ref.length = L := ⟨_, rfl⟩
      rw [hLe] at hL HBV ⊢
      have HLE := Lib.hid hLe
      have HB8 := Lib.hid (byte_small src.length (by omega))
      clear hLe
      go_upto_region 7 with (at_builtin; refine wpList_append_vec rfl _ _ _ rfl w.heap.size 5 1 1 elt_u8 (HBV.out.keep ((Fr.refl (fun _ => False) _).alloc _) (fun _ _ h => h)) rfl (m := 1) (Reads.new _ _ _ _ (by first | omega | simp) _ _) rfl rfl (by intro u hu; simp at hu; subst hu; rfl) (by unfold maxLen; omega) (by omega) (by simp; omega) ?_; intro v5 w5 hv5 hf5 hd5 hn5; obtain ⟨a5, c5, hs5, -⟩ := hv5.shape; subst hs5; have HG5 := Lib.hid (Grew.alloc _ ⟨hf5, hd5⟩); have HV5 := Lib.hid hv5; clear hv5 hf5 hd5 hn5)
      have hv5 : Vec w5 w.heap.size 5 1 (.slice a5 (L.length + 1) c5) (L ++ [UInt8.ofNat src.length]).length (bcells (L ++ [UInt8.ofNat src.length])) := by
        rw [bcells_append, HB8.out, List.length_append]; exact HV5.out
      have hHS := HG5.out.fr.size
      have HF5 := Lib.hid (HFR.out.step HG5.out.fr (fun b hb hl => by have := (HBV.out.lt b hb).1; omega))
      obtain ⟨L5, hL5⟩ : ∃ L5, L ++ [UInt8.ofNat src.length] = L5 := ⟨_, rfl⟩
      have hl5 : L5.length = L.length + 1 := by rw [← hL5]; simp
      rw [hL5] at hv5
      have HV5' := Lib.hid hv5
      have HL5 := Lib.hid hL5
      have hl5b : L5.length ≤ 200 := by omega
      rw [← hl5] at HV5' ⊢
      clear hl5
      clear hv5 HV5 HG5 hL5 HBV HFR
      go_wp2_with fail
      go_loopw [7, 9] (fun bv iv wr => ∃ k : Nat, k ≤ src.length ∧ iv = .int .i64 k ∧ Fr (fun _ => False) w wr ∧ Vec wr w.heap.size 5 1 bv (bodyTo L5 src ref blk k).length (bcells (bodyTo L5 src ref blk k))) (fun _ iv _ => src.length - (intOf iv).toNat)
      case atStart => exact ⟨0, Nat.zero_le _, rfl, HF5.out, by unfold bodyTo; rw [List.take_zero, List.flatMap_nil, List.append_nil]; exact HV5'.out⟩
      case round =>
        obtain ⟨k, hk, rfl, hfr, hbv⟩ := hrel
        obtain ⟨ba, bc, hbq, -⟩ := hbv.shape
        subst hbq
        have HFR := Lib.hid hfr
        have HBV := Lib.hid hbv
        have hwz := hfr.size
        have hL := bodyTo_length L5 src ref blk (by omega) (fun f hf => HN0.out f hf) k hk
        clear hbv
        by_cases hlt : k < src.length
        · have hfl : Refs wr B0 (.slice a0 src.length c0) src := Vec.keep H0.out hfr (fun _ _ h => h)
          obtain ⟨g, cap, hq, e0, e1, hgl⟩ := hfl.get k hlt
          simp only [Value.slice.injEq, true_and] at hq
          obtain ⟨rfl, rfl⟩ := hq
          have hnn := HN0.out src[k] (List.getElem_mem _)
          have hsu := bodyTo_succ L5 src ref blk k hlt
          obtain ⟨L, hLe⟩ : ∃ L, bodyTo L5 src ref blk k = L := ⟨_, rfl⟩
          rw [hLe] at hsu hL HBV ⊢
          have hcells : ∀ W, Fr (fun _ => False) w W → W.cell? ⟨g, k * 2, none⟩ = some (.string ⟨src[k].name.toArray⟩) ∧ W.cell? ⟨g, k * 2 + 1, none⟩ = some (.string ⟨src[k].data.toArray⟩) := fun W hW => by
            have hf2 : Refs W B0 (.slice (some ⟨g, 0, none⟩) src.length c0) src := Vec.keep H0.out hW (fun _ _ h => h)
            obtain ⟨g', cap', hq', e0', e1', -⟩ := hf2.get k hlt
            simp only [Value.slice.injEq, true_and, Option.some.injEq, Addr.mk.injEq, and_true] at hq'
            obtain ⟨rfl, -⟩ := hq'
            exact ⟨e0', e1'⟩
          clear hfl hfr hLe
          obtain ⟨f, hf⟩ : ∃ f, src[k] = f := ⟨_, rfl⟩
          rw [hf] at hnn hsu e0 e1 hcells
          obtain ⟨fn, d⟩ := f
          simp only at hnn hsu e0 e1 hcells
          obtain ⟨nm, hnm⟩ : ∃ nm : ByteArray, nm = ⟨fn.toArray⟩ := ⟨_, rfl⟩
          have hnd : fn = nm.data.toList := by rw [hnm]
          rw [← hnm] at e0 hcells
          subst hnd
          obtain ⟨dt, hdt⟩ : ∃ dt : ByteArray, dt = ⟨d.toArray⟩ := ⟨_, rfl⟩
          have hdd : d = dt.data.toList := by rw [hdt]
          rw [← hdt] at e1 hcells
          subst hdd
          have hns : nm.data.toList.length = nm.size := by simp
          have hds : dt.data.toList.length = dt.size := by simp
          rw [hns, hds] at hnn
          have HSU := Lib.hid hsu
          have HCC := Lib.hid hcells
          have HDS := Lib.hid hds
          have hd3 := hnn.2
          have hn12 := hnn.1
          have hL6 : L.length ≤ 800000 := by omega
          clear hnm hf hns hds hsu hnn hdt hcells
          go_wp2_with fail
          refine (rentryW_any _ L nm dt w.heap.size _ HBV.out (by omega) (by omega) hd3 (by omega)).mono ?_
          rintro e w6 ⟨v6, rfl, hv6, hg6⟩
          have hl6 : (L ++ entB ⟨nm.data.toList, dt.data.toList⟩).length ≤ 801000 := by
            have := entB_length ⟨nm.data.toList, dt.data.toList⟩ (by simpa using hn12)
            rw [List.length_append]; omega
          obtain ⟨L6, hL6e⟩ : ∃ L6, L ++ entB ⟨nm.data.toList, dt.data.toList⟩ = L6 := ⟨_, rfl⟩
          rw [hL6e] at hv6 hl6
          obtain ⟨a6, c6, hs6, -⟩ := hv6.shape
          subst hs6
          have HV6 := Lib.hid hv6
          have HF6 := Lib.hid (HFR.out.step hg6.fr (fun b hb hl => by have := (HBV.out.lt b hb).1; omega))
          have hz6 := hg6.fr.size
          have HLE6 := Lib.hid hL6e
          obtain ⟨x0, x1⟩ := HCC.out w6 HF6.out
          clear hv6 hg6 hL6e e0 e1
          go_wp2_with fail
          refine (rfind_any _ ref B1 nm w6 (Vec.keep H1.out HF6.out (fun _ _ h => h))).mono ?_
          rintro e w7 ⟨rfl, hf7⟩
          have hbl : (baseOf ref nm.data.toList).length ≤ 300 := baseOf_len _ (fun f hf => (HR.out.ok f hf).2) _
          obtain ⟨bs, hbs⟩ : ∃ bs : ByteArray, bs = ⟨(baseOf ref nm.data.toList).toArray⟩ := ⟨_, rfl⟩
          have hbd : baseOf ref nm.data.toList = bs.data.toList := by rw [hbs]
          rw [← hbs]
          rw [hbd] at hbl
          have hbs2 : bs.data.toList.length = bs.size := by simp
          rw [hbs2] at hbl
          have HBE := Lib.hid hbd
          have HV7 := Lib.hid (HV6.out.keep hf7 (fun _ _ h => h))
          have HF7 := Lib.hid (HF6.out.step hf7 (fun _ h _ => h))
          have hz7 := hf7.size
          clear x0 x1 hf7 hbs hbd hbs2
          obtain ⟨x0, x1⟩ := HCC.out w7 HF7.out
          have hz0 : sized blk bs.size = 0 := by unfold sized; rw [if_neg (by omega), if_neg (by omega)]
          have hz1 : sized blk dt.size = 0 := by unfold sized; rw [if_neg (by omega), if_neg (by omega)]
          have HZ0 := Lib.hid hz0
          have HZ1 := Lib.hid hz1
          clear hz0 hz1
          go_wp2_with fail
          refine (rdiff_any bs dt blk w7 HZ0.out HZ1.out).mono ?_
          rintro e w8 ⟨x, l, rfl, hot, hm, hf8⟩
          have hdm := diff_makes bs.data.toList dt.data.toList blk (by omega) (by rw [HDS.out]; exact hd3)
          rw [← hm] at hdm
          have hll : l.length ≤ 300 := by have := hdm.2.2; rw [List.length_map, HDS.out] at this; omega
          have htok := fun t ht => applyF_ok bs.data.toList blk (l.map (·.1)) [] _ hdm.1 t ht
          have hbs2 : bs.data.toList.length = bs.size := by simp
          have hnb := (nBlocks_mul bs.data.toList.length blk (by omega)).2.2
          rw [hbs2] at hnb
          have hsm : ∀ t ∈ l.map (·.1), (t.c = 0 ∧ t.b = 0 ∧ t.d.length ≤ 255) ∨ (0 < t.c ∧ t.c ≤ 255 ∧ 0 ≤ t.b ∧ t.b ≤ 300 ∧ t.d = []) := fun t ht => by
            have h1 := htok t ht
            rcases hdm.2.1 t ht with h | h
            · exact .inl ⟨h.1, h.2.1, h.2.2.2⟩
            · refine .inr ⟨h.1, h.2.1, h.2.2.1, ?_, h.2.2.2⟩
              unfold tokOk at h1
              simp at h1
              omega
          have HDM := Lib.hid hsm
          obtain ⟨xa, xc, hxs, -⟩ := hot.vec.shape
          subst hxs
          have HM := Lib.hid hm
          have HOT := Lib.hid hot
          have HF8 := Lib.hid (HF7.out.step hf8 (fun _ h _ => h))
          have HV8 := Lib.hid (HV7.out.keep hf8 (fun _ _ h => h))
          have hz8 := hf8.size
          clear hm hdm hot hf8 x0 x1 htok hnb hsm hbs2
          go_wp2_with fail
          refine (rput_any _ L6 l.length 2 w.heap.size 2 _ w8 HV8.out (by omega) (by omega) rfl rfl (by omega) (by omega)).mono ?_
          rintro e w9 ⟨v9, rfl, hv9, hg9⟩
          have hl9 : (L6 ++ putN 2 l.length).length ≤ 801010 := by rw [List.length_append, length_putN]; omega
          obtain ⟨L8, hL8e⟩ : ∃ L8, L6 ++ putN 2 l.length = L8 := ⟨_, rfl⟩
          rw [hL8e] at hv9 hl9
          obtain ⟨a9, c9, hs9, -⟩ := hv9.shape
          subst hs9
          have HV9 := Lib.hid hv9
          have HG9 := Lib.hid hg9
          have HLE8 := Lib.hid hL8e
          clear hv9 hg9 hL8e
          go_wp2_with fail
          go_loopw [7, 13] (fun bv iv wr => ∃ j : Nat, j ≤ l.length ∧ iv = .int .i64 j ∧ Grew w8 (.slice a6 L6.length c6) bv wr ∧ Vec wr w.heap.size 5 1 bv (toksTo L8 (l.map (·.1)) j).length (bcells (toksTo L8 (l.map (·.1)) j))) (fun _ iv _ => l.length - (intOf iv).toNat)
          case atStart => exact ⟨0, Nat.zero_le _, rfl, HG9.out, by unfold toksTo; rw [List.take_zero, List.flatMap_nil, List.append_nil]; exact HV9.out⟩
          case round =>
            obtain ⟨j, hj, rfl, hgr, hbv⟩ := hrel
            obtain ⟨ba2, bc2, hbq, -⟩ := hbv.shape
            subst hbq
            have HGR := Lib.hid hgr
            have HBW := Lib.hid hbv
            have hwz2 := hgr.fr.size
            have hLj := toksTo_len L8 (l.map (·.1)) (fun t ht => by rcases HDM.out t ht with h | h; exact h.2.2; rw [h.2.2.2.2]; simp) j
            rw [List.length_map] at hLj
            clear hgr hbv
            by_cases hlj : j < l.length
            · have hmem : l[j] ∈ l := List.getElem_mem hlj
              have hsh := HDM.out l[j].1 (List.mem_map_of_mem hmem)
              have hstep := toksTo_succ L8 (l.map (·.1)) j (by simpa using hlj)
              rw [List.getElem_map] at hstep
              have hel := HOT.out.lt l[j] hmem
              -- what a world behind says of the token
              have hcell : ∀ v1 W, Grew w8 (.slice a6 L6.length c6) v1 W → ∃ gt, xa = some ⟨gt, 0, none⟩ ∧ W.cell? ⟨gt, j * 3, none⟩ = some (.int .i64 l[j].1.b) ∧ W.cell? ⟨gt, j * 3 + 1, none⟩ = some (.int .i64 l[j].1.c) ∧ W.cell? ⟨gt, j * 3 + 2, none⟩ = some l[j].2 ∧ IsB W l[j].2 l[j].1.d := fun v1 W hW => by
                have hot := HOT.out.below hW.fr (fun b hb => by have := (HV6.out.lt b hb).2; omega)
                obtain ⟨gt, ct, hqt, t0, t1, t2⟩ := hot.toks.get j hlj
                simp only [Value.slice.injEq, true_and] at hqt
                exact ⟨gt, hqt.1, t0, t1, t2, (hot.data l[j] hmem).isB⟩
              obtain ⟨ea, ec, hev, -⟩ := ((HOT.out.data l[j] hmem)).shape
              obtain ⟨L, hLe⟩ : ∃ L, toksTo L8 (l.map (·.1)) j = L := ⟨_, rfl⟩
              rw [hLe] at hstep hLj HBW HGR ⊢
              have hLJ : L.length ≤ 890000 := by omega
              obtain ⟨f, hf⟩ : ∃ f, l[j] = f := ⟨_, rfl⟩
              rw [hf] at hsh hev hel hstep hcell
              obtain ⟨⟨tb, tc, td⟩, ev⟩ := f
              simp only at hsh hev hel hstep hcell
              subst hev
              have HC := Lib.hid hcell
              obtain ⟨gt, rfl, t0, t1, t2, -⟩ := hcell _ wr HGR.out
              have HST := Lib.hid hstep
              clear hf hel hstep hcell hmem hLe hLj
              rcases hsh with ⟨rfl, rfl, htd⟩ | ⟨hc1, hc2, hb1', hb2', rfl⟩
              · have htw : IntKind.u8.wrap (td.length : Int) = (td.length : Int) := IntWalk.u8_in _ (by omega)
                have HB8 := Lib.hid (byte_small td.length (by omega))
                go_upto_region 19 with (at_builtin; refine wpList_append_vec rfl _ _ _ rfl w.heap.size 5 1 1 elt_u8 (HBW.out.keep ((Fr.refl (fun _ => False) _).alloc _) (fun _ _ h => h)) rfl (m := 2) (Reads.new _ _ _ _ (by first | omega | simp) _ _) rfl rfl (by intro u hu; simp at hu; rcases hu with rfl | rfl <;> rfl) (by unfold maxLen; omega) (by omega) (by simp; omega) ?_; intro v10 w10 hv10 hf10 hd10 hn10; obtain ⟨a10, c10, hs10, -⟩ := hv10.shape; subst hs10; have HG10 := Lib.hid (HGR.out.step (Grew.alloc _ ⟨hf10, hd10⟩)); have HV10 := Lib.hid hv10; have hex := HC.out _ w10 HG10.out; obtain ⟨gt', hgt', y0, y1, y2, hei⟩ := hex; have hgg := (show gt = gt' from (by simpa using hgt')); subst hgg; have HE10 := Lib.hid hei; clear hei hgt'; clear hv10 hf10 hd10 hn10)
                have hv10 : Vec w10 w.heap.size 5 1 (.slice a10 (L.length + 2) c10) (L ++ [0, UInt8.ofNat td.length]).length (bcells (L ++ [0, UInt8.ofNat td.length])) := by
                  rw [bcells_append, show [0, UInt8.ofNat td.length] = [0] ++ [UInt8.ofNat td.length] from rfl, bcells_append, HB8.out, List.length_append]; exact HV10.out
                have HV10' := Lib.hid hv10
                have hz10 := HG10.out.fr.size
                clear hv10 t0 t1 t2
                go_wp2_with (at_builtin; refine wpList_append_vec rfl _ _ _ rfl w.heap.size 5 1 1 elt_u8 HV10'.out rfl (m := td.length) (Reads.ofB HE10.out) rfl (by simp) (bcells_one _) (by rw [List.length_append]; unfold maxLen; simp; omega) (by rw [List.length_append]; simp; omega) (by omega) ?_; intro v11 w11 hv11 hf11 hd11 hn11; obtain ⟨a11, c11, hs11, -⟩ := hv11.shape; subst hs11; have HG11 := Lib.hid (HG10.out.step ⟨hf11, hd11⟩); have HV11 := Lib.hid hv11; clear hv11 hf11 hd11 hn11)
                have hg11 := HG11.out
                rw [show (L ++ [0, UInt8.ofNat td.length]).length = L.length + 2 by simp] at hg11
                refine ⟨⟨j + 1, by omega, by go_num, hg11, ?_⟩, by simp [intOf]; omega⟩
                have e : toksTo L8 (l.map (·.1)) (j + 1) = L ++ [0, UInt8.ofNat td.length] ++ td := by rw [HST.out]; simp [tokB]
                have hv := HV11.out
                rw [← bcells_append] at hv
                have e2 : (L ++ [0, UInt8.ofNat td.length] ++ td).length = L.length + 2 + td.length := by simp; omega
                have e3 : (L ++ [0, UInt8.ofNat td.length]).length = L.length + 2 := by simp
                rw [e3] at hv
                rw [e, e2]
                exact hv
              · obtain ⟨nb, rfl⟩ := Int.eq_ofNat_of_zero_le hb1'
                obtain ⟨nc, rfl⟩ := Int.eq_ofNat_of_zero_le (a := tc) (by omega)
                have hc0 : ((nc : Int) == 0) = false := by simp; omega
                have hcw : IntKind.u8.wrap (nc : Int) = (nc : Int) := IntWalk.u8_in _ (by omega)
                have hbw2 : IntKind.u64.wrap (nb : Int) = (nb : Int) := by rw [show ∀ n : Int, IntKind.u64.wrap n = n % 18446744073709551616 from fun n => by simp [IntKind.wrap, IntKind.bits, IntKind.signed]]; omega
                have HB8 := Lib.hid (byte_small nc (by omega))
                go_upto_region 21 with (at_builtin; refine wpList_append_vec rfl _ _ _ rfl w.heap.size 5 1 1 elt_u8 (HBW.out.keep ((Fr.refl (fun _ => False) _).alloc _) (fun _ _ h => h)) rfl (m := 1) (Reads.new _ _ _ _ (by first | omega | simp) _ _) rfl rfl (by intro u hu; simp at hu; subst hu; rfl) (by unfold maxLen; omega) (by omega) (by simp; omega) ?_; intro v10 w10 hv10 hf10 hd10 hn10; obtain ⟨a10, c10, hs10, -⟩ := hv10.shape; subst hs10; have HG10 := Lib.hid (HGR.out.step (Grew.alloc _ ⟨hf10, hd10⟩)); have HV10 := Lib.hid hv10; have hex := HC.out _ w10 HG10.out; obtain ⟨gt', hgt', x0, -⟩ := hex; have hgg := (show gt = gt' from (by simpa using hgt')); subst hgg; clear hgt'; clear hv10 hf10 hd10 hn10)
                have hv10 : Vec w10 w.heap.size 5 1 (.slice a10 (L.length + 1) c10) (L ++ [1]).length (bcells (L ++ [1])) := by
                  rw [bcells_append, List.length_append]; exact HV10.out
                have HV10' := Lib.hid hv10
                have hz10 := HG10.out.fr.size
                clear hv10 t0 t1 t2
                go_wp2_with fail
                refine (rput_any _ (L ++ [1]) nb 2 w.heap.size 2 _ w10 HV10'.out (by omega) (by simp; omega) rfl rfl (by omega) (by omega)).mono ?_
                rintro e w11 ⟨v11, rfl, hv11, hg11⟩
                obtain ⟨L11, hLe⟩ : ∃ L11, L ++ [1] ++ putN 2 nb = L11 := ⟨_, rfl⟩
                have hl11 : L11.length = L.length + 3 := by rw [← hLe]; simp [length_putN]
                rw [hLe] at hv11
                obtain ⟨a11, c11, hs11, -⟩ := hv11.shape
                subst hs11
                have HG11 := Lib.hid (HG10.out.step hg11)
                have HV11 := Lib.hid hv11
                have HLA := Lib.hid hLe
                have hLL : L11.length ≤ 890003 := by omega
                have HL11 := Lib.hid hl11
                obtain ⟨gt', hgt', -, y1, -⟩ := HC.out _ w11 HG11.out
                have hgg : gt = gt' := by simpa using hgt'
                subst hgg
                have hz11 := HG11.out.fr.size
                clear hv11 hg11 hLe hl11 hgt' x0
                go_wp2_with (at_builtin; refine wpList_append_vec rfl _ _ _ rfl w.heap.size 5 1 1 elt_u8 (HV11.out.keep ((Fr.refl (fun _ => False) _).alloc _) (fun _ _ h => h)) rfl (m := 1) (Reads.new _ _ _ _ (by first | omega | simp) _ _) rfl rfl (by intro u hu; simp at hu; subst hu; rfl) (by unfold maxLen; omega) (by omega) (by simp; omega) ?_; intro v12 w12 hv12 hf12 hd12 hn12; obtain ⟨a12, c12, hs12, -⟩ := hv12.shape; subst hs12; have HG12 := Lib.hid (HG11.out.step (Grew.alloc _ ⟨hf12, hd12⟩)); have HV12 := Lib.hid hv12; clear hv12 hf12 hd12 hn12)
                refine ⟨⟨j + 1, by omega, by go_num, HG12.out, ?_⟩, by simp [intOf]; omega⟩
                have hcn : ¬ ((nc : Int) = 0) := by omega
                have e : toksTo L8 (l.map (·.1)) (j + 1) = L11 ++ [UInt8.ofNat nc] := by
                  rw [HST.out, ← HLA.out]
                  unfold tokB
                  rw [if_neg hcn]
                  simp
                have hv := HV12.out
                rw [← HB8.out, ← bcells_append] at hv
                have e2 : (L11 ++ [UInt8.ofNat nc]).length = L11.length + 1 := by simp
                rw [e, e2]
                exact hv
            · obtain rfl : j = l.length := by omega
              obtain ⟨L9, hLe⟩ : ∃ L9, toksTo L8 (l.map (·.1)) l.length = L9 := ⟨_, rfl⟩
              rw [hLe] at hLj HBW ⊢
              have HLE9 := Lib.hid hLe
              clear hLe
              go_wp2_with fail
              have hLfin : bodyTo L5 src ref blk (k + 1) = L9 := by
                rw [HSU.out, ← HLE9.out, ← HLE8.out, ← HLE6.out]
                unfold targB toksB targToks toksTo
                rw [HBE.out, ← HM.out, List.take_of_length_le (by simp)]
                simp
              exact ⟨⟨k + 1, by omega, by go_num, HF8.out.step HGR.out.fr (fun b hb hl => by have := (HV6.out.lt b hb).1; omega), by rw [hLfin]; exact HBW.out⟩, by simp [intOf]; omega⟩
        · obtain rfl : k = src.length := by omega
          obtain ⟨L, hLe⟩ : ∃ L, bodyTo L5 src ref blk src.length = L := ⟨_, rfl⟩
          rw [hLe] at hL HBV ⊢
          have HLEE := Lib.hid hLe
          have hll : L.length ≤ 900000 := by omega
          have hdl := dgN_lt L
          have HDL := Lib.hid (dgN_int L)
          have hcv := run_string_of (P := Tryz.prog) wr 25 9 5 _ _ Tryz.underlying25 Tryz.underlying5 Tryz.underlying9 HBV.out.isB
          clear hLe hfr
          go_wp2_with fail
          refine (rdigest_any _ _ (by
            have hsz : (⟨L.toArray⟩ : ByteArray).size = L.length := by show L.toArray.size = _; simp
            unfold maxLen; omega)).mono ?_
          rintro e w' ⟨rfl, rfl⟩
          rw [show (⟨L.toArray⟩ : ByteArray).data.toList = L by simp]
          go_wp2_with fail
          refine (rput_any _ L (dgN L) 8 w.heap.size 8 _ wr HBV.out (by omega) (by omega) rfl HDL.out.symm hdl (by omega)).mono ?_
          rintro e w6 ⟨v6, rfl, hv6, hg6⟩
          have hfin : recOf src ref blk = L ++ putN 8 (dgN L) := by
            have : recBody src ref blk = L := by
              rw [← HLEE.out, ← HL5.out, ← HLE.out]
              unfold recBody bodyTo headTo
              rw [List.take_of_length_le (l := ref) (by simp), List.take_of_length_le (l := src) (by simp)]
              simp
            unfold recOf
            rw [this]
          have hcv6 := run_string_of (P := Tryz.prog) w6 25 9 5 _ _ Tryz.underlying25 Tryz.underlying5 Tryz.underlying9 hv6.isB
          obtain ⟨a6, c6, hs6, -⟩ := hv6.shape
          rw [← hfin] at hcv6 hs6
          subst hs6
          have HF6 := Lib.hid (HFR.out.step hg6.fr (fun b hb hl => by have := (HBV.out.lt b hb).1; omega))
          obtain ⟨RR', hRR⟩ : ∃ R, recOf src ref blk = R := ⟨_, rfl⟩
          rw [hRR] at hcv6 ⊢
          have HRR := Lib.hid hRR
          clear hv6 hg6 hfin hRR hcv
          go_wp2_with fail
          go_ret
          exact ⟨by rw [HRR.out]; rfl, HF6.out⟩
end Go.Proofs.YtlcdgbhigfgehabGreatDoor
/- files: a tree for the program, in fresh bytes; kept: does it read as it did? -/
namespace Go.Proofs.YtlcdgbhigfgehabGreatDoor
open Go.RowKit
set_option maxRecDepth 100000

/-- A list of files whose data lies in rows of its own, with two bytes of room. -/
structure Laid (w : World) (B : Nat) (v : Value) (l : List (Fil × Value)) : Prop where
  vec : Vec w B 37 2 v l.length (filCells l)
  data : ∀ p ∈ l, ∃ g, p.2 = .slice (some ⟨g, 0, none⟩) p.1.data.length (p.1.data.length + 2) ∧ B ≤ g ∧ Own w g 5 (roomyCells p.1.data)
section
variable {w w1 : World} {S : Nat → Prop} {B : Nat} {v : Value} {l : List (Fil × Value)}
theorem Laid.nil (w : World) (B : Nat) : Laid w B (.slice none 0 0) [] := ⟨Vec.nil _ _ _ _, fun _ h => by simp at h⟩
theorem Laid.keep0 (h : Laid w B v l) (k : Fr (fun _ => False) w w1) : Laid w1 B v l :=
  ⟨h.vec.keep k (fun _ _ h => h), fun p hp => by obtain ⟨g, e, hg, ho⟩ := h.data p hp; exact ⟨g, e, hg, ho.keep k id⟩⟩
theorem Laid.fils (h : Laid w B v l) (hd : ∀ p ∈ l, p.1.data.length ≤ 140737488355328) : Fils w B v l := by
  refine ⟨h.vec, fun p hp => ?_, fun p hp b hb => ?_⟩
  · obtain ⟨g, e, hg, ho⟩ := h.data p hp
    rw [e]
    exact IsB.ofOwn0 (cap := p.1.data.length + 2) (l := p.1.data) (rest := [.int .u8 77, .int .u8 88]) ho rfl (by omega) (by have := hd p hp; unfold maxLen; omega)
  · obtain ⟨g, e, hg, ho⟩ := h.data p hp
    rw [e] at hb
    have : g = b := by simpa [Value.ownBlock] using hb
    subst this
    exact ⟨hg, ho.lt⟩
end
set_option maxHeartbeats 4000000 in
theorem files_any (v : Value) (l : List Fil) (B : Nat) (w : World) (h : Refs w B v l) (hd : ∀ f ∈ l, f.data.length ≤ 1000000) (hl : l.length ≤ 1000000) :
    Calls Tryz.prog 101 #[v] w fun e w' => ∃ v' m, e = .returned v' ∧ m.map (·.1) = l ∧ Laid w' w.heap.size v' m ∧ Fr (fun _ => False) w w' := by
  have H := Lib.hid h
  obtain ⟨va, vc, rfl, -⟩ := Vec.shape h
  have HD := Lib.hid hd
  clear h hd
  go_enter Tryz.func101, Tryz.ntmps101
  go_wp2_with fail
  go_loopw [3, 4] (fun ov iv wr => ∃ (k : Nat) (m : List (Fil × Value)), k ≤ l.length ∧ iv = .int .i64 k ∧ Fr (fun _ => False) w wr ∧ m.map (·.1) = l.take k ∧ Laid wr w.heap.size ov m) (fun _ iv _ => l.length - (intOf iv).toNat)
  case atStart => exact ⟨0, [], Nat.zero_le _, rfl, Fr.refl _ _, rfl, Laid.nil _ _⟩
  case round =>
    obtain ⟨k, m, hk, rfl, hfr, hm, hla⟩ := hrel
    obtain ⟨oa, oc, hoq, -⟩ := hla.vec.shape
    subst hoq
    have HFR := Lib.hid hfr
    have HM := Lib.hid hm
    have HLA := Lib.hid hla
    have hml : m.length = k := by
      have := congrArg List.length hm
      rw [List.length_map, List.length_take] at this; omega
    have hwz := hfr.size
    have HML := Lib.hid hml
    have hmk : m.length ≤ 1000000 := by omega
    clear hm hla hml
    by_cases hlt : k < l.length
    · have hfl : Refs wr B (.slice va l.length vc) l := Vec.keep H.out hfr (fun _ _ h => h)
      obtain ⟨g, cap, hq, e0, e1, hgl⟩ := hfl.get k hlt
      simp only [Value.slice.injEq, true_and] at hq
      obtain ⟨rfl, rfl⟩ := hq
      have hnn := HD.out l[k] (List.getElem_mem _)
      have htk : l.take (k + 1) = l.take k ++ [l[k]] := List.take_succ_eq_append_getElem hlt
      clear hfl hfr
      obtain ⟨f, hf⟩ : ∃ f, l[k] = f := ⟨_, rfl⟩
      rw [hf] at hnn htk e0 e1
      obtain ⟨fn, d⟩ := f
      simp only at hnn htk e0 e1
      obtain ⟨dt, hdt⟩ : ∃ dt : ByteArray, dt = ⟨d.toArray⟩ := ⟨_, rfl⟩
      have hdd : d = dt.data.toList := by rw [hdt]
      rw [← hdt] at e1
      subst hdd
      obtain ⟨nm, hnm⟩ : ∃ nm : ByteArray, nm = ⟨fn.toArray⟩ := ⟨_, rfl⟩
      rw [← hnm] at e0
      have hds : dt.data.toList.length = dt.size := by simp
      rw [hds] at hnn
      have HTK := Lib.hid htk
      have HNM := Lib.hid hnm
      have HDS := Lib.hid hds
      clear hf hds htk hdt hnm
      go_upto_region 5 with fail
      go_region_law
        (first
          | (go_simp; go_at_call 105; refine (roomy_any dt _ (by omega)).mono ?_; rintro e w5 ⟨gd, rfl, hgd, hro, hf5⟩; have y0 := hf5.cell (show (wr.drew).cell? ⟨g, k * 2, none⟩ = some (.string nm) from (by simpa using e0)) id; have HR5 := Lib.hid hro; have HF5 := Lib.hid ((Fr.refl (fun _ => False) wr).drew.step hf5 (fun _ h _ => h)); have hgd2 : wr.heap.size ≤ gd := (by simpa using hgd); have hgz := hro.lt; clear hgd hro hf5)
          | (rw [if_pos (by rfl)]; refine wp_append_vec (.tmp 11) (.tmp 24) 23 rfl w.heap.size 37 2 40 elt_fil (v := .slice oa m.length oc) (n := m.length) (xs := filCells m) ((HLA.out.vec.keep HF5.out (fun _ _ h => h)).keep ((Fr.refl (fun _ => False) _).alloc _) (fun _ _ h => h)) rfl (m := 1) (Reads.new _ _ _ _ (by simp) _ _) rfl rfl (fil_one _ _ _ _) (by unfold maxLen; omega) (by omega) (by simp; omega) ?_; intro v6 w6 hv6 hf6 hd6; obtain ⟨a6, c6, hs6, -⟩ := hv6.shape; subst hs6; have HV6 := Lib.hid hv6; have HF6 := Lib.hid hf6; clear hv6 hf6 hd6))
      all_goals
        go_wp2_with fail
        have hA : Fr (fun _ => False) w5 (w5.alloc (.cells #[.string nm, .slice (some ⟨gd, 0, none⟩) dt.size (dt.size + 2)] 37)) := (Fr.refl _ _).alloc _
        have hk5 : Fr (fun _ => False) wr (w5.alloc (.cells #[.string nm, .slice (some ⟨gd, 0, none⟩) dt.size (dt.size + 2)] 37)) := HF5.out.step hA (fun _ h _ => h)
        have hv5 := HLA.out.vec.keep hk5 (fun _ _ h => h)
        refine ⟨⟨k + 1, m ++ [(⟨fn, dt.data.toList⟩, .slice (some ⟨gd, 0, none⟩) dt.size (dt.size + 2))], by omega, by go_num, (HFR.out.step hk5 (fun _ h _ => h)).step HF6.out (fun b hb hl => by have := (HLA.out.vec.lt b hb).1; omega), by rw [List.map_append, HM.out, HTK.out]; rfl, ⟨?_, ?_⟩⟩, by simp [intOf]; omega⟩
        · have hv := HV6.out
          rw [HNM.out] at hv
          rw [List.length_append, filCells_snoc]; exact hv
        · intro p hp
          rcases List.mem_append.1 hp with hp | hp
          · obtain ⟨g', e', hg', ho'⟩ := HLA.out.data p hp
            have ho5 := ho'.keep hk5 id
            exact ⟨g', e', hg', ho5.keep HF6.out (hv5.apartT ho5 (by decide))⟩
          · simp at hp
            subst hp
            have ho5 := HR5.out.keep hA id
            exact ⟨gd, by rw [HDS.out], by omega, ho5.keep HF6.out (hv5.apartT ho5 (by decide))⟩
    · obtain rfl : k = l.length := by omega
      have hmm : m.map (·.1) = l := by rw [HM.out, List.take_length]
      have HMM := Lib.hid hmm
      clear hfr hmm
      go_wp2_with fail
      go_ret
      exact ⟨_, m, rfl, HMM.out, HLA.out, HFR.out⟩
set_option maxHeartbeats 4000000 in
theorem kept_any (v v1 : Value) (m : List (Fil × Value)) (l : List Fil) (B B1 : Nat) (w : World) (h : Laid w B v m) (h1 : Refs w B1 v1 l) (hm : m.map (·.1) = l) (hd : ∀ f ∈ l, f.data.length ≤ 1000000) :
    Calls Tryz.prog 102 #[v, v1] w fun e w' => e = .returned (.bool true) ∧ Fr (fun _ => False) w w' := by
  have hml : m.length = l.length := by rw [← hm]; simp
  have hL := Vec.len h1
  unfold maxLen at hL
  have H := Lib.hid h
  have H1 := Lib.hid h1
  have HM := Lib.hid hm
  obtain ⟨va, vc, rfl, -⟩ := h.vec.shape
  obtain ⟨vb, vd, rfl, -⟩ := Vec.shape h1
  have HD := Lib.hid hd
  rw [hml] at H ⊢
  have HML := Lib.hid hml
  clear h h1 hm hd hml
  go_enter Tryz.func102, Tryz.ntmps102
  go_wp2_with fail
  go_loopw [5] (fun iv wr => ∃ k : Nat, k ≤ l.length ∧ iv = .int .i64 k ∧ Fr (fun _ => False) w wr) (fun iv _ => l.length - (intOf iv).toNat)
  case atStart => exact ⟨0, Nat.zero_le _, rfl, Fr.refl _ _⟩
  case round =>
    obtain ⟨k, hk, rfl, hfr⟩ := hrel
    have HFR := Lib.hid hfr
    by_cases hlt : k < l.length
    · have hfl : Refs wr B1 (.slice vb l.length vd) l := Vec.keep H1.out hfr (fun _ _ h => h)
      obtain ⟨g, cap, hq, e0, e1, hgl⟩ := hfl.get k hlt
      simp only [Value.slice.injEq, true_and] at hq
      obtain ⟨rfl, rfl⟩ := hq
      have hkm : k < m.length := by rw [HML.out]; exact hlt
      have hla := H.out.keep0 hfr
      obtain ⟨g2, cap2, rest2, hq2, -, ho2, -⟩ := hla.vec.row (by omega)
      simp only [Value.slice.injEq] at hq2
      obtain ⟨rfl, -, rfl⟩ := hq2
      have hge := filCells_get m k hkm
      have f0 := ho2.cell (i := k * 2) (by rw [List.getElem?_append_left (by simp; omega)]; exact hge.1)
      have f1 := ho2.cell (i := k * 2 + 1) (by rw [List.getElem?_append_left (by simp; omega)]; exact hge.2)
      obtain ⟨gd, hdv, -, hro⟩ := hla.data m[k] (List.getElem_mem _)
      have hmk : m[k].1 = l[k] := by
        have := congrArg (·[k]?) HM.out
        simp only [List.getElem?_map, List.getElem?_eq_getElem hlt, List.getElem?_eq_getElem hkm, Option.map_some, Option.some.injEq] at this
        exact this
      rw [hdv] at f1
      rw [hmk] at f0 f1 hro
      have hnn := HD.out l[k] (List.getElem_mem _)
      clear hfl hla ho2 hge hdv hmk hfr
      obtain ⟨f, hf⟩ : ∃ f, l[k] = f := ⟨_, rfl⟩
      rw [hf] at hnn e0 e1 f0 f1 hro
      obtain ⟨fn, d⟩ := f
      simp only at hnn e0 e1 f0 f1 hro
      obtain ⟨dt, hdt⟩ : ∃ dt : ByteArray, dt = ⟨d.toArray⟩ := ⟨_, rfl⟩
      have hdd : d = dt.data.toList := by rw [hdt]
      rw [← hdt] at e1
      subst hdd
      obtain ⟨nm, hnm⟩ : ∃ nm : ByteArray, nm = ⟨fn.toArray⟩ := ⟨_, rfl⟩
      rw [← hnm] at e0 f0
      have hds : dt.data.toList.length = dt.size := by simp
      rw [hds] at hnn f1
      have hst := fun n => still_any dt gd (wr.drewN n) (by omega) (hro.keep ((Fr.refl (fun _ => False) wr).drewN n) id)
      have HST := Lib.hid hst
      clear hf hds hst hnm hdt hro
      go_wp2_with fail
      go_quiet ((go_at_call 106; exact Calls.quiet_of_same ((HST.out _).mono (fun _ _ h => ⟨h.1, h.2.symm⟩))))
      go_wp2_with fail
      go_quiet (fail)
      go_wp2_with fail
      exact ⟨⟨k + 1, by omega, by go_num, HFR.out.drewN _⟩, by simp [intOf]; omega⟩
    · obtain rfl : k = l.length := by omega
      clear hfr
      go_wp2_with fail
      go_ret
      exact ⟨rfl, HFR.out⟩
end Go.Proofs.YtlcdgbhigfgehabGreatDoor
/- recorded: Record of two lists of files is the document's, and leaves them alone. -/
namespace Go.Proofs.YtlcdgbhigfgehabGreatDoor
open Go.RowKit
set_option maxRecDepth 100000

set_option maxHeartbeats 4000000 in
theorem recorded_any (v0 v1 : Value) (src ref : List Fil) (B0 B1 : Nat) (block : Int) (w : World) (hg : ErrType w) (h0 : Refs w B0 v0 src) (h1 : Refs w B1 v1 ref) (hn0 : ∀ f ∈ src, f.name.length ≤ 1000000 ∧ f.data.length ≤ 1000000) (hn1 : ∀ f ∈ ref, f.name.length ≤ 1000000 ∧ f.data.length ≤ 1000000) (hl0 : src.length ≤ 1000000) (hl1 : ref.length ≤ 1000000) :
    Calls Tryz.prog 98 #[v0, v1, .int .i64 block] w fun e w' => e = .returned (.bool true) ∧ Fr (fun _ => False) w w' := by
  have H0 := Lib.hid h0
  have H1 := Lib.hid h1
  have HN0 := Lib.hid hn0
  have HN1 := Lib.hid hn1
  obtain ⟨a0, c0, rfl, -⟩ := Vec.shape h0
  obtain ⟨a1, c1, rfl, -⟩ := Vec.shape h1
  have hnil := fun (W : World) (a : Option Addr) (m c : Nat) => Lib.run_eql_slice_nil (P := Tryz.prog) W 25 5 a m c 0 0 Tryz.underlying25
  clear h0 h1 hn0 hn1
  go_enter Tryz.func98, Tryz.ntmps98
  go_wp2_with fail
  refine (files_any _ src B0 w H0.out (fun f hf => (HN0.out f hf).2) hl0).mono ?_
  rintro e w1 ⟨x, m, rfl, hm, hla, hf1⟩
  obtain ⟨xa, xc, hxs, -⟩ := hla.vec.shape
  subst hxs
  have HM := Lib.hid hm
  have HLA := Lib.hid hla
  have HF1 := Lib.hid hf1
  clear hm hla hf1
  go_wp2_with fail
  refine (files_any _ ref B1 w1 (Vec.keep H1.out HF1.out (fun _ _ h => h)) (fun f hf => (HN1.out f hf).2) hl1).mono ?_
  rintro e w2 ⟨y, n, rfl, hm2, hlb, hf2⟩
  obtain ⟨ya, yc, hys, -⟩ := hlb.vec.shape
  subst hys
  have HM2 := Lib.hid hm2
  have HLA2 := Lib.hid (HLA.out.keep0 hf2)
  have HLB2 := Lib.hid hlb
  have HF2 := Lib.hid (HF1.out.step hf2 (fun _ h _ => h))
  have hz2 := hf2.size
  have hz1 := HF1.out.size
  have hmd : ∀ p ∈ m, p.1.name.length ≤ 1000000 ∧ p.1.data.length ≤ 1000000 := fun p hp => HN0.out p.1 (by rw [← HM.out]; exact List.mem_map_of_mem hp)
  have hnd : ∀ p ∈ n, p.1.name.length ≤ 1000000 ∧ p.1.data.length ≤ 1000000 := fun p hp => HN1.out p.1 (by rw [← hm2]; exact List.mem_map_of_mem hp)
  have hpr := precord_any _ _ m n w.heap.size block w2 (hg.keep HF2.out id)
    (HLA2.out.fils (fun p hp => by have := (hmd p hp).2; omega)) (show Fils w2 w.heap.size _ n from by
      have h := hlb.fils (fun p hp => by have := (hnd p hp).2; omega)
      exact ⟨h.vec.mono (by omega), h.data, fun p hp b hb => ⟨by have := (h.from_ p hp b hb).1; omega, (h.from_ p hp b hb).2⟩⟩) hmd hnd
  rw [HM.out, hm2] at hpr
  have HPR := Lib.hid hpr
  have HM2' := Lib.hid hm2
  clear hm2 hlb hf2 hmd hnd hpr HM2
  go_wp2_with fail
  refine HPR.out.mono ?_
  rintro e w3 ⟨z, rfl, hf3, hx⟩
  have HX := Lib.hid hx
  have HF3 := Lib.hid (HF2.out.step hf3 (fun _ h _ => h))
  have HLA3 := Lib.hid (HLA2.out.keep0 hf3)
  have HLB3 := Lib.hid (HLB2.out.keep0 hf3)
  have hz3 := hf3.size
  have HW3 := Lib.hid hf3
  clear hx hf3
  go_wp2_with fail
  refine (kept_any _ _ m src _ B0 w3 HLA3.out (Vec.keep H0.out HF3.out (fun _ _ h => h)) HM.out (fun f hf => (HN0.out f hf).2)).mono ?_
  rintro e w4 ⟨rfl, hf4⟩
  have HF4 := Lib.hid (HF3.out.step hf4 (fun _ h _ => h))
  have HX4 := Lib.hid (HX.out.keep hf4)
  have HLA4 := Lib.hid (HLA3.out.keep0 hf4)
  have HLB4 := Lib.hid (HLB3.out.keep0 hf4)
  have hz4 := hf4.size
  have HW4 := Lib.hid (HW3.out.step hf4 (fun _ h _ => h))
  clear hf4
  go_wp2_with fail
  refine (kept_any _ _ n ref _ B1 w4 HLB4.out (Vec.keep H1.out HF4.out (fun _ _ h => h)) HM2'.out (fun f hf => (HN1.out f hf).2)).mono ?_
  rintro e w5 ⟨rfl, hf5⟩
  have HF5 := Lib.hid (HF4.out.step hf5 (fun _ h _ => h))
  have HX5 := Lib.hid (HX4.out.keep hf5)
  have HLA5 := Lib.hid (HLA4.out.keep0 hf5)
  have HLB5 := Lib.hid (HLB4.out.keep0 hf5)
  have hz5 := hf5.size
  have HW5 := Lib.hid (HW4.out.step hf5 (fun _ h _ => h))
  clear hf5 HF3 HF4 HX HX4 HLA3 HLA4 HLB3 HLB4
  have H0' := Lib.hid (show Refs w5 B0 (.slice a0 src.length c0) src from Vec.keep H0.out HF5.out (fun _ _ h => h))
  have H1' := Lib.hid (show Refs w5 B1 (.slice a1 ref.length c1) ref from Vec.keep H1.out HF5.out (fun _ _ h => h))
  by_cases hb1 : block < 1
  · have he : recErr block src ref = .kind 1 := by unfold recErr; rw [if_pos (.inl hb1)]
    have hz : z = .slice none 0 0 := HX5.out.bad (by rw [he]; exact fun h => by cases h)
    subst hz
    have hk : (recErr block src ref).k = 1 := by rw [he]; rfl
    have hnm : (recErr block src ref).name = ByteArray.empty := by rw [he]; rfl
    rw [hk, hnm]
    clear he hk hnm HX5
    go_wp2_with fail
    go_ret
    exact ⟨rfl, HF5.out⟩
  by_cases hb2 : 64 < block
  · have he : recErr block src ref = .kind 1 := by unfold recErr; rw [if_pos (.inr hb2)]
    have hz : z = .slice none 0 0 := HX5.out.bad (by rw [he]; exact fun h => by cases h)
    subst hz
    have hk : (recErr block src ref).k = 1 := by rw [he]; rfl
    have hnm : (recErr block src ref).name = ByteArray.empty := by rw [he]; rfl
    rw [hk, hnm]
    clear he hk hnm HX5
    go_wp2_with fail
    go_ret
    exact ⟨rfl, HF5.out⟩
  have hnb : ¬ (block < 1 ∨ 64 < block) := by omega
  have HT0 := Lib.hid (rtree_any _ src B0 w5 H0'.out (fun f hf => (HN0.out f hf).1) (fun f hf => (HN0.out f hf).2))
  have HT1 := Lib.hid (fun W (hW : Fr (fun _ => False) w5 W) => rtree_any _ ref B1 W (Vec.keep H1'.out hW (fun _ _ h => h)) (fun f hf => (HN1.out f hf).1) (fun f hf => (HN1.out f hf).2))
  cases hts : treeErr src with
  | some fn =>
    have he : recErr block src ref = .file ⟨fn.toArray⟩ 4 := by unfold recErr; rw [if_neg hnb, hts]; rfl
    have hz : z = .slice none 0 0 := HX5.out.bad (by rw [he]; exact fun h => by cases h)
    subst hz
    have hk : (recErr block src ref).k = 4 := by rw [he]; rfl
    have hnm : (recErr block src ref).name = ⟨fn.toArray⟩ := by rw [he]; rfl
    rw [hk, hnm]
    rw [hts] at HT0
    clear he hk hnm HX5 hts hnb
    go_wp2_with fail
    refine HT0.out.mono ?_
    rintro e w6 ⟨rfl, hf6⟩
    have HF6 := Lib.hid (HF5.out.step hf6 (fun _ h _ => h))
    clear hf6
    go_wp2_with fail
    go_ret
    exact ⟨rfl, HF6.out⟩
  | none =>
    rw [hts] at HT0
    cases htr : treeErr ref with
    | some fn =>
      have he : recErr block src ref = .file ⟨fn.toArray⟩ 4 := by unfold recErr; rw [if_neg hnb, hts, htr]; rfl
      have hz : z = .slice none 0 0 := HX5.out.bad (by rw [he]; exact fun h => by cases h)
      subst hz
      have hk : (recErr block src ref).k = 4 := by rw [he]; rfl
      have hnm : (recErr block src ref).name = ⟨fn.toArray⟩ := by rw [he]; rfl
      rw [hk, hnm]
      rw [htr] at HT1
      clear he hk hnm HX5 hts hnb htr
      go_wp2_with fail
      refine HT0.out.mono ?_
      rintro e w6 ⟨rfl, hf6⟩
      have HF6 := Lib.hid (HF5.out.step hf6 (fun _ h _ => h))
      have HT := Lib.hid (HT1.out w6 hf6)
      clear hf6
      go_wp2_with fail
      refine HT.out.mono ?_
      rintro e w7 ⟨rfl, hf7⟩
      have HF7 := Lib.hid (HF6.out.step hf7 (fun _ h _ => h))
      clear hf7
      go_wp2_with fail
      go_ret
      exact ⟨rfl, HF7.out⟩
    | none =>
      obtain ⟨blk, rfl⟩ := Int.eq_ofNat_of_zero_le (a := block) (by omega)
      have he : recErr blk src ref = .none := by unfold recErr; rw [if_neg hnb, hts, htr]; rfl
      have hv := HX5.out.good he
      rw [Int.toNat_natCast] at hv
      have hk : (recErr blk src ref).k = 0 := by rw [he]; rfl
      have hnm : (recErr blk src ref).name = ByteArray.empty := by rw [he]; rfl
      rw [hk, hnm]
      rw [htr] at HT1
      have HTS := Lib.hid ((treeErr_none _).1 hts)
      have HTR := Lib.hid ((treeErr_none _).1 htr)
      have HV5 := Lib.hid hv
      clear he hk hnm HX5 hts hnb htr hv
      obtain ⟨za, zc, hzs, -⟩ := HV5.out.shape
      obtain ⟨R, hR⟩ : ∃ R, recOf src ref blk = R := ⟨_, rfl⟩
      rw [hR] at HV5 hzs
      have HRR := Lib.hid hR
      subst hzs
      clear hR
      go_wp2_with fail
      refine HT0.out.mono ?_
      rintro e w6 ⟨rfl, hf6⟩
      have HF6 := Lib.hid (HF5.out.step hf6 (fun _ h _ => h))
      have HG6 := Lib.hid hf6
      have HT := Lib.hid (HT1.out w6 hf6)
      clear hf6
      go_wp2_with fail
      refine HT.out.mono ?_
      rintro e w7 ⟨rfl, hf7⟩
      have HF7 := Lib.hid (HF6.out.step hf7 (fun _ h _ => h))
      have HG7 := Lib.hid (HG6.out.step hf7 (fun _ h _ => h))
      clear hf7
      go_wp2_with fail
      refine (rrecord_any _ _ src ref B0 B1 blk w7 (Vec.keep H0'.out HG7.out (fun _ _ h => h)) (Vec.keep H1'.out HG7.out (fun _ _ h => h)) (by omega) (by omega) HTS.out HTR.out).mono ?_
      rintro e w8 ⟨rfl, hf8⟩
      rw [HRR.out]
      have HF8 := Lib.hid (HF7.out.step hf8 (fun _ h _ => h))
      have HG8 := Lib.hid (HG7.out.step hf8 (fun _ h _ => h))
      have hv8 := HV5.out.keep HG8.out (fun _ _ h => h)
      have hcv := run_string_of (P := Tryz.prog) w8 25 9 5 _ _ Tryz.underlying25 Tryz.underlying5 Tryz.underlying9 hv8.isB
      have HV8 := Lib.hid hv8
      clear hf8 hv8
      have hrl : 0 < R.length := by rw [← HRR.out]; unfold recOf; rw [List.length_append, length_putN]; omega
      obtain ⟨gz, cz, rz, hqz, hBz, hoz, hcz, h1z, h2z⟩ := HV8.out.row hrl
      simp only [Value.slice.injEq, true_and] at hqz
      obtain ⟨rfl, rfl⟩ := hqz
      have HOZ := Lib.hid hoz
      have HCZ := Lib.hid (show (bcells R ++ rz).length = zc by omega)
      have HW8 := Lib.hid (HW5.out.step HG8.out (fun _ h _ => h))
      clear hoz hcz
      go_wp2_with fail
      refine (spoilt_row gz R.length zc _ w8 HOZ.out HCZ.out h1z h2z).mono ?_
      rintro e w9 ⟨rfl, -, hf9⟩
      have HW9 := Lib.hid (HW8.out.step hf9 (fun b hb hl => by omega))
      have HF9 := Lib.hid (HF2.out.step HW9.out (fun _ h _ => h))
      clear hf9
      go_wp2_with fail
      refine (kept_any _ _ m src _ B0 w9 (HLA2.out.keep0 HW9.out) (Vec.keep H0.out HF9.out (fun _ _ h => h)) HM.out (fun f hf => (HN0.out f hf).2)).mono ?_
      rintro e w10 ⟨rfl, hf10⟩
      have HW10 := Lib.hid (HW9.out.step hf10 (fun _ h _ => h))
      have HF10 := Lib.hid (HF9.out.step hf10 (fun _ h _ => h))
      clear hf10
      go_wp2_with fail
      refine (kept_any _ _ n ref _ B1 w10 (HLB2.out.keep0 HW10.out) (Vec.keep H1.out HF10.out (fun _ _ h => h)) HM2'.out (fun f hf => (HN1.out f hf).2)).mono ?_
      rintro e w11 ⟨rfl, hf11⟩
      have HF11 := Lib.hid (HF10.out.step hf11 (fun _ h _ => h))
      clear hf11
      go_wp2_with fail
      go_ret
      exact ⟨rfl, HF11.out⟩
end Go.Proofs.YtlcdgbhigfgehabGreatDoor
/- The law Filled: with a byte of room too few nothing is replayed, and nothing changes. -/
namespace Go.Proofs.YtlcdgbhigfgehabGreatDoor
open Go.RowKit
set_option maxRecDepth 100000

theorem clear_new {w : World} {gm gd : Nat} (hg : ErrType w) (he : ErrForm w) (h1 : w.heap.size ≤ gm) (h2 : w.heap.size ≤ gd) : Clear gm gd := by
  obtain ⟨T, u, hu⟩ := he
  have l1 := World.block_lt_of_cell? w _ hg
  have l2 := World.block_lt_of_cell? w _ hu
  dsimp only at l1 l2
  exact ⟨by omega, by omega, by omega, by omega⟩
theorem allOf_tree {m : List (Fil × Value)} (h : IsTree (m.map (·.1))) : allOf (m.map (·.1)) ≤ 2400 := allOf_le h
set_option maxHeartbeats 4000000 in
theorem filled_walk (a0 : Option Addr) (n0 c0 : Nat) (z0 : List ByteArray) (bits : Int) (a2 : Option Addr) (n2 c2 : Nat) (z2 : List ByteArray) (older : Int) (block : Int) (w : World) (hg : ErrType w) (he : ErrForm w)
    (h0 : StrsAt w a0 n0 z0 ∧ (∀ s ∈ z0, s.size ≤ maxLen) ∧ n0 ≤ maxLen) (_b1 : -9223372036854775808 ≤ bits) (_b2 : bits ≤ 9223372036854775807) (h2 : StrsAt w a2 n2 z2 ∧ (∀ s ∈ z2, s.size ≤ maxLen) ∧ n2 ≤ maxLen) (_o1 : -9223372036854775808 ≤ older) (_o2 : older ≤ 9223372036854775807) (_k1 : -9223372036854775808 ≤ block) (_k2 : block ≤ 9223372036854775807) :
    Calls Tryz.prog 5 #[.slice a0 n0 c0, .int .i64 bits, .slice a2 n2 c2, .int .i64 older, .int .i64 block] w fun e w' => e = .returned (.bool true) ∧ Fr (fun _ => False) w w' := by
  have H0 := Lib.hid h0
  have H2 := Lib.hid h2
  have HE := Lib.hid he
  have HG := Lib.hid hg
  clear h0 h2 he hg
  go_enter Tryz.func5, Tryz.ntmps5
  go_wp2_with fail
  refine (ktree_any a0 n0 c0 z0 bits w H0.out.1 H0.out.2.1 H0.out.2.2 _b1 _b2).mono ?_
  rintro e w1 ⟨v, src, rfl, hs, hks, hf1⟩
  obtain ⟨sa, sc, rfl, -⟩ := hks.vec.shape
  have HS := Lib.hid hs
  have HKS := Lib.hid hks
  have HF1 := Lib.hid hf1
  clear hs hks hf1
  go_wp2_with fail
  refine (ktree_any a2 n2 c2 z2 older w1 (H2.out.1.keep HF1.out) H2.out.2.1 H2.out.2.2 _o1 _o2).mono ?_
  rintro e w2 ⟨v, ref, rfl, hr, hkr, hf2⟩
  obtain ⟨ra, rc, rfl, -⟩ := hkr.vec.shape
  have HR := Lib.hid hr
  have hz1 := HF1.out.size
  have HKR := Lib.hid (hkr.lift hz1)
  have HKS2 := Lib.hid (HKS.out.keep0 hf2)
  have HF2 := Lib.hid (HF1.out.step hf2 (fun _ h _ => h))
  have hs8 := (tree_data rfl HS.out).2.2
  have hr8 := (tree_data rfl HR.out).2.2
  have hal := allOf_tree HS.out
  have HALL := Lib.hid (kall_any _ src w.heap.size w2 HKS2.out.fils hs8 (tree_data rfl HS.out).1)
  clear hr hkr hf2 HKS _b1 _b2 _o1 _o2
  obtain ⟨N, hN⟩ : ∃ N, allOf (src.map (·.1)) = N := ⟨_, rfl⟩
  rw [hN] at hal HALL
  have HN := Lib.hid hN
  clear hN
  go_wp2_with fail
  refine HALL.out.mono ?_
  rintro e w' ⟨rfl, hw'⟩
  obtain rfl : w2 = w' := hw'.symm
  clear hw'
  have hz2 := HF2.out.size
  rcases Nat.eq_zero_or_pos N with rfl | hpos
  · have HRE := Lib.hid (newErr_none HR.out (Int.le_refl 0) (by omega))
    have HNW := Lib.hid (pnew_any _ ref w.heap.size 0 w2 (HG.out.keep HF2.out id) HKR.out.fils (fun p hp => by have := (tree_data rfl HR.out).2.1 p hp; omega) (fun p hp => by have := (tree_data rfl HR.out).1 p hp; omega) (by omega))
    rw [show (newErr (ref.map (·.1)) 0).k = 0 by rw [HRE.out]; rfl, show (newErr (ref.map (·.1)) 0).name = ByteArray.empty by rw [HRE.out]; rfl] at HNW
    go_wp2_with fail
    refine HNW.out.mono ?_
    rintro e w3 ⟨p, rfl, hf3, hnp⟩
    obtain ⟨gm, gd, rfl, hgm, hgd, hmi⟩ := hnp.1 HRE.out
    have HF3 := Lib.hid hf3
    clear hnp hmi hf3
    go_wp2_with fail
    go_ret
    exact ⟨rfl, HF2.out.step HF3.out (fun _ h _ => h)⟩
  · have z1 : ((N : Int) == 0) = false := by simp; omega
    have hw : wrap64 ((N : Int) - 1) = (N : Int) - 1 := IntWalk.wrap64_in _ (by omega)
    obtain ⟨blk, hblk⟩ : ∃ blk : Nat, 1 + pickOf block 64 = blk := ⟨(1 + pickOf block 64).toNat, by have := pickOf_bounds block 64 (by omega); omega⟩
    have hbb : 1 ≤ blk ∧ blk ≤ 64 := by have := pickOf_bounds block 64 (by omega); omega
    have HBR := Lib.hid (kbrought_any _ _ src ref w.heap.size block ((N : Int) - 1) w2 (HG.out.keep HF2.out id) HKS2.out.fils HKR.out.fils HS.out HR.out _k1 _k2 (by omega) (by omega) blk hblk)
    have HBB := Lib.hid hbb
    clear hblk hbb _k1 _k2
    go_wp2_with fail
    refine HBR.out.mono ?_
    rintro e w3 ⟨bv, gm, gd, rfl, hv, hrl, hgm, hgd, hmi, hf3⟩
    obtain ⟨R, hR⟩ : ∃ R, recOf (src.map (·.1)) (ref.map (·.1)) blk = R := ⟨_, rfl⟩
    rw [hR] at hv hrl
    obtain ⟨gb, cb, rb, rfl, -, -, -⟩ := hv.row hrl
    have hcl := clear_new (HG.out.keep HF2.out id) (HE.out.keep HF2.out) hgm hgd
    have HP := Lib.hid (replay_bad 0 (show planK (ref.map (·.1)) ((N : Int) - 1) R = .inl (.kind 10) by rw [← hR]; exact plan_tight HS.out HR.out HBB.out.1 HBB.out.2 (by rw [HN.out]; omega)))
    have HF3 := Lib.hid (HF2.out.step hf3 (fun _ h _ => h))
    have hz3 := hf3.size
    have hrp := preplay_up gm gd w2.heap.size (ref.map (·.1)) ((N : Int) - 1) 0 gb 0 cb R w3 hmi (by omega) hcl (HG.out.keep HF3.out id) (HE.out.keep HF3.out) hv.isB
    unfold PReplayP at hrp
    rw [HP.out.1, HP.out.2.1, HP.out.2.2] at hrp
    have HRP := Lib.hid hrp
    have HKR3 := Lib.hid ((HKR.out.keep0 hf3).fils)
    have HHB := Lib.hid (fun w4 (k : Fr (fun b => b = gm ∨ b = gd) w3 w4) => HKR3.out.held k (fun b hb => by
      rcases hb with rfl | rfl
      · exact .inl ⟨_, hmi.mir⟩
      · exact .inr hmi.disk.own))
    have HRR := Lib.hid hR
    clear hv hrp hmi hf3 hR
    go_wp2_with fail
    refine HRP.out.mono ?_
    rintro e w4 ⟨rfl, hmi4, hf4⟩
    have HH := Lib.hid (khas_any gm gd w2.heap.size (ref.map (·.1)) ((N : Int) - 1) _ ref w.heap.size w4 hmi4 (HHB.out _ hf4) hr8)
    have HF4 := Lib.hid hf4
    clear hmi4 hf4
    go_wp2_with fail
    refine HH.out.mono ?_
    rintro e w5 ⟨b, rfl, hb, -, hf5⟩
    obtain rfl : b = true := hb.2 rfl
    have HF5 := Lib.hid hf5
    clear hb hf5
    go_wp2_with fail
    go_ret
    exact ⟨rfl, (HF3.out.step HF4.out (fun b hb hl => by rcases hb with rfl | rfl <;> omega)).step HF5.out (fun b hb hl => by subst hb; omega)⟩
end Go.Proofs.YtlcdgbhigfgehabGreatDoor
/- The law Brought: replayed over the older tree a batch leaves the newer one, with just enough room; over any other tree it changes nothing. -/
namespace Go.Proofs.YtlcdgbhigfgehabGreatDoor
open Go.RowKit
set_option maxRecDepth 100000

/-- Do names or sizes differ among the first k? -/
def othF (l m : List Fil) (k : Nat) : Bool := decide (l.length ≠ m.length) || ((l.zip m).take k).any fun p => decide (p.1.name ≠ p.2.name) || decide (p.1.data.length ≠ p.2.data.length)
theorem othF_zero (l m : List Fil) : othF l m 0 = decide (l.length ≠ m.length) := by simp [othF]
theorem othF_succ (l m : List Fil) (k : Nat) (h1 : k < l.length) (h2 : k < m.length) : othF l m (k + 1) = (othF l m k || (decide (l[k].name ≠ m[k].name) || decide (l[k].data.length ≠ m[k].data.length))) := by
  unfold othF
  rw [List.take_succ_eq_append_getElem (by simp; omega), List.any_append, Bool.or_assoc]
  simp
theorem othF_ne {l m : List Fil} {k : Nat} (h : othF l m k = true) : l.map entOf ≠ m.map entOf := by
  intro he
  unfold othF at h
  have hl : l.length = m.length := by simpa using congrArg List.length he
  rw [Bool.or_eq_true] at h
  rcases h with h | h
  · simp [hl] at h
  · obtain ⟨p, hp, hq⟩ := List.any_eq_true.1 h
    have hp2 := List.mem_of_mem_take hp
    obtain ⟨i, hi, rfl⟩ := List.mem_iff_getElem.1 hp2
    simp only [List.length_zip] at hi
    have h3 := congrArg (·[i]?) he
    simp only [List.getElem?_map] at h3
    rw [List.getElem?_eq_getElem (by omega), List.getElem?_eq_getElem (by omega)] at h3
    simp only [Option.map_some, Option.some.injEq, entOf, Ent.mk.injEq] at h3
    simp only [List.getElem_zip, Bool.or_eq_true, decide_eq_true_eq] at hq
    rcases hq with hq | hq
    · exact hq h3.1
    · exact hq h3.2.1
theorem replay_calm {tr : List Fil} {room : Int} {b : List UInt8} : replayD tr room b 0 = false := by
  unfold replayD
  split
  · rfl
  · simp
theorem replayT_tree {tr : List Fil} {room : Int} {b : List UInt8} {crash : Int} (h : IsTree tr) : IsTree (replayT tr room b crash) := by
  unfold replayT
  split
  · exact h
  · rename_i l hl
    split
    · exact h
    · exact plan_tree hl
theorem held_mirAt {w : World} {B gm gd : Nat} {tr : List Fil} {room : Int} {down : Bool} (h : MirAt w B gm gd tr room down) : Held w (fun b => b = gm ∨ b = gd) := fun b hb => by
  rcases hb with rfl | rfl
  · exact .inl ⟨_, h.mir⟩
  · exact .inr h.disk.own
set_option maxHeartbeats 4000000 in
theorem brought_walk (a0 : Option Addr) (n0 c0 : Nat) (z0 : List ByteArray) (bits : Int) (a2 : Option Addr) (n2 c2 : Nat) (z2 : List ByteArray) (older : Int) (block : Int) (w : World) (hg : ErrType w) (he : ErrForm w)
    (h0 : StrsAt w a0 n0 z0 ∧ (∀ s ∈ z0, s.size ≤ maxLen) ∧ n0 ≤ maxLen) (_b1 : -9223372036854775808 ≤ bits) (_b2 : bits ≤ 9223372036854775807) (h2 : StrsAt w a2 n2 z2 ∧ (∀ s ∈ z2, s.size ≤ maxLen) ∧ n2 ≤ maxLen) (_o1 : -9223372036854775808 ≤ older) (_o2 : older ≤ 9223372036854775807) (_k1 : -9223372036854775808 ≤ block) (_k2 : block ≤ 9223372036854775807) :
    Calls Tryz.prog 3 #[.slice a0 n0 c0, .int .i64 bits, .slice a2 n2 c2, .int .i64 older, .int .i64 block] w fun e w' => e = .returned (.bool true) ∧ Fr (fun _ => False) w w' := by
  have H0 := Lib.hid h0
  have H2 := Lib.hid h2
  have HE := Lib.hid he
  have HG := Lib.hid hg
  clear h0 h2 he hg
  go_enter Tryz.func3, Tryz.ntmps3
  go_wp2_with fail
  refine (ktree_any a0 n0 c0 z0 bits w H0.out.1 H0.out.2.1 H0.out.2.2 _b1 _b2).mono ?_
  rintro e w1 ⟨v, src, rfl, hs, hks, hf1⟩
  obtain ⟨sa, sc, rfl, -⟩ := hks.vec.shape
  have HS := Lib.hid hs
  have HKS := Lib.hid hks
  have HF1 := Lib.hid hf1
  clear hs hks hf1
  go_wp2_with fail
  refine (ktree_any a2 n2 c2 z2 older w1 (H2.out.1.keep HF1.out) H2.out.2.1 H2.out.2.2 _o1 _o2).mono ?_
  rintro e w2 ⟨v, ref, rfl, hr, hkr, hf2⟩
  obtain ⟨ra, rc, rfl, -⟩ := hkr.vec.shape
  have HR := Lib.hid hr
  have hz1 := HF1.out.size
  have HKR := Lib.hid (hkr.lift hz1)
  have HKS2 := Lib.hid (HKS.out.keep0 hf2)
  have HF2 := Lib.hid (HF1.out.step hf2 (fun _ h _ => h))
  have hs8 := (tree_data rfl HS.out).2.2
  have hr8 := (tree_data rfl HR.out).2.2
  have hal := allOf_tree HS.out
  have HALL := Lib.hid (kall_any _ src w.heap.size w2 HKS2.out.fils hs8 (tree_data rfl HS.out).1)
  clear hr hkr hf2 HKS _b1 _b2 _o1 _o2
  obtain ⟨N, hN⟩ : ∃ N, allOf (src.map (·.1)) = N := ⟨_, rfl⟩
  rw [hN] at hal HALL
  have HN := Lib.hid hN
  clear hN
  go_wp2_with fail
  refine HALL.out.mono ?_
  rintro e w' ⟨rfl, hw'⟩
  obtain rfl : w2 = w' := hw'.symm
  clear hw'
  have hz2 := HF2.out.size
  obtain ⟨blk, hblk⟩ : ∃ blk : Nat, 1 + pickOf block 64 = blk := ⟨(1 + pickOf block 64).toNat, by have := pickOf_bounds block 64 (by omega); omega⟩
  have hbb : 1 ≤ blk ∧ blk ≤ 64 := by have := pickOf_bounds block 64 (by omega); omega
  have HBR := Lib.hid (kbrought_any _ _ src ref w.heap.size block N w2 (HG.out.keep HF2.out id) HKS2.out.fils HKR.out.fils HS.out HR.out _k1 _k2 (by omega) (by omega) blk hblk)
  have HBB := Lib.hid hbb
  clear hblk hbb _k1 _k2
  go_wp2_with fail
  refine HBR.out.mono ?_
  rintro e w3 ⟨bv, gm, gd, rfl, hv, hrl, hgm, hgd, hmi, hf3⟩
  obtain ⟨R, hR⟩ : ∃ R, recOf (src.map (·.1)) (ref.map (·.1)) blk = R := ⟨_, rfl⟩
  rw [hR] at hv hrl
  obtain ⟨gb, cb, rb, rfl, -, -, -⟩ := hv.row hrl
  have hcl := clear_new (HG.out.keep HF2.out id) (HE.out.keep HF2.out) hgm hgd
  have HP := Lib.hid (replay_good 0 (show planK (ref.map (·.1)) (N : Int) R = .inr (src.map (·.1)) by rw [← hR]; exact plan_good HS.out HR.out HBB.out.1 HBB.out.2 (by rw [HN.out]; exact Int.le_refl _)))
  have HF3 := Lib.hid (HF2.out.step hf3 (fun _ h _ => h))
  have hz3 := hf3.size
  have hrp := preplay_up gm gd w2.heap.size (ref.map (·.1)) (N : Int) 0 gb 0 cb R w3 hmi (by omega) hcl (HG.out.keep HF3.out id) (HE.out.keep HF3.out) hv.isB
  unfold PReplayP at hrp
  rw [HP.out.1, HP.out.2.1, HP.out.2.2, if_neg (by omega), if_neg (by omega), decide_eq_false (by omega)] at hrp
  have HRP := Lib.hid hrp
  have HKS3 := Lib.hid (HKS2.out.keep0 hf3)
  have HKR3 := Lib.hid (HKR.out.keep0 hf3)
  have HHD := Lib.hid (held_mirAt hmi)
  have HV := Lib.hid hv
  have HRR := Lib.hid hR
  clear hv hrp hmi hf3 hR HKS2 HKR
  go_wp2_with fail
  refine HRP.out.mono ?_
  rintro e w4 ⟨rfl, hmi4, hf4⟩
  have HKS4 := Lib.hid (HKS3.out.held hf4 HHD.out)
  have HKR4 := Lib.hid (HKR3.out.held hf4 HHD.out)
  have HV4 := Lib.hid (HV.out.keep hf4 (HHD.out.vec HV.out (by decide) (by decide)))
  have HF4 := Lib.hid (HF3.out.step hf4 (fun b hb hl => show False by rcases hb with rfl | rfl <;> omega))
  have HH := Lib.hid (khas_any gm gd w2.heap.size (src.map (·.1)) (N : Int) _ src w.heap.size w4 hmi4 HKS4.out.fils hs8)
  have HHD4 := Lib.hid (held_mir hmi4.mir)
  have hz4 := hf4.size
  clear hmi4 hf4 HKS3 HKR3 HV HF3 HRP
  go_wp2_with fail
  refine HH.out.mono ?_
  rintro e w5 ⟨b, rfl, hb, -, hf5⟩
  obtain rfl : b = true := hb.2 rfl
  have HKS5 := Lib.hid (HKS4.out.held hf5 HHD4.out)
  have HKR5 := Lib.hid (HKR4.out.held hf5 HHD4.out)
  have HV5 := Lib.hid (HV4.out.keep hf5 (HHD4.out.vec HV4.out (by decide) (by decide)))
  have HF5 := Lib.hid (HF4.out.step hf5 (fun b hb hl => show False by subst hb; omega))
  have hz5 := hf5.size
  have HRE := Lib.hid (newErr_none HS.out (show (0 : Int) ≤ 4000 by omega) (by omega))
  have HNW := Lib.hid (pnew_any _ src w.heap.size 4000 w5 (HG.out.keep HF5.out id) HKS5.out.fils (fun p hp => by have := (tree_data rfl HS.out).2.1 p hp; omega) (fun p hp => by have := (tree_data rfl HS.out).1 p hp; omega) (by omega))
  rw [show (newErr (src.map (·.1)) 4000).k = 0 by rw [HRE.out]; rfl, show (newErr (src.map (·.1)) 4000).name = ByteArray.empty by rw [HRE.out]; rfl] at HNW
  clear hb hf5 HKS4 HKR4 HV4 HF4 HH HP HHD HHD4
  go_wp2_with fail
  refine HNW.out.mono ?_
  rintro e w6 ⟨p, rfl, hf6, hnp⟩
  obtain ⟨gm2, gd2, rfl, hgm2, hgd2, hmi6⟩ := hnp.1 HRE.out
  have hcl2 := clear_new (HG.out.keep HF5.out id) (HE.out.keep HF5.out) hgm2 hgd2
  have HKS6 := Lib.hid (HKS5.out.keep0 hf6)
  have HKR6 := Lib.hid (HKR5.out.keep0 hf6)
  have HV6 := Lib.hid (HV5.out.keep hf6 (fun _ _ h => h))
  have HF6 := Lib.hid (HF5.out.step hf6 (fun _ h _ => h))
  have HMI6 := Lib.hid hmi6
  have HCL2 := Lib.hid hcl2
  have hz6 := hf6.size
  clear hnp hf6 hmi6 hcl2 HKS5 HKR5 HV5 HF5 HNW
  go_wp2_with fail
  go_loopw [22, 23] (fun ov iv wr => ∃ k : Nat, k ≤ src.length ∧ k ≤ ref.length ∧ ov = .bool (othF (src.map (·.1)) (ref.map (·.1)) k) ∧ iv = .int .i64 k ∧ Fr (fun _ => False) w6 wr) (fun _ iv _ => src.length - (intOf iv).toNat)
  case atStart => exact ⟨0, Nat.zero_le _, Nat.zero_le _, by rw [othF_zero, List.length_map, List.length_map]; congr 1; rw [Bool.eq_iff_iff]; simp; omega, rfl, Fr.refl _ _⟩
  case round =>
    obtain ⟨k, hk1, hk2, rfl, rfl, hfr⟩ := hrel
    have HFR := Lib.hid hfr
    by_cases hlt : k < src.length ∧ k < ref.length
    · obtain ⟨l1, l2⟩ := hlt
      have hsu := othF_succ (src.map (·.1)) (ref.map (·.1)) k (by simpa using l1) (by simpa using l2)
      rw [List.getElem_map, List.getElem_map] at hsu
      obtain ⟨g, cap, hq, e0, e1, -⟩ := (HKS6.out.keep0 hfr).fils.get k l1
      simp only [Value.slice.injEq, true_and] at hq
      obtain ⟨rfl, rfl⟩ := hq
      obtain ⟨g2, cap2, hq2, f0, f1, -⟩ := (HKR6.out.keep0 hfr).fils.get k l2
      simp only [Value.slice.injEq, true_and] at hq2
      obtain ⟨rfl, rfl⟩ := hq2
      obtain ⟨da, dc, hdq, -⟩ := (HKS6.out.data src[k] (List.getElem_mem _)).shape
      obtain ⟨da2, dc2, hdq2, -⟩ := (HKR6.out.data ref[k] (List.getElem_mem _)).shape
      rw [hdq] at e1
      rw [hdq2] at f1
      have HSU := Lib.hid hsu
      clear hsu hfr hdq hdq2
      generalize src[k].1 = p1 at *
      generalize ref[k].1 = p2 at *
      obtain ⟨nm, dt⟩ := p1
      obtain ⟨nm2, dt2⟩ := p2
      dsimp only at e0 e1 f0 f1 HSU
      cases ho : othF (src.map (·.1)) (ref.map (·.1)) k with
      | true =>
        have HN := Lib.hid (show othF (src.map (·.1)) (ref.map (·.1)) (k + 1) = true by rw [HSU.out, ho]; rfl)
        clear ho
        go_wp2_with fail
        go_quiet (fail)
        go_wp2_with fail
        exact ⟨⟨k + 1, by omega, by omega, by rw [HN.out], by go_num, HFR.out.drewN _⟩, by simp [intOf]; omega⟩
      | false =>
        by_cases hnm : nm = nm2
        · subst hnm
          by_cases hsz : dt.length = dt2.length
          · have HN := Lib.hid (show othF (src.map (·.1)) (ref.map (·.1)) (k + 1) = false by rw [HSU.out, ho]; simp [hsz])
            have z1 : ((dt.length : Int) == (dt2.length : Int)) = true := by simp; omega
            have z2 : ((dt.length : Int) != (dt2.length : Int)) = false := by simp; omega
            clear ho hsz
            go_wp2_with fail
            go_quiet (fail)
            go_wp2_with fail
            exact ⟨⟨k + 1, by omega, by omega, by rw [HN.out], by go_num, HFR.out.drewN _⟩, by simp [intOf]; omega⟩
          · have HN := Lib.hid (show othF (src.map (·.1)) (ref.map (·.1)) (k + 1) = true by rw [HSU.out, ho]; simp [hsz])
            have z1 : ((dt.length : Int) == (dt2.length : Int)) = false := by simp; omega
            have z2 : ((dt.length : Int) != (dt2.length : Int)) = true := by simp; omega
            clear ho hsz
            go_wp2_with fail
            go_quiet (fail)
            go_wp2_with fail
            exact ⟨⟨k + 1, by omega, by omega, by rw [HN.out], by go_num, HFR.out.drewN _⟩, by simp [intOf]; omega⟩
        · have HN := Lib.hid (show othF (src.map (·.1)) (ref.map (·.1)) (k + 1) = true by rw [HSU.out, ho]; simp [hnm])
          have z1 : (nm == nm2) = false := by simpa using hnm
          have z2 : (nm != nm2) = true := by simpa using hnm
          clear ho hnm
          go_wp2_with fail
          go_quiet (fail)
          go_wp2_with fail
          exact ⟨⟨k + 1, by omega, by omega, by rw [HN.out], by go_num, HFR.out.drewN _⟩, by simp [intOf]; omega⟩
    · have hd : (decide ((k : Int) < (src.length : Int)) && decide ((k : Int) < (ref.length : Int))) = false := by simp; omega
      have hex : ∃ o : Bool, othF (src.map (·.1)) (ref.map (·.1)) k = o ∧ (o = true → difN (src.map (·.1)) ((ref.map (·.1)).map entOf) ≠ none) := ⟨_, rfl, fun h e => othF_ne h (difN_none _ _ e)⟩
      obtain ⟨o, ho, hoo⟩ := hex
      rw [ho]
      have HOO := Lib.hid hoo
      have HKS7 := Lib.hid (HKS6.out.keep0 hfr)
      have HKR7 := Lib.hid (HKR6.out.keep0 hfr)
      have HV7 := Lib.hid (HV6.out.keep hfr (fun _ _ h => h))
      have HMI7 := Lib.hid (HMI6.out.keep0 hfr)
      have HF7 := Lib.hid (HF6.out.step hfr (fun _ h _ => h))
      have hz7 := hfr.size
      have HSM := Lib.hid (ksame_any _ _ src ref w.heap.size w.heap.size wr HKS7.out.fils HKR7.out.fils hs8 hr8)
      clear ho hoo hfr HKS6 HKR6 HV6 HMI6 HF6 HFR
      have hcase : (decide ((k : Int) < (src.length : Int)) = true ∧ decide ((k : Int) < (ref.length : Int)) = false) ∨ decide ((k : Int) < (src.length : Int)) = false := by
        by_cases l1 : k < src.length
        · have l2 : ¬ k < ref.length := fun h => hlt ⟨l1, h⟩
          exact .inl ⟨by simpa using l1, by simpa using l2⟩
        · exact .inr (by simpa using l1)
      rcases hcase with ⟨d1, d2⟩ | d1
      all_goals
        go_wp2_with fail
      all_goals
        refine HSM.out.mono ?_
        rintro e w8 ⟨al, rfl, hal2, hf8⟩
        have HAL := Lib.hid hal2
        have HKS8 := Lib.hid (HKS7.out.keep0 hf8)
        have HF8 := Lib.hid (HF7.out.step hf8 (fun _ h _ => h))
        have hmi8 := HMI7.out.keep0 hf8
        have HV8 := Lib.hid (HV7.out.keep hf8 (fun _ _ h => h))
        have hz8 := hf8.size
        have hrp2 := preplay_up gm2 gd2 w5.heap.size (src.map (·.1)) 4000 0 gb 0 cb R w8 hmi8 (by omega) HCL2.out (HG.out.keep HF8.out id) (HE.out.keep HF8.out) HV8.out.isB
        unfold PReplayP at hrp2
        rw [replay_calm] at hrp2
        have hx : ∃ (E : Err) (T : List Fil), replayE (src.map (·.1)) 4000 R 0 = E ∧ replayT (src.map (·.1)) 4000 R 0 = T ∧ (o = true → E.k = 9 ∧ T = src.map (·.1)) ∧ (al = true → o = false → E.k = 0 ∧ T = src.map (·.1)) := by
          refine ⟨_, _, rfl, rfl, fun h => ?_, fun h1 h2 => ?_⟩
          · obtain ⟨nm, hnm⟩ := Option.ne_none_iff_exists'.1 (HOO.out h)
            have hb := replay_bad 0 (show planK (src.map (·.1)) 4000 R = .inl (.file ⟨nm.toArray⟩ 9) by rw [← HRR.out]; exact plan_basis HS.out HR.out HBB.out.1 HBB.out.2 4000 hnm)
            rw [hb.1, hb.2.1]
            exact ⟨rfl, rfl⟩
          · have he2 := HAL.out.1 h1
            have hpg := plan_good (room := 4000) HS.out HS.out HBB.out.1 HBB.out.2 (by have := allOf_tree HS.out; omega)
            have hrr := HRR.out
            rw [← he2] at hrr
            rw [hrr] at hpg
            have hb := replay_good 0 hpg
            rw [hb.1, hb.2.1, if_neg (by omega), if_neg (by omega)]
            exact ⟨rfl, rfl⟩
        obtain ⟨E, T, hE, hT, hx1, hx2⟩ := hx
        rw [hE, hT] at hrp2
        have HRP2 := Lib.hid hrp2
        have HX1 := Lib.hid hx1
        have HX2 := Lib.hid hx2
        have HHD2 := Lib.hid (held_mirAt hmi8)
        clear hrp2 hx1 hx2 hE hT hmi8 hf8 hal2 HSM HKS7 HKR7 HV7 HMI7 HF7
        go_wp2_with fail
        refine HRP2.out.mono ?_
        rintro e w9 ⟨rfl, hmi9, hf9⟩
        have HKS9 := Lib.hid (HKS8.out.held hf9 HHD2.out)
        have HF9 := Lib.hid (HF8.out.step hf9 (fun b hb hl => show False by rcases hb with rfl | rfl <;> omega))
        have HH9 := Lib.hid (khas_any gm2 gd2 w5.heap.size T 4000 _ src w.heap.size w9 hmi9 HKS9.out.fils hs8)
        have hz9 := hf9.size
        clear hmi9 hf9 HRP2 HKS8 HF8 HV8
        go_wp2_with fail
        refine HH9.out.mono ?_
        rintro e w10 ⟨b10, rfl, hb10, -, hf10⟩
        have HF10 := Lib.hid (HF9.out.step hf10 (fun b hb hl => show False by subst hb; omega))
        have HB10 := Lib.hid hb10
        clear hf10 hb10 HH9 HF9
        cases o with
        | true =>
          have hk9 := (HX1.out rfl).1
          have hb9 : b10 = true := HB10.out.2 (HX1.out rfl).2
          subst hb9
          have z1 : (E.k == 9) = true := by rw [hk9]; rfl
          go_wp2_with fail
          go_ret
          exact ⟨rfl, HF10.out⟩
        | false =>
          cases al with
          | true =>
            have hk0 := (HX2.out rfl rfl).1
            have hb9 : b10 = true := HB10.out.2 (HX2.out rfl rfl).2
            subst hb9
            have z1 : (E.k == 0) = true := by rw [hk0]; rfl
            go_wp2_with fail
            go_ret
            exact ⟨rfl, HF10.out⟩
          | false =>
            go_wp2_with fail
            go_ret
            exact ⟨rfl, HF10.out⟩
end Go.Proofs.YtlcdgbhigfgehabGreatDoor
