/- The reader of batches: a target's tokens. -/
import Derived.Test.YtlcdgbhigfgehabGreatDoorEntry
import Derived.Test.YtlcdgbhigfgehabGreatDoorUpTo
import Derived.RegionDies
namespace Go.Proofs.YtlcdgbhigfgehabGreatDoor
open Go.RowKit
set_option maxRecDepth 100000

/-- What reading of tokens gives. -/
def TksPost (w : World) (rb db dof dcap : Nat) (s : List UInt8) (F : Value) (o : Option (List Tok × List UInt8)) (e : Ending) (w' : World) : Prop :=
  Fr (fun k => k = rb) w w' ∧ match o with
  | none => e = .panicked [{ v := F, recovered := false }]
  | some (l, r) => ∃ v lt p', e = .returned v ∧ OToks w' w.heap.size v lt ∧ lt.map (·.1) = l ∧ r = s.drop p' ∧ RD w' rb db dof dcap s p' F
/-- Between two rounds: m tokens are to come. -/
structure TI (w wr : World) (rb db dof dcap : Nat) (s : List UInt8) (F v : Value) (blk basis n0 : Nat) (r0 : List UInt8) (m : Nat) (L : List Tok) (S q : Nat) : Prop where
  at_ : toksF blk basis n0 [] 0 r0 = toksF blk basis m L S (s.drop q)
  mem : ∃ l, OToks wr w.heap.size v l ∧ l.map (·.1) = L
  rd : RD wr rb db dof dcap s q F
  fr : Fr (fun k => k = rb) w wr
  sum : L.length + m = n0
  all : S ≤ L.length * 20000
theorem madeOf_le (size blk b c : Nat) (hc : c ≤ 255) (hb : blk ≤ 64) : madeOf size blk b c ≤ 16320 := by
  unfold madeOf
  have : (b + c) * blk = b * blk + c * blk := Nat.add_mul _ _ _
  have h2 : c * blk ≤ 255 * 64 := Nat.mul_le_mul hc hb
  omega

theorem ti_push {w wr W w8 : World} {rb db dof dcap : Nat} {s : List UInt8} {F v8 : Value} {blk basis n0 : Nat} {r0 : List UInt8} {m : Nat} {L : List Tok} {S q q' : Nat} {la : Option Addr} {lc : Nat} {l : List (Tok × Value)} {v : Value}
    (h : TI w wr rb db dof dcap s F v blk basis n0 r0 (m + 1) L S q) (hrb : rb < w.heap.size) (hdb : db < w.heap.size) (hot : OToks wr w.heap.size (.slice la l.length lc) l) (hL : l.map (·.1) = L) (hF : Fr (fun k => k = rb) wr W) (hrd : RD W rb db dof dcap s q' F)
    (t : Tok) (dv : Value) (k : Nat) (htok : tokN blk basis (s.drop q) = some ((t, k), s.drop q')) (hk : k ≤ 20000) (hd : Vec W w.heap.size 5 1 dv t.d.length (bcells t.d)) (hnew : ∀ b, dv.ownBlock = some b → wr.heap.size ≤ b)
    (hv8 : Vec w8 w.heap.size 171 3 v8 (l.length + 1) (tokCells l ++ [.int .i64 t.b, .int .i64 t.c, dv])) (hf8 : Fr (fun k => (Value.slice la l.length lc).ownBlock = some k) W w8) :
    TI w w8 rb db dof dcap s F v8 blk basis n0 r0 m (L ++ [t]) (S + k) q' := by
  have hlay := hrd.lay
  refine ⟨?_, ⟨l ++ [(t, dv)], ?_, by rw [← hL]; simp⟩, ?_, ?_, ?_, ?_⟩
  · rw [h.at_]
    conv => lhs; unfold toksF
    rw [htok]
  · have h2 := hot.below hF (fun b hb => by subst hb; exact hrb)
    refine h2.snoc hv8 hf8 (hd.keep hf8 (fun b hb hs => ?_)) (fun x hx b hb hb2 => ?_)
    · have h3 := (hot.vec.lt b hs).2
      have h4 := hnew b hb
      omega
    · have h3 := (hot.lt x hx b hb).2
      have h4 := hnew b hb2
      omega
  · refine hrd.keep hf8 (fun hs => ?_) (fun hs => ?_) (fun hs => ?_)
    · have := (hot.vec.lt _ hs).1; omega
    · have := (hot.vec.lt _ hs).1; omega
    · have := (hot.vec.lt _ hs).1; omega
  · exact (h.fr.step hF (fun _ h _ => h)).step hf8 (fun b hb hl => by have := (hot.vec.lt b hb).1; omega)
  · have := h.sum
    simp; omega
  · have := h.all
    simp; omega

set_option maxHeartbeats 2000000 in
theorem rtokens_any (w : World) (rb db dof dcap : Nat) (s : List UInt8) (p : Nat) (T : TypeId) (u : Value) (h : RD w rb db dof dcap s p (.iface T u)) (blk basis size : Nat) (hb1 : 1 ≤ blk) (hb2 : blk ≤ 64) (hb3 : basis ≤ 300) (hb4 : size ≤ 300) :
    Calls Tryz.prog 120 #[.pointer (some ⟨rb, 0, none⟩), .int .i64 blk, .int .i64 basis, .int .i64 size] w (TksPost w rb db dof dcap s (.iface T u) (tksN blk basis size (s.drop p))) := by
  have hle := h.le
  have hrb := h.own.lt
  have hm := h.bytes.len
  have HD := Lib.hid h
  clear h
  have hw1 : IntKind.i64.wrap ((basis : Int) + blk) = (basis : Int) + blk := IntWalk.i64_in _ (by omega)
  have hw2 : IntKind.i64.wrap ((basis : Int) + blk - 1) = (basis : Int) + blk - 1 := IntWalk.i64_in _ (by omega)
  have hq : ((basis : Int) + blk - 1).tdiv blk = (nBlocks basis blk : Nat) := by
    unfold nBlocks
    rw [show (basis : Int) + blk - 1 = ((basis + blk - 1 : Nat) : Int) by omega]
    rfl
  have hnb := (nBlocks_mul basis blk (by omega)).2.2
  have hne : ¬ ((blk : Int) = 0) := by omega
  by_cases a1 : s.length < p + 2
  · have HN := Lib.hid (show tksN blk basis size (s.drop p) = none by unfold tksN; rw [numN_bad a1 hle])
    go_enter Tryz.func120, Tryz.ntmps120
    go_wp2_with fail
    go_at_call 118; refine (number_bad _ rb db dof dcap s p 2 _ rfl T u HD.out (by omega) (by omega)).mono ?_
    rintro e w' ⟨rfl, hf⟩
    refine ⟨rfl, ?_⟩
    rw [HN.out]
    exact ⟨hf.mono (fun _ h _ => h.elim), rfl⟩
  replace a1 : p + 2 ≤ s.length := by omega
  have hz := num2_lt a1
  have e1 := numN_ok a1
  obtain ⟨n0, hn0⟩ : ∃ n0, numOf ((s.drop p).take 2) = n0 := ⟨_, rfl⟩
  have HN0 := Lib.hid hn0
  rw [hn0] at hz e1
  have E := Lib.hid (show tksN blk basis size (s.drop p) = (match toksF blk basis n0 [] 0 (s.drop (p + 2)) with
    | none => none
    | some ((l, S), r) => if S = size then some (l, r) else none) by unfold tksN; rw [e1]; rfl)
  clear e1 hn0
  go_enter Tryz.func120, Tryz.ntmps120
  go_wp2_with fail
  go_at_call 118; refine (number_small _ rb db dof dcap s p 2 _ rfl _ HD.out (by omega) a1).mono ?_
  rintro e w1 ⟨rfl, hr1, hf1⟩
  rw [HN0.out]
  have hst : TI w w1 rb db dof dcap s (.iface T u) (.slice none 0 0) blk basis n0 (s.drop (p + 2)) n0 [] 0 (p + 2) := ⟨rfl, ⟨[], OToks.nil _ _, rfl⟩, hr1, hf1, by simp, by simp⟩
  have HST := Lib.hid hst
  clear hst hr1 hf1
  go_wp2_with fail
  go_loopw [3, 9, 11] (fun szv lv nv wr => ∃ (m q S : Nat) (L : List Tok), szv = .int .i64 ((size : Int) - S) ∧ nv = .int .i64 m ∧ TI w wr rb db dof dcap s (.iface T u) lv blk basis n0 (s.drop (p + 2)) m L S q) (fun _ _ nv _ => (intOf nv).toNat)
  case atStart => exact ⟨n0, p + 2, 0, [], by simp, rfl, HST.out⟩
  case round =>
    obtain ⟨m, q, S, L, rfl, rfl, hti⟩ := hrel
    have HTI := Lib.hid hti
    obtain ⟨l, hot, hL⟩ := hti.mem
    have hq1 := hti.rd.le
    have hsum := hti.sum
    have hall := hti.all
    have hwz := hti.fr.size
    have hln : l.length + m = n0 := by rw [← hsum, ← hL]; simp
    have hall2 : S ≤ 65535 * 20000 := by omega
    obtain ⟨la, lc, hlv, -⟩ := hot.vec.shape
    subst hlv
    have HOT := Lib.hid hot
    have HLL := Lib.hid hL
    clear hti hot hL hsum hall
    have die : ∀ (W : World), Fr (fun k => k = rb) wr W → (∀ m', m = m' + 1 → tokN blk basis (s.drop q) = none) → 0 < m → TksPost w rb db dof dcap s (.iface T u) (tksN blk basis size (s.drop p)) (.panicked [{ v := .iface T u, recovered := false }]) W := by
      intro W hf hn hm0
      obtain ⟨m', rfl⟩ : ∃ m', m = m' + 1 := ⟨m - 1, by omega⟩
      rw [E.out, HTI.out.at_]
      unfold toksF
      rw [hn m' rfl]
      exact ⟨HTI.out.fr.step hf (fun _ h _ => h), rfl⟩
    have DIE := Lib.hid die
    clear die
    rcases Nat.eq_zero_or_pos m with rfl | hm0
    · have hE := E.out
      rw [HTI.out.at_] at hE
      simp only [toksF] at hE
      have HE := Lib.hid hE
      clear hE
      have hs1 : ¬ ((0 : Int) < 0) := by omega
      go_wp2_with fail
      by_cases hS : S = size
      · go_at_call 116; refine (must_okb _ _ _ (by simp; omega)).mono ?_
        rintro e w' ⟨rfl, rfl⟩
        go_wp2_with fail
        go_ret
        rw [HE.out, if_pos hS]
        exact ⟨HTI.out.fr, .slice la l.length lc, l, q, rfl, HOT.out, HLL.out, rfl, HTI.out.rd⟩
      · go_at_call 116; refine (must_badb _ _ T u HTI.out.rd.form _ (by simp; omega)).mono ?_
        rintro e w' ⟨rfl, rfl⟩
        refine ⟨rfl, ?_⟩
        rw [HE.out, if_neg hS]
        exact ⟨HTI.out.fr, rfl⟩
    · have hm1 : (0 : Int) < (m : Int) := by omega
      by_cases b1 : s.length < q + 1
      · have HN := Lib.hid (show ∀ m', m = m' + 1 → tokN blk basis (s.drop q) = none from fun _ _ => by unfold tokN; rw [numN_bad b1 hq1])
        go_wp2_with fail
        go_at_call 118; refine (number_bad _ rb db dof dcap s q 1 _ rfl T u (HTI.out.rd.keep ((Fr.refl (fun _ => False) _).alloc _) id id id) (by omega) (by omega)).mono ?_
        rintro e w' ⟨rfl, hf⟩
        exact ⟨rfl, DIE.out _ ((((Fr.refl (fun _ => False) _).alloc _).step hf (fun _ h _ => h)).mono (fun _ h _ => h.elim)) HN.out hm0⟩
      replace b1 : q + 1 ≤ s.length := by omega
      have hkd := num1_lt b1
      have e2 := numN_ok b1
      obtain ⟨kd, hkd2⟩ : ∃ kd, numOf ((s.drop q).take 1) = kd := ⟨_, rfl⟩
      have HKD := Lib.hid hkd2
      rw [hkd2] at hkd e2
      have E2 := Lib.hid e2
      clear e2 hkd2
      obtain ⟨m', rfl⟩ : ∃ m', m = m' + 1 := ⟨m - 1, by omega⟩
      by_cases hk0 : kd = 0
      · subst hk0
        have hE0 : tokN blk basis (s.drop q) = (match numN 1 (s.drop (q + 1)) with
            | none => none
            | some (k, r) => if k = 0 then none else match takeN k r with | none => none | some (d, r) => some ((⟨0, 0, d⟩, k), r)) := by
          unfold tokN; rw [E2.out]; rfl
        have E3 := Lib.hid hE0
        clear hE0
        go_wp2_with fail
        go_at_call 118; refine (number_small _ rb db dof dcap s q 1 _ rfl _ (HTI.out.rd.keep ((Fr.refl (fun _ => False) _).alloc _) id id id) (by omega) b1).mono ?_
        rintro e w3 ⟨rfl, hr3, hf3⟩
        rw [HKD.out]
        have HF3 := Lib.hid (show Fr (fun k => k = rb) wr w3 from (((Fr.refl (fun _ => False) _).alloc _).mono (fun _ h _ => h.elim)).step hf3 (fun _ h _ => h))
        have HO3 := Lib.hid ((Own.alloc wr #[.int .i64 0, .int .i64 0, .slice none 0 0] 171).keep hf3 (by omega))
        have HR3 := Lib.hid hr3
        clear hr3 hf3
        by_cases b2 : s.length < q + 1 + 1
        · have HN := Lib.hid (show ∀ m'', m' + 1 = m'' + 1 → tokN blk basis (s.drop q) = none from fun _ _ => by rw [E3.out, numN_bad b2 (by omega)])
          go_wp2_with fail
          go_at_call 118; refine (number_bad _ rb db dof dcap s (q + 1) 1 _ rfl T u HR3.out (by omega) (by omega)).mono ?_
          rintro e w' ⟨rfl, hf⟩
          exact ⟨rfl, DIE.out _ (HF3.out.step hf (fun _ h _ => h.elim)) HN.out hm0⟩
        replace b2 : q + 1 + 1 ≤ s.length := by omega
        have hkl := num1_lt b2
        have e4 := numN_ok b2
        obtain ⟨k, hkk⟩ : ∃ k, numOf ((s.drop (q + 1)).take 1) = k := ⟨_, rfl⟩
        have HKK := Lib.hid hkk
        rw [hkk] at hkl e4
        have E4 := Lib.hid e4
        clear e4 hkk
        go_wp2_with fail
        go_at_call 118; refine (number_small _ rb db dof dcap s (q + 1) 1 _ rfl _ HR3.out (by omega) b2).mono ?_
        rintro e w4 ⟨rfl, hr4, hf4⟩
        rw [HKK.out]
        have HF4 := Lib.hid (HF3.out.step hf4 (fun _ h _ => h))
        have HO4 := Lib.hid (HO3.out.keep hf4 (by omega))
        have HR4 := Lib.hid hr4
        clear hr4 hf4
        go_wp2_with fail
        by_cases b3 : k = 0
        · have HN := Lib.hid (show ∀ m'', m' + 1 = m'' + 1 → tokN blk basis (s.drop q) = none from fun _ _ => by rw [E3.out, E4.out]; simp only; rw [if_pos b3])
          go_at_call 116; refine (must_badb _ _ T u HR4.out.form _ (by simp; omega)).mono ?_
          rintro e w' ⟨rfl, rfl⟩
          exact ⟨rfl, DIE.out _ HF4.out HN.out hm0⟩
        go_at_call 116; refine (must_okb _ _ _ (by simp; omega)).mono ?_
        rintro e w' ⟨rfl, rfl⟩
        go_wp2_with fail
        have z2 := HO4.out.cell (i := 2) rfl
        have zf := HO4.out.free 2 (by simp)
        by_cases b4 : s.length < q + 1 + 1 + k
        · have HN := Lib.hid (show ∀ m'', m' + 1 = m'' + 1 → tokN blk basis (s.drop q) = none from fun _ _ => by rw [E3.out, E4.out]; simp only; rw [if_neg b3, takeN_bad b4 (by omega)])
          go_region_dies
          all_goals
            go_at_call 117
            refine (take_bad _ rb db dof dcap s (q + 1 + 1) k T u (HR4.out.keep (Fr.drew (Fr.refl (fun _ => False) _)) id id id) (by omega) (by omega)).mono ?_
            rintro e w' ⟨rfl, hf⟩
            exact ⟨rfl, DIE.out _ ((HF4.out.drew).step hf (fun _ h _ => h.elim)) HN.out hm0⟩
        replace b4 : q + 1 + 1 + k ≤ s.length := by omega
        have e5 := takeN_ok b4
        obtain ⟨d, hd⟩ : ∃ d, (s.drop (q + 1 + 1)).take k = d := ⟨_, rfl⟩
        have HD5 := Lib.hid hd
        have hdl : d.length = k := by rw [← hd]; simp; omega
        rw [hd] at e5
        have HTK := Lib.hid (show tokN blk basis (s.drop q) = some ((⟨0, 0, d⟩, k), s.drop (q + 1 + 1 + k)) by rw [E3.out, E4.out]; simp only; rw [if_neg b3, e5])
        clear e5 hd
        go_region_law (first
          | (go_simp; go_at_call 117; refine (take_ok _ rb db dof dcap s (q + 1 + 1) k _ (HR4.out.keep (Fr.drew (Fr.refl (fun _ => False) _)) id id id) (by omega) (by omega)).mono ?_; rintro e w5 ⟨off, rfl, hb5, hr5, hf5⟩; rw [HD5.out] at hb5; have HRS := Lib.hid (show Reads w5 (.slice (some ⟨db, off, none⟩) k k) k (bcells d) from by have hrs := Reads.ofB hb5; rwa [hdl] at hrs); have HR5 := Lib.hid hr5; have HF5 := Lib.hid (HF4.out.drew.step hf5 (fun _ h _ => h)); have HO5 := Lib.hid ((HO4.out.keep (Fr.drew (Fr.refl (fun _ => False) _)) id).keep hf5 (by omega)); have y2 := HO5.out.cell (i := 2) rfl; have yf := HO5.out.free 2 (by simp); clear hb5 hr5 hf5)
          | (rw [if_pos (by rfl)]; refine wp_append_vec (.tmp 39) (.tmp 42) 25 rfl wr.heap.size 5 1 1 elt_u8 (Vec.nil _ _ _ _) rfl (xv := .slice (some ⟨db, off, none⟩) k k) (m := k) HRS.out rfl (by rw [length_bcells, hdl]; omega) (bcells_one d) (by unfold maxLen; omega) (by omega) HF5.out.size ?_; intro v6 w6 hv6 hf6 hd6; obtain ⟨a6, c6, hsh6, -⟩ := hv6.shape; subst hsh6; have HO6 := Lib.hid (HO5.out.keep hf6 (fun h => by simp [Value.ownBlock] at h)); have x2 := HO6.out.cell (i := 2) rfl; have xf := HO6.out.free 2 (by simp); have HV6 := Lib.hid hv6; have HF6 := Lib.hid (show Fr (fun _ => False) w5 w6 from hf6.mono (fun _ h _ => by simp [Value.ownBlock] at h)); clear hv6 hf6 hd6))
        all_goals
          have hwk : IntKind.i64.wrap ((size : Int) - S - k) = (size : Int) - S - k := IntWalk.i64_in _ (by omega)
          have HO7 := Lib.hid (HO6.out.set 2 (.slice a6 k c6))
          have HF7 := Lib.hid (show Fr (fun b => b = rb) wr (w6.setCell ⟨wr.heap.size, 2, none⟩ (.slice a6 k c6)) from (HF5.out.step HF6.out (fun _ h _ => h.elim)).setCell _ _ (fun h => absurd h (Nat.lt_irrefl _)))
          have HR7 := Lib.hid ((HR5.out.keep HF6.out id id id).keep ((Fr.refl (fun b => b = wr.heap.size) w6).setCell ⟨wr.heap.size, 2, none⟩ (.slice a6 k c6) (fun _ => rfl)) (by omega) (by have := HD.out.bytes.lt0 db rfl; omega) (by have := HD.out.lay; omega))
          have HV7 := Lib.hid (HV6.out.keep ((Fr.refl (fun b => b = wr.heap.size) w6).setCell ⟨wr.heap.size, 2, none⟩ (.slice a6 k c6) (fun _ => rfl)) (fun b hb hs => by subst hs; exact HV6.out.apartT HO6.out (by decide) hb))
          have HVL := Lib.hid (HOT.out.vec.keep HF7.out (fun b hb hs => by have := (HOT.out.vec.lt b hb).1; omega))
          have x0 := HO6.out.cell (i := 0) rfl
          have x1 := HO6.out.cell (i := 1) rfl
          clear z2 zf y2 yf
          go_wp2_with (first
            | (at_builtin; refine wpList_append_vec rfl (.tmp 86) (.tmp 88) _ rfl w.heap.size 171 3 40 elt_tok (HVL.out.keep ((Fr.refl (fun _ => False) _).alloc _) (fun _ _ h => h)) rfl (m := 1) (Reads.new _ _ _ _ (by simp) _ _) rfl rfl (tok_one _ _ _ _ _) (by unfold maxLen; omega) (by omega) (by have := HF7.out.size; simp at this ⊢; omega) ?_; intro v8 w8 hv8 hf8 hd8 hn8; obtain ⟨a8, c8, hsh8, -⟩ := hv8.shape; subst hsh8; have HV8 := Lib.hid hv8; have HF8 := Lib.hid hf8; clear hv8 hf8 hd8 hn8))
          have hd8 := HV7.out.mono (show w.heap.size ≤ wr.heap.size by omega)
          have hda := hd8.keep ((Fr.refl (fun _ => False) _).alloc (.cells #[.int .i64 0, .int .i64 0, .slice a6 k c6] 171)) (fun _ _ h => h)
          have hti2 := ti_push HTI.out hrb (HD.out.bytes.lt0 db rfl) HOT.out HLL.out ((HF7.out).alloc (.cells #[.int .i64 0, .int .i64 0, .slice a6 k c6] 171)) (HR7.out.keep ((Fr.refl (fun _ => False) _).alloc (.cells #[.int .i64 0, .int .i64 0, .slice a6 k c6] 171)) id id id) ⟨0, 0, d⟩ (.slice a6 k c6) k HTK.out (by omega) (by simpa [hdl] using hda) (fun b hb => (HV6.out.lt b (by simpa [Value.ownBlock] using hb)).1) HV8.out HF8.out
          exact ⟨⟨m', q + 1 + 1 + k, S + k, L ++ [⟨0, 0, d⟩], congrArg (Value.int .i64) (by omega), rfl, hti2⟩, by simp [intOf] <;> omega⟩
      by_cases hk1 : kd = 1
      · subst hk1
        have hE0 : tokN blk basis (s.drop q) = (match numN 2 (s.drop (q + 1)) with
            | none => none
            | some (b, r) => match numN 1 r with
              | none => none
              | some (c, r) => if 0 < c ∧ b + c ≤ nBlocks basis blk then some ((⟨b, c, []⟩, madeOf basis blk b c), r) else none) := by
          unfold tokN; rw [E2.out]; rfl
        have E3 := Lib.hid hE0
        clear hE0
        go_wp2_with fail
        go_at_call 118; refine (number_small _ rb db dof dcap s q 1 _ rfl _ (HTI.out.rd.keep ((Fr.refl (fun _ => False) _).alloc _) id id id) (by omega) b1).mono ?_
        rintro e w3 ⟨rfl, hr3, hf3⟩
        rw [HKD.out]
        have HF3 := Lib.hid (show Fr (fun k => k = rb) wr w3 from (((Fr.refl (fun _ => False) _).alloc _).mono (fun _ h _ => h.elim)).step hf3 (fun _ h _ => h))
        have HO3 := Lib.hid ((Own.alloc wr #[.int .i64 0, .int .i64 0, .slice none 0 0] 171).keep hf3 (by omega))
        have HR3 := Lib.hid hr3
        clear hr3 hf3
        by_cases b2 : s.length < q + 1 + 2
        · have HN := Lib.hid (show ∀ m'', m' + 1 = m'' + 1 → tokN blk basis (s.drop q) = none from fun _ _ => by rw [E3.out, numN_bad b2 (by omega)])
          go_wp2_with fail
          go_at_call 118; refine (number_bad _ rb db dof dcap s (q + 1) 2 _ rfl T u HR3.out (by omega) (by omega)).mono ?_
          rintro e w' ⟨rfl, hf⟩
          exact ⟨rfl, DIE.out _ (HF3.out.step hf (fun _ h _ => h.elim)) HN.out hm0⟩
        replace b2 : q + 1 + 2 ≤ s.length := by omega
        have hbl := num2_lt b2
        have e4 := numN_ok b2
        obtain ⟨b, hbb⟩ : ∃ b, numOf ((s.drop (q + 1)).take 2) = b := ⟨_, rfl⟩
        have HBB := Lib.hid hbb
        rw [hbb] at hbl e4
        have E4 := Lib.hid e4
        clear e4 hbb
        go_wp2_with fail
        go_at_call 118; refine (number_small _ rb db dof dcap s (q + 1) 2 _ rfl _ HR3.out (by omega) b2).mono ?_
        rintro e w4 ⟨rfl, hr4, hf4⟩
        rw [HBB.out]
        have hO4 := HO3.out.keep hf4 (by omega)
        have hs5 : Fr (fun b => b = wr.heap.size) w4 (w4.setCell ⟨wr.heap.size, 0, none⟩ (.int .i64 b)) := (Fr.refl _ _).setCell _ _ (fun _ => rfl)
        have HF5 := Lib.hid (show Fr (fun b => b = rb) wr (w4.setCell ⟨wr.heap.size, 0, none⟩ (.int .i64 b)) from (HF3.out.step hf4 (fun _ h _ => h)).setCell _ _ (fun h => absurd h (Nat.lt_irrefl _)))
        have HR5 := Lib.hid (hr4.keep hs5 (by omega) (by have := HD.out.bytes.lt0 db rfl; omega) (by have := HD.out.lay; omega))
        have HO5 := Lib.hid (hO4.set 0 (.int .i64 b))
        have z0 := hO4.cell (i := 0) rfl
        have zf := hO4.free 0 (by simp)
        clear hr4 hf4 hO4 hs5
        go_wp2_with fail
        clear z0 zf
        generalize w4.setCell ⟨wr.heap.size, 0, none⟩ (.int .i64 b) = w5 at *
        by_cases b3 : s.length < q + 1 + 2 + 1
        · have HN := Lib.hid (show ∀ m'', m' + 1 = m'' + 1 → tokN blk basis (s.drop q) = none from fun _ _ => by rw [E3.out, E4.out]; simp only; rw [numN_bad b3 (by omega)])
          go_at_call 118; refine (number_bad _ rb db dof dcap s (q + 1 + 2) 1 _ rfl T u HR5.out (by omega) (by omega)).mono ?_
          rintro e w' ⟨rfl, hf⟩
          exact ⟨rfl, DIE.out _ (HF5.out.step hf (fun _ h _ => h.elim)) HN.out hm0⟩
        replace b3 : q + 1 + 2 + 1 ≤ s.length := by omega
        have hcl := num1_lt b3
        have e6 := numN_ok b3
        obtain ⟨c, hcc⟩ : ∃ c, numOf ((s.drop (q + 1 + 2)).take 1) = c := ⟨_, rfl⟩
        have HCC := Lib.hid hcc
        rw [hcc] at hcl e6
        have E6 := Lib.hid e6
        clear e6 hcc
        go_at_call 118; refine (number_small _ rb db dof dcap s (q + 1 + 2) 1 _ rfl _ HR5.out (by omega) b3).mono ?_
        rintro e w6 ⟨rfl, hr6, hf6⟩
        rw [HCC.out]
        have hO6 := HO5.out.keep hf6 (by omega)
        have hs7 : Fr (fun b => b = wr.heap.size) w6 (w6.setCell ⟨wr.heap.size, 1, none⟩ (.int .i64 c)) := (Fr.refl _ _).setCell _ _ (fun _ => rfl)
        have HF7 := Lib.hid (show Fr (fun b => b = rb) wr (w6.setCell ⟨wr.heap.size, 1, none⟩ (.int .i64 c)) from (HF5.out.step hf6 (fun _ h _ => h)).setCell _ _ (fun h => absurd h (Nat.lt_irrefl _)))
        have HR7 := Lib.hid (hr6.keep hs7 (by omega) (by have := HD.out.bytes.lt0 db rfl; omega) (by have := HD.out.lay; omega))
        have HO7 := Lib.hid (hO6.set 1 (.int .i64 c))
        have z1 := hO6.cell (i := 1) rfl
        have z0 := hO6.cell (i := 0) rfl
        have z2 := hO6.cell (i := 2) rfl
        have zf := hO6.free 1 (by simp)
        have HVL := Lib.hid (HOT.out.vec.keep HF7.out (fun b hb hs => by have := (HOT.out.vec.lt b hb).1; omega))
        clear hr6 hf6 hO6 hs7
        by_cases b4 : c = 0
        · have HN := Lib.hid (show ∀ m'', m' + 1 = m'' + 1 → tokN blk basis (s.drop q) = none from fun _ _ => by rw [E3.out, E4.out]; simp only; rw [E6.out]; simp only; rw [if_neg (fun h => by omega)])
          subst b4
          go_wp2_with fail
          go_at_call 116; refine Calls.mono (must_badb _ _ T u ?_ _ ?_) ?_
          · exact HR7.out.form
          · first | rfl | (simp; omega) | simp_all
          rintro e w' ⟨rfl, rfl⟩
          exact ⟨rfl, DIE.out _ HF7.out HN.out hm0⟩
        have hc0 : (0 : Int) < (c : Int) := by omega
        have hc1 : 0 < c := by omega
        have hsm : IntKind.i64.wrap ((b : Int) + c) = (b : Int) + c := IntWalk.i64_in _ (by omega)
        by_cases b5 : b + c ≤ nBlocks basis blk
        · have HTK := Lib.hid (show tokN blk basis (s.drop q) = some ((⟨b, c, []⟩, madeOf basis blk b c), s.drop (q + 1 + 2 + 1)) by rw [E3.out, E4.out]; simp only; rw [E6.out]; simp only; rw [if_pos ⟨hc1, b5⟩])
          have hmk := madeOf_le basis blk b c (by omega) hb2
          have hp1 : (b + c) * blk ≤ 300 * 64 := Nat.mul_le_mul (by omega) hb2
          have hp2 : b * blk ≤ 300 * 64 := Nat.mul_le_mul (by omega) hb2
          have hm1' : IntKind.i64.wrap (((b : Int) + c) * blk) = (((b + c) * blk : Nat) : Int) := by
            rw [show ((b : Int) + c) * blk = (((b + c) * blk : Nat) : Int) by push_cast; rfl]
            exact IntWalk.i64_in _ (by omega)
          have hm2' : IntKind.i64.wrap ((b : Int) * blk) = ((b * blk : Nat) : Int) := by
            rw [show (b : Int) * blk = ((b * blk : Nat) : Int) by push_cast; rfl]
            exact IntWalk.i64_in _ (by omega)
          have hmo : madeOf basis blk b c = min ((b + c) * blk) basis - b * blk := rfl
          have hle2 : b * blk < basis := (lt_nBlocks basis blk b (by omega)).1 (by omega)
          have hle3 : b * blk ≤ (b + c) * blk := Nat.mul_le_mul_right _ (by omega)
          have hle4 : (b : Int) + c ≤ (nBlocks basis blk : Nat) := by omega
          have HMO := Lib.hid hmo
          clear hmo
          obtain ⟨A, hA⟩ : ∃ A, (b + c) * blk = A := ⟨_, rfl⟩
          obtain ⟨D, hD⟩ : ∃ D, b * blk = D := ⟨_, rfl⟩
          rw [hA] at hm1' hp1 hle3 HMO
          rw [hD] at hm2' hp2 hle2 hle3 HMO
          clear hA hD
          go_wp2_with fail
          go_at_call 116; refine Calls.mono (must_okb _ _ _ ?_) ?_
          · first | rfl | (simp; omega) | simp_all
          rintro e w' ⟨rfl, rfl⟩
          by_cases hAb : A ≤ basis
          · have hAb1 : (A : Int) ≤ basis := by omega
            have hw9 : IntKind.i64.wrap ((A : Int) - D) = (A : Int) - D := IntWalk.i64_in _ (by omega)
            have hw10 : IntKind.i64.wrap ((size : Int) - S - ((A : Int) - D)) = (size : Int) - S - ((A : Int) - D) := IntWalk.i64_in _ (by omega)
            go_wp2_with (first
              | (at_builtin; refine wpList_append_vec rfl (.tmp 86) (.tmp 88) _ rfl w.heap.size 171 3 40 elt_tok (HVL.out.keep ((Fr.refl (fun _ => False) _).alloc _) (fun _ _ h => h)) rfl (m := 1) (Reads.new _ _ _ _ (by simp) _ _) rfl rfl (tok_one _ _ _ _ _) (by unfold maxLen; omega) (by omega) (by have := HF7.out.size; simp at this ⊢; omega) ?_; intro v8 w8 hv8 hf8 hd8 hn8; obtain ⟨a8, c8, hsh8, -⟩ := hv8.shape; subst hsh8; have HV8 := Lib.hid hv8; have HF8 := Lib.hid hf8; clear hv8 hf8 hd8 hn8))
            have hti2 := ti_push HTI.out hrb (HD.out.bytes.lt0 db rfl) HOT.out HLL.out ((HF7.out).alloc (.cells #[.int .i64 b, .int .i64 c, .slice none 0 0] 171)) (HR7.out.keep ((Fr.refl (fun _ => False) _).alloc (.cells #[.int .i64 b, .int .i64 c, .slice none 0 0] 171)) id id id) ⟨b, c, []⟩ (.slice none 0 0) (madeOf basis blk b c) HTK.out (by omega) (Vec.nil _ _ _ _) (fun b hb => by simp [Value.ownBlock] at hb) HV8.out HF8.out
            exact ⟨⟨m', q + 1 + 2 + 1, S + madeOf basis blk b c, L ++ [⟨b, c, []⟩], congrArg (Value.int .i64) (by rw [HMO.out]; omega), rfl, hti2⟩, by simp [intOf] <;> omega⟩
          · have hAb1 : ¬ ((A : Int) ≤ basis) := by omega
            have hw9 : IntKind.i64.wrap ((basis : Int) - D) = (basis : Int) - D := IntWalk.i64_in _ (by omega)
            have hw10 : IntKind.i64.wrap ((size : Int) - S - ((basis : Int) - D)) = (size : Int) - S - ((basis : Int) - D) := IntWalk.i64_in _ (by omega)
            go_wp2_with (first
              | (at_builtin; refine wpList_append_vec rfl (.tmp 86) (.tmp 88) _ rfl w.heap.size 171 3 40 elt_tok (HVL.out.keep ((Fr.refl (fun _ => False) _).alloc _) (fun _ _ h => h)) rfl (m := 1) (Reads.new _ _ _ _ (by simp) _ _) rfl rfl (tok_one _ _ _ _ _) (by unfold maxLen; omega) (by omega) (by have := HF7.out.size; simp at this ⊢; omega) ?_; intro v8 w8 hv8 hf8 hd8 hn8; obtain ⟨a8, c8, hsh8, -⟩ := hv8.shape; subst hsh8; have HV8 := Lib.hid hv8; have HF8 := Lib.hid hf8; clear hv8 hf8 hd8 hn8))
            have hti2 := ti_push HTI.out hrb (HD.out.bytes.lt0 db rfl) HOT.out HLL.out ((HF7.out).alloc (.cells #[.int .i64 b, .int .i64 c, .slice none 0 0] 171)) (HR7.out.keep ((Fr.refl (fun _ => False) _).alloc (.cells #[.int .i64 b, .int .i64 c, .slice none 0 0] 171)) id id id) ⟨b, c, []⟩ (.slice none 0 0) (madeOf basis blk b c) HTK.out (by omega) (Vec.nil _ _ _ _) (fun b hb => by simp [Value.ownBlock] at hb) HV8.out HF8.out
            exact ⟨⟨m', q + 1 + 2 + 1, S + madeOf basis blk b c, L ++ [⟨b, c, []⟩], congrArg (Value.int .i64) (by rw [HMO.out]; omega), rfl, hti2⟩, by simp [intOf] <;> omega⟩
        · have HN := Lib.hid (show ∀ m'', m' + 1 = m'' + 1 → tokN blk basis (s.drop q) = none from fun _ _ => by rw [E3.out, E4.out]; simp only; rw [E6.out]; simp only; rw [if_neg (fun h => b5 h.2)])
          have hle4 : ¬ ((b : Int) + c ≤ (nBlocks basis blk : Nat)) := by omega
          go_wp2_with fail
          go_at_call 116; refine Calls.mono (must_badb _ _ T u HR7.out.form _ ?_) ?_
          · first | rfl | (simp; omega) | simp_all
          rintro e w' ⟨rfl, rfl⟩
          exact ⟨rfl, DIE.out _ HF7.out HN.out hm0⟩
      · have HN := Lib.hid (show ∀ m'', m' + 1 = m'' + 1 → tokN blk basis (s.drop q) = none from fun _ _ => by unfold tokN; rw [E2.out]; simp only; rw [if_neg hk0, if_neg hk1])
        have c0 : ((kd : Int) == 0) = false := by rw [beq_eq_false_iff_ne]; omega
        have c1 : ((kd : Int) == 1) = false := by rw [beq_eq_false_iff_ne]; omega
        go_wp2_with fail
        go_at_call 118; refine (number_small _ rb db dof dcap s q 1 _ rfl _ (HTI.out.rd.keep ((Fr.refl (fun _ => False) _).alloc _) id id id) (by omega) b1).mono ?_
        rintro e w3 ⟨rfl, hr3, hf3⟩
        rw [HKD.out]
        go_wp2_with fail
        go_at_call 116; refine (must_badb _ _ T u hr3.form _ rfl).mono ?_
        rintro e w' ⟨rfl, rfl⟩
        exact ⟨rfl, DIE.out _ ((((Fr.refl (fun _ => False) _).alloc _).mono (fun _ h _ => h.elim)).step hf3 (fun _ h _ => h)) HN.out hm0⟩
end Go.Proofs.YtlcdgbhigfgehabGreatDoor
