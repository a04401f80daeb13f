/- The document's reader of batches: a target's tokens. -/
import Derived.Test.YtlcdgbhigfgehaaDoorREntry
import Derived.Test.YtlcdgbhigfgehaaDoorOToks
import Derived.Test.YtlcdgbhigfgehaaDoorRoomy
namespace Go.Proofs.YtlcdgbhigfgehaaDoor
open Go.RowKit
set_option maxRecDepth 100000

set_option maxHeartbeats 1000000 in
theorem rmade_any (size blk b c : Nat) (w : World) (h1 : size ≤ 300) (h2 : 1 ≤ blk) (h3 : blk ≤ 64) (h4 : 0 < c) (h5 : b + c ≤ nBlocks size blk) :
    Calls Tryd.prog 61 #[.int .i64 size, .int .i64 blk, .int .i64 b, .int .i64 c] w fun e w' => e = .returned (.int .i64 (madeOf size blk b c : Nat)) ∧ w = w' := by
  have hnb := (nBlocks_mul size blk (by omega)).2.2
  have hp1 : (b + c) * blk ≤ 300 * 64 := Nat.mul_le_mul (by omega) h3
  have hp2 : b * blk ≤ 300 * 64 := Nat.mul_le_mul (by omega) h3
  have hm1 : IntKind.i64.wrap (((b : Int) + c) * blk) = (((b + c) * blk : Nat) : Int) := by
    rw [show ((b : Int) + c) * blk = (((b + c) * blk : Nat) : Int) by push_cast; rfl]
    exact IntWalk.i64_in _ (by omega)
  have hm2 : IntKind.i64.wrap ((b : Int) * blk) = ((b * blk : Nat) : Int) := by
    rw [show (b : Int) * blk = ((b * blk : Nat) : Int) by push_cast; rfl]
    exact IntWalk.i64_in _ (by omega)
  have hm3 : IntKind.i64.wrap ((b : Int) + c) = (b : Int) + c := IntWalk.i64_in _ (by omega)
  have hlt : b * blk < size := (lt_nBlocks size blk b (by omega)).1 (by omega)
  have hle : b * blk ≤ (b + c) * blk := Nat.mul_le_mul_right _ (by omega)
  have hmo : madeOf size blk b c = min ((b + c) * blk) size - b * blk := rfl
  obtain ⟨A, hA⟩ : ∃ A, (b + c) * blk = A := ⟨_, rfl⟩
  obtain ⟨D, hD⟩ : ∃ D, b * blk = D := ⟨_, rfl⟩
  rw [hA] at hm1 hp1 hle hmo
  rw [hD] at hm2 hp2 hle hlt hmo
  have HMO := Lib.hid hmo
  clear hA hD hmo
  by_cases hAs : (size : Int) < (A : Int)
  · have hw : IntKind.i64.wrap ((size : Int) - D) = (size : Int) - D := IntWalk.i64_in _ (by omega)
    go_enter Tryd.func61, Tryd.ntmps61
    go_wp2_with fail
    go_ret
    refine ⟨?_, rfl⟩
    have : ((madeOf size blk b c : Nat) : Int) = (size : Int) - D := by rw [HMO.out]; omega
    rw [this]; rfl
  · have hw : IntKind.i64.wrap ((A : Int) - D) = (A : Int) - D := IntWalk.i64_in _ (by omega)
    go_enter Tryd.func61, Tryd.ntmps61
    go_wp2_with fail
    go_ret
    refine ⟨?_, rfl⟩
    have : ((madeOf size blk b c : Nat) : Int) = (A : Int) - D := by rw [HMO.out]; omega
    rw [this]; rfl
theorem tokA_rel {s : ByteArray} {blk basis q q1 q2 q3 kd k : Nat} {t : List UInt8} {ok1 ok2 ok3 ok4 ok5 : Bool} (h1 : NumRel true s q 1 kd q1 ok1) (h0 : kd = 0) (h2 : (ok1 && decide ((kd : Int) < 2)) = ok2) (h3 : NumRel ok2 s q1 1 k q2 ok3) (h4 : (ok3 && decide (0 < k)) = ok4) (h5 : TxtRel ok4 s q2 k t q3 ok5) :
    match tokN blk basis (s.data.toList.drop q) with
    | none => ok5 = false
    | some ((tk, m), r) => ok5 = true ∧ tk = ⟨0, 0, t⟩ ∧ m = t.length ∧ r = s.data.toList.drop q3 := by
  unfold tokN
  subst h0
  rcases h1 with ⟨rfl, -, e1⟩ | ⟨rfl, -, e1⟩
  · rw [e1]; simp only [if_true]
    simp at h2; subst h2
    rcases h3 with ⟨rfl, -, e3⟩ | ⟨rfl, -, e3⟩
    · rw [e3]; simp only
      by_cases hk : k = 0
      · rw [if_pos hk]
        rw [decide_eq_false (by omega)] at h4
        simp at h4; subst h4
        exact h5.dead
      · rw [if_neg hk]
        rw [decide_eq_true (by omega)] at h4
        simp at h4; subst h4
        rcases h5 with ⟨rfl, -, e5⟩ | ⟨rfl, e5⟩
        · rw [e5]
          refine ⟨rfl, rfl, ?_, rfl⟩
          unfold takeN at e5
          split at e5
          · cases e5
          · rename_i hlk
            simp only [Option.some.injEq, Prod.mk.injEq] at e5
            rw [← e5.1, List.length_take]; omega
        · rw [e5 rfl]
    · rw [e3 rfl]
      simp at h4; subst h4
      exact h5.dead
  · rw [e1 rfl]
    simp at h2; subst h2
    have := h3.dead; subst this
    simp at h4; subst h4
    exact h5.dead
theorem tokB_rel {s : ByteArray} {blk basis q q1 q2 q3 kd b c : Nat} {ok1 ok2 ok3 ok4 ok5 B : Bool} (h1 : NumRel true s q 1 kd q1 ok1) (h0 : kd ≠ 0) (h2 : (ok1 && decide ((kd : Int) < 2)) = ok2) (h3 : NumRel ok2 s q1 2 b q2 ok3) (h4 : NumRel ok3 s q2 1 c q3 ok4) (hB : B = decide (0 < c ∧ b + c ≤ nBlocks basis blk)) (h5 : (ok4 && B) = ok5) :
    match tokN blk basis (s.data.toList.drop q) with
    | none => ok5 = false
    | some ((tk, m), r) => ok5 = true ∧ tk = ⟨b, c, []⟩ ∧ m = madeOf basis blk b c ∧ r = s.data.toList.drop q3 ∧ 0 < c ∧ b + c ≤ nBlocks basis blk := by
  unfold tokN
  rcases h1 with ⟨rfl, -, e1⟩ | ⟨rfl, -, e1⟩
  · rw [e1]; simp only
    rw [if_neg h0]
    by_cases hk : kd = 1
    · subst hk
      rw [if_pos rfl]
      simp at h2; subst h2
      rcases h3 with ⟨rfl, -, e3⟩ | ⟨rfl, -, e3⟩
      · rw [e3]; simp only
        rcases h4 with ⟨rfl, -, e4⟩ | ⟨rfl, -, e4⟩
        · rw [e4]; simp only
          by_cases hc : 0 < c ∧ b + c ≤ nBlocks basis blk
          · rw [if_pos hc]
            rw [hB, decide_eq_true hc] at h5
            exact ⟨h5.symm, rfl, rfl, rfl, hc.1, hc.2⟩
          · rw [if_neg hc]
            rw [hB, decide_eq_false hc] at h5
            exact h5.symm
        · rw [e4 rfl]
          simp at h5; subst h5; rfl
      · rw [e3 rfl]
        have := h4.dead; subst this
        simp at h5; subst h5; rfl
    · rw [if_neg hk]
      rw [decide_eq_false (by omega)] at h2
      simp at h2; subst h2
      have := h3.dead; subst this
      have := h4.dead; subst this
      simp at h5; subst h5; rfl
  · rw [e1 rfl]
    simp at h2; subst h2
    have := h3.dead; subst this
    have := h4.dead; subst this
    simp at h5; subst h5; rfl
theorem toksF_succ (blk basis n : Nat) (acc : List Tok) (s : Nat) (r : List UInt8) : toksF blk basis (n + 1) acc s r = (match tokN blk basis r with | none => none | some ((t, k), r) => toksF blk basis n (acc ++ [t]) (s + k) r) := rfl
/-- What the document's reading of tokens gives. -/
def RTksO (ok : Bool) (s : ByteArray) (p blk size : Nat) : Option ((List Tok × Nat) × List UInt8) :=
  if ok = true then (match numN 2 (s.data.toList.drop p) with | none => none | some (n, r) => toksF blk size n [] 0 r) else none
def RTksPost (w : World) (rb : Nat) (s : ByteArray) (o : Option ((List Tok × Nat) × List UInt8)) (e : Ending) (w' : World) : Prop :=
  Fr (fun k => k = rb) w w' ∧ ∃ (v : Value) (l : List (Tok × Value)) (all p' : Nat) (ok' : Bool), e = .returned (.tuple #[v, .int .i64 all]) ∧ OToks w' w.heap.size v l ∧ all ≤ 65536 * 20000 ∧ RR w' rb s p' ok' ∧
    match o with
    | none => ok' = false
    | some ((t, m), r) => ok' = true ∧ l.map (·.1) = t ∧ all = m ∧ r = s.data.toList.drop p'
set_option maxHeartbeats 1500000 in
theorem rrtokens_any (w : World) (rb : Nat) (s : ByteArray) (p : Nat) (ok : Bool) (h : RR w rb s p ok) (hs : s.size ≤ 1000000) (size blk : Nat) (hb1 : 1 ≤ blk) (hb2 : blk ≤ 64) (hb3 : size ≤ 300) :
    Calls Tryd.prog 46 #[.pointer (some ⟨rb, 0, none⟩), .int .i64 size, .int .i64 blk] w (RTksPost w rb s (RTksO ok s p blk size)) := by
  have hrb := h.own.lt
  have HR := Lib.hid h
  obtain ⟨O, hO⟩ : ∃ O, RTksO ok s p blk size = O := ⟨_, rfl⟩
  have HOO := Lib.hid hO
  rw [hO]
  clear hO h
  go_enter Tryd.func46, Tryd.ntmps46
  go_wp2_with fail
  go_at_call 44; refine (rnum_any _ rb s p 2 _ rfl ok HR.out hs (by omega)).mono ?_
  rintro e w1 ⟨n0, p1, ok1, rfl, hr1, hf1, hn0, hn1⟩
  have hn0' : n0 < 65536 := hn0
  have hG : (ok1 = true ∧ O = toksF blk size n0 [] 0 (s.data.toList.drop p1)) ∨ (ok1 = false ∧ O = none) := by
    have h2 := HOO.out
    unfold RTksO at h2
    rcases hn1 with ⟨rfl, rfl, e1⟩ | ⟨rfl, -, e1⟩
    · rw [if_pos rfl, e1] at h2
      exact .inl ⟨rfl, h2.symm⟩
    · refine .inr ⟨rfl, ?_⟩
      cases ok with
      | true => rw [if_pos rfl, e1 rfl] at h2; exact h2.symm
      | false => exact h2.symm
  have HG := Lib.hid hG
  have HR1 := Lib.hid hr1
  have HF1 := Lib.hid hf1
  clear hG hr1 hf1 hn1 hn0
  go_wp2_with fail
  go_loopw [9, 10, 11] (fun lv av iv wr => ∃ (i q S : Nat) (okc : Bool) (l : List (Tok × Value)), av = .int .i64 S ∧ iv = .int .u64 i ∧ i ≤ n0 ∧ RR wr rb s q okc ∧ OToks wr w.heap.size lv l ∧ l.length ≤ i ∧ S ≤ i * 20000 ∧ Fr (fun k => k = rb) w wr ∧
    ((okc = true ∧ O = toksF blk size (n0 - i) (l.map (·.1)) S (s.data.toList.drop q)) ∨ (okc = false ∧ O = none))) (fun _ _ iv _ => n0 - (intOf iv).toNat)
  case atStart => exact ⟨0, p1, 0, ok1, [], rfl, rfl, Nat.zero_le _, HR1.out, OToks.nil _ _, Nat.zero_le _, Nat.zero_le _, HF1.out, HG.out⟩
  case round =>
    obtain ⟨i, q, S, okc, l, rfl, rfl, hi, hrr, hot, hli, hS, hfr, hgh⟩ := hrel
    have y2 := hrr.own.cell (i := 2) rfl
    have HRR := Lib.hid hrr
    have HOT := Lib.hid hot
    have HFR := Lib.hid hfr
    have HGH := Lib.hid hgh
    obtain ⟨la, lc, hlv, -⟩ := hot.vec.shape
    subst hlv
    have hS2 : S ≤ 65536 * 20000 := by omega
    have hwz := hfr.size
    clear hrr hot hfr hgh
    by_cases hlt : i < n0
    · cases okc with
      | false =>
        have hON : O = none := by
          rcases HGH.out with ⟨h, _⟩ | ⟨_, h⟩
          · cases h
          · exact h
        have HON := Lib.hid hON
        clear hON
        go_wp2_with fail
        go_ret2
        rw [HON.out]
        exact ⟨HFR.out, .slice la l.length lc, l, S, q, false, rfl, HOT.out, hS2, HRR.out, rfl⟩
      | true =>
        have hGO : O = toksF blk size (n0 - i) (l.map (·.1)) S (s.data.toList.drop q) := by
          rcases HGH.out with ⟨_, h⟩ | ⟨h, _⟩
          · exact h
          · cases h
        have GO := Lib.hid hGO
        clear hGO
        go_wp2_with fail
        go_at_call 44; refine (rnum_any _ rb s q 1 _ rfl true HRR.out hs (by omega)).mono ?_
        rintro e w2 ⟨kd, q1, ok1', rfl, hr2, hf2, hkd, hn2⟩
        have hkd' : kd < 256 := hkd
        have HN2 := Lib.hid hn2
        have HR2 := Lib.hid hr2
        have HF2 := Lib.hid hf2
        clear hn2 hr2 hf2 hkd
        go_wp2_with fail
        go_at_call 43; refine (rmust_any _ rb s q1 ok1' (decide ((kd : Int) < 2)) HR2.out).mono ?_
        rintro e w3 ⟨rfl, hr3, hf3⟩
        obtain ⟨ok2, hok2⟩ : ∃ b, (ok1' && decide ((kd : Int) < 2)) = b := ⟨_, rfl⟩
        rw [hok2] at hr3
        have HK2 := Lib.hid hok2
        have HR3 := Lib.hid hr3
        have HF3 := Lib.hid (HF2.out.step hf3 (fun _ h _ => h))
        clear hok2 hr3 hf3
        by_cases hk0 : kd = 0
        · subst hk0
          go_wp2_with fail
          go_at_call 44; refine (rnum_any _ rb s q1 1 _ rfl ok2 HR3.out hs (by omega)).mono ?_
          rintro e w4 ⟨k, q2, ok3, rfl, hr4, hf4, hkl, hn4⟩
          have hkl' : k < 256 := hkl
          have HN4 := Lib.hid hn4
          have HR4 := Lib.hid hr4
          have HF4 := Lib.hid (HF3.out.step hf4 (fun _ h _ => h))
          clear hn4 hr4 hf4 hkl
          go_wp2_with fail
          go_at_call 43; refine (rmust_any _ rb s q2 ok3 (decide (0 < k)) HR4.out).mono ?_
          rintro e w5 ⟨rfl, hr5, hf5⟩
          obtain ⟨ok4, hok4⟩ : ∃ b, (ok3 && decide (0 < k)) = b := ⟨_, rfl⟩
          rw [hok4] at hr5
          have HK4 := Lib.hid hok4
          have HR5 := Lib.hid hr5
          have HF5 := Lib.hid (HF4.out.step hf5 (fun _ h _ => h))
          have hck : IntKind.i64.wrap (k : Int) = (k : Int) := IntWalk.i64_in _ (by omega)
          clear hok4 hr5 hf5
          go_wp2_with fail
          go_at_call 42; refine (rtext_any _ rb s q2 k _ rfl ok4 HR5.out hs (by omega)).mono ?_
          rintro e w6 ⟨t, q3, ok5, rfl, hr6, hf6, htl, hn6⟩
          have HN6 := Lib.hid hn6
          have HR6 := Lib.hid hr6
          have HF6 := Lib.hid (HF5.out.step hf6 (fun _ h _ => h))
          clear hn6 hr6 hf6
          obtain ⟨tb, htb⟩ : ∃ tb : ByteArray, tb = ⟨t.toArray⟩ := ⟨_, rfl⟩
          have htbl : tb.data.toList = t := by rw [htb]
          have htbs : tb.size = t.length := by
            have : tb.data.toList.length = tb.size := by simp
            rw [htbl] at this; omega
          rw [← htb]
          clear htb
          obtain ⟨cap, rest, w7, c1, c2, c3, c4, c5, c6, c7, -⟩ := run_bytes_from (P := Tryd.prog) w6 9 25 5 tb Tryd.underlying9 Tryd.underlying25 Tryd.underlying5 (by omega)
          rw [htbl] at c4
          rw [htbs] at c1 c2 c5
          have hwz6 := HF6.out.size
          have HDV := Lib.hid (show Vec w7 w.heap.size 5 1 (.slice (some ⟨w6.heap.size, 0, none⟩) t.length cap) t.length (bcells t) from ⟨by simp, .inr ⟨w6.heap.size, cap, rest, rfl, by omega, c4, by simp; omega, c2, c3⟩⟩)
          have HF7 := Lib.hid (HF6.out.step c6 (fun _ h _ => h.elim))
          have HR7 := Lib.hid (HR6.out.keep c6 id)
          have HOT7 := Lib.hid (HOT.out.below HF7.out (fun b hb => by subst hb; exact hrb))
          have RTK := Lib.hid (tokA_rel (blk := blk) (basis := size) HN2.out rfl HK2.out HN4.out HK4.out HN6.out)
          have hwS : IntKind.i64.wrap ((S : Int) + t.length) = (S : Int) + t.length := IntWalk.i64_in _ (by omega)
          have hui : IntKind.u64.wrap ((i : Int) + 1) = (i : Int) + 1 := by rw [show ∀ n : Int, IntKind.u64.wrap n = n % 18446744073709551616 from fun n => by simp [IntKind.wrap, IntKind.bits, IntKind.signed]]; omega
          clear c4 c6 c2 c3 c5
          go_wp2_with (at_builtin; refine wpList_append_vec rfl (.tmp 50) (.tmp 54) _ rfl w.heap.size 30 3 40 elt_tok (HOT7.out.vec.keep ((Fr.refl (fun _ => False) _).alloc _) (fun _ _ h => h)) rfl (m := 1) (Reads.new _ _ _ _ (by first | omega | simp) _ _) rfl rfl (tok_one _ _ _ _ _) (by unfold maxLen; omega) (by omega) (by simp; omega) ?_; intro v8 w8 hv8 hf8 hd8 hn8; obtain ⟨a8, c8, hsh8, -⟩ := hv8.shape; subst hsh8; have HV8 := Lib.hid hv8; have HF8 := Lib.hid hf8; clear hv8 hf8 hd8 hn8)
          have hota := HOT7.out.keep0 ((Fr.refl (fun _ => False) w7).alloc (.cells #[.int .i64 0, .int .i64 0, .slice (some ⟨w6.heap.size, 0, none⟩) t.length cap] 30))
          have hdva := (HDV.out.keep ((Fr.refl (fun _ => False) w7).alloc (.cells #[.int .i64 0, .int .i64 0, .slice (some ⟨w6.heap.size, 0, none⟩) t.length cap] 30)) (fun _ _ h => h)).keep HF8.out (fun b hb hs => by
            have := (HOT.out.vec.lt b hs).2
            simp [Value.ownBlock] at hb
            have := HF6.out.size
            omega)
          have hsn := hota.snoc (t := ⟨0, 0, t⟩) HV8.out HF8.out hdva (fun p hp b hb hb2 => by
            have := (HOT.out.lt p hp b hb).2
            simp [Value.ownBlock] at hb2
            have := HF6.out.size
            omega)
          have hF8 : Fr (fun k => k = rb) w w8 := (HFR.out.step (HF7.out.alloc (.cells #[.int .i64 0, .int .i64 0, .slice (some ⟨w6.heap.size, 0, none⟩) t.length cap] 30)) (fun _ h _ => h)).step HF8.out (fun b hb hl => by have := (HOT.out.vec.lt b hb).1; omega)
          have hR8 := (HR7.out.keep ((Fr.refl (fun _ => False) w7).alloc (.cells #[.int .i64 0, .int .i64 0, .slice (some ⟨w6.heap.size, 0, none⟩) t.length cap] 30)) id).keep HF8.out (fun hb => by have := (HOT.out.vec.lt _ hb).1; omega)
          refine ⟨⟨i + 1, q3, S + t.length, ok5, l ++ [(⟨0, 0, t⟩, .slice (some ⟨w6.heap.size, 0, none⟩) t.length cap)], congrArg (Value.int .i64) (by omega), congrArg (Value.int .u64) (by omega), by omega, hR8, hsn, by simp; omega, by omega, hF8, ?_⟩, by simp [intOf]; omega⟩
          have hr2 := RTK.out
          rw [GO.out, show n0 - i = (n0 - (i + 1)) + 1 by omega, toksF_succ]
          cases hT : tokN blk size (s.data.toList.drop q) with
          | none => rw [hT] at hr2; exact .inr ⟨hr2, rfl⟩
          | some x =>
            obtain ⟨⟨tk, m⟩, r⟩ := x
            rw [hT] at hr2
            obtain ⟨h1, rfl, rfl, rfl⟩ := hr2
            refine .inl ⟨h1, ?_⟩
            simp
        · have hk0' : ((kd : Int) == 0) = false := by rw [beq_eq_false_iff_ne]; omega
          go_wp2_with fail
          go_at_call 44; refine (rnum_any _ rb s q1 2 _ rfl ok2 HR3.out hs (by omega)).mono ?_
          rintro e w4 ⟨b, q2, ok3, rfl, hr4, hf4, hbl, hn4⟩
          have hbl' : b < 65536 := hbl
          have HN4 := Lib.hid hn4
          have HR4 := Lib.hid hr4
          have HF4 := Lib.hid (HF3.out.step hf4 (fun _ h _ => h))
          have hcb : IntKind.i64.wrap (b : Int) = (b : Int) := IntWalk.i64_in _ (by omega)
          clear hn4 hr4 hf4 hbl
          go_wp2_with fail
          go_at_call 44; refine (rnum_any _ rb s q2 1 _ rfl ok3 HR4.out hs (by omega)).mono ?_
          rintro e w5 ⟨c, q3, ok4, rfl, hr5, hf5, hcl, hn5⟩
          have hcl' : c < 256 := hcl
          have HN5 := Lib.hid hn5
          have HR5 := Lib.hid hr5
          have HF5 := Lib.hid (HF4.out.step hf5 (fun _ h _ => h))
          have hcc : IntKind.i64.wrap (c : Int) = (c : Int) := IntWalk.i64_in _ (by omega)
          clear hn5 hr5 hf5 hcl
          go_wp2_with fail
          go_at_call 60; refine (rcount_any size blk _ (by omega) hb1 (by omega)).mono ?_
          rintro e w' ⟨rfl, rfl⟩
          have hui : IntKind.u64.wrap ((i : Int) + 1) = (i : Int) + 1 := by rw [show ∀ n : Int, IntKind.u64.wrap n = n % 18446744073709551616 from fun n => by simp [IntKind.wrap, IntKind.bits, IntKind.signed]]; omega
          have hbc : IntKind.i64.wrap ((b : Int) + c) = (b : Int) + c := IntWalk.i64_in _ (by omega)
          by_cases hc0 : c = 0
          · subst hc0
            go_wp2_with fail
            go_at_call 43; refine (rmust_any _ rb s q3 ok4 (false) HR5.out).mono ?_
            rintro e w6 ⟨rfl, hr6, hf6⟩
            obtain ⟨ok5, hok5⟩ : ∃ bb, (ok4 && (false)) = bb := ⟨_, rfl⟩
            rw [hok5] at hr6
            have RTK := Lib.hid (tokB_rel (blk := blk) (basis := size) (B := false) HN2.out hk0 HK2.out HN4.out HN5.out (by simp) hok5)
            have HR6 := Lib.hid hr6
            have HF6 := Lib.hid (HF5.out.step hf6 (fun _ h _ => h))
            have y6 := HR6.out.own.cell (i := 2) rfl
            clear hok5 hr6 hf6
            have h5f : ok5 = false := by
              have := RTK.out
              cases hT : tokN blk size (s.data.toList.drop q) with
              | none => rw [hT] at this; exact this
              | some x => obtain ⟨⟨tk, m⟩, r⟩ := x; rw [hT] at this; have := this.2.2.2.2.1; omega
            subst h5f
            go_wp2_with fail
            exact ⟨⟨i + 1, q3, S, false, l, rfl, congrArg (Value.int .u64) (by omega), by omega, HR6.out, HOT.out.below HF6.out (fun b hb => by subst hb; exact hrb), by omega, by omega, HFR.out.step HF6.out (fun _ h _ => h), .inr ⟨rfl, by
              have hr2 := RTK.out
              rw [GO.out, show n0 - i = (n0 - (i + 1)) + 1 by omega, toksF_succ]
              cases hT : tokN blk size (s.data.toList.drop q) with
              | none => rfl
              | some x =>
                obtain ⟨⟨tk, m⟩, r⟩ := x
                rw [hT] at hr2
                cases hr2.1⟩⟩, by simp [intOf]; omega⟩
          have hcpos : (0 : Int) < (c : Int) := by omega
          go_wp2_with fail
          go_at_call 43; refine (rmust_any _ rb s q3 ok4 (decide ((b : Int) + c ≤ (nBlocks size blk : Nat))) HR5.out).mono ?_
          rintro e w6 ⟨rfl, hr6, hf6⟩
          obtain ⟨ok5, hok5⟩ : ∃ bb, (ok4 && (decide ((b : Int) + c ≤ (nBlocks size blk : Nat)))) = bb := ⟨_, rfl⟩
          rw [hok5] at hr6
          have RTK := Lib.hid (tokB_rel (blk := blk) (basis := size) (B := decide ((b : Int) + c ≤ (nBlocks size blk : Nat))) HN2.out hk0 HK2.out HN4.out HN5.out (by congr 1; apply propext; constructor <;> intro h <;> omega) hok5)
          have HR6 := Lib.hid hr6
          have HF6 := Lib.hid (HF5.out.step hf6 (fun _ h _ => h))
          have y6 := HR6.out.own.cell (i := 2) rfl
          clear hok5 hr6 hf6
          cases ok5 with
          | false =>
            go_wp2_with fail
            exact ⟨⟨i + 1, q3, S, false, l, rfl, congrArg (Value.int .u64) (by omega), by omega, HR6.out, HOT.out.below HF6.out (fun b hb => by subst hb; exact hrb), by omega, by omega, HFR.out.step HF6.out (fun _ h _ => h), .inr ⟨rfl, by
              have hr2 := RTK.out
              rw [GO.out, show n0 - i = (n0 - (i + 1)) + 1 by omega, toksF_succ]
              cases hT : tokN blk size (s.data.toList.drop q) with
              | none => rfl
              | some x =>
                obtain ⟨⟨tk, m⟩, r⟩ := x
                rw [hT] at hr2
                cases hr2.1⟩⟩, by simp [intOf]; omega⟩
          | true =>
            have hfit : 0 < c ∧ b + c ≤ nBlocks size blk := by
              have := RTK.out
              cases hT : tokN blk size (s.data.toList.drop q) with
              | none => rw [hT] at this; cases this
              | some x => obtain ⟨⟨tk, m⟩, r⟩ := x; rw [hT] at this; exact ⟨this.2.2.2.2.1, this.2.2.2.2.2⟩
            have hmle : madeOf size blk b c ≤ 300 := by unfold madeOf; omega
            have hwS : IntKind.i64.wrap ((S : Int) + (madeOf size blk b c : Nat)) = (S : Int) + (madeOf size blk b c : Nat) := IntWalk.i64_in _ (by omega)
            go_wp2_with fail
            go_at_call 61; refine (rmade_any size blk b c _ hb3 hb1 hb2 hfit.1 hfit.2).mono ?_
            rintro e w' ⟨rfl, rfl⟩
            have HOT6 := Lib.hid (HOT.out.below HF6.out (fun b hb => by subst hb; exact hrb))
            have hz6 := HF6.out.size
            go_wp2_with (at_builtin; refine wpList_append_vec rfl (.tmp 92) (.tmp 96) _ rfl w.heap.size 30 3 40 elt_tok (HOT6.out.vec.keep ((Fr.refl (fun _ => False) _).alloc _) (fun _ _ h => h)) rfl (m := 1) (Reads.new _ _ _ _ (by first | omega | simp) _ _) rfl rfl (tok_one _ _ _ _ _) (by unfold maxLen; omega) (by omega) (by simp; omega) ?_; intro v8 w8 hv8 hf8 hd8 hn8; obtain ⟨a8, c8, hsh8, -⟩ := hv8.shape; subst hsh8; have HV8 := Lib.hid hv8; have HF8 := Lib.hid hf8; clear hv8 hf8 hd8 hn8)
            have hota := HOT6.out.keep0 ((Fr.refl (fun _ => False) w6).alloc (.cells #[.int .i64 b, .int .i64 c, .slice none 0 0] 30))
            have hsn := hota.snoc (t := ⟨b, c, []⟩) HV8.out HF8.out (Vec.nil _ _ _ _) (fun p hp b hb hb2 => by simp [Value.ownBlock] at hb2)
            have hF8 : Fr (fun k => k = rb) w w8 := (HFR.out.step (HF6.out.alloc (.cells #[.int .i64 b, .int .i64 c, .slice none 0 0] 30)) (fun _ h _ => h)).step HF8.out (fun b hb hl => by have := (HOT.out.vec.lt b hb).1; omega)
            have hR8 := (HR6.out.keep ((Fr.refl (fun _ => False) w6).alloc (.cells #[.int .i64 b, .int .i64 c, .slice none 0 0] 30)) id).keep HF8.out (fun hb => by have := (HOT.out.vec.lt _ hb).1; omega)
            refine ⟨⟨i + 1, q3, S + madeOf size blk b c, true, l ++ [(⟨b, c, []⟩, .slice none 0 0)], congrArg (Value.int .i64) (by omega), congrArg (Value.int .u64) (by omega), by omega, hR8, hsn, by simp; omega, by omega, hF8, ?_⟩, by simp [intOf]; omega⟩
            have hr2 := RTK.out
            rw [GO.out, show n0 - i = (n0 - (i + 1)) + 1 by omega, toksF_succ]
            cases hT : tokN blk size (s.data.toList.drop q) with
            | none => rw [hT] at hr2; cases hr2
            | some x =>
              obtain ⟨⟨tk, m⟩, r⟩ := x
              rw [hT] at hr2
              obtain ⟨h1, rfl, rfl, rfl, -⟩ := hr2
              refine .inl ⟨rfl, ?_⟩
              simp
    · obtain rfl : i = n0 := by omega
      go_wp2_with fail
      go_ret2
      refine ⟨HFR.out, .slice la l.length lc, l, S, q, okc, rfl, HOT.out, hS2, HRR.out, ?_⟩
      rcases HGH.out with ⟨rfl, h⟩ | ⟨rfl, h⟩
      · rw [h, Nat.sub_self]; exact ⟨rfl, rfl, rfl, rfl⟩
      · rw [h]
end Go.Proofs.YtlcdgbhigfgehaaDoor
