/- A batch with a byte changed, cut short or with one more is none, in plain terms. No program in sight. -/
import Derived.Test.YtlcdgbhigfgehabGreatDoorRecPure
namespace Go.Proofs.YtlcdgbhigfgehabGreatDoor
open Go.Op

theorem takeN_more {n : Nat} {r r' x : List UInt8} (h : takeN n r = some (x, r')) (t : List UInt8) : takeN n (r ++ t) = some (x, r' ++ t) := by
  unfold takeN at *
  split at h
  · cases h
  · rename_i hl
    cases h
    rw [if_neg (by simp; omega), List.take_append_of_le_length (by omega), List.drop_append_of_le_length (by omega)]
theorem numN_more {n v : Nat} {r r' : List UInt8} (h : numN n r = some (v, r')) (t : List UInt8) : numN n (r ++ t) = some (v, r' ++ t) := by
  unfold numN at *
  split at h
  · cases h
  · rename_i hl
    cases h
    rw [if_neg (by simp; omega), List.take_append_of_le_length (by omega), List.drop_append_of_le_length (by omega)]
theorem entN_more {last : List UInt8} {first : Bool} {r r' : List UInt8} {e : Ent} (h : entN last first r = some (e, r')) (t : List UInt8) : entN last first (r ++ t) = some (e, r' ++ t) := by
  unfold entN at h ⊢
  cases h1 : numN 1 r with
  | none => rw [h1] at h; cases h
  | some p1 =>
    obtain ⟨k, r1⟩ := p1
    rw [h1] at h
    rw [numN_more h1 t]
    simp only at h ⊢
    cases h2 : takeN k r1 with
    | none => rw [h2] at h; cases h
    | some p2 =>
      obtain ⟨nm, r2⟩ := p2
      rw [h2] at h
      rw [takeN_more h2 t]
      simp only at h ⊢
      split at h
      · cases h
      · rename_i hc
        rw [if_neg hc]
        cases h3 : numN 2 r2 with
        | none => rw [h3] at h; cases h
        | some p3 =>
          obtain ⟨sz, r3⟩ := p3
          rw [h3] at h
          rw [numN_more h3 t]
          simp only at h ⊢
          split at h
          · cases h
          · rename_i hc
            rw [if_neg hc]
            cases h4 : numN 8 r3 with
            | none => rw [h4] at h; cases h
            | some p4 =>
              obtain ⟨d, r4⟩ := p4
              rw [h4] at h
              rw [numN_more h4 t]
              cases h
              rfl
theorem entsF_more : ∀ (n : Nat) (acc : List Ent) (r r' : List UInt8) (x : List Ent), entsF n acc r = some (x, r') → ∀ t, entsF n acc (r ++ t) = some (x, r' ++ t) := by
  intro n
  induction n with
  | zero => intro acc r r' x h t; cases h; rfl
  | succ n ih =>
    intro acc r r' x h t
    unfold entsF at h ⊢
    cases h1 : entN (lastName acc) acc.isEmpty r with
    | none => rw [h1] at h; cases h
    | some p1 =>
      obtain ⟨e, r1⟩ := p1
      rw [h1] at h
      rw [entN_more h1 t]
      exact ih _ _ _ _ h t
theorem tokN_more {blk basis : Nat} {r r' : List UInt8} {x : Tok × Nat} (h : tokN blk basis r = some (x, r')) (t : List UInt8) : tokN blk basis (r ++ t) = some (x, r' ++ t) := by
  unfold tokN at h ⊢
  cases h1 : numN 1 r with
  | none => rw [h1] at h; cases h
  | some p1 =>
    obtain ⟨k, r1⟩ := p1
    rw [h1] at h
    rw [numN_more h1 t]
    simp only at h ⊢
    split at h
    · rename_i hk
      rw [if_pos hk]
      cases h2 : numN 1 r1 with
      | none => rw [h2] at h; cases h
      | some p2 =>
        obtain ⟨n, r2⟩ := p2
        rw [h2] at h
        rw [numN_more h2 t]
        simp only at h ⊢
        split at h
        · cases h
        · rename_i hn
          rw [if_neg hn]
          cases h3 : takeN n r2 with
          | none => rw [h3] at h; cases h
          | some p3 =>
            obtain ⟨d, r3⟩ := p3
            rw [h3] at h
            rw [takeN_more h3 t]
            cases h
            rfl
    · rename_i hk
      rw [if_neg hk]
      split at h
      · rename_i hk1
        rw [if_pos hk1]
        cases h2 : numN 2 r1 with
        | none => rw [h2] at h; cases h
        | some p2 =>
          obtain ⟨b, r2⟩ := p2
          rw [h2] at h
          rw [numN_more h2 t]
          simp only at h ⊢
          cases h3 : numN 1 r2 with
          | none => rw [h3] at h; cases h
          | some p3 =>
            obtain ⟨c, r3⟩ := p3
            rw [h3] at h
            rw [numN_more h3 t]
            simp only at h ⊢
            split at h
            · rename_i hc
              rw [if_pos hc]
              cases h
              rfl
            · cases h
      · cases h
theorem toksF_more {blk basis : Nat} : ∀ (n : Nat) (acc : List Tok) (s : Nat) (r r' : List UInt8) (x : List Tok × Nat), toksF blk basis n acc s r = some (x, r') → ∀ t, toksF blk basis n acc s (r ++ t) = some (x, r' ++ t) := by
  intro n
  induction n with
  | zero => intro acc s r r' x h t; cases h; rfl
  | succ n ih =>
    intro acc s r r' x h t
    unfold toksF at h ⊢
    cases h1 : tokN blk basis r with
    | none => rw [h1] at h; cases h
    | some p1 =>
      obtain ⟨⟨e, k⟩, r1⟩ := p1
      rw [h1] at h
      rw [tokN_more h1 t]
      exact ih _ _ _ _ _ h t
theorem tksN_more {blk basis size : Nat} {r r' : List UInt8} {x : List Tok} (h : tksN blk basis size r = some (x, r')) (t : List UInt8) : tksN blk basis size (r ++ t) = some (x, r' ++ t) := by
  unfold tksN at h ⊢
  cases h1 : numN 2 r with
  | none => rw [h1] at h; cases h
  | some p1 =>
    obtain ⟨n, r1⟩ := p1
    rw [h1] at h
    rw [numN_more h1 t]
    simp only at h ⊢
    cases h2 : toksF blk basis n [] 0 r1 with
    | none => rw [h2] at h; cases h
    | some p2 =>
      obtain ⟨⟨l, s⟩, r2⟩ := p2
      rw [h2] at h
      rw [toksF_more _ _ _ _ _ _ h2 t]
      simp only at h ⊢
      split at h
      · rename_i hs
        rw [if_pos hs]
        cases h
        rfl
      · cases h
theorem targsF_more {blk : Nat} {basis : List Ent} : ∀ (n : Nat) (acc : List Targ) (r r' : List UInt8) (x : List Targ), targsF blk basis n acc r = some (x, r') → ∀ t, targsF blk basis n acc (r ++ t) = some (x, r' ++ t) := by
  intro n
  induction n with
  | zero => intro acc r r' x h t; cases h; rfl
  | succ n ih =>
    intro acc r r' x h t
    unfold targsF at h ⊢
    cases h1 : entN (lastT basis acc) acc.isEmpty r with
    | none => rw [h1] at h; cases h
    | some p1 =>
      obtain ⟨e, r1⟩ := p1
      rw [h1] at h
      rw [entN_more h1 t]
      simp only at h ⊢
      cases h2 : tksN blk (sizeIn basis e.name) e.size r1 with
      | none => rw [h2] at h; cases h
      | some p2 =>
        obtain ⟨l, r2⟩ := p2
        rw [h2] at h
        rw [tksN_more h2 t]
        exact ih _ _ _ _ h t
theorem bodyN_more {s r : List UInt8} {x : Bat} (h : bodyN s = some (x, r)) (t : List UInt8) : bodyN (s ++ t) = some (x, r ++ t) := by
  unfold bodyN at h ⊢
  cases h1 : takeN 3 s with
  | none => rw [h1] at h; cases h
  | some p1 =>
    obtain ⟨m, r1⟩ := p1
    rw [h1] at h
    rw [takeN_more h1 t]
    simp only at h ⊢
    split at h
    · cases h
    · rename_i hc
      rw [if_neg hc]
      cases h2 : numN 1 r1 with
      | none => rw [h2] at h; cases h
      | some p2 =>
        obtain ⟨blk, r2⟩ := p2
        rw [h2] at h
        rw [numN_more h2 t]
        simp only at h ⊢
        split at h
        · cases h
        · rename_i hc
          rw [if_neg hc]
          cases h3 : numN 1 r2 with
          | none => rw [h3] at h; cases h
          | some p3 =>
            obtain ⟨n, r3⟩ := p3
            rw [h3] at h
            rw [numN_more h3 t]
            simp only at h ⊢
            split at h
            · cases h
            · rename_i hc
              rw [if_neg hc]
              cases h4 : entsF n [] r3 with
              | none => rw [h4] at h; cases h
              | some p4 =>
                obtain ⟨basis, r4⟩ := p4
                rw [h4] at h
                rw [entsF_more _ _ _ _ _ h4 t]
                simp only at h ⊢
                cases h5 : numN 1 r4 with
                | none => rw [h5] at h; cases h
                | some p5 =>
                  obtain ⟨k, r5⟩ := p5
                  rw [h5] at h
                  rw [numN_more h5 t]
                  simp only at h ⊢
                  split at h
                  · cases h
                  · rename_i hc
                    rw [if_neg hc]
                    cases h6 : targsF blk basis k [] r5 with
                    | none => rw [h6] at h; cases h
                    | some p6 =>
                      obtain ⟨ts, r6⟩ := p6
                      rw [h6] at h
                      rw [targsF_more _ _ _ _ _ h6 t]
                      cases h
                      rfl
/-- What reads ends where all that is told ends, and bears the digest of it. -/
theorem readOf_some {s : List UInt8} {x : Bat} (h : readOf s = some x) : ∃ r, bodyN s = some (x, r) ∧ r.length = 8 ∧ (numOf r : Int) = dgOf (s.take (s.length - 8)) := by
  unfold readOf at h
  split at h
  · cases h
  · rename_i x' r hb
    split at h
    · rename_i hc
      cases h
      exact ⟨r, hb, hc.1, by rw [hc.2, hc.1]⟩
    · cases h
/-- Cut short it is none. -/
theorem read_cut {s : List UInt8} {x : Bat} (h : readOf s = some x) (k : Nat) (hk : k < s.length) : readOf (s.take k) = none := by
  cases h2 : readOf (s.take k) with
  | none => rfl
  | some y =>
    obtain ⟨r, h3, h4, -⟩ := readOf_some h
    obtain ⟨r2, h5, h6, -⟩ := readOf_some h2
    have := bodyN_more h5 (s.drop k)
    rw [List.take_append_drop, h3] at this
    cases this
    simp at h4; omega
/-- With a byte more it is none. -/
theorem read_more {s : List UInt8} {x : Bat} (h : readOf s = some x) (t : List UInt8) (ht : t ≠ []) : readOf (s ++ t) = none := by
  cases h2 : readOf (s ++ t) with
  | none => rfl
  | some y =>
    obtain ⟨r, h3, h4, -⟩ := readOf_some h
    obtain ⟨r2, h5, h6, -⟩ := readOf_some h2
    have := bodyN_more h3 t
    rw [h5] at this
    cases this
    have := List.length_pos_iff.2 ht
    simp at h6; omega
theorem takeN_rest {n : Nat} {r r' x : List UInt8} (h : takeN n r = some (x, r')) : r' <:+ r := by
  unfold takeN at h
  split at h
  · cases h
  · cases h; exact List.drop_suffix _ _
theorem numN_rest {n v : Nat} {r r' : List UInt8} (h : numN n r = some (v, r')) : r' <:+ r := by
  unfold numN at h
  split at h
  · cases h
  · cases h; exact List.drop_suffix _ _
theorem entN_rest {last : List UInt8} {first : Bool} {r r' : List UInt8} {e : Ent} (h : entN last first r = some (e, r')) : r' <:+ r := by
  unfold entN at h
  split at h
  · cases h
  · rename_i h1
    split at h
    · cases h
    · rename_i h2
      split at h
      · cases h
      · split at h
        · cases h
        · rename_i h3
          split at h
          · cases h
          · split at h
            · cases h
            · rename_i h4
              cases h
              exact (((numN_rest h4).trans (numN_rest h3)).trans (takeN_rest h2)).trans (numN_rest h1)
theorem entsF_rest : ∀ (n : Nat) (acc : List Ent) (r r' : List UInt8) (x : List Ent), entsF n acc r = some (x, r') → r' <:+ r := by
  intro n
  induction n with
  | zero => intro acc r r' x h; cases h; exact List.suffix_refl _
  | succ n ih =>
    intro acc r r' x h
    unfold entsF at h
    split at h
    · cases h
    · rename_i h1
      exact (ih _ _ _ _ h).trans (entN_rest h1)
theorem tokN_rest {blk basis : Nat} {r r' : List UInt8} {x : Tok × Nat} (h : tokN blk basis r = some (x, r')) : r' <:+ r := by
  unfold tokN at h
  split at h
  · cases h
  · rename_i h1
    split at h
    · split at h
      · cases h
      · rename_i h2
        split at h
        · cases h
        · split at h
          · cases h
          · rename_i h3
            cases h
            exact ((takeN_rest h3).trans (numN_rest h2)).trans (numN_rest h1)
    · split at h
      · split at h
        · cases h
        · rename_i h2
          split at h
          · cases h
          · rename_i h3
            split at h
            · cases h
              exact ((numN_rest h3).trans (numN_rest h2)).trans (numN_rest h1)
            · cases h
      · cases h
theorem toksF_rest {blk basis : Nat} : ∀ (n : Nat) (acc : List Tok) (s : Nat) (r r' : List UInt8) (x : List Tok × Nat), toksF blk basis n acc s r = some (x, r') → r' <:+ r := by
  intro n
  induction n with
  | zero => intro acc s r r' x h; cases h; exact List.suffix_refl _
  | succ n ih =>
    intro acc s r r' x h
    unfold toksF at h
    split at h
    · cases h
    · rename_i h1
      exact (ih _ _ _ _ _ h).trans (tokN_rest h1)
theorem tksN_rest {blk basis size : Nat} {r r' : List UInt8} {x : List Tok} (h : tksN blk basis size r = some (x, r')) : r' <:+ r := by
  unfold tksN at h
  split at h
  · cases h
  · rename_i h1
    split at h
    · cases h
    · rename_i h2
      split at h
      · cases h
        exact (toksF_rest _ _ _ _ _ _ h2).trans (numN_rest h1)
      · cases h
theorem targsF_rest {blk : Nat} {basis : List Ent} : ∀ (n : Nat) (acc : List Targ) (r r' : List UInt8) (x : List Targ), targsF blk basis n acc r = some (x, r') → r' <:+ r := by
  intro n
  induction n with
  | zero => intro acc r r' x h; cases h; exact List.suffix_refl _
  | succ n ih =>
    intro acc r r' x h
    unfold targsF at h
    split at h
    · cases h
    · rename_i h1
      split at h
      · cases h
      · rename_i h2
        exact ((ih _ _ _ _ h).trans (tksN_rest h2)).trans (entN_rest h1)
theorem bodyN_rest {s r : List UInt8} {x : Bat} (h : bodyN s = some (x, r)) : r <:+ s := by
  unfold bodyN at h
  split at h
  · cases h
  · rename_i h1
    split at h
    · cases h
    · split at h
      · cases h
      · rename_i h2
        split at h
        · cases h
        · split at h
          · cases h
          · rename_i h3
            split at h
            · cases h
            · split at h
              · cases h
              · rename_i h4
                split at h
                · cases h
                · rename_i h5
                  split at h
                  · cases h
                  · split at h
                    · cases h
                    · rename_i h6
                      cases h
                      exact (((((targsF_rest _ _ _ _ _ h6).trans (numN_rest h5)).trans (entsF_rest _ _ _ _ _ h4)).trans (numN_rest h3)).trans (numN_rest h2)).trans (takeN_rest h1)
/-- What reads: all but eight bytes, and the digest of them. -/
theorem readOf_digest {s : List UInt8} {x : Bat} (h : readOf s = some x) : 8 ≤ s.length ∧ (numOf (s.drop (s.length - 8)) : Int) = dgOf (s.take (s.length - 8)) := by
  obtain ⟨r, h1, h2, h3⟩ := readOf_some h
  obtain ⟨p, rfl⟩ := bodyN_rest h1
  refine ⟨by simp; omega, ?_⟩
  rw [← h3]
  congr 1
  congr 1
  rw [List.length_append, h2, Nat.add_sub_cancel, List.drop_left]

/-! ### Bytes of which one is another have another digest -/
def bvStep (v : BitVec 64) (c : UInt8) : BitVec 64 := (v ^^^ BitVec.ofNat 64 c.toNat) * 1099511628211#64
theorem wrapU (n : Int) : IntKind.u64.wrap n = n % 18446744073709551616 := by simp [IntKind.wrap, IntKind.bits, IntKind.signed]
theorem xor64 (v c : Int) : Go.bits .xor .u64 v c = ((BitVec.ofInt 64 v ^^^ BitVec.ofInt 64 c).toNat : Int) := by
  unfold Go.bits
  rw [wrapU]
  show ((BitVec.ofInt 64 v ^^^ BitVec.ofInt 64 c).toNat : Int) % 18446744073709551616 = _
  have := (BitVec.ofInt 64 v ^^^ BitVec.ofInt 64 c).isLt
  generalize (BitVec.ofInt 64 v ^^^ BitVec.ofInt 64 c).toNat = n at *
  omega
theorem ofInt_mulmod (n p : Nat) : BitVec.ofInt 64 (((n : Int) * (p : Int)) % 18446744073709551616) = BitVec.ofNat 64 n * BitVec.ofNat 64 p := by
  apply BitVec.eq_of_toNat_eq
  rw [BitVec.toNat_mul, BitVec.toNat_ofNat, BitVec.toNat_ofNat, BitVec.toNat_ofInt, ← Nat.mul_mod, ← Int.natCast_mul]
  generalize n * p = m
  rw [show (2 : Nat) ^ 64 = 18446744073709551616 from by decide]
  omega
theorem ofInt_dgStep (v : Int) (c : UInt8) : BitVec.ofInt 64 (dgStep v c) = bvStep (BitVec.ofInt 64 v) c := by
  have hc := c.toNat_lt
  have hb : BitVec.ofInt 64 (c.toNat : Int) = BitVec.ofNat 64 c.toNat := by
    apply BitVec.eq_of_toNat_eq
    simp
  unfold dgStep bvStep
  rw [wrapU, wrapU, xor64, show ((c.toNat : Int) % 18446744073709551616) = (c.toNat : Int) from by omega, hb]
  generalize BitVec.ofInt 64 v ^^^ BitVec.ofNat 64 c.toNat = x
  have h := ofInt_mulmod x.toNat 1099511628211
  rw [BitVec.ofNat_toNat, BitVec.setWidth_eq] at h
  exact h
theorem bvStep_inj {a b : BitVec 64} {c d : UInt8} (h : bvStep a c = bvStep b d) : a ^^^ BitVec.ofNat 64 c.toNat = b ^^^ BitVec.ofNat 64 d.toNat := by
  unfold bvStep at h
  have h2 := congrArg (fun x => x * 14886173955864302971#64) h
  simp only [BitVec.mul_assoc] at h2
  rw [show (1099511628211#64 * 14886173955864302971#64 : BitVec 64) = 1#64 from by decide +kernel] at h2
  simpa using h2
theorem bvStep_left {a b : BitVec 64} {c : UInt8} (h : bvStep a c = bvStep b c) : a = b := by
  have := bvStep_inj h
  have h2 := congrArg (fun x => x ^^^ BitVec.ofNat 64 c.toNat) this
  simpa [BitVec.xor_assoc] using h2
theorem bvStep_right {a : BitVec 64} {c d : UInt8} (h : bvStep a c = bvStep a d) : c = d := by
  have := bvStep_inj h
  have h2 := congrArg (fun x => a ^^^ x) this
  simp only [← BitVec.xor_assoc, BitVec.xor_self, BitVec.zero_xor] at h2
  have h3 := congrArg BitVec.toNat h2
  have hc := c.toNat_lt
  have hd := d.toNat_lt
  simp at h3
  exact UInt8.toNat_inj.1 (by omega)
theorem ofInt_fold (l : List UInt8) : ∀ v : Int, BitVec.ofInt 64 (dgFold v l) = l.foldl bvStep (BitVec.ofInt 64 v) := by
  induction l with
  | nil => intro v; rfl
  | cons c l ih =>
    intro v
    have := ih (dgStep v c)
    rw [ofInt_dgStep] at this
    exact this
theorem foldl_inj (l : List UInt8) : ∀ a b : BitVec 64, l.foldl bvStep a = l.foldl bvStep b → a = b := by
  induction l with
  | nil => intro a b h; exact h
  | cons c l ih => intro a b h; exact bvStep_left (ih _ _ h)
/-- One byte is another: so is the digest. -/
theorem dgOf_ne (p q : List UInt8) (c d : UInt8) (h : c ≠ d) : dgOf (p ++ c :: q) ≠ dgOf (p ++ d :: q) := by
  intro he
  have h1 := congrArg (BitVec.ofInt 64) he
  unfold dgOf at h1
  rw [ofInt_fold, ofInt_fold, List.foldl_append, List.foldl_append, List.foldl_cons, List.foldl_cons] at h1
  exact h (bvStep_right (foldl_inj _ _ _ h1))
theorem numOf_fold (l : List UInt8) : ∀ v : Nat, l.foldl (fun v c => 256 * v + c.toNat) v = v * 256 ^ l.length + numOf l := by
  induction l with
  | nil => intro v; simp [numOf]
  | cons c l ih =>
    intro v
    have h2 := ih (256 * 0 + c.toNat)
    simp only [List.foldl_cons, numOf, List.length_cons, Nat.pow_succ] at h2 ⊢
    rw [ih, h2]
    rw [Nat.add_mul, Nat.add_mul, Nat.mul_comm 256 v, Nat.mul_assoc v, Nat.mul_comm 256 (256 ^ l.length)]
    unfold numOf
    omega
theorem numOf_append (p q : List UInt8) : numOf (p ++ q) = numOf p * 256 ^ q.length + numOf q := by
  rw [← numOf_fold]
  simp [numOf]
theorem numOf_ne (p q : List UInt8) (c d : UInt8) (h : c ≠ d) : numOf (p ++ c :: q) ≠ numOf (p ++ d :: q) := by
  intro he
  have e : ∀ c : UInt8, numOf (p ++ c :: q) = (256 * numOf p + c.toNat) * 256 ^ q.length + numOf q := by
    intro c
    rw [show p ++ c :: q = (p ++ [c]) ++ q by simp, numOf_append, numOf_snoc]
  rw [e, e] at he
  have h1 := Nat.add_right_cancel he
  have h2 := Nat.eq_of_mul_eq_mul_right (Nat.pow_pos (by decide)) h1
  exact h (UInt8.toNat_inj.1 (by omega))
/-- A batch of which one byte is another is none. -/
theorem read_turned {p q : List UInt8} {c : UInt8} {x : Bat} (h : readOf (p ++ c :: q) = some x) (d : UInt8) (hne : c ≠ d) : readOf (p ++ d :: q) = none := by
  cases h2 : readOf (p ++ d :: q) with
  | none => rfl
  | some y =>
    exfalso
    obtain ⟨h3, h4⟩ := readOf_digest h
    obtain ⟨h5, h6⟩ := readOf_digest h2
    have hl : (p ++ d :: q).length = (p ++ c :: q).length := by simp
    rw [hl] at h6
    generalize hn : (p ++ c :: q).length - 8 = n at *
    have hn2 : p.length + (q.length + 1) = n + 8 := by simp at hn h3; omega
    by_cases hk : p.length < n
    · obtain ⟨m, hm⟩ : ∃ m, n - p.length = m + 1 := ⟨n - p.length - 1, by omega⟩
      have t1 : ∀ c : UInt8, (p ++ c :: q).take n = p ++ c :: q.take m := fun c => by rw [List.take_append, hm, List.take_succ_cons, List.take_of_length_le (by omega)]
      have t2 : ∀ c : UInt8, (p ++ c :: q).drop n = q.drop m := fun c => by rw [List.drop_append, hm, List.drop_succ_cons, List.drop_of_length_le (by omega), List.nil_append]
      rw [t1, t2] at h4 h6
      rw [h4] at h6
      exact dgOf_ne _ _ _ _ hne h6
    · rw [List.take_append_of_le_length (by omega), List.drop_append_of_le_length (by omega)] at h4 h6
      rw [← h4] at h6
      exact numOf_ne _ _ _ _ hne (Int.ofNat.inj h6).symm
end Go.Proofs.YtlcdgbhigfgehabGreatDoor
