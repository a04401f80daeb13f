/- A batch in plain terms: what bytes say. No program in sight. -/
import Derived.Test.YtlcdgbhigfgehabGreatDoorTokPure
import Derived.Test.YtlcdgbhigfgehabGreatDoorSumsPure
import Derived.RowKit
namespace Go.Proofs.YtlcdgbhigfgehabGreatDoor

/-- What is told of a file. -/
structure Ent where
  name : List UInt8
  size : Nat
  dig : Nat
structure Targ where
  ent : Ent
  toks : List Tok
structure Bat where
  block : Nat
  basis : List Ent
  targs : List Targ

def numOf (l : List UInt8) : Nat := l.foldl (fun v c => 256 * v + c.toNat) 0
theorem numOf_nil : numOf [] = 0 := rfl
theorem numOf_snoc (l : List UInt8) (c : UInt8) : numOf (l ++ [c]) = 256 * numOf l + c.toNat := by simp [numOf]
theorem numOf_lt (l : List UInt8) : numOf l < 256 ^ l.length := by
  have key : ∀ (l : List UInt8) (v b : Nat), v < b → l.foldl (fun v c => 256 * v + c.toNat) v < b * 256 ^ l.length := by
    intro l
    induction l with
    | nil => intro v b h; simpa using h
    | cons c l ih =>
      intro v b h
      have hc := c.toNat_lt
      have := ih (256 * v + c.toNat) (256 * b) (by omega)
      simp only [List.foldl_cons, List.length_cons, Nat.pow_succ]
      rw [Nat.mul_comm (256 ^ l.length), ← Nat.mul_assoc, Nat.mul_comm b]
      exact this
  have := key l 0 1 (by omega)
  simpa [numOf] using this
/-- The next n bytes; what is left. -/
def takeN (n : Nat) (r : List UInt8) : Option (List UInt8 × List UInt8) := if r.length < n then none else some (r.take n, r.drop n)
def numN (n : Nat) (r : List UInt8) : Option (Nat × List UInt8) := if r.length < n then none else some (numOf (r.take n), r.drop n)
def nameByte (c : UInt8) : Bool := (decide (97 ≤ c.toNat) && decide (c.toNat ≤ 122)) || (decide (48 ≤ c.toNat) && decide (c.toNat ≤ 57)) || decide (c.toNat = 46) || decide (c.toNat = 47)
/-- Is it a name? -/
def isName (l : List UInt8) : Bool := decide (1 ≤ l.length) && decide (l.length ≤ 12) && l.all nameByte
/-- Does a name stand behind another? -/
def behind (a b : List UInt8) : Bool := !(Op.bytesLess a b || a == b)
/-- What is told of a file, behind that with the name last. -/
def entN (last : List UInt8) (first : Bool) (r : List UInt8) : Option (Ent × List UInt8) :=
  match numN 1 r with
  | none => none
  | some (k, r) =>
    match takeN k r with
    | none => none
    | some (nm, r) =>
      if (isName nm && (first || behind nm last)) = false then none else
      match numN 2 r with
      | none => none
      | some (sz, r) =>
        if 300 < sz then none else
        match numN 8 r with
        | none => none
        | some (d, r) => some (⟨nm, sz, d⟩, r)
def lastName : List Ent → List UInt8
  | [] => []
  | [e] => e.name
  | _ :: e :: es => lastName (e :: es)
theorem lastName_snoc (l : List Ent) (e : Ent) : lastName (l ++ [e]) = e.name := by
  induction l with
  | nil => rfl
  | cons a l ih =>
    cases l with
    | nil => rfl
    | cons b l => exact ih
/-- n entries behind those of acc. -/
def entsF : Nat → List Ent → List UInt8 → Option (List Ent × List UInt8)
  | 0, acc, r => some (acc, r)
  | n + 1, acc, r =>
    match entN (lastName acc) acc.isEmpty r with
    | none => none
    | some (e, r) => entsF n (acc ++ [e]) r
/-- How many bytes so many blocks from one on have, of a file of a size. -/
def madeOf (size blk b c : Nat) : Nat := min ((b + c) * blk) size - b * blk
/-- One token, and how many bytes it makes. -/
def tokN (blk basis : Nat) (r : List UInt8) : Option ((Tok × Nat) × List UInt8) :=
  match numN 1 r with
  | none => none
  | some (kind, r) =>
    if kind = 0 then
      match numN 1 r with
      | none => none
      | some (k, r) =>
        if k = 0 then none else
        match takeN k r with
        | none => none
        | some (d, r) => some ((⟨0, 0, d⟩, k), r)
    else if kind = 1 then
      match numN 2 r with
      | none => none
      | some (b, r) =>
        match numN 1 r with
        | none => none
        | some (c, r) => if 0 < c ∧ b + c ≤ nBlocks basis blk then some ((⟨b, c, []⟩, madeOf basis blk b c), r) else none
    else none
/-- n tokens behind those of acc, which make s bytes. -/
def toksF (blk basis : Nat) : Nat → List Tok → Nat → List UInt8 → Option ((List Tok × Nat) × List UInt8)
  | 0, acc, s, r => some ((acc, s), r)
  | n + 1, acc, s, r =>
    match tokN blk basis r with
    | none => none
    | some ((t, k), r) => toksF blk basis n (acc ++ [t]) (s + k) r
/-- The tokens of a target of a size. -/
def tksN (blk basis size : Nat) (r : List UInt8) : Option (List Tok × List UInt8) :=
  match numN 2 r with
  | none => none
  | some (n, r) =>
    match toksF blk basis n [] 0 r with
    | none => none
    | some ((l, s), r) => if s = size then some (l, r) else none
/-- The size of a name's file, the last that is told. -/
def sizeIn (basis : List Ent) (name : List UInt8) : Nat := basis.foldl (fun s e => if e.name = name then e.size else s) 0
theorem sizeIn_snoc (l : List Ent) (e : Ent) (name : List UInt8) : sizeIn (l ++ [e]) name = if e.name = name then e.size else sizeIn l name := by simp [sizeIn]
def lastT (basis : List Ent) : List Targ → List UInt8
  | [] => lastName basis
  | a :: l => lastName ((a :: l).map (·.ent))
def targsF (blk : Nat) (basis : List Ent) : Nat → List Targ → List UInt8 → Option (List Targ × List UInt8)
  | 0, acc, r => some (acc, r)
  | n + 1, acc, r =>
    match entN (lastT basis acc) acc.isEmpty r with
    | none => none
    | some (e, r) =>
      match tksN blk (sizeIn basis e.name) e.size r with
      | none => none
      | some (l, r) => targsF blk basis n (acc ++ [⟨e, l⟩]) r
/-- All but the digest at the end. -/
def bodyN (s : List UInt8) : Option (Bat × List UInt8) :=
  match takeN 3 s with
  | none => none
  | some (m, r) =>
    if m ≠ [66, 65, 84] then none else
    match numN 1 r with
    | none => none
    | some (blk, r) =>
      if blk < 1 ∨ 64 < blk then none else
      match numN 1 r with
      | none => none
      | some (n, r) =>
        if 8 < n then none else
        match entsF n [] r with
        | none => none
        | some (basis, r) =>
          match numN 1 r with
          | none => none
          | some (k, r) =>
            if 8 < k then none else
            match targsF blk basis k [] r with
            | none => none
            | some (ts, r) => some (⟨blk, basis, ts⟩, r)
/-- What a batch says; none: it is none. -/
def readOf (s : List UInt8) : Option Bat :=
  match bodyN s with
  | none => none
  | some (x, r) => if r.length = 8 ∧ numOf r = dgOf (s.take (s.length - r.length)) then some x else none
end Go.Proofs.YtlcdgbhigfgehabGreatDoor
