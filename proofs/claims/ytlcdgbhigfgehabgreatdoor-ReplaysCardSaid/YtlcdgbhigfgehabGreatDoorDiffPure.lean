/- Diff in plain terms: what tokens come out, by steps as the document takes them and as the program does; what they make. No program in sight. -/
import Derived.Test.YtlcdgbhigfgehabGreatDoorTokPure
namespace Go.Proofs.YtlcdgbhigfgehabGreatDoor

/-- The least block of base that is the head of rest. -/
def placeOf (base : List UInt8) (blk : Nat) (rest : List UInt8) : Option Nat :=
  if rest.length < blk then none else (List.range (nBlocks base.length blk)).find? fun i => (base.drop (i * blk)).take blk == rest.take blk
def addByte (out : List Tok) (c : UInt8) : List Tok :=
  match out.getLast? with
  | some t => if t.c = 0 ∧ t.d.length < 255 then out.dropLast ++ [⟨t.b, t.c, t.d ++ [c]⟩] else out ++ [⟨0, 0, [c]⟩]
  | none => [⟨0, 0, [c]⟩]
def addBlock (out : List Tok) (k : Nat) : List Tok :=
  match out.getLast? with
  | some t => if 0 < t.c ∧ t.c < 255 ∧ t.b + t.c = k then out.dropLast ++ [⟨t.b, t.c + 1, t.d⟩] else out ++ [⟨k, 1, []⟩]
  | none => [⟨k, 1, []⟩]
theorem last_split {α : Type} {l : List α} {t : α} (h : l.getLast? = some t) : l.dropLast ++ [t] = l := by
  rcases List.eq_nil_or_concat l with rfl | ⟨l', x, rfl⟩
  · simp at h
  · simp at h; subst h; simp
def diffF (base : List UInt8) (blk : Nat) (out : List Tok) (rest : List UInt8) : List Tok :=
  match rest with
  | [] => out
  | c :: r =>
    match placeOf base blk (c :: r) with
    | none => diffF base blk (addByte out c) r
    | some k => diffF base blk (addBlock out k) (r.drop (blk - 1))
termination_by rest.length
decreasing_by all_goals simp; try omega
def diffOf (base data : List UInt8) (blk : Nat) : List Tok := diffF base blk [] data

theorem diffF_nil (base : List UInt8) (blk : Nat) (out : List Tok) : diffF base blk out [] = out := by unfold diffF; rfl
theorem diffF_cons (base : List UInt8) (blk : Nat) (out : List Tok) (c : UInt8) (r : List UInt8) :
    diffF base blk out (c :: r) = match placeOf base blk (c :: r) with | none => diffF base blk (addByte out c) r | some k => diffF base blk (addBlock out k) (r.drop (blk - 1)) := by
  conv => lhs; unfold diffF
theorem diffF_none (base : List UInt8) (blk : Nat) (out : List Tok) (l : List UInt8) (i : Nat) (hi : i < l.length) (h : placeOf base blk (l.drop i) = none) :
    diffF base blk out (l.drop i) = diffF base blk (addByte out l[i]) (l.drop (i + 1)) := by
  rw [List.drop_eq_getElem_cons hi] at h ⊢
  rw [diffF_cons, h]
theorem diffF_some (base : List UInt8) (blk : Nat) (hb : 0 < blk) (out : List Tok) (l : List UInt8) (i k : Nat) (hi : i < l.length) (h : placeOf base blk (l.drop i) = some k) :
    diffF base blk out (l.drop i) = diffF base blk (addBlock out k) (l.drop (i + blk)) := by
  rw [List.drop_eq_getElem_cons hi] at h ⊢
  rw [diffF_cons, h]
  simp only [List.drop_drop]
  rw [show i + 1 + (blk - 1) = i + blk by omega]

/-- The last is no bytes that could take one more. -/
def NoLit (out : List Tok) : Prop := ∀ t, out.getLast? = some t → ¬ (t.c = 0 ∧ t.d.length < 255)
theorem NoLit.nil : NoLit [] := fun t h => by simp at h
theorem noLit_addBlock (out : List Tok) (k : Nat) : NoLit (addBlock out k) := by
  intro t ht
  unfold addBlock at ht
  split at ht
  · rename_i t0 h0
    split at ht
    · rename_i h1
      simp at ht; subst ht; simp; omega
    · simp at ht; subst ht; simp
  · simp at ht; subst ht; simp
/-- Bytes as they stand, no more than 255 in a token. -/
def chunks (l : List UInt8) : List Tok :=
  if h : l = [] then [] else ⟨0, 0, l.take 255⟩ :: chunks (l.drop 255)
termination_by l.length
decreasing_by
  have : 0 < l.length := List.length_pos_iff.2 h
  simp; omega
theorem chunks_nil : chunks [] = [] := by unfold chunks; simp
theorem chunks_cons (l : List UInt8) (h : l ≠ []) : chunks l = ⟨0, 0, l.take 255⟩ :: chunks (l.drop 255) := by
  conv => lhs; unfold chunks
  simp [h]
theorem chunks_short (l : List UInt8) (h : l ≠ []) (h2 : l.length ≤ 255) : chunks l = [⟨0, 0, l⟩] := by
  rw [chunks_cons l h, List.take_of_length_le h2, List.drop_eq_nil_of_le h2, chunks_nil]
theorem addByte_chunks (l : List UInt8) (c : UInt8) : ∀ out, NoLit out → addByte (out ++ chunks l) c = out ++ chunks (l ++ [c]) := by
  have key : ∀ (n : Nat) (l : List UInt8), l.length ≤ n → ∀ out, NoLit out → addByte (out ++ chunks l) c = out ++ chunks (l ++ [c]) := by
    intro n
    induction n with
    | zero =>
      intro l hl out ho
      obtain rfl : l = [] := List.length_eq_zero_iff.1 (by omega)
      rw [chunks_nil, List.append_nil, List.nil_append, chunks_short [c] (by simp) (by simp)]
      unfold addByte
      split
      · rename_i t ht
        rw [if_neg (ho t ht)]
      · rename_i h
        rw [List.getLast?_eq_none_iff] at h
        subst h; rfl
    | succ n ih =>
      intro l hl out ho
      by_cases h0 : l = []
      · subst h0; exact ih [] (by simp) out ho
      by_cases h1 : l.length < 255
      · rw [chunks_short l h0 (by omega), chunks_short (l ++ [c]) (by simp) (by simp; omega)]
        simp [addByte, h1]
      · rw [chunks_cons l h0, chunks_cons (l ++ [c]) (by simp), List.take_append_of_le_length (by omega), List.drop_append_of_le_length (by omega)]
        have := ih (l.drop 255) (by simp; omega) (out ++ [⟨0, 0, l.take 255⟩]) (by intro t ht; simp at ht; subst ht; simp; omega)
        simpa using this
  exact key l.length l (Nat.le_refl _)
theorem placeOf_short (base : List UInt8) (blk : Nat) (rest : List UInt8) (h : rest.length < blk) : placeOf base blk rest = none := by unfold placeOf; rw [if_pos h]
theorem diffF_short (base : List UInt8) (blk : Nat) (out : List Tok) (ho : NoLit out) : ∀ (rest l : List UInt8), rest.length < blk → diffF base blk (out ++ chunks l) rest = out ++ chunks (l ++ rest) := by
  intro rest
  induction rest with
  | nil => intro l h; rw [diffF_nil, List.append_nil]
  | cons c r ih =>
    intro l h
    rw [diffF_cons, placeOf_short _ _ _ h]
    simp only
    rw [addByte_chunks l c out ho, ih (l ++ [c]) (by simp at h; omega)]
    simp

/-! ### What the place is -/
theorem placeOf_some (base : List UInt8) (blk : Nat) (hb : 0 < blk) (rest : List UInt8) (k : Nat) (h : placeOf base blk rest = some k) :
    blk ≤ rest.length ∧ (k + 1) * blk ≤ base.length ∧ (base.drop (k * blk)).take blk = rest.take blk ∧ ∀ i, i < k → (base.drop (i * blk)).take blk ≠ rest.take blk := by
  unfold placeOf at h
  split at h
  · cases h
  · rename_i hl
    have h1 := List.find?_some h
    have h2 : (base.drop (k * blk)).take blk = rest.take blk := by simpa using h1
    refine ⟨by omega, ?_, h2, ?_⟩
    · have := congrArg List.length h2
      simp at this
      rw [Nat.add_mul, Nat.one_mul]; omega
    · intro i hi h3
      rw [List.find?_range_eq_some] at h
      have := h.2.2 i hi
      simp at this
      exact this h3
theorem placeOf_none (base : List UInt8) (blk : Nat) (hb : 0 < blk) (rest : List UInt8) (hl : blk ≤ rest.length) : placeOf base blk rest = none ↔ ∀ i, (i + 1) * blk ≤ base.length → (base.drop (i * blk)).take blk ≠ rest.take blk := by
  unfold placeOf
  rw [if_neg (by omega), List.find?_range_eq_none]
  constructor
  · intro h i hi h2
    have := h i ((lt_nBlocks _ _ _ hb).2 (by rw [Nat.add_mul] at hi; omega))
    simp at this
    exact this h2
  · intro h i hi
    simp only [Bool.not_eq_true', beq_eq_false_iff_ne, ne_eq]
    intro h2
    have hlen := congrArg List.length h2
    simp at hlen
    exact h i (by rw [Nat.add_mul, Nat.one_mul]; omega) h2
theorem placeOf_eq (base : List UInt8) (blk : Nat) (hb : 0 < blk) (rest : List UInt8) (k : Nat) (hl : blk ≤ rest.length) (hk : (k + 1) * blk ≤ base.length) (h : (base.drop (k * blk)).take blk = rest.take blk)
    (hn : ∀ i, i < k → (base.drop (i * blk)).take blk ≠ rest.take blk) : placeOf base blk rest = some k := by
  unfold placeOf
  rw [if_neg (by omega), List.find?_range_eq_some]
  refine ⟨by simpa using h, by simp; exact (lt_nBlocks _ _ _ hb).2 (by rw [Nat.add_mul] at hk; omega), fun j hj => by simpa using hn j hj⟩

/-! ### What the tokens make -/
theorem addByte_apply (base : List UInt8) (blk : Nat) (out : List Tok) (c : UInt8) (o : List UInt8) (hz : ∀ t ∈ out, t.c = 0 → t.b = 0) (h : applyF base blk out [] = .inr o) (hl : (o ++ [c]).length ≤ 300) : applyF base blk (addByte out c) [] = .inr (o ++ [c]) := by
  have hnew : ∀ xs, applyF base blk xs [] = .inr o → applyF base blk (xs ++ [⟨0, 0, [c]⟩]) [] = .inr (o ++ [c]) := by
    intro xs hx
    rw [applyF_append, hx]
    have h1 : tokOk (nBlocks base.length blk) ⟨0, 0, [c]⟩ = true := by simp [tokOk]
    have h2 : tokMake base blk ⟨0, 0, [c]⟩ = [c] := by simp [tokMake]
    simp only [applyF, h1, h2, if_true]
    rw [if_neg (by omega)]
  unfold addByte
  split
  · rename_i t ht
    split
    · rename_i h1
      obtain ⟨h1, h2⟩ := h1
      have hd : out = out.dropLast ++ [t] := (last_split ht).symm
      have hb0 : t.b = 0 := hz t (by rw [hd]; simp) h1
      have h3 := h
      rw [hd, applyF_append] at h3
      rw [applyF_append]
      cases hA : applyF base blk out.dropLast [] with
      | inl e => rw [hA] at h3; cases h3
      | inr o1 =>
        rw [hA] at h3
        simp only [applyF] at h3 ⊢
        have hk : tokOk (nBlocks base.length blk) t = true := by simp [tokOk, h1, hb0]
        have hk2 : tokOk (nBlocks base.length blk) ⟨t.b, t.c, t.d ++ [c]⟩ = true := by simp [tokOk, h1, hb0]
        have hm : tokMake base blk t = t.d := by simp [tokMake, h1]
        have hm2 : tokMake base blk ⟨t.b, t.c, t.d ++ [c]⟩ = t.d ++ [c] := by simp [tokMake, h1]
        rw [if_pos hk, hm] at h3
        rw [if_pos hk2, hm2]
        split at h3
        · cases h3
        · simp only [Sum.inr.injEq] at h3
          subst h3
          rw [← List.append_assoc, if_neg (by omega)]
    · exact hnew _ h
  · rename_i hn
    rw [List.getLast?_eq_none_iff] at hn
    subst hn
    exact hnew [] h
theorem addBlock_apply (base : List UInt8) (blk : Nat) (out : List Tok) (k : Nat) (o : List UInt8) (hz : ∀ t ∈ out, 0 < t.c → t.d = [] ∧ 0 ≤ t.b) (h : applyF base blk out [] = .inr o) (hk : k < nBlocks base.length blk)
    (hl : (o ++ (base.drop (k * blk)).take blk).length ≤ 300) : applyF base blk (addBlock out k) [] = .inr (o ++ (base.drop (k * blk)).take blk) := by
  have hnew : ∀ xs, applyF base blk xs [] = .inr o → applyF base blk (xs ++ [⟨k, 1, []⟩]) [] = .inr (o ++ (base.drop (k * blk)).take blk) := by
    intro xs hx
    rw [applyF_append, hx]
    have h1 : tokOk (nBlocks base.length blk) ⟨k, 1, []⟩ = true := by simp [tokOk]; omega
    have h2 : tokMake base blk ⟨k, 1, []⟩ = (base.drop (k * blk)).take blk := by simp [tokMake]
    simp only [applyF, h1, h2, if_true]
    rw [if_neg (by omega)]
  unfold addBlock
  split
  · rename_i t ht
    split
    · rename_i h1
      obtain ⟨h1, h2, h2'⟩ := h1
      have hd : out = out.dropLast ++ [t] := (last_split ht).symm
      obtain ⟨htd, htb⟩ := hz t (by rw [hd]; simp) h1
      have h3 := h
      rw [hd, applyF_append] at h3
      rw [applyF_append]
      cases hA : applyF base blk out.dropLast [] with
      | inl e => rw [hA] at h3; cases h3
      | inr o1 =>
        rw [hA] at h3
        simp only [applyF] at h3 ⊢
        obtain ⟨bn, hbn⟩ := Int.eq_ofNat_of_zero_le htb
        obtain ⟨cn, hcn⟩ := Int.eq_ofNat_of_zero_le (a := t.c) (by omega)
        have hk' : tokOk (nBlocks base.length blk) t = true := by simp [tokOk, htd]; omega
        have hk2 : tokOk (nBlocks base.length blk) ⟨t.b, t.c + 1, t.d⟩ = true := by simp [tokOk, htd]; omega
        have hm : tokMake base blk t = (base.drop (bn * blk)).take (cn * blk) := by
          unfold tokMake
          rw [if_neg (by omega), hbn, hcn]; rfl
        have hm2 : tokMake base blk ⟨t.b, t.c + 1, t.d⟩ = (base.drop (bn * blk)).take (cn * blk) ++ (base.drop (k * blk)).take blk := by
          unfold tokMake
          simp only
          rw [if_neg (by omega), hbn, hcn, show ((cn : Int) + 1).toNat = cn + 1 from by omega, Int.toNat_natCast, ← make_succ, show bn + cn = k by omega]
        rw [if_pos hk', hm] at h3
        rw [if_pos hk2, hm2]
        split at h3
        · cases h3
        · simp only [Sum.inr.injEq] at h3
          subst h3
          rw [← List.append_assoc, if_neg (by omega)]
    · exact hnew _ h
  · rename_i hn
    rw [List.getLast?_eq_none_iff] at hn
    subst hn
    exact hnew [] h
/-- Tokens as Diff makes them. -/
def Shaped (t : Tok) : Prop := (t.c = 0 ∧ t.b = 0 ∧ 0 < t.d.length ∧ t.d.length ≤ 255) ∨ (0 < t.c ∧ t.c ≤ 255 ∧ 0 ≤ t.b ∧ t.d = [])
theorem mem_dropLast {α : Type} {l : List α} {x : α} (h : x ∈ l.dropLast) : x ∈ l := List.dropLast_subset l h
theorem addByte_shaped (out : List Tok) (c : UInt8) (h : ∀ t ∈ out, Shaped t) : ∀ t ∈ addByte out c, Shaped t := by
  intro t ht
  unfold addByte at ht
  split at ht
  · rename_i t0 h0
    have hm : t0 ∈ out := List.mem_of_getLast? h0
    split at ht
    · rename_i h1
      rcases List.mem_append.1 ht with ht | ht
      · exact h t (mem_dropLast ht)
      · simp at ht; subst ht
        have := h t0 hm
        rcases this with h2 | h2
        · exact .inl ⟨h1.1, h2.2.1, by simp, by simp; omega⟩
        · omega
    · rcases List.mem_append.1 ht with ht | ht
      · exact h t ht
      · simp at ht; subst ht; exact .inl ⟨rfl, rfl, by simp, by simp⟩
  · simp at ht; subst ht; exact .inl ⟨rfl, rfl, by simp, by simp⟩
theorem addBlock_shaped (out : List Tok) (k : Nat) (h : ∀ t ∈ out, Shaped t) : ∀ t ∈ addBlock out k, Shaped t := by
  intro t ht
  unfold addBlock at ht
  split at ht
  · rename_i t0 h0
    have hm : t0 ∈ out := List.mem_of_getLast? h0
    split at ht
    · rename_i h1
      rcases List.mem_append.1 ht with ht | ht
      · exact h t (mem_dropLast ht)
      · simp at ht; subst ht
        have := h t0 hm
        rcases this with h2 | h2
        · omega
        · exact .inr ⟨by simp; omega, by simp; omega, h2.2.2.1, h2.2.2.2⟩
    · rcases List.mem_append.1 ht with ht | ht
      · exact h t ht
      · simp at ht; subst ht; exact .inr ⟨by simp, by simp, by simp, rfl⟩
  · simp at ht; subst ht; exact .inr ⟨by simp, by simp, by simp, rfl⟩
theorem Shaped.z {out : List Tok} (h : ∀ t ∈ out, Shaped t) : ∀ t ∈ out, t.c = 0 → t.b = 0 := fun t ht h0 => by rcases h t ht with h | h <;> omega
theorem Shaped.n {out : List Tok} (h : ∀ t ∈ out, Shaped t) : ∀ t ∈ out, 0 < t.c → t.d = [] ∧ 0 ≤ t.b := fun t ht h0 => by
  rcases h t ht with h | h
  · omega
  · exact ⟨h.2.2.2, h.2.2.1⟩
theorem diffF_makes (base : List UInt8) (blk : Nat) (hb : 0 < blk) : ∀ (n : Nat) (rest : List UInt8) (out : List Tok) (o : List UInt8), rest.length ≤ n → (∀ t ∈ out, Shaped t) → applyF base blk out [] = .inr o → (o ++ rest).length ≤ 300 →
    applyF base blk (diffF base blk out rest) [] = .inr (o ++ rest) ∧ (∀ t ∈ diffF base blk out rest, Shaped t) ∧ (diffF base blk out rest).length ≤ out.length + rest.length := by
  intro n
  induction n with
  | zero =>
    intro rest out o hn hs h hl
    obtain rfl : rest = [] := List.length_eq_zero_iff.1 (by omega)
    rw [diffF_nil, List.append_nil]
    exact ⟨h, hs, by omega⟩
  | succ n ih =>
    intro rest out o hn hs h hl
    cases rest with
    | nil => rw [diffF_nil, List.append_nil]; exact ⟨h, hs, by omega⟩
    | cons c r =>
      have hlr : (o ++ [c] ++ r).length ≤ 300 := by simpa using hl
      rw [diffF_cons]
      cases hp : placeOf base blk (c :: r) with
      | none =>
        simp only
        have := ih r (addByte out c) (o ++ [c]) (by simp at hn; omega) (addByte_shaped out c hs) (addByte_apply base blk out c o (Shaped.z hs) h (by simp at hlr ⊢; omega)) hlr
        refine ⟨by simpa using this.1, this.2.1, Nat.le_trans this.2.2 ?_⟩
        have : (addByte out c).length ≤ out.length + 1 := by
          unfold addByte
          split
          · split <;> simp <;> omega
          · simp
        simp; omega
      | some k =>
        obtain ⟨h1, h2, h3, -⟩ := placeOf_some base blk hb _ k hp
        simp only
        have hrd : (c :: r).take blk ++ r.drop (blk - 1) = c :: r := by
          obtain ⟨m, rfl⟩ : ∃ m, blk = m + 1 := ⟨blk - 1, by omega⟩
          simp [List.take_append_drop]
        have e : o ++ (c :: r) = o ++ (base.drop (k * blk)).take blk ++ r.drop (blk - 1) := by rw [h3, List.append_assoc, hrd]
        have hl' := hl
        rw [e] at hl'
        have := ih (r.drop (blk - 1)) (addBlock out k) (o ++ (base.drop (k * blk)).take blk) (by simp at hn ⊢; omega) (addBlock_shaped out k hs)
          (addBlock_apply base blk out k o (Shaped.n hs) h ((lt_nBlocks _ _ _ hb).2 (by rw [Nat.add_mul] at h2; omega)) (by rw [List.length_append] at hl'; omega)) hl'
        rw [e]
        refine ⟨this.1, this.2.1, Nat.le_trans this.2.2 ?_⟩
        have : (addBlock out k).length ≤ out.length + 1 := by
          unfold addBlock
          split
          · split <;> simp <;> omega
          · simp
        simp; omega
/-- What Diff tells makes the file. -/
theorem diff_makes (base data : List UInt8) (blk : Nat) (hb : 0 < blk) (hl : data.length ≤ 300) :
    applyF base blk (diffOf base data blk) [] = .inr data ∧ (∀ t ∈ diffOf base data blk, Shaped t) ∧ (diffOf base data blk).length ≤ data.length := by
  have := diffF_makes base blk hb data.length data [] [] (Nat.le_refl _) (fun _ h => by simp at h) rfl (by simpa using hl)
  simpa [diffOf] using this

/-- How many bytes stand as they are. -/
def plainly (l : List Tok) : Nat := (l.map fun t => t.d.length).sum
theorem plainly_append (l m : List Tok) : plainly (l ++ m) = plainly l + plainly m := by simp [plainly]
theorem addByte_plainly (out : List Tok) (c : UInt8) : plainly (addByte out c) = plainly out + 1 := by
  unfold addByte
  split
  · rename_i t ht
    have hd : out = out.dropLast ++ [t] := (last_split ht).symm
    split
    · conv => rhs; rw [hd]
      rw [plainly_append, plainly_append]
      simp [plainly]; omega
    · rw [plainly_append]; simp [plainly]
  · rename_i h
    rw [List.getLast?_eq_none_iff] at h
    subst h; simp [plainly]
theorem addBlock_plainly (out : List Tok) (k : Nat) : plainly (addBlock out k) = plainly out := by
  unfold addBlock
  split
  · rename_i t ht
    have hd : out = out.dropLast ++ [t] := (last_split ht).symm
    split
    · conv => rhs; rw [hd]
      rw [plainly_append, plainly_append]
      simp [plainly]
    · rw [plainly_append]; simp [plainly]
  · rename_i h
    rw [List.getLast?_eq_none_iff] at h
    subst h; simp [plainly]
theorem diffF_plainly_short (base : List UInt8) (blk : Nat) : ∀ (rest : List UInt8) (out : List Tok), rest.length < blk → plainly (diffF base blk out rest) = plainly out + rest.length := by
  intro rest
  induction rest with
  | nil => intro out h; rw [diffF_nil]; simp
  | cons c r ih =>
    intro out h
    rw [diffF_cons, placeOf_short _ _ _ h]
    simp only
    rw [ih _ (by simp at h; omega), addByte_plainly]
    simp; omega
theorem diffF_self (base : List UInt8) (blk : Nat) (hb : 0 < blk) : ∀ (n i : Nat) (out : List Tok), base.length - i * blk ≤ n → i * blk ≤ base.length → plainly (diffF base blk out (base.drop (i * blk))) < plainly out + blk := by
  intro n
  induction n with
  | zero =>
    intro i out hn hi
    rw [List.drop_eq_nil_of_le (by omega), diffF_nil]
    omega
  | succ n ih =>
    intro i out hn hi
    by_cases hs : base.length - i * blk < blk
    · rw [diffF_plainly_short _ _ _ _ (by simpa using hs)]
      simp; omega
    · have hw : (i + 1) * blk ≤ base.length := by rw [Nat.add_mul, Nat.one_mul]; omega
      have hpl : placeOf base blk (base.drop (i * blk)) ≠ none := by
        intro hc
        exact (placeOf_none base blk hb _ (by simp; omega)).1 hc i hw rfl
      cases hp : placeOf base blk (base.drop (i * blk)) with
      | none => exact absurd hp hpl
      | some k =>
        rw [diffF_some base blk hb out base (i * blk) k (by omega) hp]
        have := ih (i + 1) (addBlock out k) (by rw [Nat.add_mul, Nat.one_mul]; omega) hw
        rw [addBlock_plainly, Nat.add_mul, Nat.one_mul] at this
        exact this
/-- Of a file and itself fewer bytes than a block stand as they are. -/
theorem diff_self (base : List UInt8) (blk : Nat) (hb : 0 < blk) : plainly (diffOf base base blk) < blk := by
  have := diffF_self base blk hb base.length 0 [] (by omega) (by omega)
  simpa [diffOf, plainly] using this
end Go.Proofs.YtlcdgbhigfgehabGreatDoor
