/- The walks of what the laws do with tokens: tokens (out of a text), alike, spoilt, the document's Sized and Blocks. -/
import Derived.Test.YtlcdgbhigfgehaaDoorToks
import Derived.Test.YtlcdgbhigfgehaaDoorRoomy
import Derived.WalkSpells
import Derived.WalkLawsBesides
import Derived.RegionTactic
import Derived.ChangeAlike
import Derived.BigRegion
import Derived.Deep.DeepMust
namespace Go.Proofs.YtlcdgbhigfgehaaDoor
open Go.RowKit
set_option maxRecDepth 100000

set_option maxHeartbeats 400000 in
theorem sized_any (block n : Int) (m : Nat) (w : World) (hn : n = m) :
    Calls Tryd.prog 17 #[.int .i64 block, .int .i64 n] w fun e w' => e = .returned (.int .i64 (sized block m)) ∧ w = w' := by
  subst hn
  unfold sized
  by_cases h1 : block < 1
  · rw [if_pos (.inl h1)]
    go_enter Tryd.func17, Tryd.ntmps17
    go_wp2
    go_ret
    exact ⟨rfl, rfl⟩
  · by_cases h2 : 64 < block
    · rw [if_pos (.inr h2)]
      go_enter Tryd.func17, Tryd.ntmps17
      go_wp2
      go_ret
      exact ⟨rfl, rfl⟩
    · rw [if_neg (by omega)]
      by_cases h3 : 300 < m
      · rw [if_pos h3]
        go_enter Tryd.func17, Tryd.ntmps17
        go_wp2
        go_ret
        exact ⟨rfl, rfl⟩
      · rw [if_neg h3]
        go_enter Tryd.func17, Tryd.ntmps17
        go_wp2
        go_ret
        exact ⟨rfl, rfl⟩

set_option maxHeartbeats 1000000 in
theorem tokens_any (s : ByteArray) (w : World) (hs : s.size ≤ 100000) :
    Calls Tryd.prog 13 #[.string s] w fun e w' => ∃ v l, e = .returned v ∧ Toks w' w.heap.size v l ∧ l.map (·.1) = tokList s.data.toList ∧ Fr (fun _ => False) w w' := by
  go_enter Tryd.func13, Tryd.ntmps13
  go_wp2
  go_loopw [0, 3] (fun x v wr => ∃ (r : ByteArray) (l : List (Tok × Value)), x = .string r ∧ r.size ≤ s.size ∧ Toks wr w.heap.size v l ∧ l.map (·.1) ++ tokList r.data.toList = tokList s.data.toList ∧ Fr (fun _ => False) w wr) (fun x _ _ => match x with | .string r => r.size | _ => 0)
  case atStart => exact ⟨s, [], rfl, Nat.le_refl _, Toks.nil _ _, rfl, Fr.refl _ _⟩
  case round =>
    obtain ⟨r, l, rfl, hr, htok, heq, hfr⟩ := hrel
    by_cases h4 : r.size < 4
    · go_wp2
      go_ret
      exact ⟨_, l, rfl, htok, by rw [← heq, tokList_short _ (by simpa using h4)]; simp, hfr⟩
    · go_wp2_with fail
      have b0 : 0 < r.size := by omega
      have b1 : 1 < r.size := by omega
      have b2 : 2 < r.size := by omega
      have c0 : (0 : Int) < (r.size : Int) := by omega
      have c1 : (1 : Int) < (r.size : Int) := by omega
      have c2 : (2 : Int) < (r.size : Int) := by omega
      have HQ := Lib.hid heq
      have HT := Lib.hid htok
      have HF := Lib.hid hfr
      clear heq htok hfr
      go_region
      simp only [w64_byte, w64_256, w64_ab, w64_ab2, w64_c1]
      have ho : Own (wr.alloc (.cells #[.int .i64 ((256 : Int) * (r[0].toNat : Int) + (r[1].toNat : Int) - 2), .int .i64 ((r[2].toNat : Int) - 1), .slice none 0 0] 30)).drew wr.heap.size 30 [.int .i64 ((256 : Int) * (r[0].toNat : Int) + (r[1].toNat : Int) - 2), .int .i64 ((r[2].toNat : Int) - 1), .slice none 0 0] := Own.alloc _ _ _
      have hf1 : Fr (fun _ => False) wr (wr.alloc (.cells #[.int .i64 ((256 : Int) * (r[0].toNat : Int) + (r[1].toNat : Int) - 2), .int .i64 ((r[2].toNat : Int) - 1), .slice none 0 0] 30)).drew := (Fr.alloc (Fr.refl _ _) _).drew
      have hs1 : (wr.alloc (.cells #[.int .i64 ((256 : Int) * (r[0].toNat : Int) + (r[1].toNat : Int) - 2), .int .i64 ((r[2].toNat : Int) - 1), .slice none 0 0] 30)).drew.heap.size = wr.heap.size + 1 := by simp
      generalize (wr.alloc (.cells #[.int .i64 ((256 : Int) * (r[0].toNat : Int) + (r[1].toNat : Int) - 2), .int .i64 ((r[2].toNat : Int) - 1), .slice none 0 0] 30)).drew = w1 at ho hf1 hs1 ⊢
      have hsz : r.data.toList.length = r.size := by simp
      have HSZ := Lib.hid hsz
      have HS1 := Lib.hid hs1
      clear hs1 hsz
      have hB : w.heap.size ≤ wr.heap.size := HF.out.size
      have hq : (r[3].toNat : Int) ≤ 255 := by have := r[3].toNat_lt; omega
      have k0 := ho.cell (i := 0) rfl
      have k1 := ho.cell (i := 1) rfl
      have k2 := ho.cell (i := 2) rfl
      have fin : ∀ (w3 : World) (dv : Value) (d r' : ByteArray), Fr (fun _ => False) wr w3 → IsB w3 dv d.data.toList → (∀ k, dv.ownBlock = some k → wr.heap.size ≤ k) →
          d.data.toList = (r.data.toList.drop 4).take (min r[3].toNat (r.size - 4)) → r'.data.toList = (r.data.toList.drop 4).drop (min r[3].toNat (r.size - 4)) →
          ∀ v4 w4, Vec w4 w.heap.size 30 3 v4 (l.length + 1) (tokCells l ++ [.int .i64 ((256 : Int) * (r[0].toNat : Int) + (r[1].toNat : Int) - 2), .int .i64 ((r[2].toNat : Int) - 1), dv]) → Fr (fun k => u3.ownBlock = some k) w3 w4 →
          (∃ (r'' : ByteArray) (l' : List (Tok × Value)), Value.string r' = .string r'' ∧ r''.size ≤ s.size ∧ Toks w4 w.heap.size v4 l' ∧ l'.map (·.1) ++ tokList r''.data.toList = tokList s.data.toList ∧ Fr (fun _ => False) w w4) ∧ r'.size < r.size := by
        intro w3 dv d r' hF3 hdv hdk hd hr' v4 w4 hv4 hf4
        have hl : r'.size < r.size := by
          rw [show r'.size = r'.data.toList.length by simp, hr']
          simp; omega
        refine ⟨⟨r', l ++ [(⟨(256 : Int) * (r[0].toNat : Int) + (r[1].toNat : Int) - 2, (r[2].toNat : Int) - 1, d.data.toList⟩, dv)], rfl, by omega, ?_, ?_, ?_⟩, hl⟩
        · refine (HT.out.keep0 hF3).snoc hv4 hf4 (hdv.keep hf4 (fun b hb hs => ?_)) (fun k hk => Nat.le_trans hB (hdk k hk))
          have h1 := (HT.out.vec.lt b hs).2
          have h2 := hdk b hb
          omega
        · rw [← HQ.out, tokList_step r (by omega) _ rfl d r' hd hr']
          simp
        · refine (HF.out.step hF3 (fun _ h _ => h)).step hf4 (fun k hk hl => ?_)
          have h1 := (HT.out.vec.lt k hk).1
          omega
      have hln : l.length ≤ 25000 := by
        have h1 := tokList_len s.data.toList
        have h2 := congrArg List.length HQ.out
        simp at h1 h2
        omega
      have FIN := Lib.hid fin
      clear fin
      by_cases hm : r.size - 4 < r[3].toNat
      · by_cases hp : 0 < r.size - 4
        · go_wp2_with fail
          refine (roomy_any _ _ (by simp; omega)).mono ?_
          rintro e w2 ⟨g, rfl, hg, hro, hf2⟩
          have ho2 := ho.keep hf2 id
          have f2 := ho2.free 2 (by simp)
          have k2' := ho2.cell (i := 2) rfl
          have hF2 : Fr (fun _ => False) wr w2 := hf1.step hf2 (fun _ h _ => h)
          have hdb := roomy_isB (by simp; omega) hro
          have hsz3 : ((r.extract 4 r.size).extract 0 (r.size - 4)).size = r.size - 4 := by simp
          generalize hd : (r.extract 4 r.size).extract 0 (r.size - 4) = d at hdb hsz3 ⊢
          have HD := Lib.hid hd
          have HZ := Lib.hid hsz3
          have HGG := Lib.hid hg
          clear hd hsz3 k2 k0 k1 hg
          have hdk : ∀ k, (Value.slice (some ⟨g, 0, none⟩) d.size (d.size + 2)).ownBlock = some k → wr.heap.size ≤ k := by
            intro k hk
            simp [Value.ownBlock] at hk
            have := HGG.out; have := HS1.out
            omega
          have HDK := Lib.hid hdk
          clear hdk
          have hF3 : Fr (fun _ => False) wr (w2.setCell ⟨wr.heap.size, 2, none⟩ (.slice (some ⟨g, 0, none⟩) d.size (d.size + 2))) := hF2.setCell _ _ (fun h => by simp at h)
          have ho3 := ho2.set 2 (.slice (some ⟨g, 0, none⟩) d.size (d.size + 2))
          have k0' := ho3.cell (i := 0) rfl
          have k1' := ho3.cell (i := 1) rfl
          have k2'' := ho3.cell (i := 2) rfl
          go_wp2_with (at_builtin; go_must (refine wpList_append_vec rfl _ _ _ rfl w.heap.size 30 3 40 elt_tok (HT.out.vec.keep (hF3.alloc _) (fun _ _ h => h)) rfl (m := 1) (Reads.new _ _ _ _ (by simp) _ _) rfl rfl (tok_one _ _ _ _ _) (by unfold maxLen; omega) (by omega) (by have := hF2.size; simp; omega) ?_); intro v4 w4 hv4 hf4 hd4 hn4)
          exact FIN.out _ _ d _ (hF3.alloc _) ((hdb.keep (Fr.setCell (Fr.refl (fun k => k = wr.heap.size) w2) ⟨wr.heap.size, 2, none⟩ _ (fun _ => rfl)) (fun b hb hs => by have := HGG.out; have := HS1.out; simp [Value.ownBlock] at hb; omega)).keep0 ((Fr.refl _ _).alloc _)) HDK.out (by rw [← HD.out, ex_take]; congr 1; omega) (by rw [List.drop_eq_nil_of_le (by simp; omega)]; rfl) v4 w4 hv4 hf4
        · go_wp2_with (at_builtin; go_must (refine wpList_append_vec rfl _ _ _ rfl w.heap.size 30 3 40 elt_tok (HT.out.vec.keep (hf1.alloc _) (fun _ _ h => h)) rfl (m := 1) (Reads.new _ _ _ _ (by simp) _ _) rfl rfl (tok_one _ _ _ _ _) (by unfold maxLen; omega) (by omega) (by have := hf1.size; simp; omega) ?_); intro v4 w4 hv4 hf4 hd4 hn4)
          exact FIN.out _ _ ByteArray.empty _ (hf1.alloc _) (.inl ⟨rfl, rfl⟩) (fun k hk => by simp [Value.ownBlock] at hk) (by rw [show min r[3].toNat (r.size - 4) = 0 by omega]; rfl) (by rw [List.drop_eq_nil_of_le (by simp; omega)]; rfl) v4 w4 hv4 hf4
      · by_cases hp : 0 < r[3].toNat
        · go_wp2_with fail
          refine (roomy_any _ _ (by simp; omega)).mono ?_
          rintro e w2 ⟨g, rfl, hg, hro, hf2⟩
          have ho2 := ho.keep hf2 id
          have f2 := ho2.free 2 (by simp)
          have k2' := ho2.cell (i := 2) rfl
          have hF2 : Fr (fun _ => False) wr w2 := hf1.step hf2 (fun _ h _ => h)
          have hdb := roomy_isB (by simp; omega) hro
          have hsz3 : ((r.extract 4 r.size).extract 0 r[3].toNat).size = r[3].toNat := by simp; omega
          generalize hd : (r.extract 4 r.size).extract 0 r[3].toNat = d at hdb hsz3 ⊢
          have HD := Lib.hid hd
          have HZ := Lib.hid hsz3
          have HGG := Lib.hid hg
          clear hd hsz3 k2 k0 k1 hg
          have hdk : ∀ k, (Value.slice (some ⟨g, 0, none⟩) d.size (d.size + 2)).ownBlock = some k → wr.heap.size ≤ k := by
            intro k hk
            simp [Value.ownBlock] at hk
            have := HGG.out; have := HS1.out
            omega
          have HDK := Lib.hid hdk
          clear hdk
          have hF3 : Fr (fun _ => False) wr (w2.setCell ⟨wr.heap.size, 2, none⟩ (.slice (some ⟨g, 0, none⟩) d.size (d.size + 2))) := hF2.setCell _ _ (fun h => by simp at h)
          have ho3 := ho2.set 2 (.slice (some ⟨g, 0, none⟩) d.size (d.size + 2))
          have k0' := ho3.cell (i := 0) rfl
          have k1' := ho3.cell (i := 1) rfl
          have k2'' := ho3.cell (i := 2) rfl
          go_wp2_with (at_builtin; go_must (refine wpList_append_vec rfl _ _ _ rfl w.heap.size 30 3 40 elt_tok (HT.out.vec.keep (hF3.alloc _) (fun _ _ h => h)) rfl (m := 1) (Reads.new _ _ _ _ (by simp) _ _) rfl rfl (tok_one _ _ _ _ _) (by unfold maxLen; omega) (by omega) (by have := hF2.size; simp; omega) ?_); intro v4 w4 hv4 hf4 hd4 hn4)
          exact FIN.out _ _ d _ (hF3.alloc _) ((hdb.keep (Fr.setCell (Fr.refl (fun k => k = wr.heap.size) w2) ⟨wr.heap.size, 2, none⟩ _ (fun _ => rfl)) (fun b hb hs => by have := HGG.out; have := HS1.out; simp [Value.ownBlock] at hb; omega)).keep0 ((Fr.refl _ _).alloc _)) HDK.out (by rw [← HD.out, ex_take]; congr 1; omega) (by rw [ex_drop _ _ _ rfl]; congr 1; omega) v4 w4 hv4 hf4
        · go_wp2_with (at_builtin; go_must (refine wpList_append_vec rfl _ _ _ rfl w.heap.size 30 3 40 elt_tok (HT.out.vec.keep (hf1.alloc _) (fun _ _ h => h)) rfl (m := 1) (Reads.new _ _ _ _ (by simp) _ _) rfl rfl (tok_one _ _ _ _ _) (by unfold maxLen; omega) (by omega) (by have := hf1.size; simp; omega) ?_); intro v4 w4 hv4 hf4 hd4 hn4)
          exact FIN.out _ _ ByteArray.empty _ (hf1.alloc _) (.inl ⟨rfl, rfl⟩) (fun k hk => by simp [Value.ownBlock] at hk) (by rw [show min r[3].toNat (r.size - 4) = 0 by omega]; rfl) (by rw [ex_drop _ _ _ rfl]; congr 1; omega) v4 w4 hv4 hf4
end Go.Proofs.YtlcdgbhigfgehaaDoor
