/- delta.Sign: the sums of a file's blocks; its fronts in mirror and plain. -/
import Derived.Test.YtlcdgbhigfgehaaDoorBlocks
import Derived.Test.YtlcdgbhigfgehaaDoorRange
import Derived.Test.YtlcdgbhigfgehaaDoorRound
import Derived.Test.YtlcdgbhigfgehaaDoorCheck
import Derived.Test.YtlcdgbhigfgehaaDoorApply
import Derived.Test.YtlcdgbhigfgehaaDoorSumsWalk
import Derived.Test.YtlcdgbhigfgehaaDoorPlainApply
namespace Go.Proofs.YtlcdgbhigfgehaaDoor
open Go.RowKit Go.Shelf
attribute [local go_sem] Oper.semAt_some
set_option maxRecDepth 100000

theorem info_sum : (Tryd.prog.info? 50).map (fun i => (i.zero, i.size, i.bytes)) = some (some (.agg #[.int .i64 0, .int .u32 0, .int .u64 0]), 3, 24) := by kernel_rfl
theorem elt_sum : Elt Tryd.prog 40 50 3 24 := Elt.mk Tryd.underlying40 info_sum rfl
/-- The cells of a block's sums. -/
def sumOne (b : List UInt8) : List Value := [.int .i64 b.length, .int .u32 (weakOf b), .int .u64 (dgOf b)]
def sumCells (bs : List (List UInt8)) : List Value := bs.flatMap sumOne
theorem sumCells_snoc (bs : List (List UInt8)) (b : List UInt8) : sumCells (bs ++ [b]) = sumCells bs ++ sumOne b := by simp [sumCells]
@[simp] theorem length_sumCells (bs : List (List UInt8)) : (sumCells bs).length = bs.length * 3 := by
  induction bs with
  | nil => rfl
  | cons b bs ih => simp only [sumCells, List.flatMap_cons, List.length_append] at ih ⊢; rw [ih]; simp [sumOne]; omega
theorem sumCells_get (bs : List (List UInt8)) (i : Nat) (h : i < bs.length) :
    (sumCells bs)[i * 3]? = some (.int .i64 bs[i].length) ∧ (sumCells bs)[i * 3 + 1]? = some (.int .u32 (weakOf bs[i])) ∧ (sumCells bs)[i * 3 + 2]? = some (.int .u64 (dgOf bs[i])) := by
  induction bs generalizing i with
  | nil => simp at h
  | cons b bs ih =>
    cases i with
    | zero => simp [sumCells, sumOne]
    | succ i =>
      have := ih i (by simpa using h)
      have e : sumCells (b :: bs) = .int .i64 b.length :: .int .u32 (weakOf b) :: .int .u64 (dgOf b) :: sumCells bs := by simp [sumCells, sumOne]
      rw [e]
      simp only [Nat.add_mul, Nat.one_mul, List.getElem_cons_succ]
      refine ⟨?_, ?_, ?_⟩
      · rw [show i * 3 + 3 = (i * 3) + 1 + 1 + 1 from rfl]; simpa using this.1
      · rw [show i * 3 + 3 + 1 = (i * 3 + 1) + 1 + 1 + 1 from by omega]; simpa using this.2.1
      · rw [show i * 3 + 3 + 2 = (i * 3 + 2) + 1 + 1 + 1 from by omega]; simpa using this.2.2
/-- append, hidden from the walk, which would lay it open in a region that draws its order. -/
def appendOp (ats : Array TypeId) (ty : TypeId) (args : Array Value) : Sem Value := Builtin.append_ ats ty args
theorem Reads.drew {w : World} {x : Value} {m : Nat} {news : List Value} (h : Reads w x m news) : Reads w.drew x m news := h
theorem append_hide (ats : Array TypeId) (ty : TypeId) (args : Array Value) : Builtin.append_ ats ty args = appendOp ats ty args := rfl
attribute [local go_sem ↓] append_hide
/-- A file's i-th block. -/
def blockAt (l : List UInt8) (blk i : Nat) : List UInt8 := (l.drop (i * blk)).take blk
theorem blocksOf_map (l : List UInt8) (blk : Nat) : blocksOf l blk = (List.finRange (nBlocks l.length blk)).map fun i => blockAt l blk i.1 := by
  unfold blocksOf
  apply List.ext_getElem
  · simp
  · intro i h1 h2; simp [blockAt]

set_option maxHeartbeats 2000000 in
theorem sign_good (v : Value) (l : List UInt8) (blk : Nat) (w : World) (hv : IsB w v l) (hs : sized blk l.length = 0) :
    Calls Tryd.prog 57 #[v, .int .i64 blk] w fun e w' => ∃ x, e = .returned (.tuple #[x, .nilIface]) ∧
      Vec w' w.heap.size 50 3 x (nBlocks l.length blk) (sumCells (blocksOf l blk)) ∧ Fr (fun _ => False) w w' := by
  obtain ⟨a0, c0, rfl, h1, h2⟩ := hv.shape
  have hm : l.length ≤ maxLen := by omega
  have hk := check_row blk w.heap.size 1 [(a0, l.length, c0)] (w.alloc (.cells #[.slice a0 l.length c0] 25)) (fun i h => by simp at h; subst h; simp) (by simp) (by simpa using hm)
  rw [show [(a0, l.length, c0)].map (·.2.1) = [l.length] from rfl, checkK_one, hs, kindErr_zero] at hk
  have hblk : 1 ≤ blk ∧ blk ≤ 64 ∧ l.length ≤ 300 := by
    unfold sized at hs
    split at hs
    · omega
    · split at hs <;> omega
  have HK := Lib.hid hk
  have HV := Lib.hid hv
  clear hk hs hv
  refine (callsIn_wide (n := 6)).1 ?_
  refine callsIn_of_wp_marks Tryd.func57 rfl trivial ?_ rfl
  simp only [Tryd.ntmps57, List.size_toArray, List.length_cons, List.length_nil, Nat.reduceAdd, Nat.reduceSub, Array.replicate_succ, Array.replicate_zero, List.push_toArray, List.append_toArray, List.nil_append, List.cons_append]
  gi_wp2_with (first
    | (refine ⟨trivial, ?_⟩; gi_at_call 67; refine (callsIn_wide.2 HK.out).mono ?_; rintro e w' ⟨rfl, rfl⟩)
    | (refine ⟨trivial, ?_⟩; gi_at_call 72; refine (blocks_in _ _ _ _ _ _).mono ?_; rintro e w' ⟨rfl, rfl⟩))
  obtain ⟨W0, hW0⟩ : ∃ W0, (((w.alloc (.cells #[.slice a0 l.length c0] 25)).alloc (.cells #[.slice none 0 0] 40)).alloc (.cells #[.slice a0 l.length c0] 25)).alloc (.cells #[.int .i64 blk] 3) = W0 := ⟨_, rfl⟩
  rw [hW0]
  have hF0 : Fr (fun _ => False) w W0 := by rw [← hW0]; exact ((((Fr.refl _ w).alloc _).alloc _).alloc _).alloc _
  have hsz : W0.heap.size = w.heap.size + 1 + 1 + 1 + 1 := by rw [← hW0]; simp
  have hO : Own W0 (w.heap.size + 1) 40 [.slice none 0 0] := by
    rw [← hW0]
    have := Own.alloc (w.alloc (.cells #[.slice a0 l.length c0] 25)) #[.slice none 0 0] 40
    rw [World.size_alloc] at this
    exact this.keep (((Fr.refl (fun _ => False) _).alloc _).alloc _) id
  have c0' : W0.cell? ⟨w.heap.size + 1 + 1, 0, none⟩ = some (.slice a0 l.length c0) := by
    rw [← hW0]
    have := Own.alloc ((w.alloc (.cells #[.slice a0 l.length c0] 25)).alloc (.cells #[.slice none 0 0] 40)) #[.slice a0 l.length c0] 25
    rw [World.size_alloc, World.size_alloc] at this
    exact (this.keep ((Fr.refl (fun _ => False) _).alloc _) id).cell (i := 0) rfl
  have c1' : W0.cell? ⟨w.heap.size + 1 + 1 + 1, 0, none⟩ = some (.int .i64 blk) := by
    rw [← hW0]
    have := Own.alloc (((w.alloc (.cells #[.slice a0 l.length c0] 25)).alloc (.cells #[.slice none 0 0] 40)).alloc (.cells #[.slice a0 l.length c0] 25)) #[.int .i64 blk] 3
    rw [World.size_alloc, World.size_alloc, World.size_alloc] at this
    exact this.cell (i := 0) rfl
  have hV0 := HV.out.keep0 hF0
  clear hW0
  refine wpIn_rangeFunc_ownG rfl (by omega) (gf := 91) (lb := #[.pointer (some ⟨w.heap.size + 1 + 1 + 1, 0, none⟩), .pointer (some ⟨w.heap.size + 1 + 1, 0, none⟩)]) rfl trivial (enters_of Tryd.func91 (by kernel_rfl) rfl)
    (blocks_stops _ (by omega) (w.heap.size + 1 + 1) blk _ l (by omega) (by omega) (by omega) W0 c0' c1' (by omega) hV0) keptB_t (keptB_b (by omega)) (Below.refl _ _) (fun _ => rfl)
    (fun pre W => (∃ v, Own W (w.heap.size + 1) 40 [v] ∧ Vec W W0.heap.size 50 3 v pre.length (sumCells (pre.map fun i => blockAt l blk i.1))) ∧ Fr (fun k => k = w.heap.size + 1) W0 W)
    (fun _ _ _ => False)
    (fun s A B row hs hg hr => ⟨hs.1.imp fun v h => ⟨h.1.grown hg hr, h.2.grown hg hr⟩, hs.2.grown hg hr (Nat.le_refl _)⟩)
    (fun _ _ _ _ _ hs _ _ => hs)
    ⟨⟨_, hO, Vec.nil _ _ _ _⟩, Fr.refl _ _⟩
    (fun x => { tmps := #[.slice a0 l.length c0, .int .i64 blk, undef, undef, .slice none 0 0, .nilIface, .nilIface, .pointer (some ⟨w.heap.size + 1, 0, none⟩), undef, blkVal (.slice a0 l.length c0) l.length blk x.1, .int .i64 blk, .slice a0 l.length c0, .slice (some ⟨w.heap.size, 0, none⟩) 1 1, .nilIface, .nilIface, .bool false, undef, .slice a0 l.length c0, .int .i64 blk, .func (.func 91) #[] #[.pointer (some ⟨w.heap.size + 1 + 1 + 1, 0, none⟩), .pointer (some ⟨w.heap.size + 1 + 1, 0, none⟩)], .int .i64 (x.1 : Int), blkVal (.slice a0 l.length c0) l.length blk x.1, undef, undef, undef, undef, undef, undef, undef, undef, undef, undef, undef], defers := [] }) ?assign ?body ?done ?stop
  case assign =>
    intro lp x W K hK
    gi_wp2
    exact hK
  case body =>
    rintro lp pre x W ⟨⟨v, hv, hvec⟩, hF⟩ hlt
    have hib := (blkVal_isB (hV0.keep hF (fun b hb e => by have := HV.out.lt0 b hb; omega)) blk x.1 (by omega) x.2)
    change IsB W _ (blockAt l blk x.1) at hib
    obtain ⟨a1, n1, hsh, -⟩ := hib.shape
    rw [hsh] at hib ⊢
    generalize hb : blockAt l blk x.1 = b1 at hib
    have hF1 : Fr (fun _ => False) W W.drew := Fr.drew (Fr.refl _ _)
    have hib2 := hib.keep0 hF1
    have hw := Lib.hid (weak_any _ _ W.drew hib2)
    have hdg := Lib.hid (digest_any _ _ W.drew hib2)
    have hc := hv.cell (i := 0) rfl
    have hlo := hv.lt
    obtain ⟨a2, n2, hsh2, -⟩ := hvec.shape
    subst hsh2
    have hF2 : Fr (fun _ => False) W ((W.alloc (.cells #[.int .i64 b1.length, .int .u32 (weakOf b1), .int .u64 (dgOf b1)] 50)).drew) := Fr.drew (Fr.alloc (Fr.refl _ _) _)
    obtain ⟨i0, z0, e1, e2, e3, e4, e5, e6⟩ := elt_sum
    obtain ⟨v4, w4, r4, hv4, hf4, hd4, -⟩ := run_append_vec (P := Tryd.prog) _ W0.heap.size 40 40 50 i0 z0 3 24 e1 e2 e3 e4 e5 e6 _ _ _ (hvec.keep hF2 (fun _ _ h => h)) _ 1 _
      (Reads.drew (Reads.new W #[.int .i64 b1.length, .int .u32 (weakOf b1), .int .u64 (dgOf b1)] 50 W.heap.size (by simp) 1 1)) rfl (by intro u hu; simp at hu; rcases hu with rfl | rfl | rfl <;> rfl)
      (by unfold maxLen; have := (nBlocks_mul l.length blk (by omega)).2.2; omega) (by have := (nBlocks_mul l.length blk (by omega)).2.2; omega) (by have := hF.size; have := hF2.size; omega)
    rw [append_hide] at r4
    obtain ⟨a4, n4, hsh4, -⟩ := hv4.shape
    subst hsh4
    have hne : ¬ (Value.slice a2 pre.length n2).ownBlock = some (w.heap.size + 1) := fun e => by have := (hvec.lt _ e).1; omega
    have hv5 := (hv.keep hF2 id).keep hf4 hne
    have hc5 := hv5.cell (i := 0) rfl
    have hz5 := hv5.free 0 (by simp)
    have hv6 := hv5.set 0 (.slice a4 (pre.length + 1) n4)
    have hne4 : ¬ (Value.slice a4 (pre.length + 1) n4).ownBlock = some (w.heap.size + 1) := fun e => by have := (hv4.lt _ e).1; omega
    have hfs : Fr (fun k => k = w.heap.size + 1) w4 (w4.setCell ⟨w.heap.size + 1, 0, none⟩ (.slice a4 (pre.length + 1) n4)) := (Fr.refl _ _).setCell _ _ (fun _ => rfl)
    have hv7 := hv4.keep hfs (fun b hb e => hne4 (by rw [hb, e]))
    have hfin : Fr (fun k => k = w.heap.size + 1 ∨ (Value.slice a2 pre.length n2).ownBlock = some k) W (w4.setCell ⟨w.heap.size + 1, 0, none⟩ (.slice a4 (pre.length + 1) n4)) :=
      ((hF2.mono (fun _ h _ => h.elim)).step hf4 (fun k hk _ => .inr hk)).step hfs (fun k hk _ => .inl hk)
    have FIN : Hid (ownPostG W0.heap.size (KeptB (w.heap.size + 1 + 1)) (fun pre W => (∃ v, Own W (w.heap.size + 1) 40 [v] ∧ Vec W W0.heap.size 50 3 v pre.length (sumCells (pre.map fun i => blockAt l blk i.1))) ∧ Fr (fun k => k = w.heap.size + 1) W0 W) (fun _ _ _ => False) (pre ++ [x]) W .normal { tmps := #[], defers := [] } (w4.setCell ⟨w.heap.size + 1, 0, none⟩ (.slice a4 (pre.length + 1) n4))) := by
      refine ⟨KeepsFrom.of_fr hfin ?_, KeptB.of_fr hfin (by have := hF.size; omega) ?_ ?_, ⟨_, hv6, ?_⟩, hF.step hfin ?_⟩
      · rintro k (rfl | hk) hB
        · exact hv.cells
        · exact hvec.cells hk
      · rintro (h | h)
        · omega
        · have := (hvec.lt _ h).1; omega
      · rintro (h | h)
        · omega
        · have := (hvec.lt _ h).1; omega
      · rw [List.length_append, List.map_append]
        simp only [List.map_cons, List.map_nil, hb]
        rw [sumCells_snoc]
        exact hv7
      · rintro k (rfl | hk) hl
        · rfl
        · have := (hvec.lt _ hk).1; omega
    have hmx : Tryd.prog.follows .mixedOrders = true := by kernel_rfl
    clear hvec hv hF hib HK HV hib2 hF1 hF2 hv4 hf4 hd4 hv5 hv6 hv7 hfs hfin hne hne4 hb hsh e1 e2 e3 e4 e5 e6
    dsimp only
    gi_wp2
    refine wpIn_region_round lp rfl hmx (by kernel_rfl) ?_
    simp only [List.size_toArray, List.length_cons, List.length_nil, Nat.reduceAdd]
    refine wpAnyIn_take (i := 1) (v := ?_) rfl rfl (by decide +kernel) (by decide +kernel) (by decide +kernel) (fun _ _ _ h => h) ⟨Or.inl ⟨by rfl, ?_⟩, fun _ => rfl⟩ ?_
    rotate_left
    · (intro w; go_simp; try with_reducible rfl)
    go_simp
    refine wpAnyIn_take (i := 2) (v := ?_) rfl rfl (by decide +kernel) (by decide +kernel) (by decide +kernel) (fun _ _ _ h => h) ⟨Or.inl ⟨by rfl, ?_⟩, fun _ => rfl⟩ ?_
    rotate_left
    · (intro w; go_simp; try with_reducible rfl)
    go_simp
    refine wpAnyIn_take (i := 3) (v := ?_) rfl rfl (by decide +kernel) (by decide +kernel) (by decide +kernel) (fun _ _ _ h => h) ⟨Or.inl ⟨by rfl, ?_⟩, fun _ => rfl⟩ ?_
    rotate_left
    · (intro w; go_simp; try with_reducible rfl)
    go_simp
    refine wpAnyIn_take (i := 5) (v := ?_) rfl rfl (by decide +kernel) (by decide +kernel) (by decide +kernel) (fun _ _ _ h => h) ⟨Or.inl ⟨by rfl, ?_⟩, fun _ => rfl⟩ ?_
    rotate_left
    · (intro w; go_simp; try with_reducible rfl)
    go_simp
    refine wpAnyIn_ready (rs := [0, 4]) (by decide +kernel) (by simp) ?_
    refine AllReadyIn.cons rfl (fun K hK => ?_) ?_
    · skip
      go_simp
      refine hK _ _ ?_
      clear hK K
      refine wpAnyIn_ready (rs := [4]) (by decide +kernel) (by simp) ?_
      refine AllReadyIn.cons rfl (fun K hK => ?_) ?_
      · skip
        go_simp
        refine ⟨trivial, (callsIn_wide.2 hw.out).mono ?_⟩
        rintro e w' ⟨rfl, rfl⟩
        dsimp only
        refine hK _ _ ?_
        clear hK K
        refine wpAnyIn_ready (rs := [6]) (by decide +kernel) (by simp) ?_
        refine AllReadyIn.cons rfl (fun K hK => ?_) ?_
        · skip
          go_simp
          refine ⟨trivial, (callsIn_wide.2 hdg.out).mono ?_⟩
          rintro e w' ⟨rfl, rfl⟩
          dsimp only
          refine hK _ _ ?_
          clear hK K
          refine wpAnyIn_take (i := 7) (v := ?_) rfl rfl (by decide +kernel) (by decide +kernel) (by decide +kernel) (fun _ _ _ h => h) ⟨Or.inl ⟨by rfl, ?_⟩, fun _ => rfl⟩ ?_
          rotate_left
          · (intro w; go_simp; try with_reducible rfl)
          go_simp
          refine wpAnyIn_ready (rs := [8]) (by decide +kernel) (by simp) ?_
          refine AllReadyIn.cons rfl (fun K hK => ?_) ?_
          · skip
            go_simp
            refine hK _ _ ?_
            clear hK K
            refine wpAnyIn_ready (rs := [9]) (by decide +kernel) (by simp) ?_
            refine AllReadyIn.cons rfl (fun K hK => ?_) ?_
            · skip
              go_simp
              try (rw [r4]; go_simp)
              refine hK _ _ ?_
              clear hK K
              refine wpAnyIn_ready (rs := [10]) (by decide +kernel) (by simp) ?_
              refine AllReadyIn.cons rfl (fun K hK => ?_) ?_
              · skip
                go_simp
                refine hK _ _ ?_
                clear hK K
                refine wpAnyIn_done (by decide +kernel) ?_ _
                exact FIN.out
              exact AllReadyIn.nil
            exact AllReadyIn.nil
          exact AllReadyIn.nil
        exact AllReadyIn.nil
      exact AllReadyIn.nil
    refine AllReadyIn.cons rfl (fun K hK => ?_) ?_
    · skip
      go_simp
      refine ⟨trivial, (callsIn_wide.2 hw.out).mono ?_⟩
      rintro e w' ⟨rfl, rfl⟩
      dsimp only
      refine hK _ _ ?_
      clear hK K
      refine wpAnyIn_ready (rs := [0, 6]) (by decide +kernel) (by simp) ?_
      refine AllReadyIn.cons rfl (fun K hK => ?_) ?_
      · skip
        go_simp
        refine hK _ _ ?_
        clear hK K
        refine wpAnyIn_ready (rs := [6]) (by decide +kernel) (by simp) ?_
        refine AllReadyIn.cons rfl (fun K hK => ?_) ?_
        · skip
          go_simp
          refine ⟨trivial, (callsIn_wide.2 hdg.out).mono ?_⟩
          rintro e w' ⟨rfl, rfl⟩
          dsimp only
          refine hK _ _ ?_
          clear hK K
          refine wpAnyIn_take (i := 7) (v := ?_) rfl rfl (by decide +kernel) (by decide +kernel) (by decide +kernel) (fun _ _ _ h => h) ⟨Or.inl ⟨by rfl, ?_⟩, fun _ => rfl⟩ ?_
          rotate_left
          · (intro w; go_simp; try with_reducible rfl)
          go_simp
          refine wpAnyIn_ready (rs := [8]) (by decide +kernel) (by simp) ?_
          refine AllReadyIn.cons rfl (fun K hK => ?_) ?_
          · skip
            go_simp
            refine hK _ _ ?_
            clear hK K
            refine wpAnyIn_ready (rs := [9]) (by decide +kernel) (by simp) ?_
            refine AllReadyIn.cons rfl (fun K hK => ?_) ?_
            · skip
              go_simp
              try (rw [r4]; go_simp)
              refine hK _ _ ?_
              clear hK K
              refine wpAnyIn_ready (rs := [10]) (by decide +kernel) (by simp) ?_
              refine AllReadyIn.cons rfl (fun K hK => ?_) ?_
              · skip
                go_simp
                refine hK _ _ ?_
                clear hK K
                refine wpAnyIn_done (by decide +kernel) ?_ _
                exact FIN.out
              exact AllReadyIn.nil
            exact AllReadyIn.nil
          exact AllReadyIn.nil
        exact AllReadyIn.nil
      refine AllReadyIn.cons rfl (fun K hK => ?_) ?_
      · skip
        go_simp
        refine ⟨trivial, (callsIn_wide.2 hdg.out).mono ?_⟩
        rintro e w' ⟨rfl, rfl⟩
        dsimp only
        refine hK _ _ ?_
        clear hK K
        refine wpAnyIn_take (i := 7) (v := ?_) rfl rfl (by decide +kernel) (by decide +kernel) (by decide +kernel) (fun _ _ _ h => h) ⟨Or.inl ⟨by rfl, ?_⟩, fun _ => rfl⟩ ?_
        rotate_left
        · (intro w; go_simp; try with_reducible rfl)
        go_simp
        refine wpAnyIn_ready (rs := [0, 8]) (by decide +kernel) (by simp) ?_
        refine AllReadyIn.cons rfl (fun K hK => ?_) ?_
        · skip
          go_simp
          refine hK _ _ ?_
          clear hK K
          refine wpAnyIn_ready (rs := [8]) (by decide +kernel) (by simp) ?_
          refine AllReadyIn.cons rfl (fun K hK => ?_) ?_
          · skip
            go_simp
            refine hK _ _ ?_
            clear hK K
            refine wpAnyIn_ready (rs := [9]) (by decide +kernel) (by simp) ?_
            refine AllReadyIn.cons rfl (fun K hK => ?_) ?_
            · skip
              go_simp
              try (rw [r4]; go_simp)
              refine hK _ _ ?_
              clear hK K
              refine wpAnyIn_ready (rs := [10]) (by decide +kernel) (by simp) ?_
              refine AllReadyIn.cons rfl (fun K hK => ?_) ?_
              · skip
                go_simp
                refine hK _ _ ?_
                clear hK K
                refine wpAnyIn_done (by decide +kernel) ?_ _
                exact FIN.out
              exact AllReadyIn.nil
            exact AllReadyIn.nil
          exact AllReadyIn.nil
        refine AllReadyIn.cons rfl (fun K hK => ?_) ?_
        · skip
          go_simp
          refine hK _ _ ?_
          clear hK K
          refine wpAnyIn_ready (rs := [0]) (by decide +kernel) (by simp) ?_
          refine AllReadyIn.cons rfl (fun K hK => ?_) ?_
          · skip
            go_simp
            refine hK _ _ ?_
            clear hK K
            refine wpAnyIn_ready (rs := [9]) (by decide +kernel) (by simp) ?_
            refine AllReadyIn.cons rfl (fun K hK => ?_) ?_
            · skip
              go_simp
              try (rw [r4]; go_simp)
              refine hK _ _ ?_
              clear hK K
              refine wpAnyIn_ready (rs := [10]) (by decide +kernel) (by simp) ?_
              refine AllReadyIn.cons rfl (fun K hK => ?_) ?_
              · skip
                go_simp
                refine hK _ _ ?_
                clear hK K
                refine wpAnyIn_done (by decide +kernel) ?_ _
                exact FIN.out
              exact AllReadyIn.nil
            exact AllReadyIn.nil
          exact AllReadyIn.nil
        exact AllReadyIn.nil
      exact AllReadyIn.nil
    exact AllReadyIn.nil
  case done =>
    rintro D ys W hD rfl ⟨⟨v, hv, hvec⟩, hF⟩ hK
    have hc := hv.cell (i := 0) rfl
    gi_wp2
    refine ⟨by simp, .inl ⟨_, _, rfl, run_takeDeferred hK, ?_⟩⟩
    refine ⟨.tuple #[v, .nilIface], by simp [results, Tryd.results57, go_sem], v, rfl, ?_, ?_⟩
    · have h := (hvec.putObj hK rfl (.deferred none)).mono (B' := w.heap.size) (by omega)
      rw [List.length_finRange, ← blocksOf_map] at h
      exact h
    · exact (hF0.step hF (fun k hk hl => by omega)).putObj (by omega) _
  case stop =>
    rintro D c pre W _ _ h _
    exact h.elim
end Go.Proofs.YtlcdgbhigfgehaaDoor
