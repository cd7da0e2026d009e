/- Cut: walked. -/
import Derived.Test.YtbcgeajnmnnbhaaNetOrs
import Derived.WalkSpells
set_option linter.unusedSimpArgs false
set_option linter.unusedVariables false
namespace Go.Proofs.Ytbcgeajnmnnbhaa.Nt
open Go.RowKit Go.Maps Go.Proofs.Ytbcgeajnmnnbhaa.PAll Go.Proofs.YtbcgeajnmnnbhaaW.PrintWords
attribute [local go_sem] put_fresh
attribute [-go_sem] Builtin.append_

/-- The cut ends, one pair of them set. -/
def cutp (C : Int → Int → Bool) (p q : Int) (o : Bool) : Int → Int → Bool := fun x y => if x = p ∧ y = q then o else C x y
theorem cutp_twice (C : Int → Int → Bool) (p q : Int) (o o' : Bool) : cutp (cutp C p q o) p q o' = cutp C p q o' := by
  funext x y
  unfold cutp
  split <;> rfl
/-- The map of the cut ends. -/
def MapC (W : World) (b n : Nat) (C : Int → Int → Bool) : Prop := ∃ D : DataW Unit, W.ownsMap Try.prog 61 unitElem b n D ∧ ∀ x y, I64 x → I64 y → has D (.string (kb x y)) = C x y
/-- A net whose map stands at b. -/
structure NC (W w : World) (base B b n : Nat) (L : List Pk) (C : Int → Int → Bool) : Prop where
  hb : base ≤ B
  lt : B < b
  row : ∃ p c, w.heap[B]? = some (.cells #[.slice p L.length c, .map (some b)] 46 (0, 0)) ∧ w.ownsRow (B + 1) 27 3 (.slice p L.length c) L.length (L.flatMap penc)
  map : MapC w b n C
  bel : Below base W w
  fr : ∀ q, q < W.heap.size → q ≠ B → q ≠ b → w.heap[q]? = W.heap[q]?
theorem NC.ltb {W w : World} {base B b n : Nat} {L : List Pk} {C : Int → Int → Bool} (h : NC W w base B b n L C) : b < w.heap.size := by
  obtain ⟨D, hD, _⟩ := h.map
  exact hD.lt
theorem NC.below {W w w' : World} {base B b n : Nat} {L : List Pk} {C : Int → Int → Bool} (h : NC W w base B b n L C) (hw : Below w.heap.size w w') : NC W w' base B b n L C := by
  have hl := h.ltb
  obtain ⟨h1, h2, ⟨p, c, hB, hr⟩, ⟨D, ⟨es, clock, hh, Ft, hs, hD⟩, hC⟩, h5, h6⟩ := h
  exact ⟨h1, h2, ⟨p, c, (hw.block B (by omega)).trans hB, own_bel hr hw⟩, ⟨D, ⟨es, clock, (hw.block b hl).trans hh, Ft, hs, hD⟩, hC⟩, h5.trans (hw.mono (by omega)), fun q q1 q2 q3 => (hw.block q (Nat.lt_of_lt_of_le q1 h5.size)).trans (h6 q q1 q2 q3)⟩
theorem NC.turn {W w w' : World} {base B b n n' : Nat} {L : List Pk} {C C' : Int → Int → Bool} (h : NC W w base B b n L C) (hw : w.grownBy w' (some b)) (hM : MapC w' b n' C') : NC W w' base B b n' L C' := by
  have hl := h.ltb
  obtain ⟨h1, h2, ⟨p, c, hB, hr⟩, ⟨D, ⟨es, clock, hh, Ft, hs, hD⟩, hC⟩, h5, h6⟩ := h
  refine ⟨h1, h2, ⟨p, c, (hw.block B (by omega) (fun e => by have := Option.some.inj e; omega)).trans hB, own_move hr fun k hk => hw.block k (own_lt hr k hk).2 (fun e => ?_)⟩, hM, h5.grown hw (by omega) (fun j e => ?_), fun q q1 q2 q3 => (hw.block q (Nat.lt_of_lt_of_le q1 h5.size) (fun e => q3 (Option.some.inj e))).trans (h6 q q1 q2 q3)⟩
  · have e' := Option.some.inj e
    subst e'
    obtain ⟨cells, hcs⟩ := own_typed hr _ hk
    rw [hcs] at hh
    cases hh
  · have e' := Option.some.inj e
    omega
theorem NC.del {W w : World} {base B b n : Nat} {L : List Pk} {C : Int → Int → Bool} (h : NC W w base B b n L C) {p q : Int} (hp : I64 p) (hq : I64 q) :
    ∃ w', (∀ ty, (Builtin.delete_ #[44, 61] ty #[.map (some b), .agg #[.int .i64 p, .int .i64 q]]).run Try.prog w = .ok (.tuple #[]) w') ∧ NC W w' base B b n L (cutp C p q false) := by
  obtain ⟨D, hD, hC⟩ := h.map
  have hrun := fun ty => hD.drop keyed Try.underlying44 (keyOf_ends p q hp hq) ty
  obtain ⟨w', hup, hown, hturn⟩ := hrun 0
  refine ⟨w', fun ty => ?_, h.turn hturn.grown ⟨_, hown, fun x y hx hy => ?_⟩⟩
  · exact hup
  · unfold cutp
    by_cases hxy : x = p ∧ y = q
    · rw [if_pos hxy]
      obtain ⟨rfl, rfl⟩ := hxy
      exact has_del_same
    · rw [if_neg hxy, has_del_other (fun e => hxy (kb_inj hx hy hp hq (by simpa using e))), hC x y hx hy]
theorem NC.put {W w : World} {base B b n : Nat} {L : List Pk} {C : Int → Int → Bool} (h : NC W w base B b n L C) (hn : n < maxLen) {p q : Int} (hp : I64 p) (hq : I64 q) :
    ∃ w', (Instr.mapUpdate 44 (.map (some b)) (.agg #[.int .i64 p, .int .i64 q]) (.agg #[])).run Try.prog w = .ok () w' ∧ NC W w' base B b (n + 1) L (cutp C p q true) := by
  obtain ⟨D, hD, hC⟩ := h.map
  obtain ⟨w', hup, hown, hturn⟩ := World.ownsMap.store hD keyed Try.underlying44 hn (keyOf_ends p q hp hq) (unitElem_mk (H := Unit))
  refine ⟨w', hup, h.turn hturn.grown ⟨_, hown, fun x y hx hy => ?_⟩⟩
  unfold cutp
  by_cases hxy : x = p ∧ y = q
  · rw [if_pos hxy]
    obtain ⟨rfl, rfl⟩ := hxy
    exact has_put_same (hD.tidy keyed).isMap (isKey _ _) _
  · rw [if_neg hxy, has_put_other (fun e => hxy (kb_inj hx hy hp hq (by simpa using e))), hC x y hx hy]
theorem CutAt.more {W : World} {B n n' : Nat} {m : Value} {C : Int → Int → Bool} (h : CutAt W B m n C) (hn : n ≤ n') : CutAt W B m n' C := by
  rcases h with h | ⟨b, rfl, hlt, D, hD, hC⟩
  · exact .inl h
  · exact .inr ⟨b, rfl, hlt, D, hD.mono hn, hC⟩
theorem NC.net {W w : World} {base B b n : Nat} {L : List Pk} {C : Int → Int → Bool} (h : NC W w base B b n L C) : NetAt w base B (.map (some b)) L ∧ CutAt w B (.map (some b)) n C ∧ Below base W w ∧ ∀ q, q < W.heap.size → q ≠ B → q ≠ b → w.heap[q]? = W.heap[q]? := by
  obtain ⟨h1, h2, ⟨p, c, hB, hr⟩, ⟨D, hD, hC⟩, h5, h6⟩ := h
  exact ⟨⟨h1, _, hB, hr⟩, .inr ⟨b, rfl, h2, D, hD, hC⟩, h5, h6⟩
theorem NC.of {W : World} {base B b n : Nat} {L : List Pk} {C : Int → Int → Bool} (hN : NetAt W base B (.map (some b)) L) (hC : CutAt W B (.map (some b)) n C) : NC W W base B b n L C := by
  obtain ⟨p, c, hB, hr⟩ := net_v hN
  rcases hC with ⟨h, _⟩ | ⟨b', hb', hlt, D, hD, hC⟩
  · cases h
  · cases hb'
    exact ⟨hN.1, hlt, ⟨p, c, hB, hr⟩, ⟨D, hD, hC⟩, Below.refl _ _, fun _ _ _ _ => rfl⟩
theorem NC.cell {W w : World} {base B b n : Nat} {L : List Pk} {C : Int → Int → Bool} (h : NC W w base B b n L C) : w.cell? ⟨B, 1, none⟩ = some (.map (some b)) := by
  obtain ⟨p, c, hB, hr⟩ := h.row
  exact blk_cell hB 1
/-- A net without a map gets one. -/
theorem NC.made {W : World} {base B n : Nat} {L : List Pk} {C : Int → Int → Bool} (hN : NetAt W base B (.map none) L) (hC : CutAt W B (.map none) n C) : NC W ((W.alloc (.map #[] 0)).setCell ⟨B, 1, none⟩ (.map (some W.heap.size))) base B W.heap.size 0 L C := by
  have hl := hN.lt
  have hM0 := World.ownsMap_made (H := Unit) W Try.prog 61 unitElem
  obtain ⟨p, c, hB, hr⟩ := net_v hN
  have hz : ∀ a b, C a b = false := by
    rcases hC with ⟨_, h⟩ | ⟨b', hb', _⟩
    · exact h
    · cases hb'
  obtain ⟨es, clock, hh, Ft, hs, hD⟩ := hM0
  refine ⟨hN.1, hl, ⟨p, c, ?_, own_move hr fun k hk => ?_⟩, ⟨_, ⟨es, clock, (set_other _ (by omega)).trans hh, Ft, hs, hD⟩, fun x y _ _ => by rw [hz]; simp [has]⟩, ⟨rfl, rfl, rfl, by simp, fun j hj => ?_⟩, fun q q1 q2 _ => (set_other _ (Ne.symm q2)).trans (heap_alloc_old _ _ q1)⟩
  · exact set_blk (j := 1) _ ((heap_alloc_old _ _ hl).trans hB)
  · have := own_lt hr k hk
    exact (set_other _ (by omega)).trans (heap_alloc_old _ _ (by omega))
  · have := hN.1
    exact (set_other _ (by omega)).trans (heap_alloc_old _ _ (by omega))
set_option maxRecDepth 100000 in
set_option maxHeartbeats 4000000 in
theorem cut_k {W : World} {base B n : Nat} {m : Value} {C : Int → Int → Bool} {L : List Pk} (hN : NetAt W base B m L) (hC : CutAt W B m n C) (hn : n < 4611686018427387904) (x y : Int) (hx : I64 x) (hy : I64 y) (o : Bool) :
    Calls Try.prog 18 #[.pointer (some ⟨B, 0, none⟩), .int .i64 x, .int .i64 y, .bool o] W fun e W' => e = .returned (.tuple #[]) ∧ ∃ b, NetAt W' base B (.map (some b)) L ∧ CutAt W' B (.map (some b)) (n + 1) (cutp C (mn x y) (mx x y) o) ∧ Below base W W' ∧ (∀ q, q < W.heap.size → q ≠ B → q ≠ b → W'.heap[q]? = W.heap[q]?) ∧ (m = .map (some b) ∨ W.heap.size ≤ b) := by
  have hml : 4611686018427387904 ≤ maxLen := by decide
  have hmm := @run_makeMap Try.prog
  have heq := fun w r => run_eql_map_nil w 44 61 59 r Try.underlying44
  have HI := Aside0.mk (mn_i hx hy)
  obtain ⟨p, c, hB, hr⟩ := net_v hN
  have hmap : m = .map none ∨ ∃ b, m = .map (some b) := by
    rcases hC with ⟨h, _⟩ | ⟨b, h, _⟩
    · exact .inl h
    · exact .inr ⟨b, h⟩
  rcases hmap with rfl | ⟨b, rfl⟩
  · have HN := Aside0.mk (NC.made hN hC)
    have hc : W.cell? ⟨B, 1, none⟩ = some (.map none) := blk_cell hB 1
    have hf : W.frozen? ⟨B, 1, none⟩ = false := blk_frozen hB 1
    have hB2 := (heap_alloc_old W (.map #[] 0) (Array.getElem?_eq_some_iff.1 hB).1).trans hB
    have hc2 : (W.alloc (.map #[] 0)).cell? ⟨B, 1, none⟩ = some (.map none) := blk_cell hB2 1
    have hf2 : (W.alloc (.map #[] 0)).frozen? ⟨B, 1, none⟩ = false := blk_frozen hB2 1
    clear hB hr hN hC hB2
    go_enter Try.func18, Try.ntmps18
    go_upto_region 3 with (fail)
    clear hc hf hc2 hf2
    generalize ((W.alloc (.map #[] 0)).setCell ⟨B, 1, none⟩ (.map (some W.heap.size))) = w3 at *
    obtain ⟨b, hbW⟩ : ∃ b, b = W.heap.size := ⟨_, rfl⟩
    have HM : Aside0 (W.heap.size ≤ b) := ⟨by omega⟩
    rw [← hbW] at HN
    clear hbW
    have LD := Aside0.mk (show ∀ w', Below w3.heap.size w3 w' → w'.cell? ⟨B, 1, none⟩ = some (.map (some b)) ∧ ∃ w4, (∀ ty, (Builtin.delete_ #[44, 61] ty #[.map (some b), .agg #[.int .i64 (mn x y), .int .i64 (mx x y)]]).run Try.prog w' = .ok (.tuple #[]) w4) ∧ Aside0 (NC W w4 base B b 0 L (cutp C (mn x y) (mx x y) false)) from fun w' h => by
      have h' := HN.out.below h
      obtain ⟨w4, h1, h2⟩ := h'.del HI.out.1 HI.out.2
      exact ⟨h'.cell, w4, h1, ⟨h2⟩⟩)
    have l0 : w3.drew.cell? ⟨B, 1, none⟩ = some (.map (some b)) := (LD.out _ (below_drew1 (Below.refl _ _))).1
    go_region_with (go_at_call 31; refine (net_ends.calls x y _ _ _ rfl).mono ?_; rintro e w5 ⟨rfl, hb5⟩; obtain ⟨l1, w4, hdel, H4⟩ := LD.out w5 (below_step (below_drew1 (Below.refl _ _)) hb5))
    all_goals
      clear l0 l1 hdel hb5 LD HN
      have LE := Aside0.mk (show ∀ w', Below w4.heap.size w4 w' → w'.cell? ⟨B, 1, none⟩ = some (.map (some b)) ∧ ∃ w6, (Instr.mapUpdate 44 (.map (some b)) (.agg #[.int .i64 (mn x y), .int .i64 (mx x y)]) (.agg #[])).run Try.prog w' = .ok () w6 ∧ Aside0 (NC W w6 base B b 1 L (cutp C (mn x y) (mx x y) true)) from fun w' h => by
        have h' := H4.out.below h
        obtain ⟨w6, h1, h2⟩ := h'.put (by omega) HI.out.1 HI.out.2
        rw [cutp_twice] at h2
        exact ⟨h'.cell, w6, h1, ⟨h2⟩⟩)
      have HE := Aside0.mk H4.out.net
      have l2 : w4.drew.cell? ⟨B, 1, none⟩ = some (.map (some b)) := (LE.out _ (below_drew1 (Below.refl _ _))).1
      clear H4
      cases o with
      | false =>
        go_wp2_with fail
        exact bodyPost_end (v := .tuple #[]) (by simp [results, Try.results18]) rfl ⟨rfl, b, HE.out.1, HE.out.2.1.more (by omega), HE.out.2.2.1, HE.out.2.2.2, .inr HM.out⟩
      | true =>
        go_upto_region 5 with (fail)
        go_region_with (go_at_call 31; refine (net_ends.calls x y _ _ _ rfl).mono ?_; rintro e w5 ⟨rfl, hb5⟩; obtain ⟨l1, w6, hput, H6⟩ := LE.out w5 (below_step (below_drew1 (Below.refl _ _)) hb5))
        all_goals
          exact bodyPost_end (v := .tuple #[]) (by simp [results, Try.results18]) rfl ⟨rfl, b, H6.out.net.1, H6.out.net.2.1.more (by omega), H6.out.net.2.2.1, H6.out.net.2.2.2, .inr HM.out⟩
  · have HN := Aside0.mk (NC.of hN hC)
    have hc : W.cell? ⟨B, 1, none⟩ = some (.map (some b)) := blk_cell hB 1
    clear hB hr hN hC
    go_enter Try.func18, Try.ntmps18
    go_upto_region 3 with (fail)
    clear hc
    have LD := Aside0.mk (show ∀ w', Below W.heap.size W w' → w'.cell? ⟨B, 1, none⟩ = some (.map (some b)) ∧ ∃ w4, (∀ ty, (Builtin.delete_ #[44, 61] ty #[.map (some b), .agg #[.int .i64 (mn x y), .int .i64 (mx x y)]]).run Try.prog w' = .ok (.tuple #[]) w4) ∧ Aside0 (NC W w4 base B b n L (cutp C (mn x y) (mx x y) false)) from fun w' h => by
      have h' := HN.out.below h
      obtain ⟨w4, h1, h2⟩ := h'.del HI.out.1 HI.out.2
      exact ⟨h'.cell, w4, h1, ⟨h2⟩⟩)
    have l0 : W.drew.cell? ⟨B, 1, none⟩ = some (.map (some b)) := (LD.out _ (below_drew1 (Below.refl _ _))).1
    go_region_with (go_at_call 31; refine (net_ends.calls x y _ _ _ rfl).mono ?_; rintro e w5 ⟨rfl, hb5⟩; obtain ⟨l1, w4, hdel, H4⟩ := LD.out w5 (below_step (below_drew1 (Below.refl _ _)) hb5))
    all_goals
      clear l0 l1 hdel hb5 LD HN
      have LE := Aside0.mk (show ∀ w', Below w4.heap.size w4 w' → w'.cell? ⟨B, 1, none⟩ = some (.map (some b)) ∧ ∃ w6, (Instr.mapUpdate 44 (.map (some b)) (.agg #[.int .i64 (mn x y), .int .i64 (mx x y)]) (.agg #[])).run Try.prog w' = .ok () w6 ∧ Aside0 (NC W w6 base B b (n + 1) L (cutp C (mn x y) (mx x y) true)) from fun w' h => by
        have h' := H4.out.below h
        obtain ⟨w6, h1, h2⟩ := h'.put (by omega) HI.out.1 HI.out.2
        rw [cutp_twice] at h2
        exact ⟨h'.cell, w6, h1, ⟨h2⟩⟩)
      have HE := Aside0.mk H4.out.net
      have l2 : w4.drew.cell? ⟨B, 1, none⟩ = some (.map (some b)) := (LE.out _ (below_drew1 (Below.refl _ _))).1
      clear H4
      cases o with
      | false =>
        go_wp2_with fail
        exact bodyPost_end (v := .tuple #[]) (by simp [results, Try.results18]) rfl ⟨rfl, b, HE.out.1, HE.out.2.1.more (by omega), HE.out.2.2.1, HE.out.2.2.2, .inl rfl⟩
      | true =>
        go_upto_region 5 with (fail)
        go_region_with (go_at_call 31; refine (net_ends.calls x y _ _ _ rfl).mono ?_; rintro e w5 ⟨rfl, hb5⟩; obtain ⟨l1, w6, hput, H6⟩ := LE.out w5 (below_step (below_drew1 (Below.refl _ _)) hb5))
        all_goals
          exact bodyPost_end (v := .tuple #[]) (by simp [results, Try.results18]) rfl ⟨rfl, b, H6.out.net.1, H6.out.net.2.1.more (by omega), H6.out.net.2.2.1, H6.out.net.2.2.2, .inl rfl⟩
theorem cut_c {W : World} {base B n : Nat} {m : Value} {C : Int → Int → Bool} {L : List Pk} (hN : NetAt W base B m L) (hC : CutAt W B m n C) (hn : n < 4611686018427387904) (x y : Int) (hx : I64 x) (hy : I64 y) (o : Bool) :
    Calls Try.prog 18 #[.pointer (some ⟨B, 0, none⟩), .int .i64 x, .int .i64 y, .bool o] W fun e W' => e = .returned (.tuple #[]) ∧ ∃ b, NetAt W' base B (.map (some b)) L ∧ CutAt W' B (.map (some b)) (n + 1) (cutp C (mn x y) (mx x y) o) ∧ Below base W W' :=
  (cut_k hN hC hn x y hx hy o).mono fun _ _ ⟨h1, b, h2, h3, h4, _⟩ => ⟨h1, b, h2, h3, h4⟩
end Go.Proofs.Ytbcgeajnmnnbhaa.Nt
