/- Move: walked. -/
import Derived.Test.YtbcgeajnmnnbhaaNetIns
set_option linter.unusedSimpArgs false
set_option linter.unusedVariables false
namespace Go.Proofs.Ytbcgeajnmnnbhaa.Nt
open Go.RowKit Go.Maps Go.Proofs.Ytbcgeajnmnnbhaa.PAll Go.Proofs.YtbcgeajnmnnbhaaW.PrintWords
attribute [local go_sem] put_fresh
attribute [-go_sem] Builtin.append_

/-- The net's row is put anew. -/
theorem net_put {w W5 w6 : World} {base B n c c' : Nat} {m : Value} {C : Int → Int → Bool} {L L' : List Pk} {p p' : Option Addr} (hN : NetAt w base B m L) (hB : w.heap[B]? = some (.cells #[.slice p L.length c, m] 46 (0, 0)))
    (hr : w.ownsRow (B + 1) 27 3 (.slice p L.length c) L.length (L.flatMap penc)) (hC : CutAt w B m n C) (hb5 : Below w.heap.size w W5)
    (hr6 : w6.ownsRow (B + 1) 27 3 (.slice p' L'.length c') L'.length (L'.flatMap penc)) (hg6 : W5.grownBy w6 ((Value.slice p L.length c).ownBlock))
    (hn : ∀ j, (Value.slice p' L'.length c').ownBlock = some j → (Value.slice p L.length c).ownBlock = some j ∨ w.heap.size ≤ j) :
    NetAt (w6.setCell ⟨B, 0, none⟩ (.slice p' L'.length c')) base B m L' ∧ CutAt (w6.setCell ⟨B, 0, none⟩ (.slice p' L'.length c')) B m n C ∧ Kp w (w6.setCell ⟨B, 0, none⟩ (.slice p' L'.length c')) B ∧ Below base w (w6.setCell ⟨B, 0, none⟩ (.slice p' L'.length c')) := by
  have hbl := hN.lt
  have hb0 := hN.1
  have hsA := hb5.size
  have hs6 := hg6.size
  have hB6 : w6.heap[B]? = some (.cells #[.slice p L.length c, m] 46 (0, 0)) := (hg6.block B (by omega) (fun e => by have h := own_lt hr _ e.symm; omega)).trans ((hb5.block B hbl).trans hB)
  have hB9 : (w6.setCell ⟨B, 0, none⟩ (.slice p' L'.length c')).heap[B]? = some (.cells #[.slice p' L'.length c', m] 46 (0, 0)) := set_blk (j := 0) _ hB6
  have hs9 : (w6.setCell ⟨B, 0, none⟩ (.slice p' L'.length c')).heap.size = w6.heap.size := by simp
  have old : ∀ j, j < w.heap.size → j ≠ B → (Value.slice p L.length c).ownBlock ≠ some j → (w6.setCell ⟨B, 0, none⟩ (.slice p' L'.length c')).heap[j]? = w.heap[j]? := fun j h1 h2 h3 =>
    (set_other _ (Ne.symm h2)).trans ((hg6.block j (by omega) (fun e => h3 e.symm)).trans (hb5.block j h1))
  refine ⟨⟨hb0, _, hB9, ?_⟩, hC.keep fun b hm => ?_, fun q hq hno => ⟨old q hq (fun e => hno (.inl e)) (fun e => hno (.inr ⟨_, _, hB, e⟩)), fun ho => ?_⟩, ⟨hg6.os.trans hb5.os, hg6.tape.trans hb5.tape, hg6.output.trans hb5.output, by omega, fun j hj => old j (by omega) (by omega) (fun e => by have := own_lt hr j e; omega)⟩⟩
  · exact own_move hr6 fun q' hq' => set_other _ (by have := (own_lt hr6 q' hq').1; omega)
  · have hlt := hC.lt hm
    obtain ⟨es, clock, hmap⟩ := hC.isMap hm
    refine old b hlt.2 (by omega) (fun e => ?_)
    obtain ⟨cells, hcs⟩ := own_typed hr b e
    rw [hcs] at hmap
    cases hmap
  · rcases ho with e | ⟨v', m', hb', hv'⟩
    · exact hno (.inl e)
    · rw [hB9] at hb'
      cases hb'
      rcases hn q hv' with e | e
      · exact hno (.inr ⟨_, _, hB, e⟩)
      · omega
/-- A packet moved: out at k, in at 'to'. -/
def mv (L : List Pk) (k : Nat) (x : Pk) (z : Nat) : List Pk := (L.eraseIdx k).take z ++ x :: (L.eraseIdx k).drop z
set_option maxRecDepth 100000 in
set_option maxHeartbeats 8000000 in
theorem move_in {W : World} {base B n : Nat} {m : Value} {C : Int → Int → Bool} {L : List Pk} (hN : NetAt W base B m L) (hC : CutAt W B m n C) (hL : L.length ≤ 800) (k : Nat) (x : Pk) (hx : L[k]? = some x) (z : Nat) (hto : z < L.length) :
    Calls Try.prog 11 #[.pointer (some ⟨B, 0, none⟩), .int .i64 k, .int .i64 z] W fun e W' => e = .returned (.bool true) ∧ NetAt W' base B m (mv L k x z) ∧ CutAt W' B m n C ∧ Kp W W' B ∧ Below base W W' := by
  have hk : k < L.length := (List.getElem?_eq_some_iff.1 hx).1
  have hI1 := is_c hN (k : Int)
  rw [isB_nat hk] at hI1
  have hI2 := is_c hN (z : Int)
  rw [isB_nat hto] at hI2
  have HI := Aside0.mk (And.intro hI1 hI2)
  have HP := Aside0.mk (pull_in2 hN hC hL k x hx)
  have HA := Aside0.mk (And.intro hN (And.intro hC (And.intro hL (And.intro hk hto))))
  clear hI1 hI2 hN hC hL hx
  go_enter Try.func11, Try.ntmps11
  go_wp2_with fail
  refine HI.out.1.mono ?_
  rintro e w' ⟨rfl, hww⟩
  subst w'
  go_wp2_with fail
  refine HI.out.2.mono ?_
  rintro e w' ⟨rfl, hww⟩
  subst w'
  go_wp2_with fail
  refine HP.out.mono ?_
  rintro e w3 ⟨rfl, H3⟩
  have H3' := Aside0.mk H3
  clear H3
  unfold pval
  go_upto_region 4 with (fail)
  obtain ⟨hN3, hC3, hK3, hb3, g, c, hB3, hcap⟩ := H3'.out
  obtain ⟨hN, hC, hL, hk, hz⟩ := HA.out
  have hle : (L.eraseIdx k).length = L.length - 1 := List.length_eraseIdx_of_lt hk
  obtain ⟨p3, c3, hB3', hr3⟩ := net_v hN3
  rw [hB3'] at hB3
  cases hB3
  have hb34 := below_alloc (Below.refl w3.heap.size w3) (.cells #[.int .i64 x.a, .int .i64 x.b, .string x.s] 27)
  have hbox := heap_alloc_new w3 (.cells #[.int .i64 x.a, .int .i64 x.b, .string x.s] 27)
  have hs34 : (w3.alloc (.cells #[.int .i64 x.a, .int .i64 x.b, .string x.s] 27)).heap.size = w3.heap.size + 1 := by simp
  have hgl := own_lt hr3 g rfl
  have hbl := hN3.lt
  have hs3 := hb3.size
  have hN4 := hN3.below hb34
  have hC4 := hC3.below hb34
  have hr4 := own_bel hr3 hb34
  have hB4 := (hb34.block B hbl).trans hB3'
  have hK4 : Kp W (w3.alloc (.cells #[.int .i64 x.a, .int .i64 x.b, .string x.s] 27)) B := hK3.trans (Kp.below hbl hb34) hs3
  have hbb := hN.1
  have hbW := hN.lt
  have hb04 : Below base W (w3.alloc (.cells #[.int .i64 x.a, .int .i64 x.b, .string x.s] 27)) := hb3.trans (hb34.mono (by omega))
  have hgb : g < w3.heap.size := hgl.2
  generalize hw4 : w3.alloc (.cells #[.int .i64 x.a, .int .i64 x.b, .string x.s] 27) = w4 at *
  have hg4 : g < w4.heap.size := by omega
  have hB4l : B < w4.heap.size := by omega
  have hx4l : w3.heap.size < w4.heap.size := by omega
  have hb45 : Below w4.heap.size w4 (w4.alloc (.cells #[.int .i64 x.a, .int .i64 x.b, .string x.s] 27)).drew := below_drew1 (below_alloc (Below.refl _ _) _)
  have c0 : w4.cell? ⟨B, 0, none⟩ = some (.slice (some ⟨g, 0, none⟩) (L.eraseIdx k).length c) := blk_cell hB4 0
  have d0 : w4.cell? ⟨w3.heap.size, 0, none⟩ = some (.int .i64 x.a) := blk_cell hbox 0
  have d1 : w4.cell? ⟨w3.heap.size, 1, none⟩ = some (.int .i64 x.b) := blk_cell hbox 1
  have d2 : w4.cell? ⟨w3.heap.size, 2, none⟩ = some (.string x.s) := blk_cell hbox 2
  have hB5 := (hb45.block B hB4l).trans hB4
  have hbox5 := (hb45.block _ hx4l).trans hbox
  have c0' : (w4.alloc (.cells #[.int .i64 x.a, .int .i64 x.b, .string x.s] 27)).drew.cell? ⟨B, 0, none⟩ = some (.slice (some ⟨g, 0, none⟩) (L.eraseIdx k).length c) := blk_cell hB5 0
  have d0' : (w4.alloc (.cells #[.int .i64 x.a, .int .i64 x.b, .string x.s] 27)).drew.cell? ⟨w3.heap.size, 0, none⟩ = some (.int .i64 x.a) := blk_cell hbox5 0
  have d1' : (w4.alloc (.cells #[.int .i64 x.a, .int .i64 x.b, .string x.s] 27)).drew.cell? ⟨w3.heap.size, 1, none⟩ = some (.int .i64 x.b) := blk_cell hbox5 1
  have d2' : (w4.alloc (.cells #[.int .i64 x.a, .int .i64 x.b, .string x.s] 27)).drew.cell? ⟨w3.heap.size, 2, none⟩ = some (.string x.s) := blk_cell hbox5 2
  have hnw : (w4.alloc (.cells #[.int .i64 x.a, .int .i64 x.b, .string x.s] 27)).drew.heap[w4.heap.size]? = some (.cells #[.int .i64 x.a, .int .i64 x.b, .string x.s] 27 (0, 0)) := heap_alloc_new w4 _
  have HIN := Aside0.mk (ins_c (own_bel hr4 hb45) (i := z) (by omega) (by omega) x hnw (by omega))
  have HE := Aside0.mk (show ∀ w6, (w4.alloc (.cells #[.int .i64 x.a, .int .i64 x.b, .string x.s] 27)).drew.grownBy w6 (some g) → w6.cell? ⟨B, 0, none⟩ = some (.slice (some ⟨g, 0, none⟩) (L.eraseIdx k).length c) ∧ w6.frozen? ⟨B, 0, none⟩ = false from fun w6 h6 => by
    have h := (h6.block B (by have := hb45.size; omega) (fun e => by have := Option.some.inj e; omega)).trans hB5
    exact ⟨blk_cell h 0, blk_frozen h 0⟩)
  have HP4 := Aside0.mk (And.intro hN4 (And.intro hC4 (And.intro hr4 (And.intro hB4 (And.intro hK4 (And.intro hb04 hb45))))))
  have HS4 := Aside0.mk (And.intro hs3 (And.intro hs34 (And.intro hle hk)))
  clear hN3 hC3 hK3 hb3 hB3' hcap hN hC hL hr3 hb34 hbox hgl hN4 hC4 hr4 hB4 hK4 hb04 hb45 hB5 hbox5 hnw hbl hbb hbW hs3 hs34 hw4 H3' HA HP HI hle hk hz
  go_region_with (go_at_call 34; refine HIN.out.mono ?_; rintro e w6 ⟨rfl, hr6, hg6⟩; have HR6 := Aside0.mk (And.intro hr6 hg6); obtain ⟨e0, e1⟩ := HE.out w6 hg6; clear hr6 hg6)
  all_goals
    go_wp2
    go_ret
    obtain ⟨hN4, hC4, hr4, hB4, hK4, hb04, hb45⟩ := HP4.out
    obtain ⟨hs3, hs34, hle, hk⟩ := HS4.out
    obtain ⟨hr6, hg6⟩ := HR6.out
    have hml : (mv L k x z).length = (L.eraseIdx k).length + 1 := by
      unfold mv
      rw [List.length_append, List.length_cons, List.length_take, List.length_drop]
      omega
    have hX := net_put (L' := mv L k x z) (p' := some ⟨g, 0, none⟩) (c' := c) hN4 hB4 hr4 hC4 hb45 (by rw [hml]; exact hr6) hg6 (fun j hj => .inl hj)
    rw [hml] at hX
    exact ⟨rfl, hX.1, hX.2.1, hK4.trans hX.2.2.1 (by omega), hb04.trans hX.2.2.2⟩
set_option maxRecDepth 100000 in
set_option maxHeartbeats 4000000 in
theorem move_no {W : World} {base B : Nat} {m : Value} {L : List Pk} (hN : NetAt W base B m L) (k z : Int) (h : isB L k = false ∨ isB L z = false) :
    Calls Try.prog 11 #[.pointer (some ⟨B, 0, none⟩), .int .i64 k, .int .i64 z] W fun e W' => e = .returned (.bool false) ∧ W' = W := by
  have H1 := Aside0.mk (is_c hN k)
  have H2 := Aside0.mk (is_c hN z)
  clear hN
  cases hk : isB L k with
  | false =>
    rw [hk] at H1
    go_enter Try.func11, Try.ntmps11
    go_wp2_with (go_at_call 33; refine H1.out.mono ?_; rintro e w' ⟨rfl, hww⟩; subst w')
    go_ret
    exact ⟨rfl, rfl⟩
  | true =>
    rw [hk] at H1
    rw [h.resolve_left (by rw [hk]; simp)] at H2
    go_enter Try.func11, Try.ntmps11
    go_wp2_with fail
    refine H1.out.mono ?_
    rintro e w' ⟨rfl, hww⟩
    subst w'
    go_wp2_with fail
    refine H2.out.mono ?_
    rintro e w' ⟨rfl, hww⟩
    subst w'
    go_wp2
    go_ret
    exact ⟨rfl, rfl⟩
end Go.Proofs.Ytbcgeajnmnnbhaa.Nt
