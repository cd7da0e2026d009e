/- Pull, Drop: walked. -/
import Derived.Test.YtbcgeajnmnnbhaaNetDel
set_option linter.unusedSimpArgs false
set_option linter.unusedVariables false
namespace Go.Proofs.Ytbcgeajnmnnbhaa.Nt
open Go.RowKit Go.Maps Go.Proofs.Ytbcgeajnmnnbhaa.PAll Go.Proofs.YtbcgeajnmnnbhaaW.PrintWords
attribute [local go_sem] put_fresh
attribute [-go_sem] Builtin.append_

set_option maxRecDepth 100000 in
set_option maxHeartbeats 4000000 in
theorem pull_in2 {W : World} {base B n : Nat} {m : Value} {C : Int → Int → Bool} {L : List Pk} (hN : NetAt W base B m L) (hC : CutAt W B m n C) (hL : L.length ≤ 800) (k : Nat) (x : Pk) (hx : L[k]? = some x) :
    Calls Try.prog 14 #[.pointer (some ⟨B, 0, none⟩), .int .i64 k] W fun e W' => e = .returned (.tuple #[pval x, .bool true]) ∧ NetAt W' base B m (L.eraseIdx k) ∧ CutAt W' B m n C ∧ Kp W W' B ∧ Below base W W' ∧ ∃ g c, W'.heap[B]? = some (.cells #[.slice (some ⟨g, 0, none⟩) (L.eraseIdx k).length c, m] 46 (0, 0)) ∧ L.length ≤ c := by
  have hk : k < L.length := (List.getElem?_eq_some_iff.1 hx).1
  obtain ⟨p, c, hB, hr⟩ := net_v hN
  obtain ⟨g, x', rfl, hx', x0, x1, x2⟩ := own_at hr hk
  obtain rfl : x' = x := Option.some.inj (hx'.symm.trans hx)
  have hgl := own_lt hr g rfl
  have hbl := hN.lt
  have hB1 := (heap_alloc_old W (.cells #[.int .i64 0, .int .i64 0, .string ByteArray.empty] 27) hbl).trans hB
  have hB2 := (heap_alloc_old (W.alloc (.cells #[.int .i64 0, .int .i64 0, .string ByteArray.empty] 27)) (.cells #[.int .i64 x'.a, .int .i64 x'.b, .string x'.s] 27) (by simp; omega)).trans hB1
  have hc : (W.alloc (.cells #[.int .i64 0, .int .i64 0, .string ByteArray.empty] 27)).cell? ⟨B, 0, none⟩ = some (.slice (some ⟨g, 0, none⟩) L.length c) := blk_cell hB1 0
  have hc2 : ((W.alloc (.cells #[.int .i64 0, .int .i64 0, .string ByteArray.empty] 27)).alloc (.cells #[.int .i64 x'.a, .int .i64 x'.b, .string x'.s] 27)).cell? ⟨B, 0, none⟩ = some (.slice (some ⟨g, 0, none⟩) L.length c) := blk_cell hB2 0
  have y0 := (World.cell?_of_block (a := ⟨g, k * 3, none⟩) (heap_alloc_old W (.cells #[.int .i64 0, .int .i64 0, .string ByteArray.empty] 27) hgl.2)).trans x0
  have y1 := (World.cell?_of_block (a := ⟨g, k * 3 + 1, none⟩) (heap_alloc_old W (.cells #[.int .i64 0, .int .i64 0, .string ByteArray.empty] 27) hgl.2)).trans x1
  have y2 := (World.cell?_of_block (a := ⟨g, k * 3 + 2, none⟩) (heap_alloc_old W (.cells #[.int .i64 0, .int .i64 0, .string ByteArray.empty] 27) hgl.2)).trans x2
  have hki : (k : Int) < (L.length : Int) := by omega
  have hb2 : Below W.heap.size W ((W.alloc (.cells #[.int .i64 0, .int .i64 0, .string ByteArray.empty] 27)).alloc (.cells #[.int .i64 x'.a, .int .i64 x'.b, .string x'.s] 27)) := below_alloc (below_alloc (Below.refl _ _) _) _
  have hI := is_c (hN.below (below_alloc (Below.refl W.heap.size W) (.cells #[.int .i64 0, .int .i64 0, .string ByteArray.empty] 27))) (k : Int)
  rw [isB_nat hk] at hI
  have HI := Aside0.mk hI
  have hwk := Aside0.mk (show wrap64 ((k : Int) + 1) = (k : Int) + 1 by unfold wrap64; omega)
  have HD := Aside0.mk (del_c (own_bel hr hb2) hk hL)
  have HA := Aside0.mk (And.intro hN (And.intro hC (And.intro hB (And.intro hr (And.intro hgl (And.intro hbl (And.intro hB2 hb2)))))))
  clear hr hB x0 x1 x2 hx hx' hI hgl hbl hN hC hB1 hB2 hb2
  go_enter Try.func14, Try.ntmps14
  go_wp2_with (go_at_call 33; refine HI.out.mono ?_; rintro e w' ⟨rfl, rfl⟩)
  refine HD.out.mono ?_
  rintro e w3 ⟨rfl, hr3, hg3⟩
  clear hc hc2 y0 y1 y2
  obtain ⟨hN, hC, hB, hr, hgl, hbl, hB2, hb2⟩ := HA.out
  have hs2 : ((W.alloc (.cells #[.int .i64 0, .int .i64 0, .string ByteArray.empty] 27)).alloc (.cells #[.int .i64 x'.a, .int .i64 x'.b, .string x'.s] 27)).heap.size = W.heap.size + 2 := by simp
  have old : ∀ j, j < W.heap.size + 2 → j ≠ g → w3.heap[j]? = ((W.alloc (.cells #[.int .i64 0, .int .i64 0, .string ByteArray.empty] 27)).alloc (.cells #[.int .i64 x'.a, .int .i64 x'.b, .string x'.s] 27)).heap[j]? := fun j h1 h2 => hg3.block j (by omega) (fun e => h2 (Option.some.inj e))
  have hB3 : w3.heap[B]? = some (.cells #[.slice (some ⟨g, 0, none⟩) L.length c, m] 46 (0, 0)) := (old B (by omega) (by omega)).trans hB2
  have hx3 : w3.heap[W.heap.size + 1]? = some (.cells #[.int .i64 x'.a, .int .i64 x'.b, .string x'.s] 27 (0, 0)) := (old _ (by omega) (by omega)).trans (by have := heap_alloc_new (W.alloc (.cells #[.int .i64 0, .int .i64 0, .string ByteArray.empty] 27)) (.cells #[.int .i64 x'.a, .int .i64 x'.b, .string x'.s] 27); simpa using this)
  have hz3 : w3.heap[W.heap.size]? = some (.cells #[.int .i64 0, .int .i64 0, .string ByteArray.empty] 27 (0, 0)) := (old _ (by omega) (by omega)).trans ((heap_alloc_old _ _ (by simp)).trans (heap_alloc_new W _))
  have hw3 := hg3.size
  have hB4 : (w3.setCell ⟨B, 0, none⟩ (.slice (some ⟨g, 0, none⟩) (L.length - 1) c)).heap[B]? = some (.cells #[.slice (some ⟨g, 0, none⟩) (L.length - 1) c, m] 46 (0, 0)) := set_blk (j := 0) _ hB3
  have hx4 : (w3.setCell ⟨B, 0, none⟩ (.slice (some ⟨g, 0, none⟩) (L.length - 1) c)).heap[W.heap.size + 1]? = some (.cells #[.int .i64 x'.a, .int .i64 x'.b, .string x'.s] 27 (0, 0)) := (set_other _ (by omega)).trans hx3
  have hz4 : (w3.setCell ⟨B, 0, none⟩ (.slice (some ⟨g, 0, none⟩) (L.length - 1) c)).heap[W.heap.size]? = some (.cells #[.int .i64 0, .int .i64 0, .string ByteArray.empty] 27 (0, 0)) := (set_other _ (by omega)).trans hz3
  have e0 : w3.cell? ⟨B, 0, none⟩ = some (.slice (some ⟨g, 0, none⟩) L.length c) := blk_cell hB3 0
  have e1 : w3.frozen? ⟨B, 0, none⟩ = false := blk_frozen hB3 0
  have HB4 := Aside0.mk (And.intro hr3 (And.intro hg3 (And.intro hB4 (And.intro hx4 (And.intro hz4 (And.intro hw3 hs2))))))
  have OLD := Aside0.mk old
  clear hN hC hB hr hgl hbl hB2 hb2 old hr3 hg3 hB4 hx4 hz4 hw3 hs2 hB3 hx3 hz3
  go_upto_region 5 with (fail)
  clear e0 e1
  obtain ⟨hr3, hg3, hB4, hx4, hz4, hw3, hs2⟩ := HB4.out
  have HW := Aside0.mk (show ∀ j, j ≠ B → (w3.setCell ⟨B, 0, none⟩ (.slice (some ⟨g, 0, none⟩) (L.length - 1) c)).heap[j]? = w3.heap[j]? from fun j h => set_other _ (Ne.symm h))
  have HW2 := Aside0.mk (show (w3.setCell ⟨B, 0, none⟩ (.slice (some ⟨g, 0, none⟩) (L.length - 1) c)).heap.size = w3.heap.size ∧ (w3.setCell ⟨B, 0, none⟩ (.slice (some ⟨g, 0, none⟩) (L.length - 1) c)).os = w3.os ∧ (w3.setCell ⟨B, 0, none⟩ (.slice (some ⟨g, 0, none⟩) (L.length - 1) c)).tape = w3.tape ∧ (w3.setCell ⟨B, 0, none⟩ (.slice (some ⟨g, 0, none⟩) (L.length - 1) c)).output = w3.output from ⟨by simp, rfl, rfl, rfl⟩)
  generalize w3.setCell ⟨B, 0, none⟩ (.slice (some ⟨g, 0, none⟩) (L.length - 1) c) = w4 at *
  have d0 : w4.cell? ⟨W.heap.size + 1, 0, none⟩ = some (.int .i64 x'.a) := blk_cell hx4 0
  have d1 : w4.cell? ⟨W.heap.size + 1, 1, none⟩ = some (.int .i64 x'.b) := blk_cell hx4 1
  have d2 : w4.cell? ⟨W.heap.size + 1, 2, none⟩ = some (.string x'.s) := blk_cell hx4 2
  have hz5 := set_blk (j := 0) (.int .i64 x'.a) hz4
  have hz6 := set_blk (j := 1) (.int .i64 x'.b) hz5
  have hz7 := set_blk (j := 2) (.string x'.s) hz6
  have q0 : w4.cell? ⟨W.heap.size, 0, none⟩ = some (.int .i64 0) := blk_cell hz4 0
  have q0' : w4.frozen? ⟨W.heap.size, 0, none⟩ = false := blk_frozen hz4 0
  have q1 : (w4.setCell ⟨W.heap.size, 0, none⟩ (.int .i64 x'.a)).cell? ⟨W.heap.size, 1, none⟩ = some (.int .i64 0) := blk_cell hz5 1
  have q1' : (w4.setCell ⟨W.heap.size, 0, none⟩ (.int .i64 x'.a)).frozen? ⟨W.heap.size, 1, none⟩ = false := blk_frozen hz5 1
  have q2 : ((w4.setCell ⟨W.heap.size, 0, none⟩ (.int .i64 x'.a)).setCell ⟨W.heap.size, 1, none⟩ (.int .i64 x'.b)).cell? ⟨W.heap.size, 2, none⟩ = some (.string ByteArray.empty) := blk_cell hz6 2
  have q2' : ((w4.setCell ⟨W.heap.size, 0, none⟩ (.int .i64 x'.a)).setCell ⟨W.heap.size, 1, none⟩ (.int .i64 x'.b)).frozen? ⟨W.heap.size, 2, none⟩ = false := blk_frozen hz6 2
  have HZ7 := Aside0.mk hz7
  clear hr3 hg3 hB4 hx4 hz4 hw3 hs2 hz5 hz6 hz7
  go_wp2
  have z0 := blk_cell HZ7.out 0
  have z1 := blk_cell HZ7.out 1
  have z2 := blk_cell HZ7.out 2
  obtain ⟨hr3, hg3, hB4, hx4, hz4, hw3, hs2⟩ := HB4.out
  obtain ⟨s4, o4, t4, u4⟩ := HW2.out
  have HW7 : ∀ j, j ≠ W.heap.size → (((w4.setCell ⟨W.heap.size, 0, none⟩ (.int .i64 x'.a)).setCell ⟨W.heap.size, 1, none⟩ (.int .i64 x'.b)).setCell ⟨W.heap.size, 2, none⟩ (.string x'.s)).heap[j]? = w4.heap[j]? := fun j h => (set_other _ (Ne.symm h)).trans ((set_other _ (Ne.symm h)).trans (set_other _ (Ne.symm h)))
  have HS7 : (((w4.setCell ⟨W.heap.size, 0, none⟩ (.int .i64 x'.a)).setCell ⟨W.heap.size, 1, none⟩ (.int .i64 x'.b)).setCell ⟨W.heap.size, 2, none⟩ (.string x'.s)).heap.size = w4.heap.size := by simp
  have HO7 : (((w4.setCell ⟨W.heap.size, 0, none⟩ (.int .i64 x'.a)).setCell ⟨W.heap.size, 1, none⟩ (.int .i64 x'.b)).setCell ⟨W.heap.size, 2, none⟩ (.string x'.s)).os = w4.os ∧ (((w4.setCell ⟨W.heap.size, 0, none⟩ (.int .i64 x'.a)).setCell ⟨W.heap.size, 1, none⟩ (.int .i64 x'.b)).setCell ⟨W.heap.size, 2, none⟩ (.string x'.s)).tape = w4.tape ∧ (((w4.setCell ⟨W.heap.size, 0, none⟩ (.int .i64 x'.a)).setCell ⟨W.heap.size, 1, none⟩ (.int .i64 x'.b)).setCell ⟨W.heap.size, 2, none⟩ (.string x'.s)).output = w4.output := ⟨rfl, rfl, rfl⟩
  generalize (((w4.setCell ⟨W.heap.size, 0, none⟩ (.int .i64 x'.a)).setCell ⟨W.heap.size, 1, none⟩ (.int .i64 x'.b)).setCell ⟨W.heap.size, 2, none⟩ (.string x'.s)) = w7 at *
  simp at z0 z1 z2
  refine bodyPost_ret (v := .tuple #[pval x', .bool true]) (by simp [results, Try.results14, go_sem, z0, z1, z2, pval]) rfl ?_
  obtain ⟨hN, hC, hB, hr, hgl, hbl, hB2, hb2⟩ := HA.out
  have hle : (L.eraseIdx k).length = L.length - 1 := List.length_eraseIdx_of_lt hk
  have hB7 : w7.heap[B]? = some (.cells #[.slice (some ⟨g, 0, none⟩) (L.length - 1) c, m] 46 (0, 0)) := (HW7 B (by omega)).trans hB4
  have old7 : ∀ j, j < W.heap.size → j ≠ B → j ≠ g → w7.heap[j]? = W.heap[j]? := fun j h1 h2 h3 => (HW7 j (by omega)).trans ((HW.out j h2).trans ((OLD.out j (by omega) h3).trans (hb2.block j h1)))
  have hb3 := hN.1
  refine ⟨rfl, ⟨hN.1, _, hB7, ?_⟩, hC.keep fun b hm => ?_, fun q hq hno => ⟨old7 q hq (fun e => hno (.inl e)) (fun e => hno (.inr ⟨_, _, hB, by rw [e]; rfl⟩)), fun ho => ?_⟩, ⟨HO7.1.trans (o4.trans (hg3.os.trans hb2.os)), HO7.2.1.trans (t4.trans (hg3.tape.trans hb2.tape)), HO7.2.2.trans (u4.trans (hg3.output.trans hb2.output)), by omega, fun j hj => ?_⟩, g, c, by rw [hle]; exact hB7, ?_⟩
  · rw [hle]
    refine own_move hr3 fun j hj => ?_
    have hj' : g = j := by simpa [Value.ownBlock] using hj
    exact (HW7 j (by omega)).trans (HW.out j (by omega))
  · have hlt := hC.lt hm
    obtain ⟨es, clock, hmap⟩ := hC.isMap hm
    refine old7 b hlt.2 (by omega) (fun e => ?_)
    obtain ⟨cells, hcs⟩ := own_typed hr g rfl
    rw [e, hcs] at hmap
    cases hmap
  · rcases ho with e | ⟨v', m', hb', hv'⟩
    · exact hno (.inl e)
    · rw [hB7] at hb'
      cases hb'
      exact hno (.inr ⟨_, _, hB, hv'⟩)
  · exact old7 j (by omega) (by omega) (by omega)
  · rcases hr.2 with ⟨h0, _⟩ | ⟨g', cap', cur, hv, _, _, hn, _⟩
    · cases h0
    · cases hv
      exact hn
theorem pull_in {W : World} {base B n : Nat} {m : Value} {C : Int → Int → Bool} {L : List Pk} (hN : NetAt W base B m L) (hC : CutAt W B m n C) (hL : L.length ≤ 800) (k : Nat) (x : Pk) (hx : L[k]? = some x) :
    Calls Try.prog 14 #[.pointer (some ⟨B, 0, none⟩), .int .i64 k] W fun e W' => e = .returned (.tuple #[pval x, .bool true]) ∧ NetAt W' base B m (L.eraseIdx k) ∧ CutAt W' B m n C ∧ Kp W W' B ∧ Below base W W' :=
  (pull_in2 hN hC hL k x hx).mono fun _ _ ⟨h1, h2, h3, h4, h5, _⟩ => ⟨h1, h2, h3, h4, h5⟩
set_option maxRecDepth 100000 in
set_option maxHeartbeats 4000000 in
theorem pull_out {W : World} {base B : Nat} {m : Value} {L : List Pk} (h : NetAt W base B m L) (k : Int) (hk : isB L k = false) :
    Calls Try.prog 14 #[.pointer (some ⟨B, 0, none⟩), .int .i64 k] W fun e W' => e = .returned (.tuple #[noPk, .bool false]) ∧ Below W.heap.size W W' := by
  have hI := is_c (h.below (below_alloc (Below.refl W.heap.size W) (.cells #[.int .i64 0, .int .i64 0, .string ByteArray.empty] 27))) k
  rw [hk] at hI
  have HI := Aside0.mk hI
  clear hI h
  go_enter Try.func14, Try.ntmps14
  go_wp2_with (go_at_call 33; refine HI.out.mono ?_; rintro e w' ⟨rfl, rfl⟩)
  have z0 : (W.alloc (.cells #[.int .i64 0, .int .i64 0, .string ByteArray.empty] 27)).cell? ⟨W.heap.size, 0, none⟩ = some (.int .i64 0) := blk_cell (heap_alloc_new W _) 0
  have z1 : (W.alloc (.cells #[.int .i64 0, .int .i64 0, .string ByteArray.empty] 27)).cell? ⟨W.heap.size, 1, none⟩ = some (.int .i64 0) := blk_cell (heap_alloc_new W _) 1
  have z2 : (W.alloc (.cells #[.int .i64 0, .int .i64 0, .string ByteArray.empty] 27)).cell? ⟨W.heap.size, 2, none⟩ = some (.string ByteArray.empty) := blk_cell (heap_alloc_new W _) 2
  exact bodyPost_ret (v := .tuple #[noPk, .bool false]) (by simp [results, Try.results14, go_sem, z0, z1, z2, noPk]; rfl) rfl ⟨rfl, below_alloc (Below.refl _ _) _⟩
set_option maxRecDepth 100000 in
set_option maxHeartbeats 4000000 in
theorem drop_in {W : World} {base B n : Nat} {m : Value} {C : Int → Int → Bool} {L : List Pk} (hN : NetAt W base B m L) (hC : CutAt W B m n C) (hL : L.length ≤ 800) (k : Nat) (x : Pk) (hx : L[k]? = some x) :
    Calls Try.prog 17 #[.pointer (some ⟨B, 0, none⟩), .int .i64 k] W fun e W' => e = .returned (.bool true) ∧ NetAt W' base B m (L.eraseIdx k) ∧ CutAt W' B m n C ∧ Kp W W' B ∧ Below base W W' := by
  have HP := Aside0.mk (pull_in hN hC hL k x hx)
  have HA := Aside0.mk (And.intro hN hL)
  clear hN hC hL hx
  go_enter Try.func17, Try.ntmps17
  go_wp2_with fail
  refine HP.out.mono ?_
  rintro e w3 ⟨rfl, H3⟩
  have H3' := Aside0.mk H3
  clear H3
  unfold pval
  go_wp2
  go_ret
  obtain ⟨hN3, hC3, hK3, hb3⟩ := H3'.out
  have hb := below_alloc (Below.refl w3.heap.size w3) (.cells #[.int .i64 x.a, .int .i64 x.b, .string x.s] 27)
  have hsz := HA.out.1.lt
  have h3 := hb3.size
  have h0 := HA.out.1.1
  exact ⟨rfl, hN3.below hb, hC3.below hb, hK3.trans (Kp.below hN3.lt hb) h3, hb3.trans (hb.mono (by omega))⟩
set_option maxRecDepth 100000 in
set_option maxHeartbeats 4000000 in
theorem drop_out {W : World} {base B : Nat} {m : Value} {L : List Pk} (h : NetAt W base B m L) (k : Int) (hk : isB L k = false) :
    Calls Try.prog 17 #[.pointer (some ⟨B, 0, none⟩), .int .i64 k] W fun e W' => e = .returned (.bool false) ∧ Below W.heap.size W W' := by
  have HP := Aside0.mk (pull_out h k hk)
  clear h hk
  go_enter Try.func17, Try.ntmps17
  go_wp2_with fail
  refine HP.out.mono ?_
  rintro e w3 ⟨rfl, H3⟩
  have H3' := Aside0.mk H3
  clear H3
  unfold noPk
  go_wp2
  go_ret
  exact ⟨rfl, below_alloc H3'.out _⟩
end Go.Proofs.Ytbcgeajnmnnbhaa.Nt
