/- Double: walked. -/
import Derived.Test.YtbcgeajnmnnbhaaNetPul
set_option linter.unusedSimpArgs false
set_option linter.unusedVariables false
namespace Go.Proofs.Ytbcgeajnmnnbhaa.Nt
open Go.RowKit Go.Maps Go.Proofs.Ytbcgeajnmnnbhaa.PAll Go.Proofs.YtbcgeajnmnnbhaaW.PrintWords
attribute [local go_sem] put_fresh
attribute [-go_sem] Builtin.append_

set_option maxRecDepth 100000 in
set_option maxHeartbeats 4000000 in
theorem double_no {W : World} {base B : Nat} {m : Value} {L : List Pk} (h : NetAt W base B m L) (k : Int) (hk : isB L k = false ∨ 800 ≤ L.length) :
    Calls Try.prog 16 #[.pointer (some ⟨B, 0, none⟩), .int .i64 k] W fun e W' => e = .returned (.bool false) ∧ W' = W := by
  have HI := Aside0.mk (is_c h k)
  obtain ⟨p, c, hB, hr⟩ := net_v h
  have hc : W.cell? ⟨B, 0, none⟩ = some (.slice p L.length c) := blk_cell hB 0
  clear hB hr h
  cases hb : isB L k with
  | false =>
    rw [hb] at HI
    go_enter Try.func16, Try.ntmps16
    go_wp2_with (go_at_call 33; refine HI.out.mono ?_; rintro e w' ⟨rfl, rfl⟩)
    go_ret
    exact ⟨rfl, rfl⟩
  | true =>
    rw [hb] at HI
    have h8 : 800 ≤ L.length := hk.resolve_left (by rw [hb]; simp)
    have hd8 : decide ((800 : Int) ≤ (L.length : Int)) = true := decide_eq_true (by omega)
    have hd8' : decide (800 ≤ L.length) = true := decide_eq_true h8
    go_enter Try.func16, Try.ntmps16
    go_wp2_with (go_at_call 33; refine HI.out.mono ?_; rintro e w' ⟨rfl, rfl⟩)
    go_ret
    exact ⟨rfl, rfl⟩
set_option maxRecDepth 100000 in
set_option maxHeartbeats 4000000 in
theorem double_in {W : World} {base B n : Nat} {m : Value} {C : Int → Int → Bool} {L : List Pk} (hN : NetAt W base B m L) (hC : CutAt W B m n C) (hL : L.length < 800) (k : Nat) (x : Pk) (hx : L[k]? = some x) :
    Calls Try.prog 16 #[.pointer (some ⟨B, 0, none⟩), .int .i64 k] W fun e W' => e = .returned (.bool true) ∧ NetAt W' base B m (L ++ [x]) ∧ CutAt W' B m n C ∧ Kp W W' B ∧ Below base W W' := by
  have hk : k < L.length := (List.getElem?_eq_some_iff.1 hx).1
  obtain ⟨p, c, hB, hr⟩ := net_v hN
  obtain ⟨g, x', rfl, hx', x0, x1, x2⟩ := own_at hr hk
  obtain rfl : x' = x := Option.some.inj (hx'.symm.trans hx)
  have hgl := own_lt hr g rfl
  have hbl := hN.lt
  have hI := is_c hN (k : Int)
  rw [isB_nat hk] at hI
  have HI := Aside0.mk hI
  obtain ⟨i0, hi, hz0, hz1, hz2⟩ := info_parts info_packet
  have hnw : (W.alloc (.cells #[.int .i64 x'.a, .int .i64 x'.b, .string x'.s] 27)).drew.heap[W.heap.size]? = some (.cells #[.int .i64 x'.a, .int .i64 x'.b, .string x'.s] 27 (0, 0)) := heap_alloc_new W _
  have hbA : Below W.heap.size W (W.alloc (.cells #[.int .i64 x'.a, .int .i64 x'.b, .string x'.s] 27)).drew := below_drew1 (below_alloc (Below.refl _ _) _)
  obtain ⟨g8, cap8, w8, hup, hown8, hg8, hwh, hlt8⟩ := run_append_lies (P := Try.prog) (w := (W.alloc (.cells #[.int .i64 x'.a, .int .i64 x'.b, .string x'.s] 27)).drew) 36 36 (B + 1) 27 i0 _ 3 32 Try.underlying36 hi hz0 hz1 hz2 rfl (by decide) (.slice (some ⟨g, 0, none⟩) L.length c) L.length (L.flatMap penc) (own_bel hr hbA) ⟨W.heap.size, 0, none⟩ 1 1 (penc x') rfl (World.news_of_block hnw) (penc_one x') (by decide) (by unfold maxLen; omega) (by omega) (by show B + 1 ≤ (W.alloc (.cells #[.int .i64 x'.a, .int .i64 x'.b, .string x'.s] 27)).heap.size; simp; omega) _ rfl
  have c0 : W.cell? ⟨B, 0, none⟩ = some (.slice (some ⟨g, 0, none⟩) L.length c) := blk_cell hB 0
  have hBd := (hbA.block B hbl).trans hB
  have c0' : (W.alloc (.cells #[.int .i64 x'.a, .int .i64 x'.b, .string x'.s] 27)).drew.cell? ⟨B, 0, none⟩ = some (.slice (some ⟨g, 0, none⟩) L.length c) := blk_cell hBd 0
  have y0 := (World.cell?_of_block (a := ⟨g, k * 3, none⟩) (hbA.block g hgl.2)).trans x0
  have y1 := (World.cell?_of_block (a := ⟨g, k * 3 + 1, none⟩) (hbA.block g hgl.2)).trans x1
  have y2 := (World.cell?_of_block (a := ⟨g, k * 3 + 2, none⟩) (hbA.block g hgl.2)).trans x2
  have hB8 : w8.heap[B]? = some (.cells #[.slice (some ⟨g, 0, none⟩) L.length c, m] 46 (0, 0)) := (hg8.block B (by have := hbA.size; omega) (fun e => by have h := own_lt hr _ e.symm; omega)).trans hBd
  have e0 : w8.cell? ⟨B, 0, none⟩ = some (.slice (some ⟨g, 0, none⟩) L.length c) := blk_cell hB8 0
  have e1 : w8.frozen? ⟨B, 0, none⟩ = false := blk_frozen hB8 0
  have hki : (k : Int) < (L.length : Int) := by omega
  have hd8 : decide ((800 : Int) ≤ (L.length : Int)) = false := decide_eq_false (by omega)
  have hd8' : decide (800 ≤ L.length) = false := decide_eq_false (by omega)
  have H8 := Aside0.mk (And.intro hown8 (And.intro hg8 (And.intro hwh (And.intro hlt8 hB8))))
  have HA := Aside0.mk (And.intro hN (And.intro hC (And.intro hB (And.intro hr (And.intro hgl (And.intro hbl (And.intro hbA hL)))))))
  clear hown8 hg8 hwh hlt8 hB8 hN hC hB hr hgl hbl hbA hnw hBd hx hx' hI hz0 hz1 hz2 hi hL
  go_enter Try.func16, Try.ntmps16
  go_upto_region 3 with (go_at_call 33; refine HI.out.mono ?_; rintro e w' ⟨rfl, hww⟩; subst w')
  go_region
  go_wp2
  go_ret
  obtain ⟨hN, hC, hB, hr, hgl, hbl, hbA, hL⟩ := HA.out
  obtain ⟨hown8, hg8, hwh, hlt8, hB8⟩ := H8.out
  have hb0 := hN.1
  have hsA := hbA.size
  have hs8 := hg8.size
  have hB9 : (w8.setCell ⟨B, 0, none⟩ (.slice (some ⟨g8, 0, none⟩) (L.length + 1) cap8)).heap[B]? = some (.cells #[.slice (some ⟨g8, 0, none⟩) (L.length + 1) cap8, m] 46 (0, 0)) := set_blk (j := 0) _ hB8
  have hs9 : (w8.setCell ⟨B, 0, none⟩ (.slice (some ⟨g8, 0, none⟩) (L.length + 1) cap8)).heap.size = w8.heap.size := by simp
  have old : ∀ j, j < W.heap.size → j ≠ B → j ≠ g → (w8.setCell ⟨B, 0, none⟩ (.slice (some ⟨g8, 0, none⟩) (L.length + 1) cap8)).heap[j]? = W.heap[j]? := fun j h1 h2 h3 =>
    (set_other _ (Ne.symm h2)).trans ((hg8.block j (by omega) (fun e => h3 (Option.some.inj e))).trans (hbA.block j h1))
  refine ⟨rfl, ⟨hb0, _, hB9, ?_⟩, hC.keep fun b hm => ?_, fun q hq hno => ⟨old q hq (fun e => hno (.inl e)) (fun e => hno (.inr ⟨_, _, hB, by rw [e]; rfl⟩)), fun ho => ?_⟩, ⟨hg8.os.trans hbA.os, hg8.tape.trans hbA.tape, hg8.output.trans hbA.output, by omega, fun j hj => old j (by omega) (by omega) (by omega)⟩⟩
  · rw [List.length_append, List.flatMap_append, List.flatMap_cons, List.flatMap_nil, List.append_nil]
    exact own_move hown8 fun q' hq' => set_other _ (by have := (own_lt hown8 q' hq').1; omega)
  · have hlt := hC.lt hm
    obtain ⟨es, clock, hmap⟩ := hC.isMap hm
    refine old b hlt.2 (by omega) (fun e => ?_)
    obtain ⟨cells, hcs⟩ := own_typed hr g rfl
    rw [e, hcs] at hmap
    cases hmap
  · rcases ho with e | ⟨v', m', hb', hv'⟩
    · exact hno (.inl e)
    · rw [hB9] at hb'
      cases hb'
      have hgq : g8 = q := by simpa [Value.ownBlock] using hv'
      rcases hwh with e | e
      · exact hno (.inr ⟨_, _, hB, by rw [e, hgq]⟩)
      · omega
end Go.Proofs.Ytbcgeajnmnnbhaa.Nt
