/- alive of chapter 18: walked. -/
import Derived.Test.YthljboogcjpgiaaDotSpn
import Derived.Test.YthljboogcjpgiaaPAllx5
import Derived.Test.YthljboogcjpgiaaPAllx4
set_option linter.unusedSimpArgs false
set_option linter.unusedVariables false
namespace Go.Proofs.Ythljboogcjpgiaa.Ds
open Go.RowKit Go.Maps Go.Sort Go.Shelf Go.Proofs.Ythljboogcjpgiaa.PAll Go.Proofs.YthljboogcjpgiaaW.PrintWords
attribute [local go_sem] put_fresh

def lv (n : Int) (h : 0 ≤ n ∧ n < 18446744073709551616) : Vd := ⟨⟨⟨0, 0, 0, 7⟩, n⟩, ⟨by simp, by simp, by simp, by simp, h⟩⟩
def lvs : List Vd := [lv 1 (by decide), lv 2 (by decide), lv 4 (by decide)]
theorem live_spans : spansOf (addAll [] lvs) = [⟨⟨0, 0, 0, 7⟩, 1, 2⟩, ⟨⟨0, 0, 0, 7⟩, 4, 4⟩] := by kernel_rfl
theorem live_len : (addAll [] lvs).length = 3 := by decide +kernel
theorem live_bytes : dot_Bytes.f 40 0 0 0 7 9 = some ⟨#[0, 0, 0, 7, 0, 0, 0, 0, 0, 0, 0, 9]⟩ := by decide +kernel
theorem live_parse : dot_Parse.f 40 ⟨#[0, 0, 0, 7, 0, 0, 0, 0, 0, 0, 0, 9]⟩ = some (0, 0, 0, 7, 9, 0) := by decide +kernel
theorem live_actor : dot_Actor.f 7 = some (0, 0, 0, 7) := by decide +kernel
theorem live_id : dot_Id.f 0 0 0 7 = some 7 := by decide +kernel
set_option maxRecDepth 100000 in
set_option maxHeartbeats 4000000 in
theorem alive_c (w : World) : Calls Try.prog 8 #[] w fun e w' => e = .returned (.bool true) ∧ Below w.heap.size w w' := by
  go_enter Try.func8, Try.ntmps8
  go_wp2_with (go_at_call 14; refine (dot_Actor.calls 7 0 0 0 7 _ live_actor).mono ?_; rintro e w1 ⟨rfl, hb1⟩)
  have hW2 : ((w1.alloc (.cells #[.int .u8 0, .int .u8 0, .int .u8 0, .int .u8 7] 23)).alloc (.cells #[.int .u8 0, .int .u8 0, .int .u8 0, .int .u8 7, .int .u64 1, .int .u8 0, .int .u8 0, .int .u8 0, .int .u8 7, .int .u64 2, .int .u8 0, .int .u8 0, .int .u8 0, .int .u8 7, .int .u64 4] 26)).heap[w1.heap.size + 1]? = some (.cells #[.int .u8 0, .int .u8 0, .int .u8 0, .int .u8 7, .int .u64 1, .int .u8 0, .int .u8 0, .int .u8 0, .int .u8 7, .int .u64 2, .int .u8 0, .int .u8 0, .int .u8 0, .int .u8 7, .int .u64 4] 26 (0, 0)) := by
    have h := heap_alloc_new (w1.alloc (.cells #[.int .u8 0, .int .u8 0, .int .u8 0, .int .u8 7] 23)) (.cells #[.int .u8 0, .int .u8 0, .int .u8 0, .int .u8 7, .int .u64 1, .int .u8 0, .int .u8 0, .int .u8 0, .int .u8 7, .int .u64 2, .int .u8 0, .int .u8 0, .int .u8 0, .int .u8 7, .int .u64 4] 26)
    rw [World.size_alloc] at h
    exact h
  have hW1 : ((w1.alloc (.cells #[.int .u8 0, .int .u8 0, .int .u8 0, .int .u8 7] 23)).alloc (.cells #[.int .u8 0, .int .u8 0, .int .u8 0, .int .u8 7, .int .u64 1, .int .u8 0, .int .u8 0, .int .u8 0, .int .u8 7, .int .u64 2, .int .u8 0, .int .u8 0, .int .u8 0, .int .u8 7, .int .u64 4] 26)).heap[w1.heap.size]? = some (.cells #[.int .u8 0, .int .u8 0, .int .u8 0, .int .u8 7] 23 (0, 0)) := by
    show ((w1.heap.push _).push _)[w1.heap.size]? = _
    rw [Array.getElem?_push_lt (by simp)]
    simp
  have hb2 := below_alloc (below_alloc hb1 (.cells #[.int .u8 0, .int .u8 0, .int .u8 0, .int .u8 7] 23)) (.cells #[.int .u8 0, .int .u8 0, .int .u8 0, .int .u8 7, .int .u64 1, .int .u8 0, .int .u8 0, .int .u8 0, .int .u8 7, .int .u64 2, .int .u8 0, .int .u8 0, .int .u8 0, .int .u8 7, .int .u64 4] 26)
  have hz2 : ((w1.alloc (.cells #[.int .u8 0, .int .u8 0, .int .u8 0, .int .u8 7] 23)).alloc (.cells #[.int .u8 0, .int .u8 0, .int .u8 0, .int .u8 7, .int .u64 1, .int .u8 0, .int .u8 0, .int .u8 0, .int .u8 7, .int .u64 2, .int .u8 0, .int .u8 0, .int .u8 0, .int .u8 7, .int .u64 4] 26)).heap.size = w1.heap.size + 2 := by simp
  have hz1 := hb1.size
  generalize ((w1.alloc (.cells #[.int .u8 0, .int .u8 0, .int .u8 0, .int .u8 7] 23)).alloc (.cells #[.int .u8 0, .int .u8 0, .int .u8 0, .int .u8 7, .int .u64 1, .int .u8 0, .int .u8 0, .int .u8 0, .int .u8 7, .int .u64 2, .int .u8 0, .int .u8 0, .int .u8 0, .int .u8 7, .int .u64 4] 26)) = W2 at *
  generalize w1.heap.size = g at *
  have hD : DRow W2 (.slice (some ⟨g + 1, 0, none⟩) 3 3) lvs (fun _ => False) := ⟨_, _, rfl, fun _ => ⟨g + 1, 0, rfl, by omega, fun h => h, fun j x hx c hc => by
    rw [blk_cell hW2]
    have hj : j = 0 ∨ j = 1 ∨ j = 2 := by have := (List.getElem?_eq_some_iff.1 hx).1; simp [lvs] at this; omega
    have hcc : c = 0 ∨ c = 1 ∨ c = 2 ∨ c = 3 ∨ c = 4 := by omega
    rcases hj with rfl | rfl | rfl <;> (simp [lvs] at hx; subst hx; rcases hcc with rfl | rfl | rfl | rfl | rfl <;> rfl)⟩⟩
  refine (new_c _ lvs W2 hD (by decide)).mono ?_
  rintro e w3 ⟨B, b, rfl, hS3, hb3, hB, hb⟩
  have hA3 := (hb3.block g (by omega)).trans hW1
  have hz3 := hb3.size
  have hC3 := spans_c B b 3 (addAll [] lvs) w3 hS3 (by rw [live_len]; decide)
  rw [live_spans] at hC3
  have hHB := Aside0.mk (And.intro hb2 (And.intro hb3 (And.intro hS3 (And.intro hA3 hz1))))
  clear hD hW1 hW2 hb1 hb2 hb3 hS3 hA3 hz1
  have hHC := Aside0.mk hC3
  clear hC3
  have heq := fun w => eq_actor w 0 0 0 7 0 0 0 7
  simp only [beq_self_eq_true, Bool.and_self] at heq
  go_wp2_with (go_at_call 21; refine hHC.out.mono ?_; rintro e w4 ⟨v, rfl, hrow, hnil, hb4⟩; have p := (hb4.block g (by omega)).trans hHB.out.2.2.2.1; have p0 : w4.cell? ⟨g, 0, none⟩ = some (.int .u8 0) := blk_cell p 0; have p1 : w4.cell? ⟨g, 1, none⟩ = some (.int .u8 0) := blk_cell p 1; have p2 : w4.cell? ⟨g, 2, none⟩ = some (.int .u8 0) := blk_cell p 2; have p3 : w4.cell? ⟨g, 3, none⟩ = some (.int .u8 7) := blk_cell p 3; have hrow' := Aside0.mk hrow; have hb4' := Aside0.mk hb4; clear hrow hnil hb4)
  have hz4 := hb4'.out.size
  obtain ⟨gb, cap, rfl⟩ := ownsRow_succ hrow'.out
  have hG : w4.cell? ⟨gb, 5, none⟩ = some (.int .u64 2) ∧ w3.heap.size ≤ gb ∧ gb < w4.heap.size ∧ w4.heap[gb]? = w4.heap[gb]? := by
    rcases hrow'.out.2 with ⟨h0, _⟩ | ⟨g', cap', cur, hv, hg, hbb, hn, hcp, hz, ht⟩
    · cases h0
    · cases hv
      refine ⟨?_, hg, (Array.getElem?_eq_some_iff.1 hbb).1, rfl⟩
      rw [blk_cell hbb, ← Array.getElem?_toList]
      have h1 : (cur.toList.take (2 * 6))[5]? = some (.int .u64 2) := by
        have h2 := ht
        simp only [List.length_cons, List.length_nil] at h2
        rw [h2]; rfl
      rwa [List.getElem?_take_of_lt (by decide)] at h1
  have hGA := Aside0.mk hG
  clear hG p p0 p1 p2 p3
  go_wp2_with (go_at_call 18; refine (dot_Bytes.calls 40 0 0 0 7 9 _ _ live_bytes).mono ?_; rintro e w5 ⟨rfl, hb5⟩)
  have hz5 := hb5.size
  have hB5 := Aside0.mk hb5
  clear hb5
  go_wp2_with (go_at_call 9; refine (dot_Parse.calls 40 _ 0 0 0 7 9 0 _ live_parse).mono ?_; rintro e w6 ⟨rfl, hb6⟩; have hz6 := hb6.size; have q := (heap_alloc_old w6 (.cells #[.int .u8 0, .int .u8 0, .int .u8 0, .int .u8 7, .int .u64 9] 26) g (by omega)).trans ((hb6.block g (by omega)).trans ((hB5.out.block g (by omega)).trans ((hb4'.out.block g (by omega)).trans hHB.out.2.2.2.1))); have q0 : (w6.alloc (.cells #[.int .u8 0, .int .u8 0, .int .u8 0, .int .u8 7, .int .u64 9] 26)).cell? ⟨g, 0, none⟩ = some (.int .u8 0) := blk_cell q 0; have q1 : (w6.alloc (.cells #[.int .u8 0, .int .u8 0, .int .u8 0, .int .u8 7, .int .u64 9] 26)).cell? ⟨g, 1, none⟩ = some (.int .u8 0) := blk_cell q 1; have q2 : (w6.alloc (.cells #[.int .u8 0, .int .u8 0, .int .u8 0, .int .u8 7, .int .u64 9] 26)).cell? ⟨g, 2, none⟩ = some (.int .u8 0) := blk_cell q 2; have q3 : (w6.alloc (.cells #[.int .u8 0, .int .u8 0, .int .u8 0, .int .u8 7, .int .u64 9] 26)).cell? ⟨g, 3, none⟩ = some (.int .u8 7) := blk_cell q 3; have hB6 := Aside0.mk (And.intro hb6 hz6); clear hb6 hz6 q)
  clear q0 q1 q2 q3
  go_wp2_with (first
    | (go_at_call 16; refine (dot_Id.calls 0 0 0 7 7 _ live_id).mono ?_; rintro e w8 ⟨rfl, hb8⟩; have d4 : w8.cell? ⟨w6.heap.size, 4, none⟩ = some (.int .u64 9) := blk_cell ((hb8.block w6.heap.size (by simp)).trans (heap_alloc_new w6 _)) 4; have l5 : w8.cell? ⟨gb, 5, none⟩ = some (.int .u64 2) := (World.cell?_of_block ((hb8.block gb (by have := hB6.out.2; have := hGA.out.2.2.1; simp; omega)).trans ((heap_alloc_old w6 _ gb (by have := hB6.out.2; have := hGA.out.2.2.1; omega)).trans ((hB6.out.1.block gb (by have := hGA.out.2.2.1; omega)).trans (hB5.out.block gb hGA.out.2.2.1))))).trans hGA.out.1; have hS8 : SetAt w8 B b 3 (addAll [] lvs) := ((((hHB.out.2.2.1.below hb4'.out).below hB5.out).below hB6.out.1).below (below_alloc (Below.refl w6.heap.size w6) _)).below hb8; have hL8 := len_c B b 3 _ w8 hS8; rw [live_len] at hL8; have HL8 := Aside0.mk hL8; have HB8 := Aside0.mk hb8; clear hS8 hL8 hb8)
    | (go_at_call 27; refine HL8.out.mono ?_; rintro e w9 ⟨rfl, rfl⟩))
  go_ret
  exact ⟨rfl, below_step (below_alloc (below_step (below_step (below_step (below_step hHB.out.1 hHB.out.2.1) hb4'.out) hB5.out) hB6.out.1) _) HB8.out⟩
end Go.Proofs.Ythljboogcjpgiaa.Ds
