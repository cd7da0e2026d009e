/- New, Len, List: walked. -/
import Derived.Test.YthljboogcjpgiaaDotAdd
set_option linter.unusedSimpArgs false
set_option linter.unusedVariables false
namespace Go.Proofs.Ythljboogcjpgiaa.Ds
open Go.RowKit Go.Maps Go.Sort Go.Shelf Go.Proofs.Ythljboogcjpgiaa.PAll Go.Proofs.YthljboogcjpgiaaW.PrintWords

theorem DRow.below {W W' : World} {v : Value} {l : List Vd} {no no' : Nat → Prop} (h : DRow W v l no) (hW : Below W.heap.size W W') (hno : ∀ q, q < W.heap.size → ¬ no q → ¬ no' q) : DRow W' v l no' := by
  obtain ⟨p, cap, rfl, h⟩ := h
  refine ⟨p, cap, rfl, fun hne => ?_⟩
  obtain ⟨q, off, rfl, hq, hn, hc⟩ := h hne
  exact ⟨q, off, rfl, Nat.lt_of_lt_of_le hq hW.size, hno q hq hn, fun j x hx c hc5 => (World.cell?_of_block (hW.block q hq)).trans (hc j x hx c hc5)⟩

theorem ownsRow_lower {W : World} {base base' : Nat} {e : TypeId} {size : Nat} {v : Value} {k : Nat} {xs : List Value} (h : W.ownsRow base e size v k xs) (hb : base' ≤ base) : W.ownsRow base' e size v k xs := by
  refine ⟨h.1, ?_⟩
  rcases h.2 with h0 | ⟨g, cap, cur, h1, h2, h3⟩
  · exact .inl h0
  · exact .inr ⟨g, cap, cur, h1, Nat.le_trans hb h2, h3⟩
set_option maxRecDepth 100000 in
set_option maxHeartbeats 2000000 in
theorem new_c (v : Value) (l : List Vd) (W : World) (hl : DRow W v l (fun _ => False)) (hn : l.length < maxLen) :
    Calls Try.prog 20 #[v] W fun e W' => ∃ B b, e = .returned (.pointer (some ⟨B, 0, none⟩)) ∧ SetAt W' B b l.length (addAll [] l) ∧ Below W.heap.size W W' ∧ W.heap.size ≤ B ∧ W.heap.size ≤ b := by
  have hA := add_any W.heap.size (W.heap.size + 1) 0 [] l v none (some W.heap.size) (W.alloc (.cells #[.map none] 66)) (.inl ⟨rfl, rfl, rfl, by simp, rfl, heap_alloc_new W _⟩)
    (hl.below (below_alloc (Below.refl _ _) _) (fun q hq _ => by omega)) (by omega)
  go_enter Try.func20, Try.ntmps20
  go_wp2_with (go_at_call 28; refine hA.mono ?_; rintro e w' ⟨rfl, hS, hg⟩)
  go_ret
  rw [Nat.zero_add] at hS
  exact ⟨W.heap.size, W.heap.size + 1, rfl, hS, (below_alloc (Below.refl W.heap.size W) _).grown hg (by simp) (fun j e => by cases e; exact Nat.le_refl _), Nat.le_refl _, by omega⟩

set_option maxRecDepth 100000 in
set_option maxHeartbeats 2000000 in
theorem len_c (B b n : Nat) (L : List Vd) (W : World) (hS : SetAt W B b n L) :
    Calls Try.prog 27 #[.pointer (some ⟨B, 0, none⟩)] W fun e W' => e = .returned (.int .i64 L.length) ∧ W' = W := by
  have hc : W.cell? ⟨B, 0, none⟩ = some (.map (some b)) := blk_cell hS.box 0
  obtain ⟨D0, hD0, hD1, hD2⟩ := hS.map
  have hlen := hD0.len Try.underlying64 3
  rw [hD2] at hlen
  go_enter Try.func27, Try.ntmps27
  go_wp2
  go_ret
  exact ⟨rfl, rfl⟩
theorem keys_c (n : Nat) (mb : Option Nat) (W : World) : CallsIn Fence.wide n Try.prog 38 #[.map mb] W fun e w' => e = .returned (.func (.func 44) #[] #[.pointer (some ⟨W.heap.size, 0, none⟩)]) ∧ w' = W.alloc (.cells #[.map mb] 64) := by
  refine callsIn_wide.2 ?_
  go_enter Try.func38, Try.ntmps38
  go_wp2
  go_ret
  exact ⟨rfl, rfl⟩

set_option maxRecDepth 100000 in
set_option maxHeartbeats 2000000 in
theorem list_c (B b n : Nat) (L : List Vd) (W : World) (hS : SetAt W B b n L) (hL : L.length * 16 ≤ 140737488355328) :
    Calls Try.prog 24 #[.pointer (some ⟨B, 0, none⟩)] W fun e W' => ∃ v, e = .returned v ∧ W'.ownsRow W.heap.size 26 5 v L.length (L.flatMap venc) ∧ (v = .slice none 0 0 ↔ L = []) ∧ Below W.heap.size W W' := by
  have hc : W.cell? ⟨B, 0, none⟩ = some (.map (some b)) := blk_cell hS.box 0
  obtain ⟨D0, hD0, hD1, hD2⟩ := hS.map
  have hbl := hD0.lt
  have hm : maxLen = 9223372036854775807 := by decide
  have hD' : (W.alloc (.cells #[.map (some b)] 64)).ownsMap Try.prog 26 unitElem b n D0 := by
    obtain ⟨es, clock, hb, Ft, hs, hD⟩ := hD0
    exact ⟨es, clock, (Below.heap_alloc _ _ b hbl).trans hb, Ft, hs, hD⟩
  have hseq := keys_stops Fence.wide 2 trivial rfl (by omega) W.heap.size b n D0 (W.alloc (.cells #[.map (some b)] 64)) (by simp) (cells_fresh _ _ _ 0) hD'
  have cS := callsIn_wide.1 (sorted_c 5 (by omega) 44 #[.pointer (some ⟨W.heap.size, 0, none⟩)] (enters_of Try.func44 (by kernel_rfl) rfl) (All D0) (fun _ => True) (Maps.size D0) (fun ss h => ⟨h.1, h.2.2⟩) (by rw [hD2]; omega) (by rw [hD2]; exact hL) _ hseq)
  have cK := callsIn_wide.1 (keys_c 5 (some b) W)
  go_enter Try.func24, Try.ntmps24
  go_wp2_with (first
    | (go_at_call 38; refine cK.mono ?_; rintro e w' ⟨rfl, rfl⟩)
    | (go_at_call 37; refine cS.mono ?_; rintro e w' ⟨v, ts, rfl, ⟨ss, hA, hp⟩, hr, hrow, hnil, hb⟩))
  go_ret
  have e : ts = L := rising_unique hr hS.rise fun x => by rw [hp.mem_iff, hA.2.1, hD1]
  subst e
  exact ⟨v, rfl, ownsRow_lower hrow (by simp), hnil, ((Below.refl _ W).alloc (Nat.le_refl _) _).trans (hb.mono (by simp))⟩
end Go.Proofs.Ythljboogcjpgiaa.Ds
