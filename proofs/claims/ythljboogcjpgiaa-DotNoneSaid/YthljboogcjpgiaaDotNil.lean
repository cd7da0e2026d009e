/- A nil set: walked. -/
import Derived.Test.YthljboogcjpgiaaDotDel
import Derived.Test.YthljboogcjpgiaaDotLive
import Derived.Deep.RegionHeld3
set_option linter.unusedSimpArgs false
set_option linter.unusedVariables false
namespace Go.Proofs.Ythljboogcjpgiaa.Ds
open Go.RowKit Go.Maps Go.Sort Go.Shelf Go.Proofs.Ythljboogcjpgiaa.PAll Go.Proofs.YthljboogcjpgiaaW.PrintWords
attribute [local go_sem] put_fresh

theorem add_nil (v : Value) (W : World) : Calls Try.prog 28 #[.pointer none, v] W fun e w' => e = .returned (.int .i64 0) ∧ w' = W := by
  go_enter Try.func28, Try.ntmps28
  go_wp2
  go_ret
  exact ⟨rfl, rfl⟩
theorem del_nil (v : Value) (W : World) : Calls Try.prog 25 #[.pointer none, v] W fun e w' => e = .returned (.int .i64 0) ∧ w' = W := by
  go_enter Try.func25, Try.ntmps25
  go_wp2
  go_ret
  exact ⟨rfl, rfl⟩
theorem len_nil (W : World) : Calls Try.prog 27 #[.pointer none] W fun e w' => e = .returned (.int .i64 0) ∧ w' = W := by
  go_enter Try.func27, Try.ntmps27
  go_wp2
  go_ret
  exact ⟨rfl, rfl⟩
theorem list_nil (W : World) : Calls Try.prog 24 #[.pointer none] W fun e w' => e = .returned (.slice none 0 0) ∧ w' = W := by
  go_enter Try.func24, Try.ntmps24
  go_wp2
  go_ret
  exact ⟨rfl, rfl⟩
theorem has_nil (a b c d n : Int) (W : World) : Calls Try.prog 26 #[.pointer none, .agg #[.int .u8 a, .int .u8 b, .int .u8 c, .int .u8 d, .int .u64 n]] W fun e w' => e = .returned (.bool false) ∧ Below W.heap.size W w' := by
  go_enter Try.func26, Try.ntmps26
  go_wp2
  go_ret
  exact ⟨rfl, by with_reducible repeat (first | exact Below.refl _ _ | apply below_alloc)⟩
theorem spans_nil (W : World) : Calls Try.prog 21 #[.pointer none] W fun e w' => e = .returned (.slice none 0 0) ∧ w' = W := by
  go_enter Try.func21, Try.ntmps21
  go_wp2_with (go_at_call 24; refine (list_nil _).mono ?_; rintro e w' ⟨rfl, rfl⟩)
  go_loop [3, 10] (fun vo i => vo = .slice none 0 0 ∧ i = .int .i64 0) (fun _ i => 1)
  case atStart => exact ⟨rfl, rfl⟩
  case round =>
    obtain ⟨rfl, rfl⟩ := hrel
    go_wp2
    go_ret
    exact ⟨rfl, rfl⟩
theorem of_nil (a b c d : Int) (W : World) : Calls Try.prog 29 #[.pointer none, .agg #[.int .u8 a, .int .u8 b, .int .u8 c, .int .u8 d]] W fun e w' => e = .returned (.slice none 0 0) ∧ Below W.heap.size W w' := by
  go_enter Try.func29, Try.ntmps29
  go_wp2_with (go_at_call 24; refine (list_nil _).mono ?_; rintro e w' ⟨rfl, rfl⟩)
  go_loop [5, 11] (fun vo i => vo = .slice none 0 0 ∧ i = .int .i64 0) (fun _ i => 1)
  case atStart => exact ⟨rfl, rfl⟩
  case round =>
    obtain ⟨rfl, rfl⟩ := hrel
    go_wp2
    go_ret
    exact ⟨rfl, by with_reducible repeat (first | exact Below.refl _ _ | apply below_alloc)⟩
/-- A block of the call's own that stays as it is, and all that was there. -/
def Hd (W : World) (O : Obj) (w : World) : Prop := w.heap[W.heap.size]? = some O ∧ Below W.heap.size W w
theorem Hd.alloc {W w : World} {O : Obj} (h : Hd W O w) (X : Obj) : Hd W O (w.alloc X) :=
  ⟨(heap_alloc_old _ _ _ (Array.getElem?_eq_some_iff.1 h.1).1).trans h.1, below_alloc h.2 _⟩
theorem Hd.drew {W w : World} {O : Obj} (h : Hd W O w) : Hd W O w.drew := ⟨h.1, below_drew1 h.2⟩
theorem Hd.step {W w w' : World} {O : Obj} (h : Hd W O w) (hb : Below w.heap.size w w') : Hd W O w' :=
  ⟨(hb.block _ (Array.getElem?_eq_some_iff.1 h.1).1).trans h.1, below_step h.2 hb⟩
theorem Hd.c {W w : World} {cs : Array Value} {t : TypeId} (h : Hd W (.cells cs t (0, 0)) w) (j : Nat) : w.cell? ⟨W.heap.size, j, none⟩ = cs[j]? := blk_cell h.1 j
theorem Hd.fin {W w : World} {O : Obj} (h : Aside0 (Hd W O w)) : Below W.heap.size W w := h.out.2
theorem Hd.all {a b c d n : Int} {W w' : World} (h : Hd W (.cells #[.int .u8 a, .int .u8 b, .int .u8 c, .int .u8 d, .int .u64 n] 26 (0, 0)) w') : w'.cell? ⟨W.heap.size, 0, none⟩ = some (.int .u8 a) ∧ w'.cell? ⟨W.heap.size, 1, none⟩ = some (.int .u8 b) ∧ w'.cell? ⟨W.heap.size, 2, none⟩ = some (.int .u8 c) ∧ w'.cell? ⟨W.heap.size, 3, none⟩ = some (.int .u8 d) ∧ w'.cell? ⟨W.heap.size, 4, none⟩ = some (.int .u64 n) ∧ Aside0 (Hd W (.cells #[.int .u8 a, .int .u8 b, .int .u8 c, .int .u8 d, .int .u64 n] 26 (0, 0)) w') :=
  ⟨h.c 0, h.c 1, h.c 2, h.c 3, h.c 4, ⟨h⟩⟩
set_option maxRecDepth 100000 in
set_option maxHeartbeats 8000000 in
theorem DotNone_walk (a b c d n : Int) (W : World) : Calls Try.prog 7 #[.agg #[.int .u8 a, .int .u8 b, .int .u8 c, .int .u8 d, .int .u64 n]] W fun e w' => e = .returned (.bool true) ∧ Below W.heap.size W w' := by
  have h0 : Hd W (.cells #[.int .u8 a, .int .u8 b, .int .u8 c, .int .u8 d, .int .u64 n] 26 (0, 0)) (W.alloc (.cells #[.int .u8 a, .int .u8 b, .int .u8 c, .int .u8 d, .int .u64 n] 26)) := ⟨heap_alloc_new W _, below_alloc (Below.refl _ _) _⟩
  have c0 := h0.c 0
  have c1 := h0.c 1
  have c2 := h0.c 2
  have c3 := h0.c 3
  have c4 := h0.c 4
  simp only [List.getElem?_toArray, List.getElem?_cons_zero, List.getElem?_cons_succ] at c0 c1 c2 c3 c4
  have H0 := Aside0.mk h0
  clear h0
  go_enter Try.func7, Try.ntmps7
  go_wp2
  go_region_held3 (fun w' => w'.cell? ⟨W.heap.size, 0, none⟩ = some (.int .u8 a) ∧ w'.cell? ⟨W.heap.size, 1, none⟩ = some (.int .u8 b) ∧ w'.cell? ⟨W.heap.size, 2, none⟩ = some (.int .u8 c) ∧ w'.cell? ⟨W.heap.size, 3, none⟩ = some (.int .u8 d) ∧ w'.cell? ⟨W.heap.size, 4, none⟩ = some (.int .u64 n) ∧ Aside0 (Hd W (.cells #[.int .u8 a, .int .u8 b, .int .u8 c, .int .u8 d, .int .u64 n] 26 (0, 0)) w'))
    (first
      | exact ⟨c0, c1, c2, c3, c4, ⟨H0.out.drew⟩⟩
      | (go_split_ands
         first
         | (refine Hd.all (Aside0.out ?_); assumption)
         | (refine Hd.all (Hd.step (Aside0.out ?_) hb1); assumption)
         | (refine Hd.all (Hd.step (Aside0.out ?_) hb3); assumption)
         | (refine Hd.all (Hd.step (Aside0.out ?_) hb4); assumption)
         | (refine Hd.all (Hd.drew (Aside0.out ?_)); assumption)
         | (refine Hd.all (Hd.alloc (Aside0.out ?_) _); assumption)))
    (first
    | (go_at_call 8; refine (alive_c _).mono ?_; rintro e w1 ⟨rfl, hb1⟩)
    | (go_at_call 28; refine (add_nil _ _).mono ?_; rintro e w2 ⟨rfl, rfl⟩)
    | (go_at_call 25; refine (del_nil _ _).mono ?_; rintro e w2 ⟨rfl, rfl⟩)
    | (go_at_call 27; refine (len_nil _).mono ?_; rintro e w2 ⟨rfl, rfl⟩)
    | (go_at_call 24; refine (list_nil _).mono ?_; rintro e w2 ⟨rfl, rfl⟩)
    | (go_at_call 21; refine (spans_nil _).mono ?_; rintro e w2 ⟨rfl, rfl⟩)
    | (go_at_call 29; refine (of_nil _ _ _ _ _).mono ?_; rintro e w3 ⟨rfl, hb3⟩)
    | (go_at_call 26; refine (has_nil _ _ _ _ _ _).mono ?_; rintro e w4 ⟨rfl, hb4⟩))
  all_goals
    go_split_ands
    go_wp2
    go_ret
    refine ⟨rfl, Hd.fin (O := (.cells #[.int .u8 a, .int .u8 b, .int .u8 c, .int .u8 d, .int .u64 n] 26 (0, 0))) ?_⟩
    assumption
end Go.Proofs.Ythljboogcjpgiaa.Ds
