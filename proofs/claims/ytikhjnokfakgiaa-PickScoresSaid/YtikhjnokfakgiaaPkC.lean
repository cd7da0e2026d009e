/- slices.Grow of nothing, slices.Concat of two rows of tables: walked. -/
import Derived.Test.YtikhjnokfakgiaaPkB
import Derived.Lib.AppendZerosOnto
set_option linter.unusedSimpArgs false
set_option linter.unusedVariables false
namespace Go.Proofs.Ytikhjnokfakgiaa.Pk
open Go.Sort Go.RowKit Go.Maps Go.Proofs Go.Proofs.Ytikhjnokfakgiaa.Rw Go.Proofs.Ytikhjnokfakgiaa.PAll Go.Proofs.YtikhjnokfakgiaaW.PrintWords Go.Proofs.Ytikhjnokfakgiaa.Pb
attribute [local go_sem] put_fresh
attribute [-go_sem] Builtin.append_

theorem grow_c (w : World) (n : Nat) (hn : n ≤ 100000) : Calls Try.prog 45 #[.slice none 0 0, .int .i64 n] w fun e w' => ∃ A c, e = .returned (.slice A 0 c) ∧ Rw.Own KT 42 w' w.heap.size A c [] ∧ Below w.heap.size w w' := by
  have d0 : decide ((n : Int) < 0) = false := decide_eq_false (by omega)
  have hw : wrap64 ((n : Int)) = (n : Int) := by unfold wrap64; omega
  rcases Nat.eq_zero_or_pos n with rfl | hp
  · go_enter Try.func45, Try.ntmps45
    go_wp2
    go_ret
    exact ⟨_, _, rfl, Rw.Own.nil _ _ _ _, Below.refl _ _⟩
  · have d1 : decide ((0 : Int) < (n : Int)) = true := decide_eq_true (by omega)
    have d2 : decide (0 < n) = true := decide_eq_true hp
    obtain ⟨i0, hi, hz0, hz1, hz2⟩ := info_parts info_tb
    have hrz : ∀ ty, (Builtin.append_ #[23, 3] ty #[.slice none 0 0, .int .i64 (n : Int)]).run Try.prog w = .ok (.slice (some ⟨w.heap.size, 0, none⟩) n (grownCap w n 0 42)) (w.drew.alloc (.cells (Builtin.zeroCells (Value.agg #[.int .i64 0, .int .i64 0, .int .i64 0, .string ByteArray.empty, .string ByteArray.empty]).cells n ++ Builtin.zeroCells (Value.agg #[.int .i64 0, .int .i64 0, .int .i64 0, .string ByteArray.empty, .string ByteArray.empty]).cells (grownCap w n 0 42 - n)) 42)) := fun ty => by
      have h := Lib.run_append_grow_zeros w 23 3 ty 42 i0 _ .i64 .i64 Try.underlying23 Try.underlying3 hi hz0 none 0 0 [] (run_firstCells_none w.drew i0.size 0 0 0) n hp (by omega) (by omega) (by omega) (by rw [hz2]; omega) (growslice_fits (by omega) (by rw [hz2]; omega))
      simpa using h
    have hG := grownCap_ge w n 0 42
    have hG2 := grownCap_le_maxLen w n 0 42 (by unfold maxLen; omega)
    generalize grownCap w n 0 42 = G at *
    have HO : Aside0 (Rw.Own KT 42 (w.drew.alloc (.cells (Builtin.zeroCells (Value.agg #[.int .i64 0, .int .i64 0, .int .i64 0, .string ByteArray.empty, .string ByteArray.empty]).cells n ++ Builtin.zeroCells (Value.agg #[.int .i64 0, .int .i64 0, .int .i64 0, .string ByteArray.empty, .string ByteArray.empty]).cells (G - n)) 42)) w.heap.size (some ⟨w.heap.size, 0, none⟩) G [] ∧ Below w.heap.size w (w.drew.alloc (.cells (Builtin.zeroCells (Value.agg #[.int .i64 0, .int .i64 0, .int .i64 0, .string ByteArray.empty, .string ByteArray.empty]).cells n ++ Builtin.zeroCells (Value.agg #[.int .i64 0, .int .i64 0, .int .i64 0, .string ByteArray.empty, .string ByteArray.empty]).cells (G - n)) 42))) := ⟨⟨Rw.Own.make (Nat.le_refl _) (heap_alloc_new w.drew _) (Nat.zero_le _) hG2 (by
      rw [Array.size_append, size_zeroCells, size_zeroCells]
      show n * 5 + (G - n) * 5 = G * 5
      omega) (by simp), below_alloc (below_drew1 (Below.refl _ _)) _⟩⟩
    generalize w.drew.alloc (.cells (Builtin.zeroCells (Value.agg #[.int .i64 0, .int .i64 0, .int .i64 0, .string ByteArray.empty, .string ByteArray.empty]).cells n ++ Builtin.zeroCells (Value.agg #[.int .i64 0, .int .i64 0, .int .i64 0, .string ByteArray.empty, .string ByteArray.empty]).cells (G - n)) 42) = w2 at *
    have hGi : (0 : Int) ≤ (G : Int) := by omega
    clear hi hz0 hz1 hz2 hG hG2
    go_enter Try.func45, Try.ntmps45
    go_wp2
    go_ret
    exact ⟨_, _, rfl, HO.out⟩
def szN (F T : List Tb) (k : Nat) : Nat := if k = 0 then 0 else if k = 1 then F.length else F.length + T.length
def parN (F T : List Tb) (k : Nat) : List Tb := if k = 0 then [] else if k = 1 then F else F ++ T
set_option maxRecDepth 100000 in
set_option maxHeartbeats 4000000 in
theorem concat_c {w : World} {b : Nat} {t : TypeId} {A1 A2 : Option Addr} {c1 c2 n m : Nat} {F T : List Tb} (hn : F.length = n) (hm : T.length = m) (hb : w.heap[b]? = some (.cells #[.slice A1 n c1, .slice A2 m c2] t (0, 0))) (hF : Reads KT w A1 F) (hT : Reads KT w A2 T) (h1 : n ≤ 1000) (h2 : m ≤ 1000) :
    Calls Try.prog 35 #[.slice (some ⟨b, 0, none⟩) 2 2] w fun e w' => ∃ A' c', e = .returned (.slice A' (n + m) c') ∧ Rw.Own KT 42 w' w.heap.size A' c' (F ++ T) ∧ Below w.heap.size w w' := by
  have HB := Aside0.mk (And.intro hb (And.intro hF (And.intro hT (And.intro hn hm))))
  have b0 : w.cell? ⟨b, 0, none⟩ = some (.slice A1 n c1) := blk_cell hb 0
  have b1 : w.cell? ⟨b, 1, none⟩ = some (.slice A2 m c2) := blk_cell hb 1
  have e1 : wrap64 ((n : Int) + (m : Int)) = (n : Int) + (m : Int) := by unfold wrap64; omega
  have e2 : wrap64 ((n : Int)) = (n : Int) := by unfold wrap64; omega
  have d1 : decide ((n : Int) < 0) = false := decide_eq_false (by omega)
  have d2 : decide ((n : Int) + (m : Int) < 0) = false := decide_eq_false (by omega)
  have HG := Aside0.mk (grow_c w (n + m) (by omega))
  rw [show ((n + m : Nat) : Int) = (n : Int) + (m : Int) by omega] at HG
  clear hb hF hT hn hm
  go_enter Try.func35, Try.ntmps35
  go_wp2
  go_loopw [3, 11] (fun s i wr => ((i = .int .i64 0 ∧ s = .int .i64 0) ∨ (i = .int .i64 1 ∧ s = .int .i64 n) ∨ (i = .int .i64 2 ∧ s = .int .i64 ((n : Int) + (m : Int)))) ∧ Aside0 (wr = w)) (fun _ i _ => 2 - (intOf i).toNat)
  case atStart => exact ⟨.inl ⟨rfl, rfl⟩, ⟨rfl⟩⟩
  case round =>
    obtain ⟨h, ⟨rfl⟩⟩ := hrel
    rcases h with ⟨rfl, rfl⟩ | ⟨rfl, rfl⟩ | ⟨rfl, rfl⟩
    · go_wp2
      exact ⟨⟨.inr (.inl ⟨rfl, by first | rfl | exact congrArg (Value.int .i64) e2⟩), ⟨by first | rfl | trivial⟩⟩, by simp [intOf]⟩
    · go_wp2
      exact ⟨⟨.inr (.inr ⟨rfl, rfl⟩), ⟨by first | rfl | trivial⟩⟩, by simp [intOf]⟩
    · go_wp2_with fail
      refine HG.out.mono ?_
      rintro e w2 ⟨A3, c3, rfl, ho3, hb3⟩
      have H3 := Aside0.mk (And.intro ho3 hb3)
      clear ho3 hb3 HG
      obtain ⟨w, hw⟩ : ∃ w, w = wr := ⟨_, rfl⟩
      subst wr
      clear b0 b1
      go_wp2_with fail
      go_loopw [6, 27] (fun s i wr => ∃ (A4 : Option Addr) (c4 : Nat), (i = .int .i64 0 ∧ s = .slice A4 0 c4 ∧ Aside0 (Rw.Own KT 42 wr w.heap.size A4 c4 [] ∧ Below w.heap.size w wr)) ∨ (i = .int .i64 1 ∧ s = .slice A4 n c4 ∧ Aside0 (Rw.Own KT 42 wr w.heap.size A4 c4 F ∧ Below w.heap.size w wr)) ∨ (i = .int .i64 2 ∧ s = .slice A4 (n + m) c4 ∧ Aside0 (Rw.Own KT 42 wr w.heap.size A4 c4 (F ++ T) ∧ Below w.heap.size w wr))) (fun _ i _ => 2 - (intOf i).toNat)
      case atStart => exact ⟨A3, c3, .inl ⟨rfl, rfl, H3⟩⟩
      case round =>
        obtain ⟨A4, c4, h⟩ := hrel
        obtain ⟨w4, hw4⟩ : ∃ w4, w4 = wr := ⟨_, rfl⟩
        subst wr
        rcases h with ⟨rfl, rfl, H4⟩ | ⟨rfl, rfl, H4⟩ | ⟨rfl, rfl, H4⟩
        · have hb4 := (H4.out.2.block b (Array.getElem?_eq_some_iff.1 HB.out.1).1).trans HB.out.1
          have b0 : w4.cell? ⟨b, 0, none⟩ = some (.slice A1 n c1) := blk_cell hb4 0
          obtain ⟨p, k, w5, r5, o5, b5⟩ := ap1 (n := 0) (m := n) rfl HB.out.2.2.2.1 H4.out.1 (HB.out.2.1.below H4.out.2) c1 (by omega) H4.out.2.size
          rw [Nat.zero_add] at r5
          have H5 := Aside0.mk (And.intro o5 (H4.out.2.trans b5))
          clear hb4 o5 b5
          go_wp2
          exact ⟨⟨p, k, .inr (.inl ⟨rfl, rfl, H5⟩)⟩, by simp [intOf]⟩
        · have hb4 := (H4.out.2.block b (Array.getElem?_eq_some_iff.1 HB.out.1).1).trans HB.out.1
          have b1 : w4.cell? ⟨b, 1, none⟩ = some (.slice A2 m c2) := blk_cell hb4 1
          obtain ⟨p, k, w5, r5, o5, b5⟩ := ap1 (n := n) (m := m) HB.out.2.2.2.1 HB.out.2.2.2.2 H4.out.1 (HB.out.2.2.1.below H4.out.2) c2 (by omega) H4.out.2.size
          have H5 := Aside0.mk (And.intro o5 (H4.out.2.trans b5))
          clear hb4 o5 b5
          go_wp2
          exact ⟨⟨p, k, .inr (.inr ⟨rfl, rfl, H5⟩)⟩, by simp [intOf]⟩
        · go_wp2
          go_ret
          exact ⟨_, _, rfl, H4.out⟩
end Go.Proofs.Ytikhjnokfakgiaa.Pk
