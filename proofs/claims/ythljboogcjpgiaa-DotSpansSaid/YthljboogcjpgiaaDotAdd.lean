/- Add, New: walked. -/
import Derived.Test.YthljboogcjpgiaaDotSet
import Derived.WalkSpells
set_option linter.unusedSimpArgs false
set_option linter.unusedVariables false
namespace Go.Proofs.Ythljboogcjpgiaa.Ds
open Go.RowKit Go.Maps Go.Sort Go.Shelf Go.Proofs.Ythljboogcjpgiaa.PAll Go.Proofs.YthljboogcjpgiaaW.PrintWords
attribute [local go_sem] put_fresh

theorem heap_set0 {W : World} {B : Nat} {u : Value} {t : TypeId} {fr : Nat × Nat} (h : W.heap[B]? = some (.cells #[u] t fr)) (v : Value) : (W.setCell ⟨B, 0, none⟩ v).heap[B]? = some (.cells #[v] t fr) := by
  simp [World.setCell, Array.getElem?_modify, h]
theorem heap_set0' {W : World} {B j : Nat} (v : Value) (h : j ≠ B) : (W.setCell ⟨B, 0, none⟩ v).heap[j]? = W.heap[j]? := by
  simp [World.setCell, Array.getElem?_modify, Ne.symm h]
theorem ins_len (x : Vd) : ∀ L, (ins x L).length ≤ L.length + 1
  | [] => by simp [ins]
  | y :: r => by
    have := ins_len x r
    unfold ins
    split
    · simp
    · split <;> simp <;> omega
theorem addAll_length : ∀ (L l : List Vd), (addAll L l).length ≤ L.length + l.length
  | L, [] => by simp [addAll]
  | L, x :: r => by
    unfold addAll
    rw [List.foldl_cons]
    have h := addAll_length (if 1 ≤ x.1.f1 then ins x L else L) r
    unfold addAll at h
    have h2 := ins_len x L
    split at h <;> simp <;> split <;> simp_all <;> omega
theorem ins_len' (x : Vd) : ∀ L, L.length ≤ (ins x L).length
  | [] => by simp [ins]
  | y :: r => by
    have := ins_len' x r
    unfold ins
    split
    · simp
    · split <;> simp <;> omega
theorem addAll_length' : ∀ (L l : List Vd), L.length ≤ (addAll L l).length
  | L, [] => by simp [addAll]
  | L, x :: r => by
    unfold addAll
    rw [List.foldl_cons]
    have h := addAll_length' (if 1 ≤ x.1.f1 then ins x L else L) r
    unfold addAll at h
    have h2 := ins_len' x L
    split at h <;> split <;> simp_all <;> omega

set_option maxRecDepth 100000 in
set_option maxHeartbeats 4000000 in
theorem add_any (B b n : Nat) (L l : List Vd) (v : Value) (m0 : Option Nat) (r : Option Nat) (W : World)
    (hm : (m0 = none ∧ L = [] ∧ n = 0 ∧ b = W.heap.size ∧ r = some B ∧ W.heap[B]? = some (.cells #[.map none] 66 (0, 0))) ∨ (m0 = some b ∧ r = some b ∧ SetAt W B b n L))
    (hl : DRow W v l (fun q => q = B ∨ q = b)) (hn : n + l.length < maxLen) :
    Calls Try.prog 28 #[.pointer (some ⟨B, 0, none⟩), v] W fun e W' => e = .returned (.int .i64 ((addAll L l).length - L.length : Int)) ∧ SetAt W' B b (n + l.length) (addAll L l) ∧ W.grownBy W' r := by
  have hmm := @run_makeMap Try.prog
  have heq := fun w r => run_eql_map_nil w 64 26 71 r Try.underlying64
  obtain ⟨p, cap, rfl, hrow⟩ := hl
  have hbB : B < W.heap.size := by
    rcases hm with ⟨_, _, _, _, _, h⟩ | ⟨_, _, h⟩
    · exact (Array.getElem?_eq_some_iff.1 h).1
    · exact h.ltB
  have hml : maxLen < 9223372036854775808 := by decide
  rcases hm with ⟨rfl, rfl, rfl, rfl, rfl, hbox⟩ | ⟨rfl, rfl, hS⟩
  · have hc : W.cell? ⟨B, 0, none⟩ = some (.map none) := blk_cell hbox 0
    have hf : W.frozen? ⟨B, 0, none⟩ = false := blk_frozen hbox 0
    go_enter Try.func28, Try.ntmps28
    have hsz0 : (W.setCell ⟨B, 0, none⟩ (.map (some W.heap.size))).heap.size = W.heap.size := by simp
    have hM0 := World.ownsMap_made (H := Unit) (W.setCell ⟨B, 0, none⟩ (.map (some W.heap.size))) Try.prog 26 unitElem
    rw [hsz0] at hM0
    have hlen := hM0.len Try.underlying64 3
    simp only [show Maps.size (DataW.map [] : DataW Unit) = 0 from rfl] at hlen
    go_wp2
    go_loopw [26] (fun i wr => ∃ k : Nat, k ≤ l.length ∧ i = .int .i64 k ∧ SetAt wr B W.heap.size (0 + k) (addAll [] (l.take k)) ∧ W.grownBy wr (some B)) (fun i _ => l.length - (intOf i).toNat)
    case atStart =>
      refine ⟨0, Nat.zero_le _, rfl, ⟨?_, ⟨_, hM0, fun x => by simp [has, addAll], rfl⟩, by simp [addAll, Rising]⟩, ?_⟩
      · refine (heap_alloc_old _ _ _ (by rw [hsz0]; exact hbB)).trans ?_
        exact heap_set0 hbox _
      · exact ⟨rfl, rfl, rfl, by simp, fun j hj hne => (heap_alloc_old _ _ _ (by rw [hsz0]; exact hj)).trans (heap_set0' _ (fun e => hne (by rw [e])))⟩
    case round =>
      obtain ⟨k, hk, rfl, hS1, hg1⟩ := hrel
      have hcB : wr.cell? ⟨B, 0, none⟩ = some (.map (some W.heap.size)) := blk_cell hS1.box 0
      obtain ⟨D1, hD1, hE1, hZ1⟩ := hS1.map
      by_cases hlt : k < l.length
      · obtain ⟨q, off, rfl, hq, hno, hcells⟩ := hrow (by intro e; simp [e] at hlt)
        obtain ⟨x, hx⟩ : ∃ x, l[k]? = some x := ⟨_, List.getElem?_eq_getElem hlt⟩
        have hcx : ∀ c, c < 5 → wr.cell? ⟨q, off + k * 5 + c, none⟩ = (venc x)[c]? := fun c hc => (hg1.cell_far ⟨q, _, none⟩ hq (fun e => hno (.inl (by simpa using e)))).trans (hcells k x hx c hc)
        have e0 : wr.cell? ⟨q, off + k * 5, none⟩ = some (.int .u8 x.1.f0.f0) := hcx 0 (by decide)
        have e1 : wr.cell? ⟨q, off + k * 5 + 1, none⟩ = some (.int .u8 x.1.f0.f1) := hcx 1 (by decide)
        have e2 : wr.cell? ⟨q, off + k * 5 + 2, none⟩ = some (.int .u8 x.1.f0.f2) := hcx 2 (by decide)
        have e3 : wr.cell? ⟨q, off + k * 5 + 3, none⟩ = some (.int .u8 x.1.f0.f3) := hcx 3 (by decide)
        have e4 : wr.cell? ⟨q, off + k * 5 + 4, none⟩ = some (.int .u64 x.1.f1) := hcx 4 (by decide)
        clear hcx
        have hlti : (k : Int) < (l.length : Int) := by omega
        have hd1 : decide ((k : Int) < (l.length : Int)) = true := decide_eq_true hlti
        have hS2 : SetAt (wr.alloc (.cells #[.int .u8 x.1.f0.f0, .int .u8 x.1.f0.f1, .int .u8 x.1.f0.f2, .int .u8 x.1.f0.f3, .int .u64 x.1.f1] 26)) B W.heap.size (0 + k) (addAll [] (l.take k)) := hS1.below (below_alloc (Below.refl _ _) _)
        have htk : l.take (k + 1) = l.take k ++ [x] := by rw [List.take_add_one, hx]; rfl
        by_cases hv : 1 ≤ x.1.f1
        · have hv1 : decide (1 ≤ x.1.f1) = true := decide_eq_true hv
          go_wp2_with (go_at_call 13; refine (valid_c x _).mono ?_; rintro e w' ⟨rfl, hW'⟩)
          have hS3 : SetAt w' B W.heap.size (0 + k) (addAll [] (l.take k)) := hS2.below hW'
          obtain ⟨D3, hD3, hE3, hZ3⟩ := hS3.map
          obtain ⟨w2, hup, hown2, hturn⟩ := World.ownsMap.store (w := w'.drew) (show w'.drew.ownsMap Try.prog 26 unitElem W.heap.size (0 + k) D3 from hD3) dkeyed Try.underlying64 (by omega) (keyOf_dot x) (unitElem_mk (H := Unit))
          have hcB2 : w'.drew.cell? ⟨B, 0, none⟩ = some (.map (some W.heap.size)) := blk_cell (show w'.drew.heap[B]? = _ from hS3.box) 0
          have hbx : w'.drew.heap[wr.heap.size]? = some (.cells #[.int .u8 x.1.f0.f0, .int .u8 x.1.f0.f1, .int .u8 x.1.f0.f2, .int .u8 x.1.f0.f3, .int .u64 x.1.f1] 26) := (hW'.block wr.heap.size (by simp)).trans (heap_alloc_new wr _)
          have hx0 : w'.drew.cell? ⟨wr.heap.size, 0, none⟩ = some (.int .u8 x.1.f0.f0) := blk_cell hbx 0
          have hx1 : w'.drew.cell? ⟨wr.heap.size, 1, none⟩ = some (.int .u8 x.1.f0.f1) := blk_cell hbx 1
          have hx2 : w'.drew.cell? ⟨wr.heap.size, 2, none⟩ = some (.int .u8 x.1.f0.f2) := blk_cell hbx 2
          have hx3 : w'.drew.cell? ⟨wr.heap.size, 3, none⟩ = some (.int .u8 x.1.f0.f3) := blk_cell hbx 3
          have hx4 : w'.drew.cell? ⟨wr.heap.size, 4, none⟩ = some (.int .u64 x.1.f1) := blk_cell hbx 4
          simp only [vval, venc, dcells] at hup
          go_region
          go_wp2
          have hlk : W.heap.size < wr.heap.size := hD1.lt
          refine ⟨⟨k + 1, by omega, by simp, ?_, ?_⟩, by simp [intOf]; omega⟩
          · rw [htk, addAll_snoc, if_pos hv]
            exact (SetAt.put (W := w'.drew) (show SetAt w'.drew B W.heap.size (0 + k) _ from hS3.below ⟨rfl, rfl, rfl, Nat.le_refl _, fun _ _ => rfl⟩) x D3 hD3 hE3 hZ3 hown2 (hturn.grown.block B hS3.ltB (by simp; omega)))
          · have hg2 := hg1.trans ⟨hW'.os, hW'.tape, hW'.output, Nat.le_trans (by simp) hW'.size, fun j hj _ => (hW'.block j (by simp; omega)).trans (heap_alloc_old _ _ _ hj)⟩
            have hg3 : W.grownBy w'.drew (some B) := ⟨hg2.os, hg2.tape, hg2.output, hg2.size, hg2.block⟩
            exact hg3.andThen hturn.grown (fun j e => by cases e; exact .inl (Nat.le_refl _))
        · have hv1 : decide (1 ≤ x.1.f1) = false := decide_eq_false hv
          go_wp2_with (go_at_call 13; refine (valid_c x _).mono ?_; rintro e w' ⟨rfl, hW'⟩)
          have hS3 : SetAt w' B W.heap.size (0 + k) (addAll [] (l.take k)) := hS2.below hW'
          refine ⟨⟨k + 1, by omega, by simp, ?_, ?_⟩, by simp [intOf]; omega⟩
          · rw [htk, addAll_snoc, if_neg (by omega)]; exact hS3.more (by omega)
          · exact hg1.trans ⟨hW'.os, hW'.tape, hW'.output, Nat.le_trans (by simp) hW'.size, fun j hj _ => (hW'.block j (by simp; omega)).trans (heap_alloc_old _ _ _ hj)⟩
      · have hkl : k = l.length := by omega
        subst hkl
        have hd1 : decide ((l.length : Int) < (l.length : Int)) = false := decide_eq_false (by omega)
        have hlen3 := hD1.len Try.underlying64 3
        rw [hZ1] at hlen3
        rw [List.take_length] at *
        have hle := addAll_length [] l
        go_wp2
        go_ret
        refine ⟨?_, hS1, hg1⟩
        have hw : wrap64 ((addAll [] l).length : Int) = (addAll [] l).length := by
          have h0 : ([] : List Vd).length = 0 := rfl
          rw [h0] at hle
          unfold wrap64; omega
        rw [hw]
        exact congrArg Ending.returned (congrArg (Value.int .i64) (by simp))
  · have hc : W.cell? ⟨B, 0, none⟩ = some (.map (some b)) := blk_cell hS.box 0
    obtain ⟨D0, hD0, hD1, hD2⟩ := hS.map
    have hlen := hD0.len Try.underlying64 3
    rw [hD2] at hlen
    go_enter Try.func28, Try.ntmps28
    go_wp2
    go_loopw [26] (fun i wr => ∃ k : Nat, k ≤ l.length ∧ i = .int .i64 k ∧ SetAt wr B b (n + k) (addAll L (l.take k)) ∧ W.grownBy wr (some b)) (fun i _ => l.length - (intOf i).toNat)
    case atStart =>
      exact ⟨0, Nat.zero_le _, rfl, by simpa [addAll] using hS, ⟨rfl, rfl, rfl, Nat.le_refl _, fun _ _ _ => rfl⟩⟩
    case round =>
      obtain ⟨k, hk, rfl, hS1, hg1⟩ := hrel
      have hcB : wr.cell? ⟨B, 0, none⟩ = some (.map (some b)) := blk_cell hS1.box 0
      obtain ⟨D1, hD1, hE1, hZ1⟩ := hS1.map
      by_cases hlt : k < l.length
      · obtain ⟨q, off, rfl, hq, hno, hcells⟩ := hrow (by intro e; simp [e] at hlt)
        obtain ⟨x, hx⟩ : ∃ x, l[k]? = some x := ⟨_, List.getElem?_eq_getElem hlt⟩
        have hcx : ∀ c, c < 5 → wr.cell? ⟨q, off + k * 5 + c, none⟩ = (venc x)[c]? := fun c hc => (hg1.cell_far ⟨q, _, none⟩ hq (fun e => hno (.inr (by simpa using e)))).trans (hcells k x hx c hc)
        have e0 : wr.cell? ⟨q, off + k * 5, none⟩ = some (.int .u8 x.1.f0.f0) := hcx 0 (by decide)
        have e1 : wr.cell? ⟨q, off + k * 5 + 1, none⟩ = some (.int .u8 x.1.f0.f1) := hcx 1 (by decide)
        have e2 : wr.cell? ⟨q, off + k * 5 + 2, none⟩ = some (.int .u8 x.1.f0.f2) := hcx 2 (by decide)
        have e3 : wr.cell? ⟨q, off + k * 5 + 3, none⟩ = some (.int .u8 x.1.f0.f3) := hcx 3 (by decide)
        have e4 : wr.cell? ⟨q, off + k * 5 + 4, none⟩ = some (.int .u64 x.1.f1) := hcx 4 (by decide)
        clear hcx
        have hlti : (k : Int) < (l.length : Int) := by omega
        have hd1 : decide ((k : Int) < (l.length : Int)) = true := decide_eq_true hlti
        have hS2 : SetAt (wr.alloc (.cells #[.int .u8 x.1.f0.f0, .int .u8 x.1.f0.f1, .int .u8 x.1.f0.f2, .int .u8 x.1.f0.f3, .int .u64 x.1.f1] 26)) B b (n + k) (addAll L (l.take k)) := hS1.below (below_alloc (Below.refl _ _) _)
        have htk : l.take (k + 1) = l.take k ++ [x] := by rw [List.take_add_one, hx]; rfl
        by_cases hv : 1 ≤ x.1.f1
        · have hv1 : decide (1 ≤ x.1.f1) = true := decide_eq_true hv
          go_wp2_with (go_at_call 13; refine (valid_c x _).mono ?_; rintro e w' ⟨rfl, hW'⟩)
          have hS3 : SetAt w' B b (n + k) (addAll L (l.take k)) := hS2.below hW'
          obtain ⟨D3, hD3, hE3, hZ3⟩ := hS3.map
          obtain ⟨w2, hup, hown2, hturn⟩ := World.ownsMap.store (w := w'.drew) (show w'.drew.ownsMap Try.prog 26 unitElem b (n + k) D3 from hD3) dkeyed Try.underlying64 (by omega) (keyOf_dot x) (unitElem_mk (H := Unit))
          have hcB2 : w'.drew.cell? ⟨B, 0, none⟩ = some (.map (some b)) := blk_cell (show w'.drew.heap[B]? = _ from hS3.box) 0
          have hbx : w'.drew.heap[wr.heap.size]? = some (.cells #[.int .u8 x.1.f0.f0, .int .u8 x.1.f0.f1, .int .u8 x.1.f0.f2, .int .u8 x.1.f0.f3, .int .u64 x.1.f1] 26) := (hW'.block wr.heap.size (by simp)).trans (heap_alloc_new wr _)
          have hx0 : w'.drew.cell? ⟨wr.heap.size, 0, none⟩ = some (.int .u8 x.1.f0.f0) := blk_cell hbx 0
          have hx1 : w'.drew.cell? ⟨wr.heap.size, 1, none⟩ = some (.int .u8 x.1.f0.f1) := blk_cell hbx 1
          have hx2 : w'.drew.cell? ⟨wr.heap.size, 2, none⟩ = some (.int .u8 x.1.f0.f2) := blk_cell hbx 2
          have hx3 : w'.drew.cell? ⟨wr.heap.size, 3, none⟩ = some (.int .u8 x.1.f0.f3) := blk_cell hbx 3
          have hx4 : w'.drew.cell? ⟨wr.heap.size, 4, none⟩ = some (.int .u64 x.1.f1) := blk_cell hbx 4
          simp only [vval, venc, dcells] at hup
          go_region
          go_wp2
          have hlk : b < wr.heap.size := hD1.lt
          refine ⟨⟨k + 1, by omega, by simp, ?_, ?_⟩, by simp [intOf]; omega⟩
          · rw [htk, addAll_snoc, if_pos hv]
            exact (SetAt.put (W := w'.drew) (show SetAt w'.drew B b (n + k) _ from hS3.below ⟨rfl, rfl, rfl, Nat.le_refl _, fun _ _ => rfl⟩) x D3 hD3 hE3 hZ3 hown2 (hturn.grown.block B hS3.ltB (fun e => hS3.ne (by simpa using e))))
          · have hg2 := hg1.trans ⟨hW'.os, hW'.tape, hW'.output, Nat.le_trans (by simp) hW'.size, fun j hj _ => (hW'.block j (by simp; omega)).trans (heap_alloc_old _ _ _ hj)⟩
            have hg3 : W.grownBy w'.drew (some b) := ⟨hg2.os, hg2.tape, hg2.output, hg2.size, hg2.block⟩
            exact hg3.andThen hturn.grown (fun j e => by cases e; exact .inr rfl)
        · have hv1 : decide (1 ≤ x.1.f1) = false := decide_eq_false hv
          go_wp2_with (go_at_call 13; refine (valid_c x _).mono ?_; rintro e w' ⟨rfl, hW'⟩)
          have hS3 : SetAt w' B b (n + k) (addAll L (l.take k)) := hS2.below hW'
          refine ⟨⟨k + 1, by omega, by simp, ?_, ?_⟩, by simp [intOf]; omega⟩
          · rw [htk, addAll_snoc, if_neg (by omega)]; exact hS3.more (by omega)
          · exact hg1.trans ⟨hW'.os, hW'.tape, hW'.output, Nat.le_trans (by simp) hW'.size, fun j hj _ => (hW'.block j (by simp; omega)).trans (heap_alloc_old _ _ _ hj)⟩
      · have hkl : k = l.length := by omega
        subst hkl
        have hd1 : decide ((l.length : Int) < (l.length : Int)) = false := decide_eq_false (by omega)
        have hlen3 := hD1.len Try.underlying64 3
        rw [hZ1] at hlen3
        rw [List.take_length] at *
        have hle := addAll_length L l
        go_wp2
        go_ret
        refine ⟨?_, hS1, hg1⟩
        have hlL := hD0.size_le
        rw [hD2] at hlL
        have hge := addAll_length' L l
        have hw : wrap64 (((addAll L l).length : Int) - (L.length : Int)) = (addAll L l).length - L.length := by
          unfold wrap64; omega
        rw [hw]
        rfl
end Go.Proofs.Ythljboogcjpgiaa.Ds
