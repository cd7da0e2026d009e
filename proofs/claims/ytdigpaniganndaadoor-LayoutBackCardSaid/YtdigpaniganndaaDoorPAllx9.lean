-- Printed by a program of this session (wip/drive.py, over the kit's print.py with its own changes). Lean checks it.
import Derived.Test.YtdigpaniganndaaDoorPAllx0
import Derived.Test.YtdigpaniganndaaDoorPAllx3
namespace Go.Proofs.YtdigpaniganndaaDoor.PAll
open Go.RowKit Go.Proofs.YtdigpaniganndaaDoorW.PrintWords Go.Proofs.YtdigpaniganndaaDoorW.PrintLast Go.Proofs.YtdigpaniganndaaDoorW.PrintMore
attribute [local go_sem] max2_int min2_int max_two min_two max_three min_three max_four min_four   -- for this text's walks alone
set_option linter.unusedVariables false
set_option linter.unusedSimpArgs false

/-! ### strings_Builder_WriteString: function 54 -/
theorem builder_write (B g : Nat) (acc s : ByteArray) (w : World) (h : IsB 81 5 w B g acc) (hl : acc.size + s.size ≤ 140737488355328) (hB : B ≤ w.heap.size) :
    Calls Tryd.prog 54 #[.pointer (some ⟨g, 0, none⟩), .string s] w fun e w' => e = .returned (.tuple #[.int .i64 (s.size : Int), .nilIface]) ∧ IsB 81 5 w' B g (acc ++ s) ∧ Below B w w' := by
  refine (Tryd.Builder_WriteString_f B g (Lib.strCells acc) s w h (by rw [Lib.strCells_length]; exact hl) hB).mono ?_
  rintro e w' ⟨he, hb, hbb⟩
  rw [strCells_app] at hb
  exact ⟨he, .inr hb, hbb⟩

/-! ### strings_Replace: function 47 -/
/-- A text with each byte 0 marked: what strings.ReplaceAll(s, "\x00", "\x00\xff") says. -/
def rep0 : List UInt8 → List UInt8
  | [] => []
  | c :: l => if c == 0 then 0 :: 255 :: rep0 l else c :: rep0 l
theorem rep_wrap {n : Int} (h : -9223372036854775808 ≤ n ∧ n ≤ 9223372036854775807) : wrap64 n = n := by unfold wrap64; omega
theorem rep_arith (st j n i cn : Nat) (h1 : st + j + 1 ≤ n) (h2 : n ≤ 2000000000) (h3 : i < cn) (h4 : cn ≤ n) :
    wrap64 ((st : Int) + (j : Int)) = (st : Int) + (j : Int) ∧ (st : Int) ≤ (st : Int) + (j : Int) ∧ (st : Int) + (j : Int) ≤ (n : Int) ∧ wrap64 ((st : Int) + (j : Int) + 1) = (st : Int) + (j : Int) + 1 ∧
      wrap64 ((i : Int) + 1) = (i : Int) + 1 ∧ (0 : Int) ≤ (st : Int) + (j : Int) ∧ ((st : Int) + (j : Int)).toNat = st + j :=
  ⟨rep_wrap ⟨by omega, by omega⟩, by omega, by omega, rep_wrap ⟨by omega, by omega⟩, rep_wrap ⟨by omega, by omega⟩, by omega, by omega⟩
theorem rep0_none : ∀ l : List UInt8, l.count 0 = 0 → rep0 l = l
  | [], _ => rfl
  | c :: l, h => by
    rw [List.count_cons] at h
    have hc : (c == 0) = false := by cases hc : c == 0 <;> simp_all
    rw [rep0, hc, if_neg (by decide), rep0_none l (by omega)]
theorem rep0_hit : ∀ (l : List UInt8), 0 < l.count 0 → ∃ j : Nat, Lib.indexByte l 0 = (j : Int) ∧ j < l.length ∧ (l.drop (j + 1)).count 0 + 1 = l.count 0 ∧ rep0 l = l.take j ++ [0, 255] ++ rep0 (l.drop (j + 1))
  | [], h => by simp at h
  | c :: l, h => by
    by_cases hc : c = 0
    · subst hc
      exact ⟨0, by simp [Lib.indexByte], by simp, by simp, by simp [rep0]⟩
    · have hc' : (c == 0) = false := beq_eq_false_iff_ne.2 hc
      have h' : 0 < l.count 0 := by rw [List.count_cons, hc'] at h; simpa using h
      obtain ⟨j, h1, h2, h3, h4⟩ := rep0_hit l h'
      refine ⟨j + 1, ?_, by simp; omega, ?_, ?_⟩
      · rw [Lib.indexByte, hc', if_neg (by decide), h1, if_neg (by simp)]; omega
      · rw [List.count_cons, hc']; simpa using h3
      · rw [rep0, hc', if_neg (by decide), h4]; simp
theorem rep0_length : ∀ l : List UInt8, (rep0 l).length = l.length + l.count 0
  | [] => rfl
  | c :: l => by
    rw [rep0]
    have := rep0_length l
    cases hc : c == 0 <;> simp [List.count_cons, hc, this] <;> omega
theorem ext_toEnd (s : ByteArray) (k : Nat) (hk : k ≤ s.size) : (s.extract k s.size).data.toList = s.data.toList.drop k := by
  simp only [ByteArray.data_extract, Array.toList_extract, List.extract_eq_take_drop]
  exact List.take_of_length_le (by rw [List.length_drop, Array.length_toList]; exact Nat.le_refl _)
theorem ext_part (s : ByteArray) (k j : Nat) : (s.extract k (k + j)).data.toList = (s.data.toList.drop k).take j := by
  simp [ByteArray.data_extract, Array.toList_extract, List.extract_eq_take_drop]
def strings_Replace.f (a0 a1 a2 : ByteArray) (a3 : Int) : Option (ByteArray) :=
  if a0.size ≤ 2000000000 ∧ a1 = ⟨#[0]⟩ ∧ a2 = ⟨#[0, 255]⟩ ∧ a3 = -1 then some ⟨(rep0 a0.data.toList).toArray⟩ else none
set_option maxHeartbeats 8000000 in
set_option maxRecDepth 100000 in
theorem strings_Replace.calls (a0 a1 a2 : ByteArray) (a3 : Int) (r : ByteArray) (w : World) (h : strings_Replace.f a0 a1 a2 a3 = some r) :
    Calls Tryd.prog 47 #[.string a0, .string a1, .string a2, .int .i64 a3] w fun e w' => e = .returned (.string r) ∧ Below w.heap.size w w' := by
  unfold strings_Replace.f at h
  split at h
  case isFalse => cases h
  rename_i hc
  obtain ⟨hs, rfl, rfl, rfl⟩ := hc
  obtain rfl := Option.some.inj h
  clear h
  obtain ⟨cn, hcn⟩ : ∃ cn : Nat, Lib.countByte a0.data.toList 0 = cn := ⟨_, rfl⟩
  have hcnl : cn ≤ a0.size := by rw [← hcn]; exact Nat.le_trans List.count_le_length (by rw [Array.length_toList]; exact Nat.le_refl _)
  have hbeq : ((⟨#[0]⟩ : ByteArray).toList == (⟨#[0, 255]⟩ : ByteArray).toList) = false := by rw [ByteArray.toList_eq, ByteArray.toList_eq]; decide
  have HC := Aside0.mk hcn
  have HS := Aside0.mk hs
  have HCL := Aside0.mk hcnl
  by_cases hz : cn = 0
  · subst hz
    clear hs hcnl hcn
    go_enter Tryd.func47, Tryd.ntmps47
    go_wp2_with fail
    refine (Tryd.strings_Count_one a0 0 _).mono ?_
    rintro e w1 ⟨rfl, hw⟩
    rw [hw, HC.out]
    clear hw
    go_wp2_with fail
    go_ret
    exact ⟨by rw [rep0_none _ HC.out, ba_mk]; rfl, Below.refl _ _⟩
  · have hcz : ((cn : Int) == 0) = false := beq_eq_false_iff_ne.2 (by omega)
    have hga : wrap64 ((a0.size : Int) + wrap64 (cn : Int)) = ((a0.size + cn : Nat) : Int) := by unfold wrap64; omega
    have hlen : a0.data.toList.length = a0.size := by rw [Array.length_toList]; rfl
    have hL0 : Aside0 (([] : List UInt8) ++ rep0 (a0.data.toList.drop 0) = rep0 a0.data.toList ∧ ([] : List UInt8).length + (rep0 (a0.data.toList.drop 0)).length ≤ 4000000000) := ⟨by simp, by
      unfold Lib.countByte at hcn
      rw [List.drop_zero, rep0_length, hlen, hcn, List.length_nil]
      omega⟩
    have hL1 : Aside0 (0 ≤ a0.size ∧ 0 + (a0.data.toList.drop 0).count 0 = cn) := ⟨by omega, by simpa [Lib.countByte] using hcn⟩
    clear hs hcnl hcn hz
    go_enter Tryd.func47, Tryd.ntmps47
    go_wp2_with fail
    refine (Tryd.strings_Count_one a0 0 _).mono ?_
    rintro e w1 ⟨rfl, hw⟩
    rw [hw, HC.out]
    clear hw
    go_wp2_with fail
    rw [hga]
    refine (Tryd.Builder_Grow_fresh w.heap.size w.heap.size (a0.size + cn) _ (Nat.le_refl _) (heap_alloc_new w _) (by simp) (by have := HS.out; have := HCL.out; omega)).mono ?_
    rintro e w1 ⟨rfl, hb, hbb⟩
    have HB : Aside0 (IsB 81 5 w1 w.heap.size w.heap.size ⟨#[]⟩) := ⟨Lib.IsBuilderF.of (.inr hb)⟩
    have HW : Aside0 (Below w.heap.size w w1) := ⟨(below_alloc (Below.refl w.heap.size w) (.cells #[.pointer none, .slice none 0 0] 81)).trans hbb⟩
    clear hb hbb hga
    go_wp2_with fail
    go_loopw [11, 53] (fun v11 v53 wr => ∃ (i st : Nat) (acc : List UInt8), v53 = .int .i64 (i : Int) ∧ v11 = .int .i64 (st : Int) ∧ Aside0 (st ≤ a0.size ∧ i + (a0.data.toList.drop st).count 0 = cn) ∧ Aside0 (acc ++ rep0 (a0.data.toList.drop st) = rep0 a0.data.toList ∧ acc.length + (rep0 (a0.data.toList.drop st)).length ≤ 4000000000) ∧
      Aside0 (IsB 81 5 wr w.heap.size w.heap.size ⟨acc.toArray⟩) ∧ Aside0 (Below w.heap.size w wr)) (fun _ v53 _ => cn - (intOf v53).toNat)
    case atStart => exact ⟨0, 0, [], rfl, rfl, hL1, hL0, HB, HW⟩
    case round =>
      clear hL1 hL0 HB HW
      obtain ⟨i, st, acc, rfl, rfl, H1, H2, HB, HW⟩ := hrel
      have d1 : (0 : Int) ≤ (st : Int) := by omega
      have d2 : (st : Int) ≤ (a0.size : Int) := by have := H1.out.1; omega
      by_cases hi : i < cn
      · have d3 : decide ((i : Int) < (cn : Int)) = true := decide_eq_true (by omega)
        have d4 := eq_true hi
        have d5 := eq_true (show (i : Int) < (cn : Int) by omega)
        obtain ⟨j, h1, h2, h3, h4⟩ := rep0_hit (a0.data.toList.drop st) (by have := H1.out.2; omega)
        rw [List.length_drop, hlen] at h2
        rw [List.drop_drop] at h3 h4
        have HJ := Aside0.mk h1
        have hn1 : st + j + 1 ≤ a0.size := by have := H1.out.1; omega
        have HN : Aside0 (st + (j + 1) ≤ a0.size ∧ i + 1 + (a0.data.toList.drop (st + (j + 1))).count 0 = cn) := ⟨hn1, by have := H1.out.2; omega⟩
        obtain ⟨hj1, hj2, hj3, hj4, hi1, hj5, hj6⟩ := rep_arith st j a0.size i cn hn1 HS.out hi HCL.out
        clear hn1
        have HN2 : Aside0 ((acc ++ (a0.data.toList.drop st).take j ++ [0, 255]) ++ rep0 (a0.data.toList.drop (st + (j + 1))) = rep0 a0.data.toList ∧ (acc ++ (a0.data.toList.drop st).take j ++ [0, 255]).length + (rep0 (a0.data.toList.drop (st + (j + 1)))).length ≤ 4000000000) := by
          have e := H2.out
          rw [h4] at e
          exact ⟨by rw [← e.1]; simp, by have := e.2; simp only [List.length_append] at this ⊢; omega⟩
        have hacc : Aside0 (acc.length + j ≤ 4000000000) := ⟨by have e := H2.out.2; rw [h4] at e; simp only [List.length_append, List.length_take, List.length_drop, hlen] at e; omega⟩
        clear h1 h2 h3 h4 H1 H2
        go_wp2_with fail
        refine (Tryd.strings_Index_one _ 0 _).mono ?_
        rintro e w2 ⟨rfl, hw⟩
        rw [hw, ext_toEnd a0 st (by omega), HJ.out]
        clear hw
        go_wp2_with fail
        refine (builder_write _ _ _ _ _ HB.out ?hl HW.out.size).mono ?_
        case hl => have := hacc.out; have := HN.out.1; simp only [ByteArray.size_extract]; show acc.toArray.size + _ ≤ _; rw [List.size_toArray]; omega
        rintro e w2 ⟨rfl, hb, hbb⟩
        have e1 : (⟨acc.toArray⟩ : ByteArray) ++ a0.extract st (st + j) = ⟨(acc ++ (a0.data.toList.drop st).take j).toArray⟩ := by
          apply ByteArray.ext
          rw [ByteArray.data_append]
          apply Array.toList_inj.1
          rw [Array.toList_append, ext_part]
        rw [e1] at hb
        have HB2 := Aside0.mk hb
        have HW2 : Aside0 (Below w.heap.size w w2) := ⟨HW.out.trans hbb⟩
        clear hb hbb HB HW e1
        go_wp2_with fail
        refine (builder_write _ _ _ _ _ HB2.out ?hl HW2.out.size).mono ?_
        case hl => have := hacc.out; show (List.toArray _).size + 2 ≤ _; rw [List.size_toArray, List.length_append, List.length_take]; omega
        rintro e w3 ⟨rfl, hb, hbb⟩
        have e1 : (⟨(acc ++ (a0.data.toList.drop st).take j).toArray⟩ : ByteArray) ++ (⟨#[0, 255]⟩ : ByteArray) = ⟨(acc ++ (a0.data.toList.drop st).take j ++ [0, 255]).toArray⟩ := by
          apply ByteArray.ext
          rw [ByteArray.data_append]
          apply Array.toList_inj.1
          rw [Array.toList_append]
        rw [e1] at hb
        have HB3 := Aside0.mk hb
        have HW3 : Aside0 (Below w.heap.size w w3) := ⟨HW2.out.trans hbb⟩
        clear hb hbb HB2 HW2 e1
        go_wp2_with fail
        go_roundw
        case measure =>
          rw [hi1]
          simp only [intOf]
          omega
        case rel => exact ⟨i + 1, st + (j + 1), _, congrArg (Value.int .i64) (by rw [hi1]; omega), congrArg (Value.int .i64) (by rw [hj4]; omega), HN, HN2, HB3, HW3⟩
      · have d3 : decide ((i : Int) < (cn : Int)) = false := decide_eq_false (by omega)
        have d4 := eq_false hi
        have d5 := eq_false (show ¬ (i : Int) < (cn : Int) by omega)
        have hz : rep0 (a0.data.toList.drop st) = a0.data.toList.drop st := rep0_none _ (by have := H1.out.2; omega)
        have H3 : Aside0 (acc ++ a0.data.toList.drop st = rep0 a0.data.toList ∧ acc.length + (a0.data.toList.drop st).length ≤ 4000000000) := ⟨by have := H2.out; rwa [hz] at this⟩
        clear H2 hz
        go_wp2_with fail
        refine (builder_write _ _ _ _ _ HB.out ?hl HW.out.size).mono ?_
        case hl => have := H3.out.2; rw [List.length_drop, hlen] at this; simp only [ByteArray.size_extract]; show acc.toArray.size + _ ≤ _; rw [List.size_toArray]; omega
        rintro e w2 ⟨rfl, hb, hbb⟩
        have e1 : (⟨acc.toArray⟩ : ByteArray) ++ a0.extract st a0.size = ⟨(rep0 a0.data.toList).toArray⟩ := by
          rw [← H3.out.1]
          apply ByteArray.ext
          rw [ByteArray.data_append]
          apply Array.toList_inj.1
          rw [Array.toList_append, ext_toEnd a0 st (by omega)]
        rw [e1] at hb
        have HB2 := Aside0.mk hb
        have HW2 : Aside0 (Below w.heap.size w w2) := ⟨HW.out.trans hbb⟩
        clear hb hbb HB HW e1
        go_wp2_with fail
        refine (builder_string _ _ _ _ HB2.out HW2.out.size).mono ?_
        rintro e w3 ⟨rfl, hb, hbb⟩
        have HW3 : Aside0 (Below w.heap.size w w3) := ⟨HW2.out.trans hbb⟩
        go_wp2_with fail
        go_ret
        exact ⟨rfl, HW3.out⟩

/-! ### strings_ReplaceAll: function 39 -/
def strings_ReplaceAll.f (a0 : ByteArray) (a1 : ByteArray) (a2 : ByteArray) : Option (ByteArray) := (strings_Replace.f a0 a1 a2 (-1)).bind fun t169 => (some t169)
set_option maxHeartbeats 8000000 in
set_option maxRecDepth 100000 in
theorem strings_ReplaceAll.calls (a0 : ByteArray) (a1 : ByteArray) (a2 : ByteArray) (r : ByteArray) (w : World) (h : strings_ReplaceAll.f a0 a1 a2 = some r) :
    Calls Tryd.prog 39 #[.string a0, .string a1, .string a2] w fun e w' => e = .returned (.string r) ∧ Below w.heap.size w w' := by
  have HB := Aside0.mk (Below.refl w.heap.size w)
  have H : ((strings_Replace.f a0 a1 a2 (-1)).bind fun t169 => (some t169)) = some r := h
  clear h
  replace H := Option.bind_eq_some_iff.mp H
  obtain ⟨t169, A40, H⟩ := H
  replace H : (some t169) = some r := H
  have A4 := Aside0.mk A40
  clear A40
  obtain rfl := Option.some.inj H
  go_enter Tryd.func39, Tryd.ntmps39
  go_wp2_with (first | ((with_reducible refine gate_callee (f := 47) rfl ?_); refine goesL_ (some 10) rfl rfl Tryd.func47 (by kernel_rfl) rfl #[.string a0, .string a1, .string a2, .int .i64 (-1)] rfl (by (try simp only [List.map_toArray, List.map_cons, List.map_nil]); first | done | rfl | (simp only [List.length_drop, List.length_take]; rfl)) ?_; (with_reducible refine (strings_Replace.calls a0 a1 a2 (-1) t169 _ A4.out).mono ?_); rintro e w5 ⟨rfl, hb⟩; refine ⟨_, rfl, ?_⟩; have n0_ := Aside0.mk (below_step (by repeat (first | (with_reducible first | exact HB.out | apply below_alloc | apply pw_below_drewN | apply below_drew1) | exact HB.out)) hb); clear HB; have HB := n0_; clear n0_; (try clear hb); (try clear hb2); (try clear hk); (try clear hi)))
  go_ret
  exact ⟨by first | rfl | (simp [errW_none, errW_some] <;> rfl) | (simp [*, errW_none, errW_some] <;> rfl), by repeat (first | (with_reducible first | exact HB.out | apply below_alloc | apply pw_below_drewN | apply below_drew1) | exact HB.out)⟩

/-! ### okey_Text: function 28 -/
def okey_Text.f (a0 : ByteArray) : Option (ByteArray) := (strings_ReplaceAll.f a0 (⟨#[0]⟩ : ByteArray) (⟨#[0, 255]⟩ : ByteArray)).bind fun t170 => (if t170.size + 2 ≤ 9223372036854775807 then (some (t170 ++ (⟨#[0, 1]⟩ : ByteArray))) else (none))
set_option maxHeartbeats 8000000 in
set_option maxRecDepth 100000 in
theorem okey_Text.calls (a0 : ByteArray) (r : ByteArray) (w : World) (h : okey_Text.f a0 = some r) :
    Calls Tryd.prog 28 #[.string a0] w fun e w' => e = .returned (.string r) ∧ Below w.heap.size w w' := by
  have HB := Aside0.mk (Below.refl w.heap.size w)
  have H : ((strings_ReplaceAll.f a0 (⟨#[0]⟩ : ByteArray) (⟨#[0, 255]⟩ : ByteArray)).bind fun t170 => (if t170.size + 2 ≤ 9223372036854775807 then (some (t170 ++ (⟨#[0, 1]⟩ : ByteArray))) else (none))) = some r := h
  clear h
  replace H := Option.bind_eq_some_iff.mp H
  obtain ⟨t170, A20, H⟩ := H
  replace H : (if t170.size + 2 ≤ 9223372036854775807 then (some (t170 ++ (⟨#[0, 1]⟩ : ByteArray))) else (none)) = some r := H
  have A2 := Aside0.mk A20
  clear A20
  by_cases c3 : t170.size + 2 ≤ 9223372036854775807
  · rw [if_pos c3] at H
    have c3b0 := eq_true c3
    have c3b1 : decide (t170.size + 2 ≤ 9223372036854775807) = true := decide_eq_true c3
    try have c3b2 : (9223372036854775807 < t170.size + 2) = False := eq_false (Nat.not_lt.2 c3)
    obtain rfl := Option.some.inj H
    go_enter Tryd.func28, Tryd.ntmps28
    go_wp2_with (first | ((with_reducible refine gate_callee (f := 39) rfl ?_); refine goesL_ (some 4) rfl rfl Tryd.func39 (by kernel_rfl) rfl #[.string a0, .string (⟨#[0]⟩ : ByteArray), .string (⟨#[0, 255]⟩ : ByteArray)] rfl (by (try simp only [List.map_toArray, List.map_cons, List.map_nil]); first | done | rfl | (simp only [List.length_drop, List.length_take]; rfl)) ?_; (with_reducible refine (strings_ReplaceAll.calls a0 (⟨#[0]⟩ : ByteArray) (⟨#[0, 255]⟩ : ByteArray) t170 _ A2.out).mono ?_); rintro e w4 ⟨rfl, hb⟩; refine ⟨_, rfl, ?_⟩; have n0_ := Aside0.mk (below_step (by repeat (first | (with_reducible first | exact HB.out | apply below_alloc | apply pw_below_drewN | apply below_drew1) | exact HB.out)) hb); clear HB; have HB := n0_; clear n0_; (try clear hb); (try clear hb2); (try clear hk); (try clear hi)))
    go_ret
    exact ⟨by first | rfl | (simp [errW_none, errW_some] <;> rfl) | (simp [*, errW_none, errW_some] <;> rfl), by repeat (first | (with_reducible first | exact HB.out | apply below_alloc | apply pw_below_drewN | apply below_drew1) | exact HB.out)⟩
  · rw [if_neg c3] at H
    exact absurd H (by simp)

end Go.Proofs.YtdigpaniganndaaDoor.PAll
