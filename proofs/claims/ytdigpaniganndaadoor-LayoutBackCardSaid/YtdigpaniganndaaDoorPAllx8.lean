-- Printed by a program of this session (wip/drive.py, over the kit's print.py with its own changes). Lean checks it.
import Derived.Test.YtdigpaniganndaaDoorPAllx0
import Derived.Test.YtdigpaniganndaaDoorPAllx3
import Derived.Test.YtdigpaniganndaaDoorPAllx6
import Derived.Test.YtdigpaniganndaaDoorPAllx7
namespace Go.Proofs.YtdigpaniganndaaDoor.PAll
open Go.RowKit Go.Proofs.YtdigpaniganndaaDoorW.PrintWords Go.Proofs.YtdigpaniganndaaDoorW.PrintLast Go.Proofs.YtdigpaniganndaaDoorW.PrintMore
attribute [local go_sem] max2_int min2_int max_two min_two max_three min_three max_four min_four   -- for this text's walks alone
set_option linter.unusedVariables false
set_option linter.unusedSimpArgs false

/-! ### layout_Parse: function 7 -/
def layout_Parse.j0 : Nat → List (S51) → ByteArray → Bool → Option (ByteArray × Int × ByteArray × Int × Int × Int × Int × Int × Int)
  | 0, _, _, _ => none
  | k + 1, x6, x7, x39 => if x39 = true then (some ((⟨#[]⟩ : ByteArray), 0, (⟨#[]⟩ : ByteArray), 0, 0, 0, 0, 0, 4)) else (if 0 < (x6.length : Int) then (if 0 < (x7.size : Int) then (if (wrap64 (bt x7 0)) = 3 then (if 1 ≤ (x7.size : Int) then ((layout_elem.f k ((rd_T51 x6 0).f1) (wrap64 (bt x7 0)) (⟨#[]⟩ : ByteArray) 0 0 0 0 0 (x7.extract 1 x7.size)).bind fun bt160 => (some (bt160.1, bt160.2.1, bt160.2.2.1, bt160.2.2.2.1, bt160.2.2.2.2.1, bt160.2.2.2.2.2.1, bt160.2.2.2.2.2.2.1, bt160.2.2.2.2.2.2.2.1, bt160.2.2.2.2.2.2.2.2))) else (none)) else (if (wrap64 (bt x7 0)) > 3 then (some ((⟨#[]⟩ : ByteArray), 0, (⟨#[]⟩ : ByteArray), 0, 0, 0, 0, 0, 4)) else (if (x7.size : Int) > 1 then (some ((⟨#[]⟩ : ByteArray), 0, (⟨#[]⟩ : ByteArray), 0, 0, 0, 0, 0, 4)) else (some ((rd_T51 x6 0).f1, wrap64 (bt x7 0), (⟨#[]⟩ : ByteArray), 0, 0, 0, 0, 0, 0))))) else (none)) else (none))
def layout_Parse.f (k : Nat) (a0 : ByteArray) : Option (ByteArray × Int × ByteArray × Int × Int × Int × Int × Int × Int) := (strings_CutPrefix.f a0 (⟨#[111]⟩ : ByteArray)).bind fun bt146 => ((okey_Get.f k bt146.1 (([1] : List Int))).bind fun bt151 => (if bt146.2 = true then (if bt151.2.2 = 0 then (if 0 < (bt151.1.length : Int) then ((layout_ValidName.f ((rd_T51 bt151.1 0).f1)).bind fun t157 => (if t157 = true then (layout_Parse.j0 k bt151.1 bt151.2.1 (bt151.2.1.toList == ([] : List UInt8))) else (layout_Parse.j0 k bt151.1 bt151.2.1 true))) else (none)) else (layout_Parse.j0 k bt151.1 bt151.2.1 true)) else (layout_Parse.j0 k bt151.1 bt151.2.1 true)))
theorem layout_Parse.mono_l : ∀ k, (∀ y0 y1 y2, LeO (layout_Parse.j0 k y0 y1 y2) (layout_Parse.j0 (k + 1) y0 y1 y2))
  | 0 => fun _ _ _ r h => by simp [layout_Parse.j0] at h
  | k + 1 => by
    have ih0 := layout_Parse.mono_l k
    · intro y0 y1 y2
      unfold layout_Parse.j0
      repeat' first
      | (with_reducible exact ih0 _ _ _)
      | (with_reducible exact layout_elem.mono _ _ _ _ _ _ _ _ _ _)
      | (with_reducible exact okey_Get.mono _ _ _)
      | (with_reducible exact LeO.refl _)
      | (with_reducible exact LeO.none _)
      | (with_reducible refine LeO.ite ?_ ?_)
      | (with_reducible refine LeO.bind ?_ (fun _ => ?_))
      | exact ih0 _ _ _
      | exact layout_elem.mono _ _ _ _ _ _ _ _ _ _
      | exact okey_Get.mono _ _ _
      | exact LeO.none _
      | refine LeO.ite ?_ ?_
      | refine LeO.bind ?_ (fun _ => ?_)
theorem layout_Parse.mono : ∀ a0 k, LeO (layout_Parse.f k a0) (layout_Parse.f (k + 1) a0) := by
  intro a0 k
  have ih0 := layout_Parse.mono_l k
  unfold layout_Parse.f
  repeat' first
      | (with_reducible exact ih0 _ _ _)
      | (with_reducible exact layout_elem.mono _ _ _ _ _ _ _ _ _ _)
      | (with_reducible exact okey_Get.mono _ _ _)
      | (with_reducible exact LeO.refl _)
      | (with_reducible exact LeO.none _)
      | (with_reducible refine LeO.ite ?_ ?_)
      | (with_reducible refine LeO.bind ?_ (fun _ => ?_))
      | exact ih0 _ _ _
      | exact layout_elem.mono _ _ _ _ _ _ _ _ _ _
      | exact okey_Get.mono _ _ _
      | exact LeO.none _
      | refine LeO.ite ?_ ?_
      | refine LeO.bind ?_ (fun _ => ?_)
def layout_Parse.T5 : Bool × List (List Nat × List Nat) := (true, [([], []), ([0], [0]), ([1], [1]), ([2], [2]), ([], []), ([4], [4]), ([5], [5]), ([3, 6], [3, 6]), ([], []), ([8, 7, 0, 1, 2, 3, 4, 5, 6, 7, 8], [7, 8])])
def layout_Parse.B5 : List Nat := [0, 1, 3, 7, 0, 16, 48, 127, 0, 511]
theorem layout_Parse.tab5 : rtab .any (opsOf Tryd.f7 5) = layout_Parse.T5 := by kernel_rfl
theorem layout_Parse.bits5 : waitsOk layout_Parse.T5.2 layout_Parse.B5 = true := by kernel_rfl
def layout_Parse.T7 : Bool × List (List Nat × List Nat) := (true, [([], []), ([], []), ([1], [1]), ([0, 2], [0, 2]), ([3], [3]), ([3], [3]), ([4, 3, 0, 1, 2, 3, 4, 5], [4]), ([5, 6, 0, 1, 2, 3, 4, 5, 6], [5])])
def layout_Parse.B7 : List Nat := [0, 0, 2, 7, 15, 15, 63, 127]
theorem layout_Parse.tab7 : rtab .any (opsOf Tryd.f7 7) = layout_Parse.T7 := by kernel_rfl
theorem layout_Parse.bits7 : waitsOk layout_Parse.T7.2 layout_Parse.B7 = true := by kernel_rfl
set_option maxHeartbeats 8000000 in
set_option maxRecDepth 100000 in
theorem layout_Parse.calls (k : Nat) (a0 : ByteArray) (r1 : ByteArray) (r2 : Int) (r3 : ByteArray) (r4 : Int) (r5 : Int) (r6 : Int) (r7 : Int) (r8 : Int) (r9 : Int) (w : World) (h : layout_Parse.f k a0 = some (r1, r2, r3, r4, r5, r6, r7, r8, r9)) :
    Calls Tryd.prog 7 #[.string a0] w fun e w' => e = .returned (.tuple #[.agg #[.string r1, .int .i64 r2, .string r3, .int .u8 r4, .int .u8 r5, .int .u8 r6, .int .u8 r7, .int .u64 r8], .int .i64 r9]) ∧ Below w.heap.size w w' := by
  have hu29 := Tryd.underlying29
  have HB := Aside0.mk (Below.refl w.heap.size w)
  have H : ((strings_CutPrefix.f a0 (⟨#[111]⟩ : ByteArray)).bind fun bt146 => ((okey_Get.f k bt146.1 (([1] : List Int))).bind fun bt151 => (if bt146.2 = true then (if bt151.2.2 = 0 then (if 0 < (bt151.1.length : Int) then ((layout_ValidName.f ((rd_T51 bt151.1 0).f1)).bind fun t157 => (if t157 = true then (layout_Parse.j0 k bt151.1 bt151.2.1 (bt151.2.1.toList == ([] : List UInt8))) else (layout_Parse.j0 k bt151.1 bt151.2.1 true))) else (none)) else (layout_Parse.j0 k bt151.1 bt151.2.1 true)) else (layout_Parse.j0 k bt151.1 bt151.2.1 true)))) = some (r1, r2, r3, r4, r5, r6, r7, r8, r9) := h
  clear h
  replace H := Option.bind_eq_some_iff.mp H
  obtain ⟨⟨t146, t147⟩, A20, H⟩ := H
  replace H : ((okey_Get.f k t146 (([1] : List Int))).bind fun bt151 => (if t147 = true then (if bt151.2.2 = 0 then (if 0 < (bt151.1.length : Int) then ((layout_ValidName.f ((rd_T51 bt151.1 0).f1)).bind fun t157 => (if t157 = true then (layout_Parse.j0 k bt151.1 bt151.2.1 (bt151.2.1.toList == ([] : List UInt8))) else (layout_Parse.j0 k bt151.1 bt151.2.1 true))) else (none)) else (layout_Parse.j0 k bt151.1 bt151.2.1 true)) else (layout_Parse.j0 k bt151.1 bt151.2.1 true))) = some (r1, r2, r3, r4, r5, r6, r7, r8, r9) := H
  have A2 := Aside0.mk A20
  clear A20
  obtain ⟨y148, hy148⟩ : ∃ y_ : List Int, y_ = (([1] : List Int)) := ⟨_, rfl⟩
  replace H : ((okey_Get.f k t146 y148).bind fun bt151 => (if t147 = true then (if bt151.2.2 = 0 then (if 0 < (bt151.1.length : Int) then ((layout_ValidName.f ((rd_T51 bt151.1 0).f1)).bind fun t157 => (if t157 = true then (layout_Parse.j0 k bt151.1 bt151.2.1 (bt151.2.1.toList == ([] : List UInt8))) else (layout_Parse.j0 k bt151.1 bt151.2.1 true))) else (none)) else (layout_Parse.j0 k bt151.1 bt151.2.1 true)) else (layout_Parse.j0 k bt151.1 bt151.2.1 true))) = some (r1, r2, r3, r4, r5, r6, r7, r8, r9) := by first | (rw [hy148]; with_reducible exact H) | (have H2_ := (Option.bind_some _ _).symm.trans H; rw [hy148]; with_reducible exact H2_) | (have H2_ := (Option.bind_some _ _).symm.trans H; with_reducible exact H2_) | with_reducible exact H | (rw [hy148]; exact H) | exact H
  have Ny148 := Aside0.mk hy148
  clear hy148
  replace H := Option.bind_eq_some_iff.mp H
  obtain ⟨⟨t151, t152, t153⟩, A30, H⟩ := H
  replace H : (if t147 = true then (if t153 = 0 then (if 0 < (t151.length : Int) then ((layout_ValidName.f ((rd_T51 t151 0).f1)).bind fun t157 => (if t157 = true then (layout_Parse.j0 k t151 t152 (t152.toList == ([] : List UInt8))) else (layout_Parse.j0 k t151 t152 true))) else (none)) else (layout_Parse.j0 k t151 t152 true)) else (layout_Parse.j0 k t151 t152 true)) = some (r1, r2, r3, r4, r5, r6, r7, r8, r9) := H
  have A3 := Aside0.mk A30
  clear A30
  have HC4 := Aside0.mk H
  clear H
  go_enter Tryd.func7, Tryd.ntmps7
  go_upto_region 3 with (first | ((with_reducible refine gate_dst (N := 2) rfl ?_); (try (refine gate_guard (by rfl) ?_; dsimp only)); refine box_event ?hg (N := 2) ?hd (cs := #[.string (⟨#[]⟩ : ByteArray), .int .i64 0, .string (⟨#[]⟩ : ByteArray), .int .u8 0, .int .u8 0, .int .u8 0, .int .u8 0, .int .u64 0]) (t := 29) ?hr ?_; (case hd => rfl); (case hg => rfl); (case hr => first | (go_simp; done) | (go_simp; rfl)); intro gb145 hg w5 hbox hb; have n0_ := Aside0.mk (below_step (by repeat (first | (with_reducible first | exact HB.out | apply below_alloc | apply pw_below_drewN | apply below_drew1) | exact HB.out)) hb); have n1_ := Aside0.mk (hbox); have n2_ := Aside0.mk ((by rw [hg]; exact (below_size (by repeat (first | (with_reducible first | exact HB.out | apply below_alloc | apply pw_below_drewN | apply below_drew1) | exact HB.out))) : w.heap.size ≤ gb145)); have n3_ := Aside0.mk ((by rw [hg]; exact (below_size (by repeat (first | (with_reducible first | exact HB.out | apply below_alloc | apply pw_below_drewN | apply below_drew1) | exact HB.out))) : w.heap.size ≤ gb145)); clear HB; have HB := n0_; have BK145 := n1_; have GW145 := n2_; have GE145 := n3_; clear n0_ n1_ n2_ n3_; clear hb hbox hg) | ((with_reducible refine gate_callee (f := 21) rfl ?_); refine goesL_ (some 12) rfl rfl Tryd.func21 (by kernel_rfl) rfl #[.string a0, .string (⟨#[111]⟩ : ByteArray)] rfl (by (try simp only [List.map_toArray, List.map_cons, List.map_nil]); first | done | rfl | (simp only [List.length_drop, List.length_take]; rfl)) ?_; (with_reducible refine (strings_CutPrefix.calls a0 (⟨#[111]⟩ : ByteArray) t146 t147 _ A2.out).mono ?_); rintro e w' ⟨rfl, ⟨nd, rfl⟩⟩; refine ⟨_, rfl, ?_⟩) | ((with_reducible refine gate_dst (N := 17) rfl ?_); (try (refine gate_guard (by rfl) ?_; dsimp only)); refine Kd.R_lit (Kd.int .i64) _ 3 ?hg (N := 17) ?hd (xs := ([1] : List Int)) (inner := [.int .i64 1]) (ok := fun _ => True) (okp := fun _ => True) ?hr ?hp (fun _ hk => hk) trivial (Below.refl _ _) (Nat.le_refl _) (by simp) ?_; (case hd => rfl); (case hg => rfl); (case hr => first | (go_simp; done) | (go_simp; rfl)); (case hp => exact (Reps.one (show Kd.M (Kd.int .i64) _ _ _ 1 [.int .i64 1] from rfl) (Reps.none _ _))); intro v149 w6 ho7 hb hg_ hnew_; clear hg_ hnew_; (first | rw [← Ny148.out] at ho7 | (simp only [Int.reduceToNat] at ho7; rw [← Ny148.out] at ho7)); have n0_ := Aside0.mk (Kd.R_lower ho7 (below_size (by repeat (first | (with_reducible first | exact HB.out | apply below_alloc | apply pw_below_drewN | apply below_drew1 | refine below_set ?_ GE145.out) | exact HB.out)))); have n1_ := Aside0.mk (blk_below (g := gb145) (o := .cells #[.string (⟨#[]⟩ : ByteArray), .int .i64 0, .string (⟨#[]⟩ : ByteArray), .int .u8 0, .int .u8 0, .int .u8 0, .int .u8 0, .int .u64 0] 29 (0, 0)) (by (with_reducible repeat (first | refine blk_drewN ?_ _ | refine blk_drew ?_ | refine blk_alloc ?_ _)); exact BK145.out) hb); have n2_ := Aside0.mk (below_step (by repeat (first | (with_reducible first | exact HB.out | apply below_alloc | apply pw_below_drewN | apply below_drew1 | refine below_set ?_ GE145.out) | exact HB.out)) hb); clear BK145; clear HB; have HO150 := n0_; have BK145 := n1_; have HB := n2_; clear n0_ n1_ n2_; clear hb ho7; obtain ⟨Ao8, co8, eo8⟩ := Kd.R_slice HO150.out; subst eo8) | ((with_reducible refine gate_callee (f := 22) rfl ?_); refine goesL_ (some 18) rfl rfl Tryd.func22 (by kernel_rfl) rfl #[.string t146, .slice Ao8 y148.length co8] rfl (by (try simp only [List.map_toArray, List.map_cons, List.map_nil]); first | done | rfl | (simp only [List.length_drop, List.length_take]; rfl)) ?_; (with_reducible refine (okey_Get.calls k t146 _ _ y148 t151 t152 t153 _ ?side1 ?side2 A3.out).mono ?_); (case side1 => repeat (first | exact (Kd.R_reads' HO150.out).2.2 | (with_reducible refine Kd.C_alloc ?_ _) | (with_reducible refine Kd.C_drewN ?_ _) | (with_reducible refine Kd.C_drew ?_))); (case side2 => exact (Kd.R_reads' HO150.out).2.1); rintro e w9 ⟨v154, rfl, ho0, hb⟩; refine ⟨_, rfl, ?_⟩; have n0_ := Aside0.mk (Kd.R_below (by (with_reducible repeat (first | apply Kd.R_alloc | apply Kd.R_drewN | apply Kd.R_drew)); exact HO150.out) hb); have n1_ := Aside0.mk (Kd.R_lower ho0 (below_size (by repeat (first | (with_reducible first | exact HB.out | apply below_alloc | apply pw_below_drewN | apply below_drew1 | refine below_set ?_ GE145.out) | exact HB.out)))); have n2_ := Aside0.mk (blk_below (g := gb145) (o := .cells #[.string (⟨#[]⟩ : ByteArray), .int .i64 0, .string (⟨#[]⟩ : ByteArray), .int .u8 0, .int .u8 0, .int .u8 0, .int .u8 0, .int .u64 0] 29 (0, 0)) (by (with_reducible repeat (first | refine blk_drewN ?_ _ | refine blk_drew ?_ | refine blk_alloc ?_ _)); exact BK145.out) hb); have n3_ := Aside0.mk (below_step (by repeat (first | (with_reducible first | exact HB.out | apply below_alloc | apply pw_below_drewN | apply below_drew1 | refine below_set ?_ GE145.out) | exact HB.out)) hb); clear HO150; clear BK145; clear HB; have HO150 := n0_; have HO155 := n1_; have BK145 := n2_; have HB := n3_; clear n0_ n1_ n2_ n3_; (try clear hb); (try clear hb2); (try clear hk); (try clear hi); (try clear ho0)))
  (try simp only [Act.put, List.setIfInBounds_toArray, List.set_cons_zero, List.set_cons_succ])
  go_cut [39] (fun v39 wc => ∃ (kq : Nat) (x39_3 : Bool), v39 = .bool x39_3 ∧ Aside0 (layout_Parse.j0 kq t151 t152 x39_3 = some (r1, r2, r3, r4, r5, r6, r7, r8, r9)) ∧ Aside0 (kq ≤ k) ∧ Aside0 (Kd.R k51 51 wc w.heap.size (fun _ => True) v154 t151) ∧ Aside0 (wc.heap[gb145]? = some (.cells #[.string (⟨#[]⟩ : ByteArray), .int .i64 0, .string (⟨#[]⟩ : ByteArray), .int .u8 0, .int .u8 0, .int .u8 0, .int .u8 0, .int .u64 0] 29 (0, 0))) ∧ Aside0 (Below w.heap.size w wc))
  case first =>
    have H := HC4.out
    clear HC4
    by_cases c10 : t147 = true
    · subst c10
      have H1 : (if t153 = 0 then (if 0 < (t151.length : Int) then ((layout_ValidName.f ((rd_T51 t151 0).f1)).bind fun t157 => (if t157 = true then (layout_Parse.j0 k t151 t152 (t152.toList == ([] : List UInt8))) else (layout_Parse.j0 k t151 t152 true))) else (none)) else (layout_Parse.j0 k t151 t152 true)) = some (r1, r2, r3, r4, r5, r6, r7, r8, r9) := by rw [if_pos rfl] at H; exact H
      clear H
      have H := H1
      clear H1
      by_cases c11 : t153 = 0
      · rw [if_pos c11] at H
        have c11b0 : (t153 == 0) = true := beq_iff_eq.mpr c11
        have c11b1 : (t153 != 0) = false := bne_eq_false_iff_eq.mpr c11
        clear c11
        (first | rw [c11b0] | (simp only [i64_w, i32_w]; rw [c11b0]) | skip)
        by_cases c12 : 0 < (t151.length : Int)
        · rw [if_pos c12] at H
          have c12b0 : decide (0 < (t151.length : Int)) = true := decide_eq_true c12
          have c12b1 : decide (0 < t151.length) = true := decide_eq_true (by omega)
          clear c12
          replace H := Option.bind_eq_some_iff.mp H
          obtain ⟨t157, A130, H⟩ := H
          replace H : (if t157 = true then (layout_Parse.j0 k t151 t152 (t152.toList == ([] : List UInt8))) else (layout_Parse.j0 k t151 t152 true)) = some (r1, r2, r3, r4, r5, r6, r7, r8, r9) := H
          have A13 := Aside0.mk A130
          clear A130
          by_cases c14 : t157 = true
          · subst c14
            have H1 : (layout_Parse.j0 k t151 t152 (t152.toList == ([] : List UInt8))) = some (r1, r2, r3, r4, r5, r6, r7, r8, r9) := by rw [if_pos rfl] at H; exact H
            clear H
            have H := H1
            clear H1
            have H' := Aside0.mk H
            clear H
            obtain ⟨Ao15, co15, eo15⟩ := Kd.R_slice HO155.out
            subst eo15
            have p156 : 0 ≤ (0 : Int) := (by omega)
            have q156 : 0 < (t151.length : Int) := of_decide_eq_true (by first | (with_reducible assumption) | assumption)
            obtain ⟨ad156, e156, hx156_0, hx156_1, hx156_2, hx156_3⟩ := at_T51 (Kd.R_reads' HO155.out).2.2 0 p156 q156
            cases e156
            have qi156 : (0 < t151.length) = True := eq_true (by omega)
            (try rw [show ((0 : Int)).toNat = 0 from rfl] at hx156_0)
            (try rw [show 0 * 4 = 0 from rfl] at hx156_0)
            (try rw [Addr.add_zero'] at hx156_0)
            (try rw [show ((0 : Int)).toNat = 0 from rfl] at hx156_1)
            (try rw [show 0 * 4 = 0 from rfl] at hx156_1)
            (try rw [Addr.add_zero'] at hx156_1)
            (try rw [show ((0 : Int)).toNat = 0 from rfl] at hx156_2)
            (try rw [show 0 * 4 = 0 from rfl] at hx156_2)
            (try rw [Addr.add_zero'] at hx156_2)
            (try rw [show ((0 : Int)).toNat = 0 from rfl] at hx156_3)
            (try rw [show 0 * 4 = 0 from rfl] at hx156_3)
            (try rw [Addr.add_zero'] at hx156_3)
            replace p156 := eq_true p156
            replace q156 := eq_true q156
            go_wp2_with (first | (go_at_call 17; (with_reducible refine (layout_ValidName.calls ((rd_T51 t151 0).f1) true _ A13.out).mono ?_); rintro e w' ⟨rfl, ⟨nd, rfl⟩⟩))
            go_meet
            case rel => exact ⟨_, ((t152.toList == ([] : List UInt8))), (by first | rfl | (simp; done) | (simp [*]; done)), H', ⟨by first | omega | exact Nat.le_refl _⟩, ⟨by (with_reducible repeat (first | apply Kd.R_alloc | apply Kd.R_drewN | apply Kd.R_drew)); exact HO155.out⟩, ⟨by (with_reducible repeat (first | refine blk_drewN ?_ _ | refine blk_drew ?_ | refine blk_alloc ?_ _)); exact BK145.out⟩, ⟨by repeat (first | (with_reducible first | exact HB.out | apply below_alloc | apply pw_below_drewN | apply below_drew1 | refine below_set ?_ GE145.out) | exact HB.out)⟩⟩
          · replace c14 := Bool.eq_false_iff.mpr c14
            subst c14
            have H1 : (layout_Parse.j0 k t151 t152 true) = some (r1, r2, r3, r4, r5, r6, r7, r8, r9) := by rw [if_neg (show ¬ (false = true) by decide)] at H; exact H
            clear H
            have H := H1
            clear H1
            have H' := Aside0.mk H
            clear H
            obtain ⟨Ao16, co16, eo16⟩ := Kd.R_slice HO155.out
            subst eo16
            have p156 : 0 ≤ (0 : Int) := (by omega)
            have q156 : 0 < (t151.length : Int) := of_decide_eq_true (by first | (with_reducible assumption) | assumption)
            obtain ⟨ad156, e156, hx156_0, hx156_1, hx156_2, hx156_3⟩ := at_T51 (Kd.R_reads' HO155.out).2.2 0 p156 q156
            cases e156
            have qi156 : (0 < t151.length) = True := eq_true (by omega)
            (try rw [show ((0 : Int)).toNat = 0 from rfl] at hx156_0)
            (try rw [show 0 * 4 = 0 from rfl] at hx156_0)
            (try rw [Addr.add_zero'] at hx156_0)
            (try rw [show ((0 : Int)).toNat = 0 from rfl] at hx156_1)
            (try rw [show 0 * 4 = 0 from rfl] at hx156_1)
            (try rw [Addr.add_zero'] at hx156_1)
            (try rw [show ((0 : Int)).toNat = 0 from rfl] at hx156_2)
            (try rw [show 0 * 4 = 0 from rfl] at hx156_2)
            (try rw [Addr.add_zero'] at hx156_2)
            (try rw [show ((0 : Int)).toNat = 0 from rfl] at hx156_3)
            (try rw [show 0 * 4 = 0 from rfl] at hx156_3)
            (try rw [Addr.add_zero'] at hx156_3)
            replace p156 := eq_true p156
            replace q156 := eq_true q156
            go_wp2_with (first | (go_at_call 17; (with_reducible refine (layout_ValidName.calls ((rd_T51 t151 0).f1) false _ A13.out).mono ?_); rintro e w' ⟨rfl, ⟨nd, rfl⟩⟩))
            go_meet
            case rel => exact ⟨_, (true), (by first | rfl | (simp; done) | (simp [*]; done)), H', ⟨by first | omega | exact Nat.le_refl _⟩, ⟨by (with_reducible repeat (first | apply Kd.R_alloc | apply Kd.R_drewN | apply Kd.R_drew)); exact HO155.out⟩, ⟨by (with_reducible repeat (first | refine blk_drewN ?_ _ | refine blk_drew ?_ | refine blk_alloc ?_ _)); exact BK145.out⟩, ⟨by repeat (first | (with_reducible first | exact HB.out | apply below_alloc | apply pw_below_drewN | apply below_drew1 | refine below_set ?_ GE145.out) | exact HB.out)⟩⟩
        · rw [if_neg c12] at H
          exact absurd H (by simp)
      · rw [if_neg c11] at H
        have c11b0 : (t153 == 0) = false := beq_eq_false_iff_ne.mpr c11
        have c11b1 : (t153 != 0) = true := bne_iff_ne.mpr c11
        (first | rw [c11b0] | (simp only [i64_w, i32_w]; rw [c11b0]) | skip)
        have H' := Aside0.mk H
        clear H
        go_wp2
        go_meet
        case rel => exact ⟨_, (true), (by first | rfl | (simp; done) | (simp [*]; done)), H', ⟨by first | omega | exact Nat.le_refl _⟩, ⟨by (with_reducible repeat (first | apply Kd.R_alloc | apply Kd.R_drewN | apply Kd.R_drew)); exact HO155.out⟩, ⟨by (with_reducible repeat (first | refine blk_drewN ?_ _ | refine blk_drew ?_ | refine blk_alloc ?_ _)); exact BK145.out⟩, ⟨by repeat (first | (with_reducible first | exact HB.out | apply below_alloc | apply pw_below_drewN | apply below_drew1 | refine below_set ?_ GE145.out) | exact HB.out)⟩⟩
    · replace c10 := Bool.eq_false_iff.mpr c10
      subst c10
      have H1 : (layout_Parse.j0 k t151 t152 true) = some (r1, r2, r3, r4, r5, r6, r7, r8, r9) := by rw [if_neg (show ¬ (false = true) by decide)] at H; exact H
      clear H
      have H := H1
      clear H1
      have H' := Aside0.mk H
      clear H
      go_wp2
      go_meet
      case rel => exact ⟨_, (true), (by first | rfl | (simp; done) | (simp [*]; done)), H', ⟨by first | omega | exact Nat.le_refl _⟩, ⟨by (with_reducible repeat (first | apply Kd.R_alloc | apply Kd.R_drewN | apply Kd.R_drew)); exact HO155.out⟩, ⟨by (with_reducible repeat (first | refine blk_drewN ?_ _ | refine blk_drew ?_ | refine blk_alloc ?_ _)); exact BK145.out⟩, ⟨by repeat (first | (with_reducible first | exact HB.out | apply below_alloc | apply pw_below_drewN | apply below_drew1 | refine below_set ?_ GE145.out) | exact HB.out)⟩⟩
  case rest =>
    clear HC4
    try clear c1
    try clear p1
    try clear q1
    try clear hx1
    try clear qi1
    try clear c2
    try clear p2
    try clear c7
    try clear c10
    try clear c11
    try clear c11b0
    try clear c11b1
    try clear c12
    try clear c12b0
    try clear c12b1
    try clear c14
    try clear p15
    try clear q15
    try clear hx15
    try clear qi15
    try clear hx156_0
    try clear hx156_1
    try clear hx156_2
    try clear hx156_3
    try clear p156
    try clear q156
    obtain ⟨kq, x39_3, rfl, HA, HJ3, HO_6, BK145, HB⟩ := hcut
    cases kq with
    | zero => exact absurd HA.out (by simp [layout_Parse.j0])
    | succ kj3 =>
      have H := HA.out
      clear HA
      simp only [layout_Parse.j0] at H
      by_cases c17 : x39_3 = true
      · subst c17
        have H1 : (some ((⟨#[]⟩ : ByteArray), 0, (⟨#[]⟩ : ByteArray), 0, 0, 0, 0, 0, 4)) = some (r1, r2, r3, r4, r5, r6, r7, r8, r9) := by rw [if_pos rfl] at H; exact H
        clear H
        have H := H1
        clear H1
        simp only [Option.some.injEq, Prod.mk.injEq] at H
        obtain ⟨rfl, rfl, rfl, rfl, rfl, rfl, rfl, rfl, rfl⟩ := H
        have hcz18_0 : wc.cell? ⟨gb145, 0, none⟩ = some (.string (⟨#[]⟩ : ByteArray)) := (blk_cell BK145.out 0).trans rfl
        have hcz18_1 : wc.cell? ⟨gb145, 1, none⟩ = some (.int .i64 0) := (blk_cell BK145.out 1).trans rfl
        have hcz18_2 : wc.cell? ⟨gb145, 2, none⟩ = some (.string (⟨#[]⟩ : ByteArray)) := (blk_cell BK145.out 2).trans rfl
        have hcz18_3 : wc.cell? ⟨gb145, 3, none⟩ = some (.int .u8 0) := (blk_cell BK145.out 3).trans rfl
        have hcz18_4 : wc.cell? ⟨gb145, 4, none⟩ = some (.int .u8 0) := (blk_cell BK145.out 4).trans rfl
        have hcz18_5 : wc.cell? ⟨gb145, 5, none⟩ = some (.int .u8 0) := (blk_cell BK145.out 5).trans rfl
        have hcz18_6 : wc.cell? ⟨gb145, 6, none⟩ = some (.int .u8 0) := (blk_cell BK145.out 6).trans rfl
        have hcz18_7 : wc.cell? ⟨gb145, 7, none⟩ = some (.int .u64 0) := (blk_cell BK145.out 7).trans rfl
        have hfz18_0 := blk_frozen BK145.out 0
        have hfz18_1 := blk_frozen BK145.out 1
        have hfz18_2 := blk_frozen BK145.out 2
        have hfz18_3 := blk_frozen BK145.out 3
        have hfz18_4 := blk_frozen BK145.out 4
        have hfz18_5 := blk_frozen BK145.out 5
        have hfz18_6 := blk_frozen BK145.out 6
        have hfz18_7 := blk_frozen BK145.out 7
        go_wp2
        refine bodyPost_ret (results_ct rfl _ _ gb145 29 #[.string (⟨#[]⟩ : ByteArray), .int .i64 0, .string (⟨#[]⟩ : ByteArray), .int .u8 0, .int .u8 0, .int .u8 0, .int .u8 0, .int .u64 0] (0, 0) _ rfl (by (with_reducible repeat (first | refine blk_drewN ?_ _ | refine blk_drew ?_ | refine blk_alloc ?_ _)); refine blk_put (cs := #[.string (⟨#[]⟩ : ByteArray), .int .i64 0, .string (⟨#[]⟩ : ByteArray), .int .u8 0, .int .u8 0, .int .u8 0, .int .u8 0, .int .u64 0]) ?_ 7 _ rfl; (with_reducible repeat (first | refine blk_drewN ?_ _ | refine blk_drew ?_ | refine blk_alloc ?_ _)); refine blk_put (cs := #[.string (⟨#[]⟩ : ByteArray), .int .i64 0, .string (⟨#[]⟩ : ByteArray), .int .u8 0, .int .u8 0, .int .u8 0, .int .u8 0, .int .u64 0]) ?_ 6 _ rfl; (with_reducible repeat (first | refine blk_drewN ?_ _ | refine blk_drew ?_ | refine blk_alloc ?_ _)); refine blk_put (cs := #[.string (⟨#[]⟩ : ByteArray), .int .i64 0, .string (⟨#[]⟩ : ByteArray), .int .u8 0, .int .u8 0, .int .u8 0, .int .u8 0, .int .u64 0]) ?_ 5 _ rfl; (with_reducible repeat (first | refine blk_drewN ?_ _ | refine blk_drew ?_ | refine blk_alloc ?_ _)); refine blk_put (cs := #[.string (⟨#[]⟩ : ByteArray), .int .i64 0, .string (⟨#[]⟩ : ByteArray), .int .u8 0, .int .u8 0, .int .u8 0, .int .u8 0, .int .u64 0]) ?_ 4 _ rfl; (with_reducible repeat (first | refine blk_drewN ?_ _ | refine blk_drew ?_ | refine blk_alloc ?_ _)); refine blk_put (cs := #[.string (⟨#[]⟩ : ByteArray), .int .i64 0, .string (⟨#[]⟩ : ByteArray), .int .u8 0, .int .u8 0, .int .u8 0, .int .u8 0, .int .u64 0]) ?_ 3 _ rfl; (with_reducible repeat (first | refine blk_drewN ?_ _ | refine blk_drew ?_ | refine blk_alloc ?_ _)); refine blk_put (cs := #[.string (⟨#[]⟩ : ByteArray), .int .i64 0, .string (⟨#[]⟩ : ByteArray), .int .u8 0, .int .u8 0, .int .u8 0, .int .u8 0, .int .u64 0]) ?_ 2 _ rfl; (with_reducible repeat (first | refine blk_drewN ?_ _ | refine blk_drew ?_ | refine blk_alloc ?_ _)); refine blk_put (cs := #[.string (⟨#[]⟩ : ByteArray), .int .i64 0, .string (⟨#[]⟩ : ByteArray), .int .u8 0, .int .u8 0, .int .u8 0, .int .u8 0, .int .u64 0]) ?_ 1 _ rfl; (with_reducible repeat (first | refine blk_drewN ?_ _ | refine blk_drew ?_ | refine blk_alloc ?_ _)); refine blk_put (cs := #[.string (⟨#[]⟩ : ByteArray), .int .i64 0, .string (⟨#[]⟩ : ByteArray), .int .u8 0, .int .u8 0, .int .u8 0, .int .u8 0, .int .u64 0]) ?_ 0 _ rfl; (with_reducible repeat (first | refine blk_drewN ?_ _ | refine blk_drew ?_ | refine blk_alloc ?_ _)); exact BK145.out) Tryd.underlying29 rfl (by kernel_rfl)) rfl ?_
        exact ⟨by first | rfl | (simp [errW_none, errW_some] <;> rfl) | (simp [*, errW_none, errW_some] <;> rfl), by repeat (first | (with_reducible first | exact HB.out | apply below_alloc | apply pw_below_drewN | apply below_drew1 | refine below_set ?_ GE145.out) | exact HB.out)⟩
      · replace c17 := Bool.eq_false_iff.mpr c17
        subst c17
        have H1 : (if 0 < (t151.length : Int) then (if 0 < (t152.size : Int) then (if (wrap64 (bt t152 0)) = 3 then (if 1 ≤ (t152.size : Int) then ((layout_elem.f kj3 ((rd_T51 t151 0).f1) (wrap64 (bt t152 0)) (⟨#[]⟩ : ByteArray) 0 0 0 0 0 (t152.extract 1 t152.size)).bind fun bt160 => (some (bt160.1, bt160.2.1, bt160.2.2.1, bt160.2.2.2.1, bt160.2.2.2.2.1, bt160.2.2.2.2.2.1, bt160.2.2.2.2.2.2.1, bt160.2.2.2.2.2.2.2.1, bt160.2.2.2.2.2.2.2.2))) else (none)) else (if (wrap64 (bt t152 0)) > 3 then (some ((⟨#[]⟩ : ByteArray), 0, (⟨#[]⟩ : ByteArray), 0, 0, 0, 0, 0, 4)) else (if (t152.size : Int) > 1 then (some ((⟨#[]⟩ : ByteArray), 0, (⟨#[]⟩ : ByteArray), 0, 0, 0, 0, 0, 4)) else (some ((rd_T51 t151 0).f1, wrap64 (bt t152 0), (⟨#[]⟩ : ByteArray), 0, 0, 0, 0, 0, 0))))) else (none)) else (none)) = some (r1, r2, r3, r4, r5, r6, r7, r8, r9) := by rw [if_neg (show ¬ (false = true) by decide)] at H; exact H
        clear H
        have H := H1
        clear H1
        by_cases c19 : 0 < (t151.length : Int)
        · rw [if_pos c19] at H
          have c19b0 : decide (0 < (t151.length : Int)) = true := decide_eq_true c19
          have c19b1 : decide (0 < t151.length) = true := decide_eq_true (by omega)
          clear c19
          by_cases c20 : 0 < (t152.size : Int)
          · rw [if_pos c20] at H
            have c20b0 : decide (0 < (t152.size : Int)) = true := decide_eq_true c20
            have c20b1 : decide (0 < t152.size) = true := decide_eq_true (by omega)
            clear c20
            by_cases c22 : (wrap64 (bt t152 0)) = 3
            · rw [if_pos c22] at H
              have c22b0 : ((wrap64 (bt t152 0)) == 3) = true := beq_iff_eq.mpr c22
              have c22b1 : ((wrap64 (bt t152 0)) != 3) = false := bne_eq_false_iff_eq.mpr c22
              clear c22
              by_cases c23 : 1 ≤ (t152.size : Int)
              · rw [if_pos c23] at H
                have c23b0 := eq_true c23
                have c23b1 : decide (1 ≤ (t152.size : Int)) = true := decide_eq_true c23
                clear c23
                replace H := Option.bind_eq_some_iff.mp H
                obtain ⟨⟨t160, t161, t162, t163, t164, t165, t166, t167, t168⟩, A240, H⟩ := H
                replace H : (some (t160, t161, t162, t163, t164, t165, t166, t167, t168)) = some (r1, r2, r3, r4, r5, r6, r7, r8, r9) := H
                have A24 := Aside0.mk A240
                clear A240
                simp only [Option.some.injEq, Prod.mk.injEq] at H
                obtain ⟨rfl, rfl, rfl, rfl, rfl, rfl, rfl, rfl, rfl⟩ := H
                try go_wp2
                have n0_ := Aside0.mk (Kd.R_drew HO_6.out)
                have n1_ := Aside0.mk (blk_drew BK145.out)
                have n2_ := Aside0.mk (below_drew1 HB.out)
                clear HO_6
                clear BK145
                clear HB
                have HO_6 := n0_
                have BK145 := n1_
                have HB := n2_
                clear n0_ n1_ n2_
                obtain ⟨Ao26, co26, eo26⟩ := Kd.R_slice HO_6.out
                (first | subst eo26 | (injection eo26 with f1_ f2_ f3_; have f4_ := f1_.symm; have f5_ := f3_.symm; clear f1_ f2_ f3_; subst f4_; subst f5_))
                have p158 : 0 ≤ (0 : Int) := (by omega)
                have q158 : 0 < (t151.length : Int) := of_decide_eq_true (by first | (with_reducible assumption) | assumption)
                obtain ⟨ad158, e158, hx158_0, hx158_1, hx158_2, hx158_3⟩ := at_T51 (Kd.R_reads' HO_6.out).2.2 0 p158 q158
                cases e158
                have qi158 : (0 < t151.length) = True := eq_true (by omega)
                (try rw [show ((0 : Int)).toNat = 0 from rfl] at hx158_0)
                (try rw [show 0 * 4 = 0 from rfl] at hx158_0)
                (try rw [Addr.add_zero'] at hx158_0)
                (try rw [show ((0 : Int)).toNat = 0 from rfl] at hx158_1)
                (try rw [show 0 * 4 = 0 from rfl] at hx158_1)
                (try rw [Addr.add_zero'] at hx158_1)
                (try rw [show ((0 : Int)).toNat = 0 from rfl] at hx158_2)
                (try rw [show 0 * 4 = 0 from rfl] at hx158_2)
                (try rw [Addr.add_zero'] at hx158_2)
                (try rw [show ((0 : Int)).toNat = 0 from rfl] at hx158_3)
                (try rw [show 0 * 4 = 0 from rfl] at hx158_3)
                (try rw [Addr.add_zero'] at hx158_3)
                replace p158 := eq_true p158
                replace q158 := eq_true q158
                have p21 : 0 ≤ (0 : Int) := (by omega)
                have q21 : 0 < t152.size := (by have : (0 : Int) < (t152.size : Int) := of_decide_eq_true (by first | (with_reducible assumption) | assumption); omega)
                have hx21 : ∀ h : 0 < t152.size, ((t152[0]'h).toNat : Int) = bt t152 0 := bt_at t152 0
                clear p21
                have qi21 : (0 < (t152.size : Int)) = True := eq_true (of_decide_eq_true (by first | (with_reducible assumption) | assumption))
                replace q21 := eq_true q21
                refine start_ (n := 10) (S := fun w' => w'.cell? ad158 = some (.int .i64 ((rd_T51 t151 0).f0)) ∧ w'.cell? ⟨ad158.block, ad158.off + 1, none⟩ = some (.string ((rd_T51 t151 0).f1)) ∧ w'.cell? ⟨ad158.block, ad158.off + 2, none⟩ = some (.int .u64 ((rd_T51 t151 0).f2)) ∧ w'.cell? ⟨ad158.block, ad158.off + 3, none⟩ = some (.int .i64 ((rd_T51 t151 0).f3))) (ds := []) #[false, false, false, false, false, false, false, false, false, false] (by kernel_rfl) rfl rfl ⟨hx158_0, hx158_1, hx158_2, hx158_3⟩ (fun hHeld => ?_); refine with_tabW layout_Parse.tab5 layout_Parse.bits5 (fun HT_ HW_ => ?_)
                generalize wc.drew = w25 at HO_6 BK145 HB hx158_0 hx158_1 hx158_2 hx158_3 hHeld ⊢
                refine pure_ (i := 0) (N := some 41) (v := ?_) (a' := ?_) #[true, false, false, false, false, false, false, false, false, false] rfl rfl (any_of HT_.out (by kernel_rfl)) (fun _ _ _ h => h) (Or.inl ⟨by rfl, ?_⟩) ?_ ?_
                rotate_left
                · intro w'
                  go_simp
                  with_reducible rfl
                rotate_left
                · simp only [Act.put, List.setIfInBounds_toArray, List.set_cons_zero, List.set_cons_succ, i64_w, i32_w]
                  rfl
                refine pure_ (i := 1) (N := some 42) (v := ?_) (a' := ?_) #[true, true, false, false, false, false, false, false, false, false] rfl rfl (any_of HT_.out (by kernel_rfl)) (fun _ _ _ h => h) (Or.inl ⟨by rfl, ?_⟩) ?_ ?_
                rotate_left
                · intro w'
                  go_simp
                  with_reducible rfl
                rotate_left
                · simp only [Act.put, List.setIfInBounds_toArray, List.set_cons_zero, List.set_cons_succ, i64_w, i32_w]
                  rfl
                refine pure_ (i := 2) (N := some 43) (v := ?_) (a' := ?_) #[true, true, true, false, false, false, false, false, false, false] rfl rfl (any_of HT_.out (by kernel_rfl)) (fun _ _ _ h => h) (Or.inl ⟨by rfl, ?_⟩) ?_ ?_
                rotate_left
                · intro w'
                  go_simp
                  with_reducible rfl
                rotate_left
                · simp only [Act.put, List.setIfInBounds_toArray, List.set_cons_zero, List.set_cons_succ, i64_w, i32_w]
                  rfl
                refine pure_ (i := 4) (N := some 45) (v := ?_) (a' := ?_) #[true, true, true, false, true, false, false, false, false, false] rfl rfl (any_of HT_.out (by kernel_rfl)) (fun _ _ _ h => h) (Or.inl ⟨by rfl, ?_⟩) ?_ ?_
                rotate_left
                · intro w'
                  go_simp
                  with_reducible rfl
                rotate_left
                · simp only [Act.put, List.setIfInBounds_toArray, List.set_cons_zero, List.set_cons_succ, i64_w, i32_w]
                  rfl
                refine take_ (i := 3) (N := some 44) (v := ?_) (a' := ?_) #[true, true, true, true, true, false, false, false, false, false] rfl rfl (take_ofW HT_.out HW_.out (by kernel_rfl)) (fun _ _ _ h => h) (Or.inl ⟨by rfl, ?_⟩) hHeld ?_ ?_
                rotate_left
                · rintro w' ⟨s0, s1, s2, s3⟩
                  go_simp
                  with_reducible rfl
                rotate_left
                · simp only [Act.put, List.setIfInBounds_toArray, List.set_cons_zero, List.set_cons_succ, i64_w, i32_w]
                  rfl
                refine take_ (i := 5) (N := some 46) (v := ?_) (a' := ?_) #[true, true, true, true, true, true, false, false, false, false] rfl rfl (take_ofW HT_.out HW_.out (by kernel_rfl)) (fun _ _ _ h => h) (Or.inl ⟨by rfl, ?_⟩) hHeld ?_ ?_
                rotate_left
                · rintro w' ⟨s0, s1, s2, s3⟩
                  go_simp
                  with_reducible rfl
                rotate_left
                · simp only [Act.put, List.setIfInBounds_toArray, List.set_cons_zero, List.set_cons_succ, i64_w, i32_w]
                  rfl
                refine pure_ (i := 6) (N := some 47) (v := ?_) (a' := ?_) #[true, true, true, true, true, true, true, false, false, false] rfl rfl (any_of HT_.out (by kernel_rfl)) (fun _ _ _ h => h) (Or.inl ⟨by rfl, ?_⟩) ?_ ?_
                rotate_left
                · intro w'
                  go_simp
                  with_reducible rfl
                rotate_left
                · simp only [Act.put, List.setIfInBounds_toArray, List.set_cons_zero, List.set_cons_succ, i64_w, i32_w]
                  rfl
                refine pure_ (i := 7) (N := some 48) (v := ?_) (a' := ?_) #[true, true, true, true, true, true, true, true, false, false] rfl rfl (any_of HT_.out (by kernel_rfl)) (fun _ _ _ h => h) (Or.inl ⟨by rfl, ?_⟩) ?_ ?_
                rotate_left
                · intro w'
                  go_simp
                  with_reducible rfl
                rotate_left
                · simp only [Act.put, List.setIfInBounds_toArray, List.set_cons_zero, List.set_cons_succ, i64_w, i32_w]
                  rfl
                refine one_ (i := 8) (N := some 9) #[true, true, true, true, true, true, true, true, true, false] rfl rfl (one_of HT_.out (by kernel_rfl)) (by decide) (fun K hK => ?_)
                refine box_step ?hg (N := 9) ?hd (cs := #[.string (⟨#[]⟩ : ByteArray), .int .i64 0, .string (⟨#[]⟩ : ByteArray), .int .u8 0, .int .u8 0, .int .u8 0, .int .u8 0, .int .u64 0]) (t := 29) ?hr ?_; (case hd => rfl); (case hg => rfl); (case hr => first | (go_simp; done) | (go_simp; rfl))
                intro gb159 hg w27 hbox hb
                have HS0_ := (hb.cell (World.block_lt_of_cell? _ _ (hHeld.1))).trans (hHeld.1)
                have HS1_ := (hb.cell (World.block_lt_of_cell? _ _ (hHeld.2.1))).trans (hHeld.2.1)
                have HS2_ := (hb.cell (World.block_lt_of_cell? _ _ (hHeld.2.2.1))).trans (hHeld.2.2.1)
                have HS3_ := (hb.cell (World.block_lt_of_cell? _ _ (hHeld.2.2.2))).trans (hHeld.2.2.2)
                have n0_ := Aside0.mk (Kd.R_below (by (with_reducible repeat (first | apply Kd.R_alloc | apply Kd.R_drewN | apply Kd.R_drew)); exact HO_6.out) hb)
                have n1_ := Aside0.mk (blk_below (g := gb145) (o := .cells #[.string (⟨#[]⟩ : ByteArray), .int .i64 0, .string (⟨#[]⟩ : ByteArray), .int .u8 0, .int .u8 0, .int .u8 0, .int .u8 0, .int .u64 0] 29 (0, 0)) (by (with_reducible repeat (first | refine blk_drewN ?_ _ | refine blk_drew ?_ | refine blk_alloc ?_ _)); exact BK145.out) hb)
                have n2_ := Aside0.mk (below_step (by repeat (first | (with_reducible first | exact HB.out | apply below_alloc | apply pw_below_drewN | apply below_drew1 | refine below_set ?_ GE145.out) | exact HB.out)) hb)
                have n3_ := Aside0.mk (hbox)
                have n4_ := Aside0.mk ((by rw [hg]; exact (below_size (by repeat (first | (with_reducible first | exact HB.out | apply below_alloc | apply pw_below_drewN | apply below_drew1 | refine below_set ?_ GE145.out) | exact HB.out))) : w.heap.size ≤ gb159))
                have n5_ := Aside0.mk ((by rw [hg]; exact (below_size (by repeat (first | (with_reducible first | exact HB.out | apply below_alloc | apply pw_below_drewN | apply below_drew1 | refine below_set ?_ GE145.out) | exact HB.out))) : w.heap.size ≤ gb159))
                have n6_ := Aside0.mk ((by rw [hg]; exact Nat.ne_of_lt (blk_lt (g := gb145) (o := .cells #[.string (⟨#[]⟩ : ByteArray), .int .i64 0, .string (⟨#[]⟩ : ByteArray), .int .u8 0, .int .u8 0, .int .u8 0, .int .u8 0, .int .u64 0] 29 (0, 0)) (by (with_reducible repeat (first | refine blk_drewN ?_ _ | refine blk_drew ?_ | refine blk_alloc ?_ _)); exact BK145.out)) : gb145 ≠ gb159))
                have n7_ := Aside0.mk ((by rw [hg]; exact Nat.ne_of_gt (blk_lt (g := gb145) (o := .cells #[.string (⟨#[]⟩ : ByteArray), .int .i64 0, .string (⟨#[]⟩ : ByteArray), .int .u8 0, .int .u8 0, .int .u8 0, .int .u8 0, .int .u64 0] 29 (0, 0)) (by (with_reducible repeat (first | refine blk_drewN ?_ _ | refine blk_drew ?_ | refine blk_alloc ?_ _)); exact BK145.out)) : gb159 ≠ gb145))
                clear HO_6
                clear BK145
                clear HB
                have HO_6 := n0_
                have BK145 := n1_
                have HB := n2_
                have BK159 := n3_
                have GW159 := n4_
                have GE159 := n5_
                have NB145_159 := n6_
                have NB159_145 := n7_
                clear n0_ n1_ n2_ n3_ n4_ n5_ n6_ n7_
                clear hb hbox hg
                refine hK.out _ _ ⟨HS0_, HS1_, HS2_, HS3_⟩ (fun hHeld => ?_)
                clear hK K
                refine norm_ (a' := ?_) ?_ ?_
                rotate_left
                · show Act.put _ (some 9) _ = _
                  simp only [Act.put, List.setIfInBounds_toArray, List.set_cons_zero, List.set_cons_succ, i64_w, i32_w]
                  rfl
                refine one_ (i := 9) (N := none) #[true, true, true, true, true, true, true, true, true, true] rfl rfl (one_of HT_.out (by kernel_rfl)) (by decide) (fun K hK => ?_)
                have hs28 : w27.cell? ⟨gb159, 0, none⟩ = some (.string (⟨#[]⟩ : ByteArray)) := (blk_cell BK159.out 0).trans rfl
                have hfs28 := blk_frozen BK159.out 0
                have hns28_0 := NB145_159.out
                have hms28_0 := NB159_145.out
                have hs29 : w27.cell? ⟨gb159, 1, none⟩ = some (.int .i64 0) := (blk_cell BK159.out 1).trans rfl
                have hfs29 := blk_frozen BK159.out 1
                have hns29_0 := NB145_159.out
                have hms29_0 := NB159_145.out
                have hs30 : w27.cell? ⟨gb159, 2, none⟩ = some (.string (⟨#[]⟩ : ByteArray)) := (blk_cell BK159.out 2).trans rfl
                have hfs30 := blk_frozen BK159.out 2
                have hns30_0 := NB145_159.out
                have hms30_0 := NB159_145.out
                have hs31 : w27.cell? ⟨gb159, 3, none⟩ = some (.int .u8 0) := (blk_cell BK159.out 3).trans rfl
                have hfs31 := blk_frozen BK159.out 3
                have hns31_0 := NB145_159.out
                have hms31_0 := NB159_145.out
                have hs32 : w27.cell? ⟨gb159, 4, none⟩ = some (.int .u8 0) := (blk_cell BK159.out 4).trans rfl
                have hfs32 := blk_frozen BK159.out 4
                have hns32_0 := NB145_159.out
                have hms32_0 := NB159_145.out
                have hs33 : w27.cell? ⟨gb159, 5, none⟩ = some (.int .u8 0) := (blk_cell BK159.out 5).trans rfl
                have hfs33 := blk_frozen BK159.out 5
                have hns33_0 := NB145_159.out
                have hms33_0 := NB159_145.out
                have hs34 : w27.cell? ⟨gb159, 6, none⟩ = some (.int .u8 0) := (blk_cell BK159.out 6).trans rfl
                have hfs34 := blk_frozen BK159.out 6
                have hns34_0 := NB145_159.out
                have hms34_0 := NB159_145.out
                have hs35 : w27.cell? ⟨gb159, 7, none⟩ = some (.int .u64 0) := (blk_cell BK159.out 7).trans rfl
                have hfs35 := blk_frozen BK159.out 7
                have hns35_0 := NB145_159.out
                have hms35_0 := NB159_145.out
                refine skip_ (w1 := ?_) (by rfl) rfl ?_ ?_
                rotate_left
                · go_simp
                  rfl
                refine hK.out _ _ ⟨(far_cell_ (g := gb159) (by with_reducible repeat (first | exact FarFrom_.refl _ _ | apply FarFrom_.set)) (by first | exact Kd.own_blk (Kd.R_ne HO_6.out BK159.out (by decide)) | (rw [add_block]; exact Kd.own_blk (Kd.R_ne HO_6.out BK159.out (by decide))) | (show (Addr.add _ _).block ≠ _; rw [add_block]; exact Kd.own_blk (Kd.R_ne HO_6.out BK159.out (by decide))) | (dsimp only; exact Kd.own_blk (Kd.R_ne HO_6.out BK159.out (by decide)))) (hHeld.1)), (far_cell_ (g := gb159) (by with_reducible repeat (first | exact FarFrom_.refl _ _ | apply FarFrom_.set)) (by first | exact Kd.own_blk (Kd.R_ne HO_6.out BK159.out (by decide)) | (rw [add_block]; exact Kd.own_blk (Kd.R_ne HO_6.out BK159.out (by decide))) | (show (Addr.add _ _).block ≠ _; rw [add_block]; exact Kd.own_blk (Kd.R_ne HO_6.out BK159.out (by decide))) | (dsimp only; exact Kd.own_blk (Kd.R_ne HO_6.out BK159.out (by decide)))) (hHeld.2.1)), (far_cell_ (g := gb159) (by with_reducible repeat (first | exact FarFrom_.refl _ _ | apply FarFrom_.set)) (by first | exact Kd.own_blk (Kd.R_ne HO_6.out BK159.out (by decide)) | (rw [add_block]; exact Kd.own_blk (Kd.R_ne HO_6.out BK159.out (by decide))) | (show (Addr.add _ _).block ≠ _; rw [add_block]; exact Kd.own_blk (Kd.R_ne HO_6.out BK159.out (by decide))) | (dsimp only; exact Kd.own_blk (Kd.R_ne HO_6.out BK159.out (by decide)))) (hHeld.2.2.1)), (far_cell_ (g := gb159) (by with_reducible repeat (first | exact FarFrom_.refl _ _ | apply FarFrom_.set)) (by first | exact Kd.own_blk (Kd.R_ne HO_6.out BK159.out (by decide)) | (rw [add_block]; exact Kd.own_blk (Kd.R_ne HO_6.out BK159.out (by decide))) | (show (Addr.add _ _).block ≠ _; rw [add_block]; exact Kd.own_blk (Kd.R_ne HO_6.out BK159.out (by decide))) | (dsimp only; exact Kd.own_blk (Kd.R_ne HO_6.out BK159.out (by decide)))) (hHeld.2.2.2))⟩ (fun hHeld => ?_)
                clear hK K
                refine done_ (done_of HT_.out (by kernel_rfl)) ?_
                have hnb36 := NB159_145.out
                have hnc36 := NB145_159.out
                have hcz37_0 : w27.cell? ⟨gb159, 0, none⟩ = some (.string (⟨#[]⟩ : ByteArray)) := (blk_cell BK159.out 0).trans rfl
                have hcz37_1 : w27.cell? ⟨gb159, 1, none⟩ = some (.int .i64 0) := (blk_cell BK159.out 1).trans rfl
                have hcz37_2 : w27.cell? ⟨gb159, 2, none⟩ = some (.string (⟨#[]⟩ : ByteArray)) := (blk_cell BK159.out 2).trans rfl
                have hcz37_3 : w27.cell? ⟨gb159, 3, none⟩ = some (.int .u8 0) := (blk_cell BK159.out 3).trans rfl
                have hcz37_4 : w27.cell? ⟨gb159, 4, none⟩ = some (.int .u8 0) := (blk_cell BK159.out 4).trans rfl
                have hcz37_5 : w27.cell? ⟨gb159, 5, none⟩ = some (.int .u8 0) := (blk_cell BK159.out 5).trans rfl
                have hcz37_6 : w27.cell? ⟨gb159, 6, none⟩ = some (.int .u8 0) := (blk_cell BK159.out 6).trans rfl
                have hcz37_7 : w27.cell? ⟨gb159, 7, none⟩ = some (.int .u64 0) := (blk_cell BK159.out 7).trans rfl
                have hfz37_0 := blk_frozen BK159.out 0
                have hfz37_1 := blk_frozen BK159.out 1
                have hfz37_2 := blk_frozen BK159.out 2
                have hfz37_3 := blk_frozen BK159.out 3
                have hfz37_4 := blk_frozen BK159.out 4
                have hfz37_5 := blk_frozen BK159.out 5
                have hfz37_6 := blk_frozen BK159.out 6
                have hfz37_7 := blk_frozen BK159.out 7
                try go_wp2
                have n0_ : Aside0 (Kd.R k51 51 ((((((((w27.setCell ⟨gb159, 0, none⟩ (.string ((rd_T51 t151 0).f1))).setCell ⟨gb159, 1, none⟩ (.int .i64 (wrap64 (bt t152 0)))).setCell ⟨gb159, 2, none⟩ (.string (⟨#[]⟩ : ByteArray))).setCell ⟨gb159, 3, none⟩ (.int .u8 0)).setCell ⟨gb159, 4, none⟩ (.int .u8 0)).setCell ⟨gb159, 5, none⟩ (.int .u8 0)).setCell ⟨gb159, 6, none⟩ (.int .u8 0)).setCell ⟨gb159, 7, none⟩ (.int .u64 0)) w.heap.size (fun _ => True) (.slice (some ad158) t151.length co26) t151) := ⟨by (with_reducible repeat (first | apply Kd.R_alloc | apply Kd.R_drewN | apply Kd.R_drew)); exact Kd.R_mono (Kd.R_far (p := ⟨gb159, 7, none⟩) (Kd.R_far (p := ⟨gb159, 6, none⟩) (Kd.R_far (p := ⟨gb159, 5, none⟩) (Kd.R_far (p := ⟨gb159, 4, none⟩) (Kd.R_far (p := ⟨gb159, 3, none⟩) (Kd.R_far (p := ⟨gb159, 2, none⟩) (Kd.R_far (p := ⟨gb159, 1, none⟩) (Kd.R_far (p := ⟨gb159, 0, none⟩) (Kd.R_types HO_6.out BK159.out (by decide)) (fun _ hk => hk.2) (.string ((rd_T51 t151 0).f1))) (fun _ hk => hk.2) (.int .i64 (wrap64 (bt t152 0)))) (fun _ hk => hk.2) (.string (⟨#[]⟩ : ByteArray))) (fun _ hk => hk.2) (.int .u8 0)) (fun _ hk => hk.2) (.int .u8 0)) (fun _ hk => hk.2) (.int .u8 0)) (fun _ hk => hk.2) (.int .u8 0)) (fun _ hk => hk.2) (.int .u64 0)) (fun _ hk => trivial)⟩
                have n1_ : Aside0 (((((((((w27.setCell ⟨gb159, 0, none⟩ (.string ((rd_T51 t151 0).f1))).setCell ⟨gb159, 1, none⟩ (.int .i64 (wrap64 (bt t152 0)))).setCell ⟨gb159, 2, none⟩ (.string (⟨#[]⟩ : ByteArray))).setCell ⟨gb159, 3, none⟩ (.int .u8 0)).setCell ⟨gb159, 4, none⟩ (.int .u8 0)).setCell ⟨gb159, 5, none⟩ (.int .u8 0)).setCell ⟨gb159, 6, none⟩ (.int .u8 0)).setCell ⟨gb159, 7, none⟩ (.int .u64 0)).heap[gb145]? = some (.cells #[.string (⟨#[]⟩ : ByteArray), .int .i64 0, .string (⟨#[]⟩ : ByteArray), .int .u8 0, .int .u8 0, .int .u8 0, .int .u8 0, .int .u64 0] 29 (0, 0))) := ⟨by (with_reducible repeat (first | refine blk_drewN ?_ _ | refine blk_drew ?_ | refine blk_alloc ?_ _)); refine blk_far ?_ NB145_159.out _; (with_reducible repeat (first | refine blk_drewN ?_ _ | refine blk_drew ?_ | refine blk_alloc ?_ _)); refine blk_far ?_ NB145_159.out _; (with_reducible repeat (first | refine blk_drewN ?_ _ | refine blk_drew ?_ | refine blk_alloc ?_ _)); refine blk_far ?_ NB145_159.out _; (with_reducible repeat (first | refine blk_drewN ?_ _ | refine blk_drew ?_ | refine blk_alloc ?_ _)); refine blk_far ?_ NB145_159.out _; (with_reducible repeat (first | refine blk_drewN ?_ _ | refine blk_drew ?_ | refine blk_alloc ?_ _)); refine blk_far ?_ NB145_159.out _; (with_reducible repeat (first | refine blk_drewN ?_ _ | refine blk_drew ?_ | refine blk_alloc ?_ _)); refine blk_far ?_ NB145_159.out _; (with_reducible repeat (first | refine blk_drewN ?_ _ | refine blk_drew ?_ | refine blk_alloc ?_ _)); refine blk_far ?_ NB145_159.out _; (with_reducible repeat (first | refine blk_drewN ?_ _ | refine blk_drew ?_ | refine blk_alloc ?_ _)); refine blk_far ?_ NB145_159.out _; (with_reducible repeat (first | refine blk_drewN ?_ _ | refine blk_drew ?_ | refine blk_alloc ?_ _)); exact BK145.out⟩
                have n2_ : Aside0 (((((((((w27.setCell ⟨gb159, 0, none⟩ (.string ((rd_T51 t151 0).f1))).setCell ⟨gb159, 1, none⟩ (.int .i64 (wrap64 (bt t152 0)))).setCell ⟨gb159, 2, none⟩ (.string (⟨#[]⟩ : ByteArray))).setCell ⟨gb159, 3, none⟩ (.int .u8 0)).setCell ⟨gb159, 4, none⟩ (.int .u8 0)).setCell ⟨gb159, 5, none⟩ (.int .u8 0)).setCell ⟨gb159, 6, none⟩ (.int .u8 0)).setCell ⟨gb159, 7, none⟩ (.int .u64 0)).heap[gb159]? = some (.cells #[.string ((rd_T51 t151 0).f1), .int .i64 (wrap64 (bt t152 0)), .string (⟨#[]⟩ : ByteArray), .int .u8 0, .int .u8 0, .int .u8 0, .int .u8 0, .int .u64 0] 29 (0, 0))) := ⟨by (with_reducible repeat (first | refine blk_drewN ?_ _ | refine blk_drew ?_ | refine blk_alloc ?_ _)); refine blk_put (cs := #[.string ((rd_T51 t151 0).f1), .int .i64 (wrap64 (bt t152 0)), .string (⟨#[]⟩ : ByteArray), .int .u8 0, .int .u8 0, .int .u8 0, .int .u8 0, .int .u64 0]) ?_ 7 _ rfl; (with_reducible repeat (first | refine blk_drewN ?_ _ | refine blk_drew ?_ | refine blk_alloc ?_ _)); refine blk_put (cs := #[.string ((rd_T51 t151 0).f1), .int .i64 (wrap64 (bt t152 0)), .string (⟨#[]⟩ : ByteArray), .int .u8 0, .int .u8 0, .int .u8 0, .int .u8 0, .int .u64 0]) ?_ 6 _ rfl; (with_reducible repeat (first | refine blk_drewN ?_ _ | refine blk_drew ?_ | refine blk_alloc ?_ _)); refine blk_put (cs := #[.string ((rd_T51 t151 0).f1), .int .i64 (wrap64 (bt t152 0)), .string (⟨#[]⟩ : ByteArray), .int .u8 0, .int .u8 0, .int .u8 0, .int .u8 0, .int .u64 0]) ?_ 5 _ rfl; (with_reducible repeat (first | refine blk_drewN ?_ _ | refine blk_drew ?_ | refine blk_alloc ?_ _)); refine blk_put (cs := #[.string ((rd_T51 t151 0).f1), .int .i64 (wrap64 (bt t152 0)), .string (⟨#[]⟩ : ByteArray), .int .u8 0, .int .u8 0, .int .u8 0, .int .u8 0, .int .u64 0]) ?_ 4 _ rfl; (with_reducible repeat (first | refine blk_drewN ?_ _ | refine blk_drew ?_ | refine blk_alloc ?_ _)); refine blk_put (cs := #[.string ((rd_T51 t151 0).f1), .int .i64 (wrap64 (bt t152 0)), .string (⟨#[]⟩ : ByteArray), .int .u8 0, .int .u8 0, .int .u8 0, .int .u8 0, .int .u64 0]) ?_ 3 _ rfl; (with_reducible repeat (first | refine blk_drewN ?_ _ | refine blk_drew ?_ | refine blk_alloc ?_ _)); refine blk_put (cs := #[.string ((rd_T51 t151 0).f1), .int .i64 (wrap64 (bt t152 0)), .string (⟨#[]⟩ : ByteArray), .int .u8 0, .int .u8 0, .int .u8 0, .int .u8 0, .int .u64 0]) ?_ 2 _ rfl; (with_reducible repeat (first | refine blk_drewN ?_ _ | refine blk_drew ?_ | refine blk_alloc ?_ _)); refine blk_put (cs := #[.string ((rd_T51 t151 0).f1), .int .i64 0, .string (⟨#[]⟩ : ByteArray), .int .u8 0, .int .u8 0, .int .u8 0, .int .u8 0, .int .u64 0]) ?_ 1 _ rfl; (with_reducible repeat (first | refine blk_drewN ?_ _ | refine blk_drew ?_ | refine blk_alloc ?_ _)); refine blk_put (cs := #[.string (⟨#[]⟩ : ByteArray), .int .i64 0, .string (⟨#[]⟩ : ByteArray), .int .u8 0, .int .u8 0, .int .u8 0, .int .u8 0, .int .u64 0]) ?_ 0 _ rfl; (with_reducible repeat (first | refine blk_drewN ?_ _ | refine blk_drew ?_ | refine blk_alloc ?_ _)); exact BK159.out⟩
                have n3_ : Aside0 (Below w.heap.size w ((((((((w27.setCell ⟨gb159, 0, none⟩ (.string ((rd_T51 t151 0).f1))).setCell ⟨gb159, 1, none⟩ (.int .i64 (wrap64 (bt t152 0)))).setCell ⟨gb159, 2, none⟩ (.string (⟨#[]⟩ : ByteArray))).setCell ⟨gb159, 3, none⟩ (.int .u8 0)).setCell ⟨gb159, 4, none⟩ (.int .u8 0)).setCell ⟨gb159, 5, none⟩ (.int .u8 0)).setCell ⟨gb159, 6, none⟩ (.int .u8 0)).setCell ⟨gb159, 7, none⟩ (.int .u64 0))) := ⟨by repeat (first | (with_reducible first | exact HB.out | apply below_alloc | apply pw_below_drewN | apply below_drew1 | refine below_set ?_ GE145.out | refine below_set ?_ GE159.out) | exact HB.out)⟩
                (try clear HO_6)
                (try clear BK145)
                (try clear BK159)
                (try clear HB)
                generalize ((((((((w27.setCell ⟨gb159, 0, none⟩ (.string ((rd_T51 t151 0).f1))).setCell ⟨gb159, 1, none⟩ (.int .i64 (wrap64 (bt t152 0)))).setCell ⟨gb159, 2, none⟩ (.string (⟨#[]⟩ : ByteArray))).setCell ⟨gb159, 3, none⟩ (.int .u8 0)).setCell ⟨gb159, 4, none⟩ (.int .u8 0)).setCell ⟨gb159, 5, none⟩ (.int .u8 0)).setCell ⟨gb159, 6, none⟩ (.int .u8 0)).setCell ⟨gb159, 7, none⟩ (.int .u64 0)) = w38 at n0_ n1_ n2_ n3_ ⊢
                have HO_6 := n0_
                have BK145 := n1_
                have BK159 := n2_
                have HB := n3_
                clear n0_ n1_ n2_ n3_
                have n0_ := Aside0.mk (Kd.R_drew HO_6.out)
                have n1_ := Aside0.mk (blk_drew BK145.out)
                have n2_ := Aside0.mk (blk_drew BK159.out)
                have n3_ := Aside0.mk (below_drew1 HB.out)
                clear HO_6
                clear BK145
                clear BK159
                clear HB
                have HO_6 := n0_
                have BK145 := n1_
                have BK159 := n2_
                have HB := n3_
                clear n0_ n1_ n2_ n3_
                refine start_ (n := 8) (S := fun w' => w'.cell? ⟨gb159, 0, none⟩ = some (.string ((rd_T51 t151 0).f1)) ∧ w'.cell? ⟨gb159, 1, none⟩ = some (.int .i64 (wrap64 (bt t152 0))) ∧ w'.cell? ⟨gb159, 2, none⟩ = some (.string (⟨#[]⟩ : ByteArray)) ∧ w'.cell? ⟨gb159, 3, none⟩ = some (.int .u8 0) ∧ w'.cell? ⟨gb159, 4, none⟩ = some (.int .u8 0) ∧ w'.cell? ⟨gb159, 5, none⟩ = some (.int .u8 0) ∧ w'.cell? ⟨gb159, 6, none⟩ = some (.int .u8 0) ∧ w'.cell? ⟨gb159, 7, none⟩ = some (.int .u64 0)) (ds := []) #[false, false, false, false, false, false, false, false] (by kernel_rfl) rfl rfl ⟨(blk_cell BK159.out 0).trans rfl, (blk_cell BK159.out 1).trans rfl, (blk_cell BK159.out 2).trans rfl, (blk_cell BK159.out 3).trans rfl, (blk_cell BK159.out 4).trans rfl, (blk_cell BK159.out 5).trans rfl, (blk_cell BK159.out 6).trans rfl, (blk_cell BK159.out 7).trans rfl⟩ (fun hHeld => ?_); refine with_tabW layout_Parse.tab7 layout_Parse.bits7 (fun HT_ HW_ => ?_)
                generalize w38.drew = w39 at HO_6 BK145 BK159 HB hHeld ⊢
                refine pure_ (i := 1) (N := some 54) (v := ?_) (a' := ?_) #[false, true, false, false, false, false, false, false] rfl rfl (any_of HT_.out (by kernel_rfl)) (fun _ _ _ h => h) (Or.inl ⟨by rfl, ?_⟩) ?_ ?_
                rotate_left
                · intro w'
                  go_simp
                  with_reducible rfl
                rotate_left
                · simp only [Act.put, List.setIfInBounds_toArray, List.set_cons_zero, List.set_cons_succ, i64_w, i32_w]
                  rfl
                refine pure_ (i := 2) (N := some 55) (v := ?_) (a' := ?_) #[false, true, true, false, false, false, false, false] rfl rfl (any_of HT_.out (by kernel_rfl)) (fun _ _ _ h => h) (Or.inl ⟨by rfl, ?_⟩) ?_ ?_
                rotate_left
                · intro w'
                  go_simp
                  with_reducible rfl
                rotate_left
                · simp only [Act.put, List.setIfInBounds_toArray, List.set_cons_zero, List.set_cons_succ, i64_w, i32_w]
                  rfl
                refine take_ (i := 0) (N := some 53) (v := ?_) (a' := ?_) #[true, true, true, false, false, false, false, false] rfl rfl (take_ofW HT_.out HW_.out (by kernel_rfl)) (fun _ _ _ h => h) (Or.inl ⟨by rfl, ?_⟩) hHeld ?_ ?_
                rotate_left
                · rintro w' ⟨s0, s1, s2, s3, s4, s5, s6, s7⟩
                  go_simp
                  with_reducible rfl
                rotate_left
                · simp only [Act.put, List.setIfInBounds_toArray, List.set_cons_zero, List.set_cons_succ, i64_w, i32_w]
                  rfl
                refine one_ (i := 3) (N := some 56) #[true, true, true, true, false, false, false, false] rfl rfl (one_of HT_.out (by kernel_rfl)) (by decide) (fun K hK => ?_)
                refine goes_ Tryd.func23 (by kernel_rfl) rfl #[.agg #[.string ((rd_T51 t151 0).f1), .int .i64 (wrap64 (bt t152 0)), .string (⟨#[]⟩ : ByteArray), .int .u8 0, .int .u8 0, .int .u8 0, .int .u8 0, .int .u64 0], .string (t152.extract 1 t152.size)] (by rfl) rfl rfl (by (try simp only [List.map_toArray, List.map_cons, List.map_nil]); first | done | rfl | (simp only [List.length_drop, List.length_take]; rfl)) ?_
                with_reducible refine (layout_elem.calls kj3 ((rd_T51 t151 0).f1) (wrap64 (bt t152 0)) (⟨#[]⟩ : ByteArray) 0 0 0 0 0 (t152.extract 1 t152.size) t160 t161 t162 t163 t164 t165 t166 t167 t168 _ A24.out).mono ?_
                rintro e w40 ⟨rfl, hb⟩
                refine ⟨_, rfl, ?_⟩
                have n0_ := Aside0.mk (Kd.R_below (by (with_reducible repeat (first | apply Kd.R_alloc | apply Kd.R_drewN | apply Kd.R_drew)); exact HO_6.out) hb)
                have n1_ := Aside0.mk (blk_below (g := gb145) (o := .cells #[.string (⟨#[]⟩ : ByteArray), .int .i64 0, .string (⟨#[]⟩ : ByteArray), .int .u8 0, .int .u8 0, .int .u8 0, .int .u8 0, .int .u64 0] 29 (0, 0)) (by (with_reducible repeat (first | refine blk_drewN ?_ _ | refine blk_drew ?_ | refine blk_alloc ?_ _)); exact BK145.out) hb)
                have n2_ := Aside0.mk (blk_below (g := gb159) (o := .cells #[.string ((rd_T51 t151 0).f1), .int .i64 (wrap64 (bt t152 0)), .string (⟨#[]⟩ : ByteArray), .int .u8 0, .int .u8 0, .int .u8 0, .int .u8 0, .int .u64 0] 29 (0, 0)) (by (with_reducible repeat (first | refine blk_drewN ?_ _ | refine blk_drew ?_ | refine blk_alloc ?_ _)); exact BK159.out) hb)
                have n3_ := Aside0.mk (below_step (by repeat (first | (with_reducible first | exact HB.out | apply below_alloc | apply pw_below_drewN | apply below_drew1 | refine below_set ?_ GE145.out | refine below_set ?_ GE159.out) | exact HB.out)) hb)
                clear HO_6
                clear BK145
                clear BK159
                clear HB
                have HO_6 := n0_
                have BK145 := n1_
                have BK159 := n2_
                have HB := n3_
                clear n0_ n1_ n2_ n3_
                (try clear hb)
                (try clear hb2)
                (try clear hk)
                (try clear hi)
                refine hK.out _ _ ⟨(blk_cell BK159.out 0).trans rfl, (blk_cell BK159.out 1).trans rfl, (blk_cell BK159.out 2).trans rfl, (blk_cell BK159.out 3).trans rfl, (blk_cell BK159.out 4).trans rfl, (blk_cell BK159.out 5).trans rfl, (blk_cell BK159.out 6).trans rfl, (blk_cell BK159.out 7).trans rfl⟩ (fun hHeld => ?_)
                clear hK K
                refine norm_ (a' := ?_) ?_ ?_
                rotate_left
                · show Act.put _ (some 56) _ = _
                  simp only [Act.put, List.setIfInBounds_toArray, List.set_cons_zero, List.set_cons_succ, i64_w, i32_w]
                  rfl
                refine pure_ (i := 4) (N := some 57) (v := ?_) (a' := ?_) #[true, true, true, true, true, false, false, false] rfl rfl (any_of HT_.out (by kernel_rfl)) (fun _ _ _ h => h) (Or.inl ⟨by rfl, ?_⟩) ?_ ?_
                rotate_left
                · intro w'
                  go_simp
                  with_reducible rfl
                rotate_left
                · simp only [Act.put, List.setIfInBounds_toArray, List.set_cons_zero, List.set_cons_succ, i64_w, i32_w]
                  rfl
                refine pure_ (i := 5) (N := some 58) (v := ?_) (a' := ?_) #[true, true, true, true, true, true, false, false] rfl rfl (any_of HT_.out (by kernel_rfl)) (fun _ _ _ h => h) (Or.inl ⟨by rfl, ?_⟩) ?_ ?_
                rotate_left
                · intro w'
                  go_simp
                  with_reducible rfl
                rotate_left
                · simp only [Act.put, List.setIfInBounds_toArray, List.set_cons_zero, List.set_cons_succ, i64_w, i32_w]
                  rfl
                refine one_ (i := 6) (N := none) #[true, true, true, true, true, true, true, false] rfl rfl (one_of HT_.out (by kernel_rfl)) (by decide) (fun K hK => ?_)
                have hs41 : w40.cell? ⟨gb145, 0, none⟩ = some (.string (⟨#[]⟩ : ByteArray)) := (blk_cell BK145.out 0).trans rfl
                have hfs41 := blk_frozen BK145.out 0
                have hns41_1 := NB159_145.out
                have hms41_1 := NB145_159.out
                have hs42 : w40.cell? ⟨gb145, 1, none⟩ = some (.int .i64 0) := (blk_cell BK145.out 1).trans rfl
                have hfs42 := blk_frozen BK145.out 1
                have hns42_1 := NB159_145.out
                have hms42_1 := NB145_159.out
                have hs43 : w40.cell? ⟨gb145, 2, none⟩ = some (.string (⟨#[]⟩ : ByteArray)) := (blk_cell BK145.out 2).trans rfl
                have hfs43 := blk_frozen BK145.out 2
                have hns43_1 := NB159_145.out
                have hms43_1 := NB145_159.out
                have hs44 : w40.cell? ⟨gb145, 3, none⟩ = some (.int .u8 0) := (blk_cell BK145.out 3).trans rfl
                have hfs44 := blk_frozen BK145.out 3
                have hns44_1 := NB159_145.out
                have hms44_1 := NB145_159.out
                have hs45 : w40.cell? ⟨gb145, 4, none⟩ = some (.int .u8 0) := (blk_cell BK145.out 4).trans rfl
                have hfs45 := blk_frozen BK145.out 4
                have hns45_1 := NB159_145.out
                have hms45_1 := NB145_159.out
                have hs46 : w40.cell? ⟨gb145, 5, none⟩ = some (.int .u8 0) := (blk_cell BK145.out 5).trans rfl
                have hfs46 := blk_frozen BK145.out 5
                have hns46_1 := NB159_145.out
                have hms46_1 := NB145_159.out
                have hs47 : w40.cell? ⟨gb145, 6, none⟩ = some (.int .u8 0) := (blk_cell BK145.out 6).trans rfl
                have hfs47 := blk_frozen BK145.out 6
                have hns47_1 := NB159_145.out
                have hms47_1 := NB145_159.out
                have hs48 : w40.cell? ⟨gb145, 7, none⟩ = some (.int .u64 0) := (blk_cell BK145.out 7).trans rfl
                have hfs48 := blk_frozen BK145.out 7
                have hns48_1 := NB159_145.out
                have hms48_1 := NB145_159.out
                refine skip_ (w1 := ?_) (by rfl) rfl ?_ ?_
                rotate_left
                · go_simp
                  rfl
                refine hK.out _ _ ⟨(far_cell_ (g := gb145) (by with_reducible repeat (first | exact FarFrom_.refl _ _ | apply FarFrom_.set)) NB159_145.out (hHeld.1)), (far_cell_ (g := gb145) (by with_reducible repeat (first | exact FarFrom_.refl _ _ | apply FarFrom_.set)) NB159_145.out (hHeld.2.1)), (far_cell_ (g := gb145) (by with_reducible repeat (first | exact FarFrom_.refl _ _ | apply FarFrom_.set)) NB159_145.out (hHeld.2.2.1)), (far_cell_ (g := gb145) (by with_reducible repeat (first | exact FarFrom_.refl _ _ | apply FarFrom_.set)) NB159_145.out (hHeld.2.2.2.1)), (far_cell_ (g := gb145) (by with_reducible repeat (first | exact FarFrom_.refl _ _ | apply FarFrom_.set)) NB159_145.out (hHeld.2.2.2.2.1)), (far_cell_ (g := gb145) (by with_reducible repeat (first | exact FarFrom_.refl _ _ | apply FarFrom_.set)) NB159_145.out (hHeld.2.2.2.2.2.1)), (far_cell_ (g := gb145) (by with_reducible repeat (first | exact FarFrom_.refl _ _ | apply FarFrom_.set)) NB159_145.out (hHeld.2.2.2.2.2.2.1)), (far_cell_ (g := gb145) (by with_reducible repeat (first | exact FarFrom_.refl _ _ | apply FarFrom_.set)) NB159_145.out (hHeld.2.2.2.2.2.2.2))⟩ (fun hHeld => ?_)
                clear hK K
                refine pure_ (i := 7) (N := some 3) (v := ?_) (a' := ?_) #[true, true, true, true, true, true, true, true] rfl rfl (any_of HT_.out (by kernel_rfl)) (fun _ _ _ h => h) (Or.inl ⟨by rfl, ?_⟩) ?_ ?_
                rotate_left
                · intro w'
                  go_simp
                  with_reducible rfl
                rotate_left
                · simp only [Act.put, List.setIfInBounds_toArray, List.set_cons_zero, List.set_cons_succ, i64_w, i32_w]
                  rfl
                refine done_ (done_of HT_.out (by kernel_rfl)) ?_
                try go_wp2
                refine bodyPost_ret (results_ct rfl _ _ gb145 29 #[.string t160, .int .i64 t161, .string t162, .int .u8 t163, .int .u8 t164, .int .u8 t165, .int .u8 t166, .int .u64 t167] (0, 0) _ rfl (by (with_reducible repeat (first | refine blk_drewN ?_ _ | refine blk_drew ?_ | refine blk_alloc ?_ _)); refine blk_put (cs := #[.string t160, .int .i64 t161, .string t162, .int .u8 t163, .int .u8 t164, .int .u8 t165, .int .u8 t166, .int .u64 0]) ?_ 7 _ rfl; (with_reducible repeat (first | refine blk_drewN ?_ _ | refine blk_drew ?_ | refine blk_alloc ?_ _)); refine blk_put (cs := #[.string t160, .int .i64 t161, .string t162, .int .u8 t163, .int .u8 t164, .int .u8 t165, .int .u8 0, .int .u64 0]) ?_ 6 _ rfl; (with_reducible repeat (first | refine blk_drewN ?_ _ | refine blk_drew ?_ | refine blk_alloc ?_ _)); refine blk_put (cs := #[.string t160, .int .i64 t161, .string t162, .int .u8 t163, .int .u8 t164, .int .u8 0, .int .u8 0, .int .u64 0]) ?_ 5 _ rfl; (with_reducible repeat (first | refine blk_drewN ?_ _ | refine blk_drew ?_ | refine blk_alloc ?_ _)); refine blk_put (cs := #[.string t160, .int .i64 t161, .string t162, .int .u8 t163, .int .u8 0, .int .u8 0, .int .u8 0, .int .u64 0]) ?_ 4 _ rfl; (with_reducible repeat (first | refine blk_drewN ?_ _ | refine blk_drew ?_ | refine blk_alloc ?_ _)); refine blk_put (cs := #[.string t160, .int .i64 t161, .string t162, .int .u8 0, .int .u8 0, .int .u8 0, .int .u8 0, .int .u64 0]) ?_ 3 _ rfl; (with_reducible repeat (first | refine blk_drewN ?_ _ | refine blk_drew ?_ | refine blk_alloc ?_ _)); refine blk_put (cs := #[.string t160, .int .i64 t161, .string (⟨#[]⟩ : ByteArray), .int .u8 0, .int .u8 0, .int .u8 0, .int .u8 0, .int .u64 0]) ?_ 2 _ rfl; (with_reducible repeat (first | refine blk_drewN ?_ _ | refine blk_drew ?_ | refine blk_alloc ?_ _)); refine blk_put (cs := #[.string t160, .int .i64 0, .string (⟨#[]⟩ : ByteArray), .int .u8 0, .int .u8 0, .int .u8 0, .int .u8 0, .int .u64 0]) ?_ 1 _ rfl; (with_reducible repeat (first | refine blk_drewN ?_ _ | refine blk_drew ?_ | refine blk_alloc ?_ _)); refine blk_put (cs := #[.string (⟨#[]⟩ : ByteArray), .int .i64 0, .string (⟨#[]⟩ : ByteArray), .int .u8 0, .int .u8 0, .int .u8 0, .int .u8 0, .int .u64 0]) ?_ 0 _ rfl; (with_reducible repeat (first | refine blk_drewN ?_ _ | refine blk_drew ?_ | refine blk_alloc ?_ _)); exact BK145.out) Tryd.underlying29 rfl (by kernel_rfl)) rfl ?_
                exact ⟨by first | rfl | (simp [errW_none, errW_some] <;> rfl) | (simp [*, errW_none, errW_some] <;> rfl), by repeat (first | (with_reducible first | exact HB.out | apply below_alloc | apply pw_below_drewN | apply below_drew1 | refine below_set ?_ GE145.out | refine below_set ?_ GE159.out) | exact HB.out)⟩
              · rw [if_neg c23] at H
                exact absurd H (by simp)
            · rw [if_neg c22] at H
              have c22b0 : ((wrap64 (bt t152 0)) == 3) = false := beq_eq_false_iff_ne.mpr c22
              have c22b1 : ((wrap64 (bt t152 0)) != 3) = true := bne_iff_ne.mpr c22
              by_cases c49 : (wrap64 (bt t152 0)) > 3
              · rw [if_pos c49] at H
                have c49b0 : decide (3 < (wrap64 (bt t152 0))) = true := decide_eq_true c49
                clear c49
                simp only [Option.some.injEq, Prod.mk.injEq] at H
                obtain ⟨rfl, rfl, rfl, rfl, rfl, rfl, rfl, rfl, rfl⟩ := H
                try go_wp2
                have n0_ := Aside0.mk (Kd.R_drew HO_6.out)
                have n1_ := Aside0.mk (blk_drew BK145.out)
                have n2_ := Aside0.mk (below_drew1 HB.out)
                clear HO_6
                clear BK145
                clear HB
                have HO_6 := n0_
                have BK145 := n1_
                have HB := n2_
                clear n0_ n1_ n2_
                obtain ⟨Ao51, co51, eo51⟩ := Kd.R_slice HO_6.out
                (first | subst eo51 | (injection eo51 with f1_ f2_ f3_; have f4_ := f1_.symm; have f5_ := f3_.symm; clear f1_ f2_ f3_; subst f4_; subst f5_))
                have p158 : 0 ≤ (0 : Int) := (by omega)
                have q158 : 0 < (t151.length : Int) := of_decide_eq_true (by first | (with_reducible assumption) | assumption)
                obtain ⟨ad158, e158, hx158_0, hx158_1, hx158_2, hx158_3⟩ := at_T51 (Kd.R_reads' HO_6.out).2.2 0 p158 q158
                cases e158
                have qi158 : (0 < t151.length) = True := eq_true (by omega)
                (try rw [show ((0 : Int)).toNat = 0 from rfl] at hx158_0)
                (try rw [show 0 * 4 = 0 from rfl] at hx158_0)
                (try rw [Addr.add_zero'] at hx158_0)
                (try rw [show ((0 : Int)).toNat = 0 from rfl] at hx158_1)
                (try rw [show 0 * 4 = 0 from rfl] at hx158_1)
                (try rw [Addr.add_zero'] at hx158_1)
                (try rw [show ((0 : Int)).toNat = 0 from rfl] at hx158_2)
                (try rw [show 0 * 4 = 0 from rfl] at hx158_2)
                (try rw [Addr.add_zero'] at hx158_2)
                (try rw [show ((0 : Int)).toNat = 0 from rfl] at hx158_3)
                (try rw [show 0 * 4 = 0 from rfl] at hx158_3)
                (try rw [Addr.add_zero'] at hx158_3)
                replace p158 := eq_true p158
                replace q158 := eq_true q158
                have p21 : 0 ≤ (0 : Int) := (by omega)
                have q21 : 0 < t152.size := (by have : (0 : Int) < (t152.size : Int) := of_decide_eq_true (by first | (with_reducible assumption) | assumption); omega)
                have hx21 : ∀ h : 0 < t152.size, ((t152[0]'h).toNat : Int) = bt t152 0 := bt_at t152 0
                clear p21
                have qi21 : (0 < (t152.size : Int)) = True := eq_true (of_decide_eq_true (by first | (with_reducible assumption) | assumption))
                replace q21 := eq_true q21
                refine start_ (n := 10) (S := fun w' => w'.cell? ad158 = some (.int .i64 ((rd_T51 t151 0).f0)) ∧ w'.cell? ⟨ad158.block, ad158.off + 1, none⟩ = some (.string ((rd_T51 t151 0).f1)) ∧ w'.cell? ⟨ad158.block, ad158.off + 2, none⟩ = some (.int .u64 ((rd_T51 t151 0).f2)) ∧ w'.cell? ⟨ad158.block, ad158.off + 3, none⟩ = some (.int .i64 ((rd_T51 t151 0).f3))) (ds := []) #[false, false, false, false, false, false, false, false, false, false] (by kernel_rfl) rfl rfl ⟨hx158_0, hx158_1, hx158_2, hx158_3⟩ (fun hHeld => ?_); refine with_tabW layout_Parse.tab5 layout_Parse.bits5 (fun HT_ HW_ => ?_)
                generalize wc.drew = w50 at HO_6 BK145 HB hx158_0 hx158_1 hx158_2 hx158_3 hHeld ⊢
                refine pure_ (i := 0) (N := some 41) (v := ?_) (a' := ?_) #[true, false, false, false, false, false, false, false, false, false] rfl rfl (any_of HT_.out (by kernel_rfl)) (fun _ _ _ h => h) (Or.inl ⟨by rfl, ?_⟩) ?_ ?_
                rotate_left
                · intro w'
                  go_simp
                  with_reducible rfl
                rotate_left
                · simp only [Act.put, List.setIfInBounds_toArray, List.set_cons_zero, List.set_cons_succ, i64_w, i32_w]
                  rfl
                refine pure_ (i := 1) (N := some 42) (v := ?_) (a' := ?_) #[true, true, false, false, false, false, false, false, false, false] rfl rfl (any_of HT_.out (by kernel_rfl)) (fun _ _ _ h => h) (Or.inl ⟨by rfl, ?_⟩) ?_ ?_
                rotate_left
                · intro w'
                  go_simp
                  with_reducible rfl
                rotate_left
                · simp only [Act.put, List.setIfInBounds_toArray, List.set_cons_zero, List.set_cons_succ, i64_w, i32_w]
                  rfl
                refine pure_ (i := 2) (N := some 43) (v := ?_) (a' := ?_) #[true, true, true, false, false, false, false, false, false, false] rfl rfl (any_of HT_.out (by kernel_rfl)) (fun _ _ _ h => h) (Or.inl ⟨by rfl, ?_⟩) ?_ ?_
                rotate_left
                · intro w'
                  go_simp
                  with_reducible rfl
                rotate_left
                · simp only [Act.put, List.setIfInBounds_toArray, List.set_cons_zero, List.set_cons_succ, i64_w, i32_w]
                  rfl
                refine pure_ (i := 4) (N := some 45) (v := ?_) (a' := ?_) #[true, true, true, false, true, false, false, false, false, false] rfl rfl (any_of HT_.out (by kernel_rfl)) (fun _ _ _ h => h) (Or.inl ⟨by rfl, ?_⟩) ?_ ?_
                rotate_left
                · intro w'
                  go_simp
                  with_reducible rfl
                rotate_left
                · simp only [Act.put, List.setIfInBounds_toArray, List.set_cons_zero, List.set_cons_succ, i64_w, i32_w]
                  rfl
                refine take_ (i := 3) (N := some 44) (v := ?_) (a' := ?_) #[true, true, true, true, true, false, false, false, false, false] rfl rfl (take_ofW HT_.out HW_.out (by kernel_rfl)) (fun _ _ _ h => h) (Or.inl ⟨by rfl, ?_⟩) hHeld ?_ ?_
                rotate_left
                · rintro w' ⟨s0, s1, s2, s3⟩
                  go_simp
                  with_reducible rfl
                rotate_left
                · simp only [Act.put, List.setIfInBounds_toArray, List.set_cons_zero, List.set_cons_succ, i64_w, i32_w]
                  rfl
                refine take_ (i := 5) (N := some 46) (v := ?_) (a' := ?_) #[true, true, true, true, true, true, false, false, false, false] rfl rfl (take_ofW HT_.out HW_.out (by kernel_rfl)) (fun _ _ _ h => h) (Or.inl ⟨by rfl, ?_⟩) hHeld ?_ ?_
                rotate_left
                · rintro w' ⟨s0, s1, s2, s3⟩
                  go_simp
                  with_reducible rfl
                rotate_left
                · simp only [Act.put, List.setIfInBounds_toArray, List.set_cons_zero, List.set_cons_succ, i64_w, i32_w]
                  rfl
                refine pure_ (i := 6) (N := some 47) (v := ?_) (a' := ?_) #[true, true, true, true, true, true, true, false, false, false] rfl rfl (any_of HT_.out (by kernel_rfl)) (fun _ _ _ h => h) (Or.inl ⟨by rfl, ?_⟩) ?_ ?_
                rotate_left
                · intro w'
                  go_simp
                  with_reducible rfl
                rotate_left
                · simp only [Act.put, List.setIfInBounds_toArray, List.set_cons_zero, List.set_cons_succ, i64_w, i32_w]
                  rfl
                refine pure_ (i := 7) (N := some 48) (v := ?_) (a' := ?_) #[true, true, true, true, true, true, true, true, false, false] rfl rfl (any_of HT_.out (by kernel_rfl)) (fun _ _ _ h => h) (Or.inl ⟨by rfl, ?_⟩) ?_ ?_
                rotate_left
                · intro w'
                  go_simp
                  with_reducible rfl
                rotate_left
                · simp only [Act.put, List.setIfInBounds_toArray, List.set_cons_zero, List.set_cons_succ, i64_w, i32_w]
                  rfl
                refine one_ (i := 8) (N := some 9) #[true, true, true, true, true, true, true, true, true, false] rfl rfl (one_of HT_.out (by kernel_rfl)) (by decide) (fun K hK => ?_)
                refine box_step ?hg (N := 9) ?hd (cs := #[.string (⟨#[]⟩ : ByteArray), .int .i64 0, .string (⟨#[]⟩ : ByteArray), .int .u8 0, .int .u8 0, .int .u8 0, .int .u8 0, .int .u64 0]) (t := 29) ?hr ?_; (case hd => rfl); (case hg => rfl); (case hr => first | (go_simp; done) | (go_simp; rfl))
                intro gb159 hg w52 hbox hb
                have HS0_ := (hb.cell (World.block_lt_of_cell? _ _ (hHeld.1))).trans (hHeld.1)
                have HS1_ := (hb.cell (World.block_lt_of_cell? _ _ (hHeld.2.1))).trans (hHeld.2.1)
                have HS2_ := (hb.cell (World.block_lt_of_cell? _ _ (hHeld.2.2.1))).trans (hHeld.2.2.1)
                have HS3_ := (hb.cell (World.block_lt_of_cell? _ _ (hHeld.2.2.2))).trans (hHeld.2.2.2)
                have n0_ := Aside0.mk (Kd.R_below (by (with_reducible repeat (first | apply Kd.R_alloc | apply Kd.R_drewN | apply Kd.R_drew)); exact HO_6.out) hb)
                have n1_ := Aside0.mk (blk_below (g := gb145) (o := .cells #[.string (⟨#[]⟩ : ByteArray), .int .i64 0, .string (⟨#[]⟩ : ByteArray), .int .u8 0, .int .u8 0, .int .u8 0, .int .u8 0, .int .u64 0] 29 (0, 0)) (by (with_reducible repeat (first | refine blk_drewN ?_ _ | refine blk_drew ?_ | refine blk_alloc ?_ _)); exact BK145.out) hb)
                have n2_ := Aside0.mk (below_step (by repeat (first | (with_reducible first | exact HB.out | apply below_alloc | apply pw_below_drewN | apply below_drew1 | refine below_set ?_ GE145.out) | exact HB.out)) hb)
                have n3_ := Aside0.mk (hbox)
                have n4_ := Aside0.mk ((by rw [hg]; exact (below_size (by repeat (first | (with_reducible first | exact HB.out | apply below_alloc | apply pw_below_drewN | apply below_drew1 | refine below_set ?_ GE145.out) | exact HB.out))) : w.heap.size ≤ gb159))
                have n5_ := Aside0.mk ((by rw [hg]; exact (below_size (by repeat (first | (with_reducible first | exact HB.out | apply below_alloc | apply pw_below_drewN | apply below_drew1 | refine below_set ?_ GE145.out) | exact HB.out))) : w.heap.size ≤ gb159))
                have n6_ := Aside0.mk ((by rw [hg]; exact Nat.ne_of_lt (blk_lt (g := gb145) (o := .cells #[.string (⟨#[]⟩ : ByteArray), .int .i64 0, .string (⟨#[]⟩ : ByteArray), .int .u8 0, .int .u8 0, .int .u8 0, .int .u8 0, .int .u64 0] 29 (0, 0)) (by (with_reducible repeat (first | refine blk_drewN ?_ _ | refine blk_drew ?_ | refine blk_alloc ?_ _)); exact BK145.out)) : gb145 ≠ gb159))
                have n7_ := Aside0.mk ((by rw [hg]; exact Nat.ne_of_gt (blk_lt (g := gb145) (o := .cells #[.string (⟨#[]⟩ : ByteArray), .int .i64 0, .string (⟨#[]⟩ : ByteArray), .int .u8 0, .int .u8 0, .int .u8 0, .int .u8 0, .int .u64 0] 29 (0, 0)) (by (with_reducible repeat (first | refine blk_drewN ?_ _ | refine blk_drew ?_ | refine blk_alloc ?_ _)); exact BK145.out)) : gb159 ≠ gb145))
                clear HO_6
                clear BK145
                clear HB
                have HO_6 := n0_
                have BK145 := n1_
                have HB := n2_
                have BK159 := n3_
                have GW159 := n4_
                have GE159 := n5_
                have NB145_159 := n6_
                have NB159_145 := n7_
                clear n0_ n1_ n2_ n3_ n4_ n5_ n6_ n7_
                clear hb hbox hg
                refine hK.out _ _ ⟨HS0_, HS1_, HS2_, HS3_⟩ (fun hHeld => ?_)
                clear hK K
                refine norm_ (a' := ?_) ?_ ?_
                rotate_left
                · show Act.put _ (some 9) _ = _
                  simp only [Act.put, List.setIfInBounds_toArray, List.set_cons_zero, List.set_cons_succ, i64_w, i32_w]
                  rfl
                refine one_ (i := 9) (N := none) #[true, true, true, true, true, true, true, true, true, true] rfl rfl (one_of HT_.out (by kernel_rfl)) (by decide) (fun K hK => ?_)
                have hs53 : w52.cell? ⟨gb159, 0, none⟩ = some (.string (⟨#[]⟩ : ByteArray)) := (blk_cell BK159.out 0).trans rfl
                have hfs53 := blk_frozen BK159.out 0
                have hns53_0 := NB145_159.out
                have hms53_0 := NB159_145.out
                have hs54 : w52.cell? ⟨gb159, 1, none⟩ = some (.int .i64 0) := (blk_cell BK159.out 1).trans rfl
                have hfs54 := blk_frozen BK159.out 1
                have hns54_0 := NB145_159.out
                have hms54_0 := NB159_145.out
                have hs55 : w52.cell? ⟨gb159, 2, none⟩ = some (.string (⟨#[]⟩ : ByteArray)) := (blk_cell BK159.out 2).trans rfl
                have hfs55 := blk_frozen BK159.out 2
                have hns55_0 := NB145_159.out
                have hms55_0 := NB159_145.out
                have hs56 : w52.cell? ⟨gb159, 3, none⟩ = some (.int .u8 0) := (blk_cell BK159.out 3).trans rfl
                have hfs56 := blk_frozen BK159.out 3
                have hns56_0 := NB145_159.out
                have hms56_0 := NB159_145.out
                have hs57 : w52.cell? ⟨gb159, 4, none⟩ = some (.int .u8 0) := (blk_cell BK159.out 4).trans rfl
                have hfs57 := blk_frozen BK159.out 4
                have hns57_0 := NB145_159.out
                have hms57_0 := NB159_145.out
                have hs58 : w52.cell? ⟨gb159, 5, none⟩ = some (.int .u8 0) := (blk_cell BK159.out 5).trans rfl
                have hfs58 := blk_frozen BK159.out 5
                have hns58_0 := NB145_159.out
                have hms58_0 := NB159_145.out
                have hs59 : w52.cell? ⟨gb159, 6, none⟩ = some (.int .u8 0) := (blk_cell BK159.out 6).trans rfl
                have hfs59 := blk_frozen BK159.out 6
                have hns59_0 := NB145_159.out
                have hms59_0 := NB159_145.out
                have hs60 : w52.cell? ⟨gb159, 7, none⟩ = some (.int .u64 0) := (blk_cell BK159.out 7).trans rfl
                have hfs60 := blk_frozen BK159.out 7
                have hns60_0 := NB145_159.out
                have hms60_0 := NB159_145.out
                refine skip_ (w1 := ?_) (by rfl) rfl ?_ ?_
                rotate_left
                · go_simp
                  rfl
                refine hK.out _ _ ⟨(far_cell_ (g := gb159) (by with_reducible repeat (first | exact FarFrom_.refl _ _ | apply FarFrom_.set)) (by first | exact Kd.own_blk (Kd.R_ne HO_6.out BK159.out (by decide)) | (rw [add_block]; exact Kd.own_blk (Kd.R_ne HO_6.out BK159.out (by decide))) | (show (Addr.add _ _).block ≠ _; rw [add_block]; exact Kd.own_blk (Kd.R_ne HO_6.out BK159.out (by decide))) | (dsimp only; exact Kd.own_blk (Kd.R_ne HO_6.out BK159.out (by decide)))) (hHeld.1)), (far_cell_ (g := gb159) (by with_reducible repeat (first | exact FarFrom_.refl _ _ | apply FarFrom_.set)) (by first | exact Kd.own_blk (Kd.R_ne HO_6.out BK159.out (by decide)) | (rw [add_block]; exact Kd.own_blk (Kd.R_ne HO_6.out BK159.out (by decide))) | (show (Addr.add _ _).block ≠ _; rw [add_block]; exact Kd.own_blk (Kd.R_ne HO_6.out BK159.out (by decide))) | (dsimp only; exact Kd.own_blk (Kd.R_ne HO_6.out BK159.out (by decide)))) (hHeld.2.1)), (far_cell_ (g := gb159) (by with_reducible repeat (first | exact FarFrom_.refl _ _ | apply FarFrom_.set)) (by first | exact Kd.own_blk (Kd.R_ne HO_6.out BK159.out (by decide)) | (rw [add_block]; exact Kd.own_blk (Kd.R_ne HO_6.out BK159.out (by decide))) | (show (Addr.add _ _).block ≠ _; rw [add_block]; exact Kd.own_blk (Kd.R_ne HO_6.out BK159.out (by decide))) | (dsimp only; exact Kd.own_blk (Kd.R_ne HO_6.out BK159.out (by decide)))) (hHeld.2.2.1)), (far_cell_ (g := gb159) (by with_reducible repeat (first | exact FarFrom_.refl _ _ | apply FarFrom_.set)) (by first | exact Kd.own_blk (Kd.R_ne HO_6.out BK159.out (by decide)) | (rw [add_block]; exact Kd.own_blk (Kd.R_ne HO_6.out BK159.out (by decide))) | (show (Addr.add _ _).block ≠ _; rw [add_block]; exact Kd.own_blk (Kd.R_ne HO_6.out BK159.out (by decide))) | (dsimp only; exact Kd.own_blk (Kd.R_ne HO_6.out BK159.out (by decide)))) (hHeld.2.2.2))⟩ (fun hHeld => ?_)
                clear hK K
                refine done_ (done_of HT_.out (by kernel_rfl)) ?_
                have hnb61 := NB159_145.out
                have hnc61 := NB145_159.out
                have hcz62_0 : w52.cell? ⟨gb159, 0, none⟩ = some (.string (⟨#[]⟩ : ByteArray)) := (blk_cell BK159.out 0).trans rfl
                have hcz62_1 : w52.cell? ⟨gb159, 1, none⟩ = some (.int .i64 0) := (blk_cell BK159.out 1).trans rfl
                have hcz62_2 : w52.cell? ⟨gb159, 2, none⟩ = some (.string (⟨#[]⟩ : ByteArray)) := (blk_cell BK159.out 2).trans rfl
                have hcz62_3 : w52.cell? ⟨gb159, 3, none⟩ = some (.int .u8 0) := (blk_cell BK159.out 3).trans rfl
                have hcz62_4 : w52.cell? ⟨gb159, 4, none⟩ = some (.int .u8 0) := (blk_cell BK159.out 4).trans rfl
                have hcz62_5 : w52.cell? ⟨gb159, 5, none⟩ = some (.int .u8 0) := (blk_cell BK159.out 5).trans rfl
                have hcz62_6 : w52.cell? ⟨gb159, 6, none⟩ = some (.int .u8 0) := (blk_cell BK159.out 6).trans rfl
                have hcz62_7 : w52.cell? ⟨gb159, 7, none⟩ = some (.int .u64 0) := (blk_cell BK159.out 7).trans rfl
                have hfz62_0 := blk_frozen BK159.out 0
                have hfz62_1 := blk_frozen BK159.out 1
                have hfz62_2 := blk_frozen BK159.out 2
                have hfz62_3 := blk_frozen BK159.out 3
                have hfz62_4 := blk_frozen BK159.out 4
                have hfz62_5 := blk_frozen BK159.out 5
                have hfz62_6 := blk_frozen BK159.out 6
                have hfz62_7 := blk_frozen BK159.out 7
                have hcz63_0 : w52.cell? ⟨gb145, 0, none⟩ = some (.string (⟨#[]⟩ : ByteArray)) := (blk_cell BK145.out 0).trans rfl
                have hcz63_1 : w52.cell? ⟨gb145, 1, none⟩ = some (.int .i64 0) := (blk_cell BK145.out 1).trans rfl
                have hcz63_2 : w52.cell? ⟨gb145, 2, none⟩ = some (.string (⟨#[]⟩ : ByteArray)) := (blk_cell BK145.out 2).trans rfl
                have hcz63_3 : w52.cell? ⟨gb145, 3, none⟩ = some (.int .u8 0) := (blk_cell BK145.out 3).trans rfl
                have hcz63_4 : w52.cell? ⟨gb145, 4, none⟩ = some (.int .u8 0) := (blk_cell BK145.out 4).trans rfl
                have hcz63_5 : w52.cell? ⟨gb145, 5, none⟩ = some (.int .u8 0) := (blk_cell BK145.out 5).trans rfl
                have hcz63_6 : w52.cell? ⟨gb145, 6, none⟩ = some (.int .u8 0) := (blk_cell BK145.out 6).trans rfl
                have hcz63_7 : w52.cell? ⟨gb145, 7, none⟩ = some (.int .u64 0) := (blk_cell BK145.out 7).trans rfl
                have hfz63_0 := blk_frozen BK145.out 0
                have hfz63_1 := blk_frozen BK145.out 1
                have hfz63_2 := blk_frozen BK145.out 2
                have hfz63_3 := blk_frozen BK145.out 3
                have hfz63_4 := blk_frozen BK145.out 4
                have hfz63_5 := blk_frozen BK145.out 5
                have hfz63_6 := blk_frozen BK145.out 6
                have hfz63_7 := blk_frozen BK145.out 7
                try go_wp2
                refine bodyPost_ret (results_ct rfl _ _ gb145 29 #[.string (⟨#[]⟩ : ByteArray), .int .i64 0, .string (⟨#[]⟩ : ByteArray), .int .u8 0, .int .u8 0, .int .u8 0, .int .u8 0, .int .u64 0] (0, 0) _ rfl (by (with_reducible repeat (first | refine blk_drewN ?_ _ | refine blk_drew ?_ | refine blk_alloc ?_ _)); refine blk_put (cs := #[.string (⟨#[]⟩ : ByteArray), .int .i64 0, .string (⟨#[]⟩ : ByteArray), .int .u8 0, .int .u8 0, .int .u8 0, .int .u8 0, .int .u64 0]) ?_ 7 _ rfl; (with_reducible repeat (first | refine blk_drewN ?_ _ | refine blk_drew ?_ | refine blk_alloc ?_ _)); refine blk_put (cs := #[.string (⟨#[]⟩ : ByteArray), .int .i64 0, .string (⟨#[]⟩ : ByteArray), .int .u8 0, .int .u8 0, .int .u8 0, .int .u8 0, .int .u64 0]) ?_ 6 _ rfl; (with_reducible repeat (first | refine blk_drewN ?_ _ | refine blk_drew ?_ | refine blk_alloc ?_ _)); refine blk_put (cs := #[.string (⟨#[]⟩ : ByteArray), .int .i64 0, .string (⟨#[]⟩ : ByteArray), .int .u8 0, .int .u8 0, .int .u8 0, .int .u8 0, .int .u64 0]) ?_ 5 _ rfl; (with_reducible repeat (first | refine blk_drewN ?_ _ | refine blk_drew ?_ | refine blk_alloc ?_ _)); refine blk_put (cs := #[.string (⟨#[]⟩ : ByteArray), .int .i64 0, .string (⟨#[]⟩ : ByteArray), .int .u8 0, .int .u8 0, .int .u8 0, .int .u8 0, .int .u64 0]) ?_ 4 _ rfl; (with_reducible repeat (first | refine blk_drewN ?_ _ | refine blk_drew ?_ | refine blk_alloc ?_ _)); refine blk_put (cs := #[.string (⟨#[]⟩ : ByteArray), .int .i64 0, .string (⟨#[]⟩ : ByteArray), .int .u8 0, .int .u8 0, .int .u8 0, .int .u8 0, .int .u64 0]) ?_ 3 _ rfl; (with_reducible repeat (first | refine blk_drewN ?_ _ | refine blk_drew ?_ | refine blk_alloc ?_ _)); refine blk_put (cs := #[.string (⟨#[]⟩ : ByteArray), .int .i64 0, .string (⟨#[]⟩ : ByteArray), .int .u8 0, .int .u8 0, .int .u8 0, .int .u8 0, .int .u64 0]) ?_ 2 _ rfl; (with_reducible repeat (first | refine blk_drewN ?_ _ | refine blk_drew ?_ | refine blk_alloc ?_ _)); refine blk_put (cs := #[.string (⟨#[]⟩ : ByteArray), .int .i64 0, .string (⟨#[]⟩ : ByteArray), .int .u8 0, .int .u8 0, .int .u8 0, .int .u8 0, .int .u64 0]) ?_ 1 _ rfl; (with_reducible repeat (first | refine blk_drewN ?_ _ | refine blk_drew ?_ | refine blk_alloc ?_ _)); refine blk_put (cs := #[.string (⟨#[]⟩ : ByteArray), .int .i64 0, .string (⟨#[]⟩ : ByteArray), .int .u8 0, .int .u8 0, .int .u8 0, .int .u8 0, .int .u64 0]) ?_ 0 _ rfl; (with_reducible repeat (first | refine blk_drewN ?_ _ | refine blk_drew ?_ | refine blk_alloc ?_ _)); refine blk_far ?_ NB145_159.out _; (with_reducible repeat (first | refine blk_drewN ?_ _ | refine blk_drew ?_ | refine blk_alloc ?_ _)); refine blk_far ?_ NB145_159.out _; (with_reducible repeat (first | refine blk_drewN ?_ _ | refine blk_drew ?_ | refine blk_alloc ?_ _)); refine blk_far ?_ NB145_159.out _; (with_reducible repeat (first | refine blk_drewN ?_ _ | refine blk_drew ?_ | refine blk_alloc ?_ _)); refine blk_far ?_ NB145_159.out _; (with_reducible repeat (first | refine blk_drewN ?_ _ | refine blk_drew ?_ | refine blk_alloc ?_ _)); refine blk_far ?_ NB145_159.out _; (with_reducible repeat (first | refine blk_drewN ?_ _ | refine blk_drew ?_ | refine blk_alloc ?_ _)); refine blk_far ?_ NB145_159.out _; (with_reducible repeat (first | refine blk_drewN ?_ _ | refine blk_drew ?_ | refine blk_alloc ?_ _)); refine blk_far ?_ NB145_159.out _; (with_reducible repeat (first | refine blk_drewN ?_ _ | refine blk_drew ?_ | refine blk_alloc ?_ _)); refine blk_far ?_ NB145_159.out _; (with_reducible repeat (first | refine blk_drewN ?_ _ | refine blk_drew ?_ | refine blk_alloc ?_ _)); exact BK145.out) Tryd.underlying29 rfl (by kernel_rfl)) rfl ?_
                exact ⟨by first | rfl | (simp [errW_none, errW_some] <;> rfl) | (simp [*, errW_none, errW_some] <;> rfl), by repeat (first | (with_reducible first | exact HB.out | apply below_alloc | apply pw_below_drewN | apply below_drew1 | refine below_set ?_ GE145.out | refine below_set ?_ GE159.out) | exact HB.out)⟩
              · rw [if_neg c49] at H
                have c49b0 : decide (3 < (wrap64 (bt t152 0))) = false := decide_eq_false c49
                clear c49
                by_cases c64 : (t152.size : Int) > 1
                · rw [if_pos c64] at H
                  have c64b0 : decide (1 < (t152.size : Int)) = true := decide_eq_true c64
                  have c64b1 : decide (1 < t152.size) = true := decide_eq_true (by omega)
                  clear c64
                  simp only [Option.some.injEq, Prod.mk.injEq] at H
                  obtain ⟨rfl, rfl, rfl, rfl, rfl, rfl, rfl, rfl, rfl⟩ := H
                  try go_wp2
                  have n0_ := Aside0.mk (Kd.R_drew HO_6.out)
                  have n1_ := Aside0.mk (blk_drew BK145.out)
                  have n2_ := Aside0.mk (below_drew1 HB.out)
                  clear HO_6
                  clear BK145
                  clear HB
                  have HO_6 := n0_
                  have BK145 := n1_
                  have HB := n2_
                  clear n0_ n1_ n2_
                  obtain ⟨Ao66, co66, eo66⟩ := Kd.R_slice HO_6.out
                  (first | subst eo66 | (injection eo66 with f1_ f2_ f3_; have f4_ := f1_.symm; have f5_ := f3_.symm; clear f1_ f2_ f3_; subst f4_; subst f5_))
                  have p158 : 0 ≤ (0 : Int) := (by omega)
                  have q158 : 0 < (t151.length : Int) := of_decide_eq_true (by first | (with_reducible assumption) | assumption)
                  obtain ⟨ad158, e158, hx158_0, hx158_1, hx158_2, hx158_3⟩ := at_T51 (Kd.R_reads' HO_6.out).2.2 0 p158 q158
                  cases e158
                  have qi158 : (0 < t151.length) = True := eq_true (by omega)
                  (try rw [show ((0 : Int)).toNat = 0 from rfl] at hx158_0)
                  (try rw [show 0 * 4 = 0 from rfl] at hx158_0)
                  (try rw [Addr.add_zero'] at hx158_0)
                  (try rw [show ((0 : Int)).toNat = 0 from rfl] at hx158_1)
                  (try rw [show 0 * 4 = 0 from rfl] at hx158_1)
                  (try rw [Addr.add_zero'] at hx158_1)
                  (try rw [show ((0 : Int)).toNat = 0 from rfl] at hx158_2)
                  (try rw [show 0 * 4 = 0 from rfl] at hx158_2)
                  (try rw [Addr.add_zero'] at hx158_2)
                  (try rw [show ((0 : Int)).toNat = 0 from rfl] at hx158_3)
                  (try rw [show 0 * 4 = 0 from rfl] at hx158_3)
                  (try rw [Addr.add_zero'] at hx158_3)
                  replace p158 := eq_true p158
                  replace q158 := eq_true q158
                  have p21 : 0 ≤ (0 : Int) := (by omega)
                  have q21 : 0 < t152.size := (by have : (0 : Int) < (t152.size : Int) := of_decide_eq_true (by first | (with_reducible assumption) | assumption); omega)
                  have hx21 : ∀ h : 0 < t152.size, ((t152[0]'h).toNat : Int) = bt t152 0 := bt_at t152 0
                  clear p21
                  have qi21 : (0 < (t152.size : Int)) = True := eq_true (of_decide_eq_true (by first | (with_reducible assumption) | assumption))
                  replace q21 := eq_true q21
                  refine start_ (n := 10) (S := fun w' => w'.cell? ad158 = some (.int .i64 ((rd_T51 t151 0).f0)) ∧ w'.cell? ⟨ad158.block, ad158.off + 1, none⟩ = some (.string ((rd_T51 t151 0).f1)) ∧ w'.cell? ⟨ad158.block, ad158.off + 2, none⟩ = some (.int .u64 ((rd_T51 t151 0).f2)) ∧ w'.cell? ⟨ad158.block, ad158.off + 3, none⟩ = some (.int .i64 ((rd_T51 t151 0).f3))) (ds := []) #[false, false, false, false, false, false, false, false, false, false] (by kernel_rfl) rfl rfl ⟨hx158_0, hx158_1, hx158_2, hx158_3⟩ (fun hHeld => ?_); refine with_tabW layout_Parse.tab5 layout_Parse.bits5 (fun HT_ HW_ => ?_)
                  generalize wc.drew = w65 at HO_6 BK145 HB hx158_0 hx158_1 hx158_2 hx158_3 hHeld ⊢
                  refine pure_ (i := 0) (N := some 41) (v := ?_) (a' := ?_) #[true, false, false, false, false, false, false, false, false, false] rfl rfl (any_of HT_.out (by kernel_rfl)) (fun _ _ _ h => h) (Or.inl ⟨by rfl, ?_⟩) ?_ ?_
                  rotate_left
                  · intro w'
                    go_simp
                    with_reducible rfl
                  rotate_left
                  · simp only [Act.put, List.setIfInBounds_toArray, List.set_cons_zero, List.set_cons_succ, i64_w, i32_w]
                    rfl
                  refine pure_ (i := 1) (N := some 42) (v := ?_) (a' := ?_) #[true, true, false, false, false, false, false, false, false, false] rfl rfl (any_of HT_.out (by kernel_rfl)) (fun _ _ _ h => h) (Or.inl ⟨by rfl, ?_⟩) ?_ ?_
                  rotate_left
                  · intro w'
                    go_simp
                    with_reducible rfl
                  rotate_left
                  · simp only [Act.put, List.setIfInBounds_toArray, List.set_cons_zero, List.set_cons_succ, i64_w, i32_w]
                    rfl
                  refine pure_ (i := 2) (N := some 43) (v := ?_) (a' := ?_) #[true, true, true, false, false, false, false, false, false, false] rfl rfl (any_of HT_.out (by kernel_rfl)) (fun _ _ _ h => h) (Or.inl ⟨by rfl, ?_⟩) ?_ ?_
                  rotate_left
                  · intro w'
                    go_simp
                    with_reducible rfl
                  rotate_left
                  · simp only [Act.put, List.setIfInBounds_toArray, List.set_cons_zero, List.set_cons_succ, i64_w, i32_w]
                    rfl
                  refine pure_ (i := 4) (N := some 45) (v := ?_) (a' := ?_) #[true, true, true, false, true, false, false, false, false, false] rfl rfl (any_of HT_.out (by kernel_rfl)) (fun _ _ _ h => h) (Or.inl ⟨by rfl, ?_⟩) ?_ ?_
                  rotate_left
                  · intro w'
                    go_simp
                    with_reducible rfl
                  rotate_left
                  · simp only [Act.put, List.setIfInBounds_toArray, List.set_cons_zero, List.set_cons_succ, i64_w, i32_w]
                    rfl
                  refine take_ (i := 3) (N := some 44) (v := ?_) (a' := ?_) #[true, true, true, true, true, false, false, false, false, false] rfl rfl (take_ofW HT_.out HW_.out (by kernel_rfl)) (fun _ _ _ h => h) (Or.inl ⟨by rfl, ?_⟩) hHeld ?_ ?_
                  rotate_left
                  · rintro w' ⟨s0, s1, s2, s3⟩
                    go_simp
                    with_reducible rfl
                  rotate_left
                  · simp only [Act.put, List.setIfInBounds_toArray, List.set_cons_zero, List.set_cons_succ, i64_w, i32_w]
                    rfl
                  refine take_ (i := 5) (N := some 46) (v := ?_) (a' := ?_) #[true, true, true, true, true, true, false, false, false, false] rfl rfl (take_ofW HT_.out HW_.out (by kernel_rfl)) (fun _ _ _ h => h) (Or.inl ⟨by rfl, ?_⟩) hHeld ?_ ?_
                  rotate_left
                  · rintro w' ⟨s0, s1, s2, s3⟩
                    go_simp
                    with_reducible rfl
                  rotate_left
                  · simp only [Act.put, List.setIfInBounds_toArray, List.set_cons_zero, List.set_cons_succ, i64_w, i32_w]
                    rfl
                  refine pure_ (i := 6) (N := some 47) (v := ?_) (a' := ?_) #[true, true, true, true, true, true, true, false, false, false] rfl rfl (any_of HT_.out (by kernel_rfl)) (fun _ _ _ h => h) (Or.inl ⟨by rfl, ?_⟩) ?_ ?_
                  rotate_left
                  · intro w'
                    go_simp
                    with_reducible rfl
                  rotate_left
                  · simp only [Act.put, List.setIfInBounds_toArray, List.set_cons_zero, List.set_cons_succ, i64_w, i32_w]
                    rfl
                  refine pure_ (i := 7) (N := some 48) (v := ?_) (a' := ?_) #[true, true, true, true, true, true, true, true, false, false] rfl rfl (any_of HT_.out (by kernel_rfl)) (fun _ _ _ h => h) (Or.inl ⟨by rfl, ?_⟩) ?_ ?_
                  rotate_left
                  · intro w'
                    go_simp
                    with_reducible rfl
                  rotate_left
                  · simp only [Act.put, List.setIfInBounds_toArray, List.set_cons_zero, List.set_cons_succ, i64_w, i32_w]
                    rfl
                  refine one_ (i := 8) (N := some 9) #[true, true, true, true, true, true, true, true, true, false] rfl rfl (one_of HT_.out (by kernel_rfl)) (by decide) (fun K hK => ?_)
                  refine box_step ?hg (N := 9) ?hd (cs := #[.string (⟨#[]⟩ : ByteArray), .int .i64 0, .string (⟨#[]⟩ : ByteArray), .int .u8 0, .int .u8 0, .int .u8 0, .int .u8 0, .int .u64 0]) (t := 29) ?hr ?_; (case hd => rfl); (case hg => rfl); (case hr => first | (go_simp; done) | (go_simp; rfl))
                  intro gb159 hg w67 hbox hb
                  have HS0_ := (hb.cell (World.block_lt_of_cell? _ _ (hHeld.1))).trans (hHeld.1)
                  have HS1_ := (hb.cell (World.block_lt_of_cell? _ _ (hHeld.2.1))).trans (hHeld.2.1)
                  have HS2_ := (hb.cell (World.block_lt_of_cell? _ _ (hHeld.2.2.1))).trans (hHeld.2.2.1)
                  have HS3_ := (hb.cell (World.block_lt_of_cell? _ _ (hHeld.2.2.2))).trans (hHeld.2.2.2)
                  have n0_ := Aside0.mk (Kd.R_below (by (with_reducible repeat (first | apply Kd.R_alloc | apply Kd.R_drewN | apply Kd.R_drew)); exact HO_6.out) hb)
                  have n1_ := Aside0.mk (blk_below (g := gb145) (o := .cells #[.string (⟨#[]⟩ : ByteArray), .int .i64 0, .string (⟨#[]⟩ : ByteArray), .int .u8 0, .int .u8 0, .int .u8 0, .int .u8 0, .int .u64 0] 29 (0, 0)) (by (with_reducible repeat (first | refine blk_drewN ?_ _ | refine blk_drew ?_ | refine blk_alloc ?_ _)); exact BK145.out) hb)
                  have n2_ := Aside0.mk (below_step (by repeat (first | (with_reducible first | exact HB.out | apply below_alloc | apply pw_below_drewN | apply below_drew1 | refine below_set ?_ GE145.out) | exact HB.out)) hb)
                  have n3_ := Aside0.mk (hbox)
                  have n4_ := Aside0.mk ((by rw [hg]; exact (below_size (by repeat (first | (with_reducible first | exact HB.out | apply below_alloc | apply pw_below_drewN | apply below_drew1 | refine below_set ?_ GE145.out) | exact HB.out))) : w.heap.size ≤ gb159))
                  have n5_ := Aside0.mk ((by rw [hg]; exact (below_size (by repeat (first | (with_reducible first | exact HB.out | apply below_alloc | apply pw_below_drewN | apply below_drew1 | refine below_set ?_ GE145.out) | exact HB.out))) : w.heap.size ≤ gb159))
                  have n6_ := Aside0.mk ((by rw [hg]; exact Nat.ne_of_lt (blk_lt (g := gb145) (o := .cells #[.string (⟨#[]⟩ : ByteArray), .int .i64 0, .string (⟨#[]⟩ : ByteArray), .int .u8 0, .int .u8 0, .int .u8 0, .int .u8 0, .int .u64 0] 29 (0, 0)) (by (with_reducible repeat (first | refine blk_drewN ?_ _ | refine blk_drew ?_ | refine blk_alloc ?_ _)); exact BK145.out)) : gb145 ≠ gb159))
                  have n7_ := Aside0.mk ((by rw [hg]; exact Nat.ne_of_gt (blk_lt (g := gb145) (o := .cells #[.string (⟨#[]⟩ : ByteArray), .int .i64 0, .string (⟨#[]⟩ : ByteArray), .int .u8 0, .int .u8 0, .int .u8 0, .int .u8 0, .int .u64 0] 29 (0, 0)) (by (with_reducible repeat (first | refine blk_drewN ?_ _ | refine blk_drew ?_ | refine blk_alloc ?_ _)); exact BK145.out)) : gb159 ≠ gb145))
                  clear HO_6
                  clear BK145
                  clear HB
                  have HO_6 := n0_
                  have BK145 := n1_
                  have HB := n2_
                  have BK159 := n3_
                  have GW159 := n4_
                  have GE159 := n5_
                  have NB145_159 := n6_
                  have NB159_145 := n7_
                  clear n0_ n1_ n2_ n3_ n4_ n5_ n6_ n7_
                  clear hb hbox hg
                  refine hK.out _ _ ⟨HS0_, HS1_, HS2_, HS3_⟩ (fun hHeld => ?_)
                  clear hK K
                  refine norm_ (a' := ?_) ?_ ?_
                  rotate_left
                  · show Act.put _ (some 9) _ = _
                    simp only [Act.put, List.setIfInBounds_toArray, List.set_cons_zero, List.set_cons_succ, i64_w, i32_w]
                    rfl
                  refine one_ (i := 9) (N := none) #[true, true, true, true, true, true, true, true, true, true] rfl rfl (one_of HT_.out (by kernel_rfl)) (by decide) (fun K hK => ?_)
                  have hs68 : w67.cell? ⟨gb159, 0, none⟩ = some (.string (⟨#[]⟩ : ByteArray)) := (blk_cell BK159.out 0).trans rfl
                  have hfs68 := blk_frozen BK159.out 0
                  have hns68_0 := NB145_159.out
                  have hms68_0 := NB159_145.out
                  have hs69 : w67.cell? ⟨gb159, 1, none⟩ = some (.int .i64 0) := (blk_cell BK159.out 1).trans rfl
                  have hfs69 := blk_frozen BK159.out 1
                  have hns69_0 := NB145_159.out
                  have hms69_0 := NB159_145.out
                  have hs70 : w67.cell? ⟨gb159, 2, none⟩ = some (.string (⟨#[]⟩ : ByteArray)) := (blk_cell BK159.out 2).trans rfl
                  have hfs70 := blk_frozen BK159.out 2
                  have hns70_0 := NB145_159.out
                  have hms70_0 := NB159_145.out
                  have hs71 : w67.cell? ⟨gb159, 3, none⟩ = some (.int .u8 0) := (blk_cell BK159.out 3).trans rfl
                  have hfs71 := blk_frozen BK159.out 3
                  have hns71_0 := NB145_159.out
                  have hms71_0 := NB159_145.out
                  have hs72 : w67.cell? ⟨gb159, 4, none⟩ = some (.int .u8 0) := (blk_cell BK159.out 4).trans rfl
                  have hfs72 := blk_frozen BK159.out 4
                  have hns72_0 := NB145_159.out
                  have hms72_0 := NB159_145.out
                  have hs73 : w67.cell? ⟨gb159, 5, none⟩ = some (.int .u8 0) := (blk_cell BK159.out 5).trans rfl
                  have hfs73 := blk_frozen BK159.out 5
                  have hns73_0 := NB145_159.out
                  have hms73_0 := NB159_145.out
                  have hs74 : w67.cell? ⟨gb159, 6, none⟩ = some (.int .u8 0) := (blk_cell BK159.out 6).trans rfl
                  have hfs74 := blk_frozen BK159.out 6
                  have hns74_0 := NB145_159.out
                  have hms74_0 := NB159_145.out
                  have hs75 : w67.cell? ⟨gb159, 7, none⟩ = some (.int .u64 0) := (blk_cell BK159.out 7).trans rfl
                  have hfs75 := blk_frozen BK159.out 7
                  have hns75_0 := NB145_159.out
                  have hms75_0 := NB159_145.out
                  refine skip_ (w1 := ?_) (by rfl) rfl ?_ ?_
                  rotate_left
                  · go_simp
                    rfl
                  refine hK.out _ _ ⟨(far_cell_ (g := gb159) (by with_reducible repeat (first | exact FarFrom_.refl _ _ | apply FarFrom_.set)) (by first | exact Kd.own_blk (Kd.R_ne HO_6.out BK159.out (by decide)) | (rw [add_block]; exact Kd.own_blk (Kd.R_ne HO_6.out BK159.out (by decide))) | (show (Addr.add _ _).block ≠ _; rw [add_block]; exact Kd.own_blk (Kd.R_ne HO_6.out BK159.out (by decide))) | (dsimp only; exact Kd.own_blk (Kd.R_ne HO_6.out BK159.out (by decide)))) (hHeld.1)), (far_cell_ (g := gb159) (by with_reducible repeat (first | exact FarFrom_.refl _ _ | apply FarFrom_.set)) (by first | exact Kd.own_blk (Kd.R_ne HO_6.out BK159.out (by decide)) | (rw [add_block]; exact Kd.own_blk (Kd.R_ne HO_6.out BK159.out (by decide))) | (show (Addr.add _ _).block ≠ _; rw [add_block]; exact Kd.own_blk (Kd.R_ne HO_6.out BK159.out (by decide))) | (dsimp only; exact Kd.own_blk (Kd.R_ne HO_6.out BK159.out (by decide)))) (hHeld.2.1)), (far_cell_ (g := gb159) (by with_reducible repeat (first | exact FarFrom_.refl _ _ | apply FarFrom_.set)) (by first | exact Kd.own_blk (Kd.R_ne HO_6.out BK159.out (by decide)) | (rw [add_block]; exact Kd.own_blk (Kd.R_ne HO_6.out BK159.out (by decide))) | (show (Addr.add _ _).block ≠ _; rw [add_block]; exact Kd.own_blk (Kd.R_ne HO_6.out BK159.out (by decide))) | (dsimp only; exact Kd.own_blk (Kd.R_ne HO_6.out BK159.out (by decide)))) (hHeld.2.2.1)), (far_cell_ (g := gb159) (by with_reducible repeat (first | exact FarFrom_.refl _ _ | apply FarFrom_.set)) (by first | exact Kd.own_blk (Kd.R_ne HO_6.out BK159.out (by decide)) | (rw [add_block]; exact Kd.own_blk (Kd.R_ne HO_6.out BK159.out (by decide))) | (show (Addr.add _ _).block ≠ _; rw [add_block]; exact Kd.own_blk (Kd.R_ne HO_6.out BK159.out (by decide))) | (dsimp only; exact Kd.own_blk (Kd.R_ne HO_6.out BK159.out (by decide)))) (hHeld.2.2.2))⟩ (fun hHeld => ?_)
                  clear hK K
                  refine done_ (done_of HT_.out (by kernel_rfl)) ?_
                  have hnb76 := NB159_145.out
                  have hnc76 := NB145_159.out
                  have hcz77_0 : w67.cell? ⟨gb159, 0, none⟩ = some (.string (⟨#[]⟩ : ByteArray)) := (blk_cell BK159.out 0).trans rfl
                  have hcz77_1 : w67.cell? ⟨gb159, 1, none⟩ = some (.int .i64 0) := (blk_cell BK159.out 1).trans rfl
                  have hcz77_2 : w67.cell? ⟨gb159, 2, none⟩ = some (.string (⟨#[]⟩ : ByteArray)) := (blk_cell BK159.out 2).trans rfl
                  have hcz77_3 : w67.cell? ⟨gb159, 3, none⟩ = some (.int .u8 0) := (blk_cell BK159.out 3).trans rfl
                  have hcz77_4 : w67.cell? ⟨gb159, 4, none⟩ = some (.int .u8 0) := (blk_cell BK159.out 4).trans rfl
                  have hcz77_5 : w67.cell? ⟨gb159, 5, none⟩ = some (.int .u8 0) := (blk_cell BK159.out 5).trans rfl
                  have hcz77_6 : w67.cell? ⟨gb159, 6, none⟩ = some (.int .u8 0) := (blk_cell BK159.out 6).trans rfl
                  have hcz77_7 : w67.cell? ⟨gb159, 7, none⟩ = some (.int .u64 0) := (blk_cell BK159.out 7).trans rfl
                  have hfz77_0 := blk_frozen BK159.out 0
                  have hfz77_1 := blk_frozen BK159.out 1
                  have hfz77_2 := blk_frozen BK159.out 2
                  have hfz77_3 := blk_frozen BK159.out 3
                  have hfz77_4 := blk_frozen BK159.out 4
                  have hfz77_5 := blk_frozen BK159.out 5
                  have hfz77_6 := blk_frozen BK159.out 6
                  have hfz77_7 := blk_frozen BK159.out 7
                  have hcz78_0 : w67.cell? ⟨gb145, 0, none⟩ = some (.string (⟨#[]⟩ : ByteArray)) := (blk_cell BK145.out 0).trans rfl
                  have hcz78_1 : w67.cell? ⟨gb145, 1, none⟩ = some (.int .i64 0) := (blk_cell BK145.out 1).trans rfl
                  have hcz78_2 : w67.cell? ⟨gb145, 2, none⟩ = some (.string (⟨#[]⟩ : ByteArray)) := (blk_cell BK145.out 2).trans rfl
                  have hcz78_3 : w67.cell? ⟨gb145, 3, none⟩ = some (.int .u8 0) := (blk_cell BK145.out 3).trans rfl
                  have hcz78_4 : w67.cell? ⟨gb145, 4, none⟩ = some (.int .u8 0) := (blk_cell BK145.out 4).trans rfl
                  have hcz78_5 : w67.cell? ⟨gb145, 5, none⟩ = some (.int .u8 0) := (blk_cell BK145.out 5).trans rfl
                  have hcz78_6 : w67.cell? ⟨gb145, 6, none⟩ = some (.int .u8 0) := (blk_cell BK145.out 6).trans rfl
                  have hcz78_7 : w67.cell? ⟨gb145, 7, none⟩ = some (.int .u64 0) := (blk_cell BK145.out 7).trans rfl
                  have hfz78_0 := blk_frozen BK145.out 0
                  have hfz78_1 := blk_frozen BK145.out 1
                  have hfz78_2 := blk_frozen BK145.out 2
                  have hfz78_3 := blk_frozen BK145.out 3
                  have hfz78_4 := blk_frozen BK145.out 4
                  have hfz78_5 := blk_frozen BK145.out 5
                  have hfz78_6 := blk_frozen BK145.out 6
                  have hfz78_7 := blk_frozen BK145.out 7
                  try go_wp2
                  refine bodyPost_ret (results_ct rfl _ _ gb145 29 #[.string (⟨#[]⟩ : ByteArray), .int .i64 0, .string (⟨#[]⟩ : ByteArray), .int .u8 0, .int .u8 0, .int .u8 0, .int .u8 0, .int .u64 0] (0, 0) _ rfl (by (with_reducible repeat (first | refine blk_drewN ?_ _ | refine blk_drew ?_ | refine blk_alloc ?_ _)); refine blk_put (cs := #[.string (⟨#[]⟩ : ByteArray), .int .i64 0, .string (⟨#[]⟩ : ByteArray), .int .u8 0, .int .u8 0, .int .u8 0, .int .u8 0, .int .u64 0]) ?_ 7 _ rfl; (with_reducible repeat (first | refine blk_drewN ?_ _ | refine blk_drew ?_ | refine blk_alloc ?_ _)); refine blk_put (cs := #[.string (⟨#[]⟩ : ByteArray), .int .i64 0, .string (⟨#[]⟩ : ByteArray), .int .u8 0, .int .u8 0, .int .u8 0, .int .u8 0, .int .u64 0]) ?_ 6 _ rfl; (with_reducible repeat (first | refine blk_drewN ?_ _ | refine blk_drew ?_ | refine blk_alloc ?_ _)); refine blk_put (cs := #[.string (⟨#[]⟩ : ByteArray), .int .i64 0, .string (⟨#[]⟩ : ByteArray), .int .u8 0, .int .u8 0, .int .u8 0, .int .u8 0, .int .u64 0]) ?_ 5 _ rfl; (with_reducible repeat (first | refine blk_drewN ?_ _ | refine blk_drew ?_ | refine blk_alloc ?_ _)); refine blk_put (cs := #[.string (⟨#[]⟩ : ByteArray), .int .i64 0, .string (⟨#[]⟩ : ByteArray), .int .u8 0, .int .u8 0, .int .u8 0, .int .u8 0, .int .u64 0]) ?_ 4 _ rfl; (with_reducible repeat (first | refine blk_drewN ?_ _ | refine blk_drew ?_ | refine blk_alloc ?_ _)); refine blk_put (cs := #[.string (⟨#[]⟩ : ByteArray), .int .i64 0, .string (⟨#[]⟩ : ByteArray), .int .u8 0, .int .u8 0, .int .u8 0, .int .u8 0, .int .u64 0]) ?_ 3 _ rfl; (with_reducible repeat (first | refine blk_drewN ?_ _ | refine blk_drew ?_ | refine blk_alloc ?_ _)); refine blk_put (cs := #[.string (⟨#[]⟩ : ByteArray), .int .i64 0, .string (⟨#[]⟩ : ByteArray), .int .u8 0, .int .u8 0, .int .u8 0, .int .u8 0, .int .u64 0]) ?_ 2 _ rfl; (with_reducible repeat (first | refine blk_drewN ?_ _ | refine blk_drew ?_ | refine blk_alloc ?_ _)); refine blk_put (cs := #[.string (⟨#[]⟩ : ByteArray), .int .i64 0, .string (⟨#[]⟩ : ByteArray), .int .u8 0, .int .u8 0, .int .u8 0, .int .u8 0, .int .u64 0]) ?_ 1 _ rfl; (with_reducible repeat (first | refine blk_drewN ?_ _ | refine blk_drew ?_ | refine blk_alloc ?_ _)); refine blk_put (cs := #[.string (⟨#[]⟩ : ByteArray), .int .i64 0, .string (⟨#[]⟩ : ByteArray), .int .u8 0, .int .u8 0, .int .u8 0, .int .u8 0, .int .u64 0]) ?_ 0 _ rfl; (with_reducible repeat (first | refine blk_drewN ?_ _ | refine blk_drew ?_ | refine blk_alloc ?_ _)); refine blk_far ?_ NB145_159.out _; (with_reducible repeat (first | refine blk_drewN ?_ _ | refine blk_drew ?_ | refine blk_alloc ?_ _)); refine blk_far ?_ NB145_159.out _; (with_reducible repeat (first | refine blk_drewN ?_ _ | refine blk_drew ?_ | refine blk_alloc ?_ _)); refine blk_far ?_ NB145_159.out _; (with_reducible repeat (first | refine blk_drewN ?_ _ | refine blk_drew ?_ | refine blk_alloc ?_ _)); refine blk_far ?_ NB145_159.out _; (with_reducible repeat (first | refine blk_drewN ?_ _ | refine blk_drew ?_ | refine blk_alloc ?_ _)); refine blk_far ?_ NB145_159.out _; (with_reducible repeat (first | refine blk_drewN ?_ _ | refine blk_drew ?_ | refine blk_alloc ?_ _)); refine blk_far ?_ NB145_159.out _; (with_reducible repeat (first | refine blk_drewN ?_ _ | refine blk_drew ?_ | refine blk_alloc ?_ _)); refine blk_far ?_ NB145_159.out _; (with_reducible repeat (first | refine blk_drewN ?_ _ | refine blk_drew ?_ | refine blk_alloc ?_ _)); refine blk_far ?_ NB145_159.out _; (with_reducible repeat (first | refine blk_drewN ?_ _ | refine blk_drew ?_ | refine blk_alloc ?_ _)); exact BK145.out) Tryd.underlying29 rfl (by kernel_rfl)) rfl ?_
                  exact ⟨by first | rfl | (simp [errW_none, errW_some] <;> rfl) | (simp [*, errW_none, errW_some] <;> rfl), by repeat (first | (with_reducible first | exact HB.out | apply below_alloc | apply pw_below_drewN | apply below_drew1 | refine below_set ?_ GE145.out | refine below_set ?_ GE159.out) | exact HB.out)⟩
                · rw [if_neg c64] at H
                  have c64b0 : decide (1 < (t152.size : Int)) = false := decide_eq_false c64
                  have c64b1 : decide (1 < t152.size) = false := decide_eq_false (by omega)
                  clear c64
                  simp only [Option.some.injEq, Prod.mk.injEq] at H
                  obtain ⟨rfl, rfl, rfl, rfl, rfl, rfl, rfl, rfl, rfl⟩ := H
                  try go_wp2
                  have n0_ := Aside0.mk (Kd.R_drew HO_6.out)
                  have n1_ := Aside0.mk (blk_drew BK145.out)
                  have n2_ := Aside0.mk (below_drew1 HB.out)
                  clear HO_6
                  clear BK145
                  clear HB
                  have HO_6 := n0_
                  have BK145 := n1_
                  have HB := n2_
                  clear n0_ n1_ n2_
                  obtain ⟨Ao80, co80, eo80⟩ := Kd.R_slice HO_6.out
                  (first | subst eo80 | (injection eo80 with f1_ f2_ f3_; have f4_ := f1_.symm; have f5_ := f3_.symm; clear f1_ f2_ f3_; subst f4_; subst f5_))
                  have p158 : 0 ≤ (0 : Int) := (by omega)
                  have q158 : 0 < (t151.length : Int) := of_decide_eq_true (by first | (with_reducible assumption) | assumption)
                  obtain ⟨ad158, e158, hx158_0, hx158_1, hx158_2, hx158_3⟩ := at_T51 (Kd.R_reads' HO_6.out).2.2 0 p158 q158
                  cases e158
                  have qi158 : (0 < t151.length) = True := eq_true (by omega)
                  (try rw [show ((0 : Int)).toNat = 0 from rfl] at hx158_0)
                  (try rw [show 0 * 4 = 0 from rfl] at hx158_0)
                  (try rw [Addr.add_zero'] at hx158_0)
                  (try rw [show ((0 : Int)).toNat = 0 from rfl] at hx158_1)
                  (try rw [show 0 * 4 = 0 from rfl] at hx158_1)
                  (try rw [Addr.add_zero'] at hx158_1)
                  (try rw [show ((0 : Int)).toNat = 0 from rfl] at hx158_2)
                  (try rw [show 0 * 4 = 0 from rfl] at hx158_2)
                  (try rw [Addr.add_zero'] at hx158_2)
                  (try rw [show ((0 : Int)).toNat = 0 from rfl] at hx158_3)
                  (try rw [show 0 * 4 = 0 from rfl] at hx158_3)
                  (try rw [Addr.add_zero'] at hx158_3)
                  replace p158 := eq_true p158
                  replace q158 := eq_true q158
                  have p21 : 0 ≤ (0 : Int) := (by omega)
                  have q21 : 0 < t152.size := (by have : (0 : Int) < (t152.size : Int) := of_decide_eq_true (by first | (with_reducible assumption) | assumption); omega)
                  have hx21 : ∀ h : 0 < t152.size, ((t152[0]'h).toNat : Int) = bt t152 0 := bt_at t152 0
                  clear p21
                  have qi21 : (0 < (t152.size : Int)) = True := eq_true (of_decide_eq_true (by first | (with_reducible assumption) | assumption))
                  replace q21 := eq_true q21
                  refine start_ (n := 10) (S := fun w' => w'.cell? ad158 = some (.int .i64 ((rd_T51 t151 0).f0)) ∧ w'.cell? ⟨ad158.block, ad158.off + 1, none⟩ = some (.string ((rd_T51 t151 0).f1)) ∧ w'.cell? ⟨ad158.block, ad158.off + 2, none⟩ = some (.int .u64 ((rd_T51 t151 0).f2)) ∧ w'.cell? ⟨ad158.block, ad158.off + 3, none⟩ = some (.int .i64 ((rd_T51 t151 0).f3))) (ds := []) #[false, false, false, false, false, false, false, false, false, false] (by kernel_rfl) rfl rfl ⟨hx158_0, hx158_1, hx158_2, hx158_3⟩ (fun hHeld => ?_); refine with_tabW layout_Parse.tab5 layout_Parse.bits5 (fun HT_ HW_ => ?_)
                  generalize wc.drew = w79 at HO_6 BK145 HB hx158_0 hx158_1 hx158_2 hx158_3 hHeld ⊢
                  refine pure_ (i := 0) (N := some 41) (v := ?_) (a' := ?_) #[true, false, false, false, false, false, false, false, false, false] rfl rfl (any_of HT_.out (by kernel_rfl)) (fun _ _ _ h => h) (Or.inl ⟨by rfl, ?_⟩) ?_ ?_
                  rotate_left
                  · intro w'
                    go_simp
                    with_reducible rfl
                  rotate_left
                  · simp only [Act.put, List.setIfInBounds_toArray, List.set_cons_zero, List.set_cons_succ, i64_w, i32_w]
                    rfl
                  refine pure_ (i := 1) (N := some 42) (v := ?_) (a' := ?_) #[true, true, false, false, false, false, false, false, false, false] rfl rfl (any_of HT_.out (by kernel_rfl)) (fun _ _ _ h => h) (Or.inl ⟨by rfl, ?_⟩) ?_ ?_
                  rotate_left
                  · intro w'
                    go_simp
                    with_reducible rfl
                  rotate_left
                  · simp only [Act.put, List.setIfInBounds_toArray, List.set_cons_zero, List.set_cons_succ, i64_w, i32_w]
                    rfl
                  refine pure_ (i := 2) (N := some 43) (v := ?_) (a' := ?_) #[true, true, true, false, false, false, false, false, false, false] rfl rfl (any_of HT_.out (by kernel_rfl)) (fun _ _ _ h => h) (Or.inl ⟨by rfl, ?_⟩) ?_ ?_
                  rotate_left
                  · intro w'
                    go_simp
                    with_reducible rfl
                  rotate_left
                  · simp only [Act.put, List.setIfInBounds_toArray, List.set_cons_zero, List.set_cons_succ, i64_w, i32_w]
                    rfl
                  refine pure_ (i := 4) (N := some 45) (v := ?_) (a' := ?_) #[true, true, true, false, true, false, false, false, false, false] rfl rfl (any_of HT_.out (by kernel_rfl)) (fun _ _ _ h => h) (Or.inl ⟨by rfl, ?_⟩) ?_ ?_
                  rotate_left
                  · intro w'
                    go_simp
                    with_reducible rfl
                  rotate_left
                  · simp only [Act.put, List.setIfInBounds_toArray, List.set_cons_zero, List.set_cons_succ, i64_w, i32_w]
                    rfl
                  refine take_ (i := 3) (N := some 44) (v := ?_) (a' := ?_) #[true, true, true, true, true, false, false, false, false, false] rfl rfl (take_ofW HT_.out HW_.out (by kernel_rfl)) (fun _ _ _ h => h) (Or.inl ⟨by rfl, ?_⟩) hHeld ?_ ?_
                  rotate_left
                  · rintro w' ⟨s0, s1, s2, s3⟩
                    go_simp
                    with_reducible rfl
                  rotate_left
                  · simp only [Act.put, List.setIfInBounds_toArray, List.set_cons_zero, List.set_cons_succ, i64_w, i32_w]
                    rfl
                  refine take_ (i := 5) (N := some 46) (v := ?_) (a' := ?_) #[true, true, true, true, true, true, false, false, false, false] rfl rfl (take_ofW HT_.out HW_.out (by kernel_rfl)) (fun _ _ _ h => h) (Or.inl ⟨by rfl, ?_⟩) hHeld ?_ ?_
                  rotate_left
                  · rintro w' ⟨s0, s1, s2, s3⟩
                    go_simp
                    with_reducible rfl
                  rotate_left
                  · simp only [Act.put, List.setIfInBounds_toArray, List.set_cons_zero, List.set_cons_succ, i64_w, i32_w]
                    rfl
                  refine pure_ (i := 6) (N := some 47) (v := ?_) (a' := ?_) #[true, true, true, true, true, true, true, false, false, false] rfl rfl (any_of HT_.out (by kernel_rfl)) (fun _ _ _ h => h) (Or.inl ⟨by rfl, ?_⟩) ?_ ?_
                  rotate_left
                  · intro w'
                    go_simp
                    with_reducible rfl
                  rotate_left
                  · simp only [Act.put, List.setIfInBounds_toArray, List.set_cons_zero, List.set_cons_succ, i64_w, i32_w]
                    rfl
                  refine pure_ (i := 7) (N := some 48) (v := ?_) (a' := ?_) #[true, true, true, true, true, true, true, true, false, false] rfl rfl (any_of HT_.out (by kernel_rfl)) (fun _ _ _ h => h) (Or.inl ⟨by rfl, ?_⟩) ?_ ?_
                  rotate_left
                  · intro w'
                    go_simp
                    with_reducible rfl
                  rotate_left
                  · simp only [Act.put, List.setIfInBounds_toArray, List.set_cons_zero, List.set_cons_succ, i64_w, i32_w]
                    rfl
                  refine one_ (i := 8) (N := some 9) #[true, true, true, true, true, true, true, true, true, false] rfl rfl (one_of HT_.out (by kernel_rfl)) (by decide) (fun K hK => ?_)
                  refine box_step ?hg (N := 9) ?hd (cs := #[.string (⟨#[]⟩ : ByteArray), .int .i64 0, .string (⟨#[]⟩ : ByteArray), .int .u8 0, .int .u8 0, .int .u8 0, .int .u8 0, .int .u64 0]) (t := 29) ?hr ?_; (case hd => rfl); (case hg => rfl); (case hr => first | (go_simp; done) | (go_simp; rfl))
                  intro gb159 hg w81 hbox hb
                  have HS0_ := (hb.cell (World.block_lt_of_cell? _ _ (hHeld.1))).trans (hHeld.1)
                  have HS1_ := (hb.cell (World.block_lt_of_cell? _ _ (hHeld.2.1))).trans (hHeld.2.1)
                  have HS2_ := (hb.cell (World.block_lt_of_cell? _ _ (hHeld.2.2.1))).trans (hHeld.2.2.1)
                  have HS3_ := (hb.cell (World.block_lt_of_cell? _ _ (hHeld.2.2.2))).trans (hHeld.2.2.2)
                  have n0_ := Aside0.mk (Kd.R_below (by (with_reducible repeat (first | apply Kd.R_alloc | apply Kd.R_drewN | apply Kd.R_drew)); exact HO_6.out) hb)
                  have n1_ := Aside0.mk (blk_below (g := gb145) (o := .cells #[.string (⟨#[]⟩ : ByteArray), .int .i64 0, .string (⟨#[]⟩ : ByteArray), .int .u8 0, .int .u8 0, .int .u8 0, .int .u8 0, .int .u64 0] 29 (0, 0)) (by (with_reducible repeat (first | refine blk_drewN ?_ _ | refine blk_drew ?_ | refine blk_alloc ?_ _)); exact BK145.out) hb)
                  have n2_ := Aside0.mk (below_step (by repeat (first | (with_reducible first | exact HB.out | apply below_alloc | apply pw_below_drewN | apply below_drew1 | refine below_set ?_ GE145.out) | exact HB.out)) hb)
                  have n3_ := Aside0.mk (hbox)
                  have n4_ := Aside0.mk ((by rw [hg]; exact (below_size (by repeat (first | (with_reducible first | exact HB.out | apply below_alloc | apply pw_below_drewN | apply below_drew1 | refine below_set ?_ GE145.out) | exact HB.out))) : w.heap.size ≤ gb159))
                  have n5_ := Aside0.mk ((by rw [hg]; exact (below_size (by repeat (first | (with_reducible first | exact HB.out | apply below_alloc | apply pw_below_drewN | apply below_drew1 | refine below_set ?_ GE145.out) | exact HB.out))) : w.heap.size ≤ gb159))
                  have n6_ := Aside0.mk ((by rw [hg]; exact Nat.ne_of_lt (blk_lt (g := gb145) (o := .cells #[.string (⟨#[]⟩ : ByteArray), .int .i64 0, .string (⟨#[]⟩ : ByteArray), .int .u8 0, .int .u8 0, .int .u8 0, .int .u8 0, .int .u64 0] 29 (0, 0)) (by (with_reducible repeat (first | refine blk_drewN ?_ _ | refine blk_drew ?_ | refine blk_alloc ?_ _)); exact BK145.out)) : gb145 ≠ gb159))
                  have n7_ := Aside0.mk ((by rw [hg]; exact Nat.ne_of_gt (blk_lt (g := gb145) (o := .cells #[.string (⟨#[]⟩ : ByteArray), .int .i64 0, .string (⟨#[]⟩ : ByteArray), .int .u8 0, .int .u8 0, .int .u8 0, .int .u8 0, .int .u64 0] 29 (0, 0)) (by (with_reducible repeat (first | refine blk_drewN ?_ _ | refine blk_drew ?_ | refine blk_alloc ?_ _)); exact BK145.out)) : gb159 ≠ gb145))
                  clear HO_6
                  clear BK145
                  clear HB
                  have HO_6 := n0_
                  have BK145 := n1_
                  have HB := n2_
                  have BK159 := n3_
                  have GW159 := n4_
                  have GE159 := n5_
                  have NB145_159 := n6_
                  have NB159_145 := n7_
                  clear n0_ n1_ n2_ n3_ n4_ n5_ n6_ n7_
                  clear hb hbox hg
                  refine hK.out _ _ ⟨HS0_, HS1_, HS2_, HS3_⟩ (fun hHeld => ?_)
                  clear hK K
                  refine norm_ (a' := ?_) ?_ ?_
                  rotate_left
                  · show Act.put _ (some 9) _ = _
                    simp only [Act.put, List.setIfInBounds_toArray, List.set_cons_zero, List.set_cons_succ, i64_w, i32_w]
                    rfl
                  refine one_ (i := 9) (N := none) #[true, true, true, true, true, true, true, true, true, true] rfl rfl (one_of HT_.out (by kernel_rfl)) (by decide) (fun K hK => ?_)
                  have hs82 : w81.cell? ⟨gb159, 0, none⟩ = some (.string (⟨#[]⟩ : ByteArray)) := (blk_cell BK159.out 0).trans rfl
                  have hfs82 := blk_frozen BK159.out 0
                  have hns82_0 := NB145_159.out
                  have hms82_0 := NB159_145.out
                  have hs83 : w81.cell? ⟨gb159, 1, none⟩ = some (.int .i64 0) := (blk_cell BK159.out 1).trans rfl
                  have hfs83 := blk_frozen BK159.out 1
                  have hns83_0 := NB145_159.out
                  have hms83_0 := NB159_145.out
                  have hs84 : w81.cell? ⟨gb159, 2, none⟩ = some (.string (⟨#[]⟩ : ByteArray)) := (blk_cell BK159.out 2).trans rfl
                  have hfs84 := blk_frozen BK159.out 2
                  have hns84_0 := NB145_159.out
                  have hms84_0 := NB159_145.out
                  have hs85 : w81.cell? ⟨gb159, 3, none⟩ = some (.int .u8 0) := (blk_cell BK159.out 3).trans rfl
                  have hfs85 := blk_frozen BK159.out 3
                  have hns85_0 := NB145_159.out
                  have hms85_0 := NB159_145.out
                  have hs86 : w81.cell? ⟨gb159, 4, none⟩ = some (.int .u8 0) := (blk_cell BK159.out 4).trans rfl
                  have hfs86 := blk_frozen BK159.out 4
                  have hns86_0 := NB145_159.out
                  have hms86_0 := NB159_145.out
                  have hs87 : w81.cell? ⟨gb159, 5, none⟩ = some (.int .u8 0) := (blk_cell BK159.out 5).trans rfl
                  have hfs87 := blk_frozen BK159.out 5
                  have hns87_0 := NB145_159.out
                  have hms87_0 := NB159_145.out
                  have hs88 : w81.cell? ⟨gb159, 6, none⟩ = some (.int .u8 0) := (blk_cell BK159.out 6).trans rfl
                  have hfs88 := blk_frozen BK159.out 6
                  have hns88_0 := NB145_159.out
                  have hms88_0 := NB159_145.out
                  have hs89 : w81.cell? ⟨gb159, 7, none⟩ = some (.int .u64 0) := (blk_cell BK159.out 7).trans rfl
                  have hfs89 := blk_frozen BK159.out 7
                  have hns89_0 := NB145_159.out
                  have hms89_0 := NB159_145.out
                  refine skip_ (w1 := ?_) (by rfl) rfl ?_ ?_
                  rotate_left
                  · go_simp
                    rfl
                  refine hK.out _ _ ⟨(far_cell_ (g := gb159) (by with_reducible repeat (first | exact FarFrom_.refl _ _ | apply FarFrom_.set)) (by first | exact Kd.own_blk (Kd.R_ne HO_6.out BK159.out (by decide)) | (rw [add_block]; exact Kd.own_blk (Kd.R_ne HO_6.out BK159.out (by decide))) | (show (Addr.add _ _).block ≠ _; rw [add_block]; exact Kd.own_blk (Kd.R_ne HO_6.out BK159.out (by decide))) | (dsimp only; exact Kd.own_blk (Kd.R_ne HO_6.out BK159.out (by decide)))) (hHeld.1)), (far_cell_ (g := gb159) (by with_reducible repeat (first | exact FarFrom_.refl _ _ | apply FarFrom_.set)) (by first | exact Kd.own_blk (Kd.R_ne HO_6.out BK159.out (by decide)) | (rw [add_block]; exact Kd.own_blk (Kd.R_ne HO_6.out BK159.out (by decide))) | (show (Addr.add _ _).block ≠ _; rw [add_block]; exact Kd.own_blk (Kd.R_ne HO_6.out BK159.out (by decide))) | (dsimp only; exact Kd.own_blk (Kd.R_ne HO_6.out BK159.out (by decide)))) (hHeld.2.1)), (far_cell_ (g := gb159) (by with_reducible repeat (first | exact FarFrom_.refl _ _ | apply FarFrom_.set)) (by first | exact Kd.own_blk (Kd.R_ne HO_6.out BK159.out (by decide)) | (rw [add_block]; exact Kd.own_blk (Kd.R_ne HO_6.out BK159.out (by decide))) | (show (Addr.add _ _).block ≠ _; rw [add_block]; exact Kd.own_blk (Kd.R_ne HO_6.out BK159.out (by decide))) | (dsimp only; exact Kd.own_blk (Kd.R_ne HO_6.out BK159.out (by decide)))) (hHeld.2.2.1)), (far_cell_ (g := gb159) (by with_reducible repeat (first | exact FarFrom_.refl _ _ | apply FarFrom_.set)) (by first | exact Kd.own_blk (Kd.R_ne HO_6.out BK159.out (by decide)) | (rw [add_block]; exact Kd.own_blk (Kd.R_ne HO_6.out BK159.out (by decide))) | (show (Addr.add _ _).block ≠ _; rw [add_block]; exact Kd.own_blk (Kd.R_ne HO_6.out BK159.out (by decide))) | (dsimp only; exact Kd.own_blk (Kd.R_ne HO_6.out BK159.out (by decide)))) (hHeld.2.2.2))⟩ (fun hHeld => ?_)
                  clear hK K
                  refine done_ (done_of HT_.out (by kernel_rfl)) ?_
                  have hnb90 := NB159_145.out
                  have hnc90 := NB145_159.out
                  have hcz91_0 : w81.cell? ⟨gb159, 0, none⟩ = some (.string (⟨#[]⟩ : ByteArray)) := (blk_cell BK159.out 0).trans rfl
                  have hcz91_1 : w81.cell? ⟨gb159, 1, none⟩ = some (.int .i64 0) := (blk_cell BK159.out 1).trans rfl
                  have hcz91_2 : w81.cell? ⟨gb159, 2, none⟩ = some (.string (⟨#[]⟩ : ByteArray)) := (blk_cell BK159.out 2).trans rfl
                  have hcz91_3 : w81.cell? ⟨gb159, 3, none⟩ = some (.int .u8 0) := (blk_cell BK159.out 3).trans rfl
                  have hcz91_4 : w81.cell? ⟨gb159, 4, none⟩ = some (.int .u8 0) := (blk_cell BK159.out 4).trans rfl
                  have hcz91_5 : w81.cell? ⟨gb159, 5, none⟩ = some (.int .u8 0) := (blk_cell BK159.out 5).trans rfl
                  have hcz91_6 : w81.cell? ⟨gb159, 6, none⟩ = some (.int .u8 0) := (blk_cell BK159.out 6).trans rfl
                  have hcz91_7 : w81.cell? ⟨gb159, 7, none⟩ = some (.int .u64 0) := (blk_cell BK159.out 7).trans rfl
                  have hfz91_0 := blk_frozen BK159.out 0
                  have hfz91_1 := blk_frozen BK159.out 1
                  have hfz91_2 := blk_frozen BK159.out 2
                  have hfz91_3 := blk_frozen BK159.out 3
                  have hfz91_4 := blk_frozen BK159.out 4
                  have hfz91_5 := blk_frozen BK159.out 5
                  have hfz91_6 := blk_frozen BK159.out 6
                  have hfz91_7 := blk_frozen BK159.out 7
                  have hcz92_0 : w81.cell? ⟨gb145, 0, none⟩ = some (.string (⟨#[]⟩ : ByteArray)) := (blk_cell BK145.out 0).trans rfl
                  have hcz92_1 : w81.cell? ⟨gb145, 1, none⟩ = some (.int .i64 0) := (blk_cell BK145.out 1).trans rfl
                  have hcz92_2 : w81.cell? ⟨gb145, 2, none⟩ = some (.string (⟨#[]⟩ : ByteArray)) := (blk_cell BK145.out 2).trans rfl
                  have hcz92_3 : w81.cell? ⟨gb145, 3, none⟩ = some (.int .u8 0) := (blk_cell BK145.out 3).trans rfl
                  have hcz92_4 : w81.cell? ⟨gb145, 4, none⟩ = some (.int .u8 0) := (blk_cell BK145.out 4).trans rfl
                  have hcz92_5 : w81.cell? ⟨gb145, 5, none⟩ = some (.int .u8 0) := (blk_cell BK145.out 5).trans rfl
                  have hcz92_6 : w81.cell? ⟨gb145, 6, none⟩ = some (.int .u8 0) := (blk_cell BK145.out 6).trans rfl
                  have hcz92_7 : w81.cell? ⟨gb145, 7, none⟩ = some (.int .u64 0) := (blk_cell BK145.out 7).trans rfl
                  have hfz92_0 := blk_frozen BK145.out 0
                  have hfz92_1 := blk_frozen BK145.out 1
                  have hfz92_2 := blk_frozen BK145.out 2
                  have hfz92_3 := blk_frozen BK145.out 3
                  have hfz92_4 := blk_frozen BK145.out 4
                  have hfz92_5 := blk_frozen BK145.out 5
                  have hfz92_6 := blk_frozen BK145.out 6
                  have hfz92_7 := blk_frozen BK145.out 7
                  try go_wp2
                  refine bodyPost_ret (results_ct rfl _ _ gb145 29 #[.string ((rd_T51 t151 0).f1), .int .i64 (wrap64 (bt t152 0)), .string (⟨#[]⟩ : ByteArray), .int .u8 0, .int .u8 0, .int .u8 0, .int .u8 0, .int .u64 0] (0, 0) _ rfl (by (with_reducible repeat (first | refine blk_drewN ?_ _ | refine blk_drew ?_ | refine blk_alloc ?_ _)); refine blk_put (cs := #[.string ((rd_T51 t151 0).f1), .int .i64 (wrap64 (bt t152 0)), .string (⟨#[]⟩ : ByteArray), .int .u8 0, .int .u8 0, .int .u8 0, .int .u8 0, .int .u64 0]) ?_ 7 _ rfl; (with_reducible repeat (first | refine blk_drewN ?_ _ | refine blk_drew ?_ | refine blk_alloc ?_ _)); refine blk_put (cs := #[.string ((rd_T51 t151 0).f1), .int .i64 (wrap64 (bt t152 0)), .string (⟨#[]⟩ : ByteArray), .int .u8 0, .int .u8 0, .int .u8 0, .int .u8 0, .int .u64 0]) ?_ 6 _ rfl; (with_reducible repeat (first | refine blk_drewN ?_ _ | refine blk_drew ?_ | refine blk_alloc ?_ _)); refine blk_put (cs := #[.string ((rd_T51 t151 0).f1), .int .i64 (wrap64 (bt t152 0)), .string (⟨#[]⟩ : ByteArray), .int .u8 0, .int .u8 0, .int .u8 0, .int .u8 0, .int .u64 0]) ?_ 5 _ rfl; (with_reducible repeat (first | refine blk_drewN ?_ _ | refine blk_drew ?_ | refine blk_alloc ?_ _)); refine blk_put (cs := #[.string ((rd_T51 t151 0).f1), .int .i64 (wrap64 (bt t152 0)), .string (⟨#[]⟩ : ByteArray), .int .u8 0, .int .u8 0, .int .u8 0, .int .u8 0, .int .u64 0]) ?_ 4 _ rfl; (with_reducible repeat (first | refine blk_drewN ?_ _ | refine blk_drew ?_ | refine blk_alloc ?_ _)); refine blk_put (cs := #[.string ((rd_T51 t151 0).f1), .int .i64 (wrap64 (bt t152 0)), .string (⟨#[]⟩ : ByteArray), .int .u8 0, .int .u8 0, .int .u8 0, .int .u8 0, .int .u64 0]) ?_ 3 _ rfl; (with_reducible repeat (first | refine blk_drewN ?_ _ | refine blk_drew ?_ | refine blk_alloc ?_ _)); refine blk_put (cs := #[.string ((rd_T51 t151 0).f1), .int .i64 (wrap64 (bt t152 0)), .string (⟨#[]⟩ : ByteArray), .int .u8 0, .int .u8 0, .int .u8 0, .int .u8 0, .int .u64 0]) ?_ 2 _ rfl; (with_reducible repeat (first | refine blk_drewN ?_ _ | refine blk_drew ?_ | refine blk_alloc ?_ _)); refine blk_put (cs := #[.string ((rd_T51 t151 0).f1), .int .i64 0, .string (⟨#[]⟩ : ByteArray), .int .u8 0, .int .u8 0, .int .u8 0, .int .u8 0, .int .u64 0]) ?_ 1 _ rfl; (with_reducible repeat (first | refine blk_drewN ?_ _ | refine blk_drew ?_ | refine blk_alloc ?_ _)); refine blk_put (cs := #[.string (⟨#[]⟩ : ByteArray), .int .i64 0, .string (⟨#[]⟩ : ByteArray), .int .u8 0, .int .u8 0, .int .u8 0, .int .u8 0, .int .u64 0]) ?_ 0 _ rfl; (with_reducible repeat (first | refine blk_drewN ?_ _ | refine blk_drew ?_ | refine blk_alloc ?_ _)); refine blk_far ?_ NB145_159.out _; (with_reducible repeat (first | refine blk_drewN ?_ _ | refine blk_drew ?_ | refine blk_alloc ?_ _)); refine blk_far ?_ NB145_159.out _; (with_reducible repeat (first | refine blk_drewN ?_ _ | refine blk_drew ?_ | refine blk_alloc ?_ _)); refine blk_far ?_ NB145_159.out _; (with_reducible repeat (first | refine blk_drewN ?_ _ | refine blk_drew ?_ | refine blk_alloc ?_ _)); refine blk_far ?_ NB145_159.out _; (with_reducible repeat (first | refine blk_drewN ?_ _ | refine blk_drew ?_ | refine blk_alloc ?_ _)); refine blk_far ?_ NB145_159.out _; (with_reducible repeat (first | refine blk_drewN ?_ _ | refine blk_drew ?_ | refine blk_alloc ?_ _)); refine blk_far ?_ NB145_159.out _; (with_reducible repeat (first | refine blk_drewN ?_ _ | refine blk_drew ?_ | refine blk_alloc ?_ _)); refine blk_far ?_ NB145_159.out _; (with_reducible repeat (first | refine blk_drewN ?_ _ | refine blk_drew ?_ | refine blk_alloc ?_ _)); refine blk_far ?_ NB145_159.out _; (with_reducible repeat (first | refine blk_drewN ?_ _ | refine blk_drew ?_ | refine blk_alloc ?_ _)); exact BK145.out) Tryd.underlying29 rfl (by kernel_rfl)) rfl ?_
                  exact ⟨by first | rfl | (simp [errW_none, errW_some] <;> rfl) | (simp [*, errW_none, errW_some] <;> rfl), by repeat (first | (with_reducible first | exact HB.out | apply below_alloc | apply pw_below_drewN | apply below_drew1 | refine below_set ?_ GE145.out | refine below_set ?_ GE159.out) | exact HB.out)⟩
          · rw [if_neg c20] at H
            exact absurd H (by simp)
        · rw [if_neg c19] at H
          exact absurd H (by simp)

end Go.Proofs.YtdigpaniganndaaDoor.PAll
