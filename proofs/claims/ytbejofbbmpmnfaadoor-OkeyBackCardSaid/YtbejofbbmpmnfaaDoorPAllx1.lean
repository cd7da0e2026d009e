-- Printed by a program of this session (wip/drive.py, over the kit's print.py with its own changes). Lean checks it.
import Derived.Test.YtbejofbbmpmnfaaDoorPAllx0
namespace Go.Proofs.YtbejofbbmpmnfaaDoor.PAll
open Go.RowKit Go.Proofs.YtbejofbbmpmnfaaDoorW.PrintWords Go.Proofs.YtbejofbbmpmnfaaDoorW.PrintLast Go.Proofs.YtbejofbbmpmnfaaDoorW.PrintMore
attribute [local go_sem] max2_int min2_int max_two min_two max_three min_three max_four min_four   -- for this text's walks alone
set_option linter.unusedVariables false
set_option linter.unusedSimpArgs false

/-! ### okey_Next: function 8 -/
def okey_Next.l0 : Nat → ByteArray → Option (ByteArray × Bool)
  | 0, _ => none
  | k + 1, x0 => if x0.toList = ([] : List UInt8) then (some ((⟨#[]⟩ : ByteArray), false)) else (if 0 ≤ (wrap64 ((x0.size : Int) - 1)) then (if (wrap64 ((x0.size : Int) - 1)) < (x0.size : Int) then (if (bt x0 (wrap64 ((x0.size : Int) - 1))) = 255 then (if (wrap64 ((x0.size : Int) - 1)) ≤ (x0.size : Int) then (okey_Next.l0 k (x0.extract 0 ((wrap64 ((x0.size : Int) - 1)) : Int).toNat)) else (none)) else (if (wrap64 ((x0.size : Int) - 1)) ≤ (x0.size : Int) then ((some (([((bt x0 (wrap64 ((x0.size : Int) - 1))) + 1) % 256] : List Int) : List Int)).bind fun y101 => (if (x0.extract 0 ((wrap64 ((x0.size : Int) - 1)) : Int).toNat).size + (strOfNums y101).size ≤ 9223372036854775807 then (some ((x0.extract 0 ((wrap64 ((x0.size : Int) - 1)) : Int).toNat) ++ (strOfNums y101), true)) else (none))) else (none))) else (none)) else (none))
def okey_Next.f (k : Nat) (a0 : ByteArray) : Option (ByteArray × Bool) := okey_Next.l0 k a0
theorem okey_Next.mono_l : ∀ k, (∀ y0, LeO (okey_Next.l0 k y0) (okey_Next.l0 (k + 1) y0))
  | 0 => fun _ r h => by simp [okey_Next.l0] at h
  | k + 1 => by
    have ih0 := okey_Next.mono_l k
    · intro y0
      unfold okey_Next.l0
      repeat' first
      | (with_reducible exact ih0 _)
      | (with_reducible exact LeO.refl _)
      | (with_reducible exact LeO.none _)
      | (with_reducible refine LeO.ite ?_ ?_)
      | (with_reducible refine LeO.bind ?_ (fun _ => ?_))
      | exact ih0 _
      | exact LeO.none _
      | refine LeO.ite ?_ ?_
      | refine LeO.bind ?_ (fun _ => ?_)
theorem okey_Next.mono : ∀ a0 k, LeO (okey_Next.f k a0) (okey_Next.f (k + 1) a0) := by
  intro a0 k
  have ih0 := okey_Next.mono_l k
  unfold okey_Next.f
  repeat' first
      | (with_reducible exact ih0 _)
      | (with_reducible exact LeO.refl _)
      | (with_reducible exact LeO.none _)
      | (with_reducible refine LeO.ite ?_ ?_)
      | (with_reducible refine LeO.bind ?_ (fun _ => ?_))
      | exact ih0 _
      | exact LeO.none _
      | refine LeO.ite ?_ ?_
      | refine LeO.bind ?_ (fun _ => ?_)
def okey_Next.T6 : Bool × List (List Nat × List Nat) := (true, [([], []), ([], []), ([0, 1], [0, 1]), ([], []), ([], []), ([3, 4], [3, 4]), ([5], [5]), ([6], [6]), ([7], [7]), ([2, 8], [2, 8]), ([9, 0, 1, 2, 3, 4, 5, 6, 7, 8, 9], [9]), ([10, 0, 1, 2, 3, 4, 5, 6, 7, 8, 9, 10], [])])
def okey_Next.B6 : List Nat := [0, 0, 3, 0, 0, 24, 56, 120, 248, 511, 1023, 2047]
theorem okey_Next.tab6 : rtab .any (opsOf Tryd.f8 6) = okey_Next.T6 := by kernel_rfl
theorem okey_Next.bits6 : waitsOk okey_Next.T6.2 okey_Next.B6 = true := by kernel_rfl
set_option maxHeartbeats 8000000 in
set_option maxRecDepth 100000 in
theorem okey_Next.calls (k : Nat) (a0 : ByteArray) (r1 : ByteArray) (r2 : Bool) (w : World) (h : okey_Next.f k a0 = some (r1, r2)) :
    Calls Tryd.prog 8 #[.string a0] w fun e w' => e = .returned (.tuple #[.string r1, .bool r2]) ∧ Below w.heap.size w w' := by
  have HB := Aside0.mk (Below.refl w.heap.size w)
  have H : (okey_Next.l0 k a0) = some (r1, r2) := h
  clear h
  have H' := Aside0.mk H
  clear H
  go_enter Tryd.func8, Tryd.ntmps8
  go_wp2
  go_loopg [0] k (fun kq v0 w' => ∃ (x0_1 : ByteArray), v0 = .string x0_1 ∧ Aside0 (okey_Next.l0 kq x0_1 = some (r1, r2)) ∧ Aside0 (kq ≤ k) ∧ Aside0 (Below w.heap.size w w'))
  case atStart => exact ⟨(a0), (by first | rfl | (simp; done) | (simp [*]; done)), H', ⟨Nat.le_refl _⟩, ⟨by repeat (first | (with_reducible first | exact HB.out | apply below_alloc | apply pw_below_drewN | apply below_drew1) | exact HB.out)⟩⟩
  case round =>
    clear H'
    obtain ⟨x0_1, rfl, HA, HK1, HB⟩ := hrel
    cases gk with
    | zero => exact absurd HA.out (by simp [okey_Next.l0])
    | succ k1 =>
      have H := HA.out
      clear HA
      simp only [okey_Next.l0] at H
      by_cases c2 : x0_1.toList = ([] : List UInt8)
      · rw [if_pos c2] at H
        have c2b0 : (x0_1.toList == ([] : List UInt8)) = true := beq_iff_eq.mpr c2
        have c2b1 : (x0_1.toList != ([] : List UInt8)) = false := bne_eq_false_iff_eq.mpr c2
        clear c2
        simp only [Option.some.injEq, Prod.mk.injEq] at H
        obtain ⟨rfl, rfl⟩ := H
        go_wp2
        go_ret2
        exact ⟨by first | rfl | (simp [errW_none, errW_some] <;> rfl) | (simp [*, errW_none, errW_some] <;> rfl), by repeat (first | (with_reducible first | exact HB.out | apply below_alloc | apply pw_below_drewN | apply below_drew1) | exact HB.out)⟩
      · rw [if_neg c2] at H
        have c2b0 : (x0_1.toList == ([] : List UInt8)) = false := beq_eq_false_iff_ne.mpr c2
        have c2b1 : (x0_1.toList != ([] : List UInt8)) = true := bne_iff_ne.mpr c2
        obtain ⟨ji3, hji3⟩ : ∃ j_ : Int, (wrap64 ((x0_1.size : Int) - 1)) = j_ := ⟨_, rfl⟩
        replace H : (if 0 ≤ (ji3) then (if (ji3) < (x0_1.size : Int) then (if (bt x0_1 (ji3)) = 255 then (if (ji3) ≤ (x0_1.size : Int) then (okey_Next.l0 k1 (x0_1.extract 0 ((ji3) : Int).toNat)) else (none)) else (if (ji3) ≤ (x0_1.size : Int) then ((some (([((bt x0_1 (ji3)) + 1) % 256] : List Int) : List Int)).bind fun y101 => (if (x0_1.extract 0 ((ji3) : Int).toNat).size + (strOfNums y101).size ≤ 9223372036854775807 then (some ((x0_1.extract 0 ((ji3) : Int).toNat) ++ (strOfNums y101), true)) else (none))) else (none))) else (none)) else (none)) = some (r1, r2) := by first | (rw [hji3] at H; exact H) | (simp only [hji3] at H ⊢; exact H)
        have hji3w : (IntKind.i64.wrap ((x0_1.size : Int) - 1)) = ji3 := (i64_w _).trans hji3
        by_cases c4 : 0 ≤ (ji3)
        · rw [if_pos c4] at H
          have c4b0 : decide (0 ≤ (ji3)) = true := decide_eq_true c4
          clear c4
          by_cases c5 : (ji3) < (x0_1.size : Int)
          · rw [if_pos c5] at H
            have c5b0 : decide ((ji3) < (x0_1.size : Int)) = true := decide_eq_true c5
            clear c5
            by_cases c7 : (bt x0_1 (ji3)) = 255
            · rw [if_pos c7] at H
              have c7b0 : ((bt x0_1 (ji3)) == 255) = true := beq_iff_eq.mpr c7
              have c7b1 : ((bt x0_1 (ji3)) != 255) = false := bne_eq_false_iff_eq.mpr c7
              clear c7
              have c8b0 := eq_true (of_decide_eq_true (by first | (with_reducible assumption) | assumption) : 0 ≤ (ji3))
              by_cases c9 : (ji3) ≤ (x0_1.size : Int)
              · rw [if_pos c9] at H
                have c9b0 := eq_true c9
                have c9b1 : decide ((ji3) ≤ (x0_1.size : Int)) = true := decide_eq_true c9
                clear c9
                have H' := Aside0.mk H
                clear H
                have p6 : 0 ≤ ((ji3) : Int) := of_decide_eq_true (by first | (with_reducible assumption) | assumption)
                have q6 : (ji3) < (x0_1.size : Int) := of_decide_eq_true (by first | (with_reducible assumption) | assumption)
                have hx6 := bt_at x0_1 (ji3)
                replace p6 := eq_true p6
                replace q6 := eq_true q6
                go_wp2
                go_roundg k1
                case measure => have := HK1.out; omega
                case rel => exact ⟨(x0_1.extract 0 ((ji3) : Int).toNat), (by first | rfl | (simp; done) | (simp only [← hji3] <;> (first | rfl | simp)) | (simp [*]; done)), H', ⟨by have := HK1.out; omega⟩, ⟨by repeat (first | (with_reducible first | exact HB.out | apply below_alloc | apply pw_below_drewN | apply below_drew1) | exact HB.out)⟩⟩
              · rw [if_neg c9] at H
                exact absurd H (by simp)
            · rw [if_neg c7] at H
              have c7b0 : ((bt x0_1 (ji3)) == 255) = false := beq_eq_false_iff_ne.mpr c7
              have c7b1 : ((bt x0_1 (ji3)) != 255) = true := bne_iff_ne.mpr c7
              have c10b0 := eq_true (of_decide_eq_true (by first | (with_reducible assumption) | assumption) : 0 ≤ (ji3))
              by_cases c11 : (ji3) ≤ (x0_1.size : Int)
              · rw [if_pos c11] at H
                have c11b0 := eq_true c11
                have c11b1 : decide ((ji3) ≤ (x0_1.size : Int)) = true := decide_eq_true c11
                clear c11
                obtain ⟨y101, hy101⟩ : ∃ y_ : List Int, y_ = (([((bt x0_1 (ji3)) + 1) % 256] : List Int)) := ⟨_, rfl⟩
                replace H : (if (x0_1.extract 0 ((ji3) : Int).toNat).size + (strOfNums y101).size ≤ 9223372036854775807 then (some ((x0_1.extract 0 ((ji3) : Int).toNat) ++ (strOfNums y101), true)) else (none)) = some (r1, r2) := by first | (rw [hy101]; with_reducible exact H) | (have H2_ := (Option.bind_some _ _).symm.trans H; rw [hy101]; with_reducible exact H2_) | (have H2_ := (Option.bind_some _ _).symm.trans H; with_reducible exact H2_) | with_reducible exact H | (rw [hy101]; exact H) | exact H
                have Ny101 := Aside0.mk hy101
                clear hy101
                by_cases c13 : (x0_1.extract 0 ((ji3) : Int).toNat).size + (strOfNums y101).size ≤ 9223372036854775807
                · rw [if_pos c13] at H
                  have c13b0 := eq_true c13
                  have c13b1 : decide ((x0_1.extract 0 ((ji3) : Int).toNat).size + (strOfNums y101).size ≤ 9223372036854775807) = true := decide_eq_true c13
                  try have c13b2 : (9223372036854775807 < (x0_1.extract 0 ((ji3) : Int).toNat).size + (strOfNums y101).size) = False := eq_false (Nat.not_lt.2 c13)
                  try have c13b3 : (9223372036854775807 < ((ji3) : Int).toNat + (strOfNums y101).size) = False := eq_false (by have h_ := c13; have e_ := of_eq_true c11b0; simp only [ByteArray.size_extract, ByteArray.size_append, Nat.sub_zero] at h_; omega)
                  simp only [Option.some.injEq, Prod.mk.injEq] at H
                  obtain ⟨rfl, rfl⟩ := H
                  have p6 : 0 ≤ ((ji3) : Int) := of_decide_eq_true (by first | (with_reducible assumption) | assumption)
                  have q6 : (ji3) < (x0_1.size : Int) := of_decide_eq_true (by first | (with_reducible assumption) | assumption)
                  have hx6 := bt_at x0_1 (ji3)
                  replace p6 := eq_true p6
                  replace q6 := eq_true q6
                  try go_wp2
                  have n0_ := Aside0.mk (below_drew1 HB.out)
                  clear HB
                  have HB := n0_
                  clear n0_
                  have p12 : 0 ≤ ((ji3) : Int) := of_decide_eq_true (by first | (with_reducible assumption) | assumption)
                  have q12 : (ji3) < (x0_1.size : Int) := of_decide_eq_true (by first | (with_reducible assumption) | assumption)
                  have hx12 := bt_at x0_1 (ji3)
                  replace p12 := eq_true p12
                  replace q12 := eq_true q12
                  refine start_ (n := 12) (S := fun w' => True) (ds := []) #[false, false, false, false, false, false, false, false, false, false, false, false] (by kernel_rfl) rfl rfl trivial (fun hHeld => ?_); refine with_tabW okey_Next.tab6 okey_Next.bits6 (fun HT_ HW_ => ?_)
                  generalize wr.drew = w14 at HB hHeld ⊢
                  refine pure_ (i := 0) (N := some 25) (v := ?_) (a' := ?_) #[true, false, false, false, false, false, false, false, false, false, false, false] rfl rfl (any_of HT_.out (by kernel_rfl)) (fun _ _ _ h => h) (Or.inl ⟨by rfl, ?_⟩) ?_ ?_
                  rotate_left
                  · intro w'
                    go_simp
                    with_reducible rfl
                  rotate_left
                  · simp only [Act.put, List.setIfInBounds_toArray, List.set_cons_zero, List.set_cons_succ, i64_w, i32_w]
                    rfl
                  refine pure_ (i := 1) (N := some 26) (v := ?_) (a' := ?_) #[true, true, false, false, false, false, false, false, false, false, false, false] rfl rfl (any_of HT_.out (by kernel_rfl)) (fun _ _ _ h => h) (Or.inl ⟨by rfl, ?_⟩) ?_ ?_
                  rotate_left
                  · intro w'
                    go_simp
                    with_reducible rfl
                  rotate_left
                  · simp only [Act.put, List.setIfInBounds_toArray, List.set_cons_zero, List.set_cons_succ, i64_w, i32_w]
                    rfl
                  refine pure_ (i := 2) (N := some 27) (v := ?_) (a' := ?_) #[true, true, true, false, false, false, false, false, false, false, false, false] rfl rfl (any_of HT_.out (by kernel_rfl)) (fun _ _ _ h => h) (Or.inl ⟨by rfl, ?_⟩) ?_ ?_
                  rotate_left
                  · intro w'
                    go_simp
                    with_reducible rfl
                  rotate_left
                  · simp only [Act.put, List.setIfInBounds_toArray, List.set_cons_zero, List.set_cons_succ, i64_w, i32_w]
                    rfl
                  refine pure_ (i := 3) (N := some 28) (v := ?_) (a' := ?_) #[true, true, true, true, false, false, false, false, false, false, false, false] rfl rfl (any_of HT_.out (by kernel_rfl)) (fun _ _ _ h => h) (Or.inl ⟨by rfl, ?_⟩) ?_ ?_
                  rotate_left
                  · intro w'
                    go_simp
                    with_reducible rfl
                  rotate_left
                  · simp only [Act.put, List.setIfInBounds_toArray, List.set_cons_zero, List.set_cons_succ, i64_w, i32_w]
                    rfl
                  refine pure_ (i := 4) (N := some 29) (v := ?_) (a' := ?_) #[true, true, true, true, true, false, false, false, false, false, false, false] rfl rfl (any_of HT_.out (by kernel_rfl)) (fun _ _ _ h => h) (Or.inl ⟨by rfl, ?_⟩) ?_ ?_
                  rotate_left
                  · intro w'
                    go_simp
                    with_reducible rfl
                  rotate_left
                  · simp only [Act.put, List.setIfInBounds_toArray, List.set_cons_zero, List.set_cons_succ, i64_w, i32_w]
                    rfl
                  refine take_ (i := 5) (N := some 30) (v := ?_) (a' := ?_) #[true, true, true, true, true, true, false, false, false, false, false, false] rfl rfl (take_ofW HT_.out HW_.out (by kernel_rfl)) (fun _ _ _ h => h) (Or.inl ⟨by rfl, ?_⟩) hHeld ?_ ?_
                  rotate_left
                  · intro w' _
                    go_simp
                    with_reducible rfl
                  rotate_left
                  · simp only [Act.put, List.setIfInBounds_toArray, List.set_cons_zero, List.set_cons_succ, i64_w, i32_w]
                    rfl
                  refine pure_ (i := 6) (N := some 31) (v := ?_) (a' := ?_) #[true, true, true, true, true, true, true, false, false, false, false, false] rfl rfl (any_of HT_.out (by kernel_rfl)) (fun _ _ _ h => h) (Or.inl ⟨by rfl, ?_⟩) ?_ ?_
                  rotate_left
                  · intro w'
                    go_simp
                    with_reducible rfl
                  rotate_left
                  · simp only [Act.put, List.setIfInBounds_toArray, List.set_cons_zero, List.set_cons_succ, i64_w, i32_w]
                    rfl
                  refine one_ (i := 7) (N := some 32) #[true, true, true, true, true, true, true, true, false, false, false, false] rfl rfl (one_of HT_.out (by kernel_rfl)) (by decide) (fun K hK => ?_)
                  refine Kd.R_lit_step (Kd.int .u8) _ 5 ?hg (N := 32) ?hd (xs := ([((bt x0_1 (ji3)) + 1) % 256] : List Int)) (inner := [.int .u8 (((bt x0_1 (ji3)) + 1) % 256)]) (ok := fun _ => True) (okp := fun _ => True) ?hr ?hp (fun _ hk => hk) trivial (Below.refl _ _) (Nat.le_refl _) (by simp) ?_; (case hd => rfl); (case hg => rfl); (case hr => first | (go_simp; done) | (go_simp; rfl)); (case hp => exact (Reps.one (show Kd.M (Kd.int .u8) _ _ _ (((bt x0_1 (ji3)) + 1) % 256) [.int .u8 (((bt x0_1 (ji3)) + 1) % 256)] from rfl) (Reps.none _ _)))
                  intro v102 w15 ho16 hb hg_ hnew_
                  clear hg_ hnew_
                  (first | rw [← Ny101.out] at ho16 | (simp only [Int.reduceToNat] at ho16; rw [← Ny101.out] at ho16))
                  have n0_ := Aside0.mk (Kd.R_lower ho16 (below_size (by repeat (first | (with_reducible first | exact HB.out | apply below_alloc | apply pw_below_drewN | apply below_drew1) | exact HB.out))))
                  have n1_ := Aside0.mk (below_step (by repeat (first | (with_reducible first | exact HB.out | apply below_alloc | apply pw_below_drewN | apply below_drew1) | exact HB.out)) hb)
                  clear HB
                  have HO103 := n0_
                  have HB := n1_
                  clear n0_ n1_
                  clear hb ho16
                  refine hK.out _ _ trivial (fun hHeld => ?_)
                  clear hK K
                  refine norm_ (a' := ?_) ?_ ?_
                  rotate_left
                  · show Act.put _ (some 32) _ = _
                    simp only [Act.put, List.setIfInBounds_toArray, List.set_cons_zero, List.set_cons_succ, i64_w, i32_w]
                    rfl
                  refine one_ (i := 8) (N := some 33) #[true, true, true, true, true, true, true, true, true, false, false, false] rfl rfl (one_of HT_.out (by kernel_rfl)) (by decide) (fun K hK => ?_)
                  have hcv17 := own_string (P := Tryd.prog) Tryd.underlying43 Tryd.underlying5 Tryd.underlying9 (Kd.own_of_R HO103.out)
                  refine value_ (w1 := ?_) (v := ?_) (by rfl) rfl ?_ ?_
                  rotate_left 2
                  · go_simp
                    constructor
                    · rfl
                    · rfl
                  clear hcv17
                  refine hK.out _ _ trivial (fun hHeld => ?_)
                  clear hK K
                  refine norm_ (a' := ?_) ?_ ?_
                  rotate_left
                  · show Act.put _ (some 33) _ = _
                    simp only [Act.put, List.setIfInBounds_toArray, List.set_cons_zero, List.set_cons_succ, i64_w, i32_w]
                    rfl
                  refine pure_ (i := 9) (N := some 34) (v := ?_) (a' := ?_) #[true, true, true, true, true, true, true, true, true, true, false, false] rfl rfl (any_of HT_.out (by kernel_rfl)) (fun _ _ _ h => h) (Or.inl ⟨by rfl, ?_⟩) ?_ ?_
                  rotate_left
                  · intro w'
                    go_simp
                    with_reducible rfl
                  rotate_left
                  · simp only [Act.put, List.setIfInBounds_toArray, List.set_cons_zero, List.set_cons_succ, i64_w, i32_w]
                    rfl
                  refine pure_ (i := 10) (N := some 2) (v := ?_) (a' := ?_) #[true, true, true, true, true, true, true, true, true, true, true, false] rfl rfl (any_of HT_.out (by kernel_rfl)) (fun _ _ _ h => h) (Or.inl ⟨by rfl, ?_⟩) ?_ ?_
                  rotate_left
                  · intro w'
                    go_simp
                    with_reducible rfl
                  rotate_left
                  · simp only [Act.put, List.setIfInBounds_toArray, List.set_cons_zero, List.set_cons_succ, i64_w, i32_w]
                    rfl
                  refine pure_ (i := 11) (N := some 3) (v := ?_) (a' := ?_) #[true, true, true, true, true, true, true, true, true, true, true, true] rfl rfl (any_of HT_.out (by kernel_rfl)) (fun _ _ _ h => h) (Or.inl ⟨by rfl, ?_⟩) ?_ ?_
                  rotate_left
                  · intro w'
                    go_simp
                    with_reducible rfl
                  rotate_left
                  · simp only [Act.put, List.setIfInBounds_toArray, List.set_cons_zero, List.set_cons_succ, i64_w, i32_w]
                    rfl
                  refine done_ (done_of HT_.out (by kernel_rfl)) ?_
                  try go_wp2
                  go_ret2
                  exact ⟨by first | rfl | (simp [errW_none, errW_some] <;> rfl) | (simp only [← hji3]; first | rfl | (simp [errW_none, errW_some] <;> rfl)) | (simp [*, errW_none, errW_some] <;> rfl), by repeat (first | (with_reducible first | exact HB.out | apply below_alloc | apply pw_below_drewN | apply below_drew1) | exact HB.out)⟩
                · rw [if_neg c13] at H
                  exact absurd H (by simp)
              · rw [if_neg c11] at H
                exact absurd H (by simp)
          · rw [if_neg c5] at H
            exact absurd H (by simp)
        · rw [if_neg c4] at H
          exact absurd H (by simp)

/-! ### strings_Builder_WriteString: function 18 -/
theorem builder_write (B g : Nat) (acc s : ByteArray) (w : World) (h : IsB 49 5 w B g acc) (hl : acc.size + s.size ≤ 140737488355328) (hB : B ≤ w.heap.size) :
    Calls Tryd.prog 18 #[.pointer (some ⟨g, 0, none⟩), .string s] w fun e w' => e = .returned (.tuple #[.int .i64 (s.size : Int), .nilIface]) ∧ IsB 49 5 w' B g (acc ++ s) ∧ Below B w w' := by
  refine (Tryd.Builder_WriteString_f B g (Lib.strCells acc) s w h (by rw [Lib.strCells_length]; exact hl) hB).mono ?_
  rintro e w' ⟨he, hb, hbb⟩
  rw [strCells_app] at hb
  exact ⟨he, .inr hb, hbb⟩

/-! ### strings_Builder_String: function 19 -/
theorem builder_string (B g : Nat) (acc : ByteArray) (w : World) (h : IsB 49 5 w B g acc) (hB : B ≤ w.heap.size) :
    Calls Tryd.prog 19 #[.pointer (some ⟨g, 0, none⟩)] w fun e w' => e = .returned (.string acc) ∧ IsB 49 5 w' B g acc ∧ Below B w w' := by
  refine (Tryd.Builder_String_any_f B g acc.data.toList w h hB).mono ?_
  rintro e w' ⟨he, hb, hbb⟩
  rw [ba_mk] at he
  exact ⟨he, hb, hbb⟩

/-! ### strings_Replace: function 23 -/
/-- A text with each byte 0 marked: what strings.ReplaceAll(s, "\x00", "\x00\xff") says. -/
def rep0 : List UInt8 → List UInt8
  | [] => []
  | c :: l => if c == 0 then 0 :: 255 :: rep0 l else c :: rep0 l
theorem wrap64_in {n : Int} (h : -9223372036854775808 ≤ n ∧ n ≤ 9223372036854775807) : wrap64 n = n := by unfold wrap64; omega
theorem rep_arith (st j n i cn : Nat) (h1 : st + j + 1 ≤ n) (h2 : n ≤ 2000000000) (h3 : i < cn) (h4 : cn ≤ n) :
    wrap64 ((st : Int) + (j : Int)) = (st : Int) + (j : Int) ∧ (st : Int) ≤ (st : Int) + (j : Int) ∧ (st : Int) + (j : Int) ≤ (n : Int) ∧ wrap64 ((st : Int) + (j : Int) + 1) = (st : Int) + (j : Int) + 1 ∧
      wrap64 ((i : Int) + 1) = (i : Int) + 1 ∧ (0 : Int) ≤ (st : Int) + (j : Int) ∧ ((st : Int) + (j : Int)).toNat = st + j :=
  ⟨wrap64_in ⟨by omega, by omega⟩, by omega, by omega, wrap64_in ⟨by omega, by omega⟩, wrap64_in ⟨by omega, by omega⟩, by omega, by omega⟩
theorem rep0_none : ∀ l : List UInt8, l.count 0 = 0 → rep0 l = l
  | [], _ => rfl
  | c :: l, h => by
    rw [List.count_cons] at h
    have hc : (c == 0) = false := by cases hc : c == 0 <;> simp_all
    rw [rep0, hc, if_neg (by decide), rep0_none l (by omega)]
theorem rep0_hit : ∀ (l : List UInt8), 0 < l.count 0 → ∃ j : Nat, Lib.indexByte l 0 = (j : Int) ∧ j < l.length ∧ (l.drop (j + 1)).count 0 + 1 = l.count 0 ∧ rep0 l = l.take j ++ [0, 255] ++ rep0 (l.drop (j + 1))
  | [], h => by simp at h
  | c :: l, h => by
    by_cases hc : c = 0
    · subst hc
      exact ⟨0, by simp [Lib.indexByte], by simp, by simp, by simp [rep0]⟩
    · have hc' : (c == 0) = false := beq_eq_false_iff_ne.2 hc
      have h' : 0 < l.count 0 := by rw [List.count_cons, hc'] at h; simpa using h
      obtain ⟨j, h1, h2, h3, h4⟩ := rep0_hit l h'
      refine ⟨j + 1, ?_, by simp; omega, ?_, ?_⟩
      · rw [Lib.indexByte, hc', if_neg (by decide), h1, if_neg (by simp)]; omega
      · rw [List.count_cons, hc']; simpa using h3
      · rw [rep0, hc', if_neg (by decide), h4]; simp
theorem rep0_length : ∀ l : List UInt8, (rep0 l).length = l.length + l.count 0
  | [] => rfl
  | c :: l => by
    rw [rep0]
    have := rep0_length l
    cases hc : c == 0 <;> simp [List.count_cons, hc, this] <;> omega
theorem ext_toEnd (s : ByteArray) (k : Nat) (hk : k ≤ s.size) : (s.extract k s.size).data.toList = s.data.toList.drop k := by
  simp only [ByteArray.data_extract, Array.toList_extract, List.extract_eq_take_drop]
  exact List.take_of_length_le (by rw [List.length_drop, Array.length_toList]; exact Nat.le_refl _)
theorem ext_part (s : ByteArray) (k j : Nat) : (s.extract k (k + j)).data.toList = (s.data.toList.drop k).take j := by
  simp [ByteArray.data_extract, Array.toList_extract, List.extract_eq_take_drop]
def strings_Replace.f (a0 a1 a2 : ByteArray) (a3 : Int) : Option (ByteArray) :=
  if a0.size ≤ 2000000000 ∧ a1 = ⟨#[0]⟩ ∧ a2 = ⟨#[0, 255]⟩ ∧ a3 = -1 then some ⟨(rep0 a0.data.toList).toArray⟩ else none
set_option maxHeartbeats 8000000 in
set_option maxRecDepth 100000 in
theorem strings_Replace.calls (a0 a1 a2 : ByteArray) (a3 : Int) (r : ByteArray) (w : World) (h : strings_Replace.f a0 a1 a2 a3 = some r) :
    Calls Tryd.prog 23 #[.string a0, .string a1, .string a2, .int .i64 a3] w fun e w' => e = .returned (.string r) ∧ Below w.heap.size w w' := by
  unfold strings_Replace.f at h
  split at h
  case isFalse => cases h
  rename_i hc
  obtain ⟨hs, rfl, rfl, rfl⟩ := hc
  obtain rfl := Option.some.inj h
  clear h
  obtain ⟨cn, hcn⟩ : ∃ cn : Nat, Lib.countByte a0.data.toList 0 = cn := ⟨_, rfl⟩
  have hcnl : cn ≤ a0.size := by rw [← hcn]; exact Nat.le_trans List.count_le_length (by rw [Array.length_toList]; exact Nat.le_refl _)
  have hbeq : ((⟨#[0]⟩ : ByteArray).toList == (⟨#[0, 255]⟩ : ByteArray).toList) = false := by rw [ByteArray.toList_eq, ByteArray.toList_eq]; decide
  have HC := Aside0.mk hcn
  have HS := Aside0.mk hs
  have HCL := Aside0.mk hcnl
  by_cases hz : cn = 0
  · subst hz
    clear hs hcnl hcn
    go_enter Tryd.func23, Tryd.ntmps23
    go_wp2_with fail
    refine (Tryd.strings_Count_one a0 0 _).mono ?_
    rintro e w1 ⟨rfl, hw⟩
    rw [hw, HC.out]
    clear hw
    go_wp2_with fail
    go_ret
    exact ⟨by rw [rep0_none _ HC.out, ba_mk]; rfl, Below.refl _ _⟩
  · have hcz : ((cn : Int) == 0) = false := beq_eq_false_iff_ne.2 (by omega)
    have hga : wrap64 ((a0.size : Int) + wrap64 (cn : Int)) = ((a0.size + cn : Nat) : Int) := by unfold wrap64; omega
    have hlen : a0.data.toList.length = a0.size := by rw [Array.length_toList]; rfl
    have hL0 : Aside0 (([] : List UInt8) ++ rep0 (a0.data.toList.drop 0) = rep0 a0.data.toList ∧ ([] : List UInt8).length + (rep0 (a0.data.toList.drop 0)).length ≤ 4000000000) := ⟨by simp, by
      unfold Lib.countByte at hcn
      rw [List.drop_zero, rep0_length, hlen, hcn, List.length_nil]
      omega⟩
    have hL1 : Aside0 (0 ≤ a0.size ∧ 0 + (a0.data.toList.drop 0).count 0 = cn) := ⟨by omega, by simpa [Lib.countByte] using hcn⟩
    clear hs hcnl hcn hz
    go_enter Tryd.func23, Tryd.ntmps23
    go_wp2_with fail
    refine (Tryd.strings_Count_one a0 0 _).mono ?_
    rintro e w1 ⟨rfl, hw⟩
    rw [hw, HC.out]
    clear hw
    go_wp2_with fail
    rw [hga]
    refine (Tryd.Builder_Grow_fresh w.heap.size w.heap.size (a0.size + cn) _ (Nat.le_refl _) (heap_alloc_new w _) (by simp) (by have := HS.out; have := HCL.out; omega)).mono ?_
    rintro e w1 ⟨rfl, hb, hbb⟩
    have HB : Aside0 (IsB 49 5 w1 w.heap.size w.heap.size ⟨#[]⟩) := ⟨Lib.IsBuilderF.of (.inr hb)⟩
    have HW : Aside0 (Below w.heap.size w w1) := ⟨(below_alloc (Below.refl w.heap.size w) (.cells #[.pointer none, .slice none 0 0] 49)).trans hbb⟩
    clear hb hbb hga
    go_wp2_with fail
    go_loopw [11, 53] (fun v11 v53 wr => ∃ (i st : Nat) (acc : List UInt8), v53 = .int .i64 (i : Int) ∧ v11 = .int .i64 (st : Int) ∧ Aside0 (st ≤ a0.size ∧ i + (a0.data.toList.drop st).count 0 = cn) ∧ Aside0 (acc ++ rep0 (a0.data.toList.drop st) = rep0 a0.data.toList ∧ acc.length + (rep0 (a0.data.toList.drop st)).length ≤ 4000000000) ∧
      Aside0 (IsB 49 5 wr w.heap.size w.heap.size ⟨acc.toArray⟩) ∧ Aside0 (Below w.heap.size w wr)) (fun _ v53 _ => cn - (intOf v53).toNat)
    case atStart => exact ⟨0, 0, [], rfl, rfl, hL1, hL0, HB, HW⟩
    case round =>
      clear hL1 hL0 HB HW
      obtain ⟨i, st, acc, rfl, rfl, H1, H2, HB, HW⟩ := hrel
      have d1 : (0 : Int) ≤ (st : Int) := by omega
      have d2 : (st : Int) ≤ (a0.size : Int) := by have := H1.out.1; omega
      by_cases hi : i < cn
      · have d3 : decide ((i : Int) < (cn : Int)) = true := decide_eq_true (by omega)
        have d4 := eq_true hi
        have d5 := eq_true (show (i : Int) < (cn : Int) by omega)
        obtain ⟨j, h1, h2, h3, h4⟩ := rep0_hit (a0.data.toList.drop st) (by have := H1.out.2; omega)
        rw [List.length_drop, hlen] at h2
        rw [List.drop_drop] at h3 h4
        have HJ := Aside0.mk h1
        have hn1 : st + j + 1 ≤ a0.size := by have := H1.out.1; omega
        have HN : Aside0 (st + (j + 1) ≤ a0.size ∧ i + 1 + (a0.data.toList.drop (st + (j + 1))).count 0 = cn) := ⟨hn1, by have := H1.out.2; omega⟩
        obtain ⟨hj1, hj2, hj3, hj4, hi1, hj5, hj6⟩ := rep_arith st j a0.size i cn hn1 HS.out hi HCL.out
        clear hn1
        have HN2 : Aside0 ((acc ++ (a0.data.toList.drop st).take j ++ [0, 255]) ++ rep0 (a0.data.toList.drop (st + (j + 1))) = rep0 a0.data.toList ∧ (acc ++ (a0.data.toList.drop st).take j ++ [0, 255]).length + (rep0 (a0.data.toList.drop (st + (j + 1)))).length ≤ 4000000000) := by
          have e := H2.out
          rw [h4] at e
          exact ⟨by rw [← e.1]; simp, by have := e.2; simp only [List.length_append] at this ⊢; omega⟩
        have hacc : Aside0 (acc.length + j ≤ 4000000000) := ⟨by have e := H2.out.2; rw [h4] at e; simp only [List.length_append, List.length_take, List.length_drop, hlen] at e; omega⟩
        clear h1 h2 h3 h4 H1 H2
        go_wp2_with fail
        refine (Tryd.strings_Index_one _ 0 _).mono ?_
        rintro e w2 ⟨rfl, hw⟩
        rw [hw, ext_toEnd a0 st (by omega), HJ.out]
        clear hw
        go_wp2_with fail
        refine (builder_write _ _ _ _ _ HB.out ?hl HW.out.size).mono ?_
        case hl => have := hacc.out; have := HN.out.1; simp only [ByteArray.size_extract]; show acc.toArray.size + _ ≤ _; rw [List.size_toArray]; omega
        rintro e w2 ⟨rfl, hb, hbb⟩
        have e1 : (⟨acc.toArray⟩ : ByteArray) ++ a0.extract st (st + j) = ⟨(acc ++ (a0.data.toList.drop st).take j).toArray⟩ := by
          apply ByteArray.ext
          rw [ByteArray.data_append]
          apply Array.toList_inj.1
          rw [Array.toList_append, ext_part]
        rw [e1] at hb
        have HB2 := Aside0.mk hb
        have HW2 : Aside0 (Below w.heap.size w w2) := ⟨HW.out.trans hbb⟩
        clear hb hbb HB HW e1
        go_wp2_with fail
        refine (builder_write _ _ _ _ _ HB2.out ?hl HW2.out.size).mono ?_
        case hl => have := hacc.out; show (List.toArray _).size + 2 ≤ _; rw [List.size_toArray, List.length_append, List.length_take]; omega
        rintro e w3 ⟨rfl, hb, hbb⟩
        have e1 : (⟨(acc ++ (a0.data.toList.drop st).take j).toArray⟩ : ByteArray) ++ (⟨#[0, 255]⟩ : ByteArray) = ⟨(acc ++ (a0.data.toList.drop st).take j ++ [0, 255]).toArray⟩ := by
          apply ByteArray.ext
          rw [ByteArray.data_append]
          apply Array.toList_inj.1
          rw [Array.toList_append]
        rw [e1] at hb
        have HB3 := Aside0.mk hb
        have HW3 : Aside0 (Below w.heap.size w w3) := ⟨HW2.out.trans hbb⟩
        clear hb hbb HB2 HW2 e1
        go_wp2_with fail
        go_roundw
        case measure =>
          rw [hi1]
          simp only [intOf]
          omega
        case rel => exact ⟨i + 1, st + (j + 1), _, congrArg (Value.int .i64) (by rw [hi1]; omega), congrArg (Value.int .i64) (by rw [hj4]; omega), HN, HN2, HB3, HW3⟩
      · have d3 : decide ((i : Int) < (cn : Int)) = false := decide_eq_false (by omega)
        have d4 := eq_false hi
        have d5 := eq_false (show ¬ (i : Int) < (cn : Int) by omega)
        have hz : rep0 (a0.data.toList.drop st) = a0.data.toList.drop st := rep0_none _ (by have := H1.out.2; omega)
        have H3 : Aside0 (acc ++ a0.data.toList.drop st = rep0 a0.data.toList ∧ acc.length + (a0.data.toList.drop st).length ≤ 4000000000) := ⟨by have := H2.out; rwa [hz] at this⟩
        clear H2 hz
        go_wp2_with fail
        refine (builder_write _ _ _ _ _ HB.out ?hl HW.out.size).mono ?_
        case hl => have := H3.out.2; rw [List.length_drop, hlen] at this; simp only [ByteArray.size_extract]; show acc.toArray.size + _ ≤ _; rw [List.size_toArray]; omega
        rintro e w2 ⟨rfl, hb, hbb⟩
        have e1 : (⟨acc.toArray⟩ : ByteArray) ++ a0.extract st a0.size = ⟨(rep0 a0.data.toList).toArray⟩ := by
          rw [← H3.out.1]
          apply ByteArray.ext
          rw [ByteArray.data_append]
          apply Array.toList_inj.1
          rw [Array.toList_append, ext_toEnd a0 st (by omega)]
        rw [e1] at hb
        have HB2 := Aside0.mk hb
        have HW2 : Aside0 (Below w.heap.size w w2) := ⟨HW.out.trans hbb⟩
        clear hb hbb HB HW e1
        go_wp2_with fail
        refine (builder_string _ _ _ _ HB2.out HW2.out.size).mono ?_
        rintro e w3 ⟨rfl, hb, hbb⟩
        have HW3 : Aside0 (Below w.heap.size w w3) := ⟨HW2.out.trans hbb⟩
        go_wp2_with fail
        go_ret
        exact ⟨rfl, HW3.out⟩

/-! ### strings_ReplaceAll: function 15 -/
def strings_ReplaceAll.f (a0 : ByteArray) (a1 : ByteArray) (a2 : ByteArray) : Option (ByteArray) := (strings_Replace.f a0 a1 a2 (-1)).bind fun t104 => (some t104)
set_option maxHeartbeats 8000000 in
set_option maxRecDepth 100000 in
theorem strings_ReplaceAll.calls (a0 : ByteArray) (a1 : ByteArray) (a2 : ByteArray) (r : ByteArray) (w : World) (h : strings_ReplaceAll.f a0 a1 a2 = some r) :
    Calls Tryd.prog 15 #[.string a0, .string a1, .string a2] w fun e w' => e = .returned (.string r) ∧ Below w.heap.size w w' := by
  have HB := Aside0.mk (Below.refl w.heap.size w)
  have H : ((strings_Replace.f a0 a1 a2 (-1)).bind fun t104 => (some t104)) = some r := h
  clear h
  replace H := Option.bind_eq_some_iff.mp H
  obtain ⟨t104, A40, H⟩ := H
  replace H : (some t104) = some r := H
  have A4 := Aside0.mk A40
  clear A40
  obtain rfl := Option.some.inj H
  go_enter Tryd.func15, Tryd.ntmps15
  go_wp2_with (first | ((with_reducible refine gate_callee (f := 23) rfl ?_); refine goesL_ (some 10) rfl rfl Tryd.func23 (by kernel_rfl) rfl #[.string a0, .string a1, .string a2, .int .i64 (-1)] rfl (by (try simp only [List.map_toArray, List.map_cons, List.map_nil]); first | done | rfl | (simp only [List.length_drop, List.length_take]; rfl)) ?_; (with_reducible refine (strings_Replace.calls a0 a1 a2 (-1) t104 _ A4.out).mono ?_); rintro e w5 ⟨rfl, hb⟩; refine ⟨_, rfl, ?_⟩; have n0_ := Aside0.mk (below_step (by repeat (first | (with_reducible first | exact HB.out | apply below_alloc | apply pw_below_drewN | apply below_drew1) | exact HB.out)) hb); clear HB; have HB := n0_; clear n0_; (try clear hb); (try clear hb2); (try clear hk); (try clear hi)))
  go_ret
  exact ⟨by first | rfl | (simp [errW_none, errW_some] <;> rfl) | (simp [*, errW_none, errW_some] <;> rfl), by repeat (first | (with_reducible first | exact HB.out | apply below_alloc | apply pw_below_drewN | apply below_drew1) | exact HB.out)⟩

end Go.Proofs.YtbejofbbmpmnfaaDoor.PAll
