-- Printed by a program of this session (wip/drive.py, over the kit's print.py with its own changes). Lean checks it.
import Derived.Test.YtbejofbbmpmnfaaDoorPAllx0
import Derived.Test.YtbejofbbmpmnfaaDoorPAllx2
import Derived.Test.YtbejofbbmpmnfaaDoorPAllx5
import Derived.Test.YtbejofbbmpmnfaaDoorPAllx8
namespace Go.Proofs.YtbejofbbmpmnfaaDoor.PAll
open Go.RowKit Go.Proofs.YtbejofbbmpmnfaaDoorW.PrintWords Go.Proofs.YtbejofbbmpmnfaaDoorW.PrintLast Go.Proofs.YtbejofbbmpmnfaaDoorW.PrintMore
attribute [local go_sem] max2_int min2_int max_two min_two max_three min_three max_four min_four   -- for this text's walks alone
set_option linter.unusedVariables false
set_option linter.unusedSimpArgs false

/-! ### cornucopialaw2_OkeyOrders: function 6 -/
mutual
def cornucopialaw2_OkeyOrders.j0 : Nat → ByteArray → ByteArray → Int → Int → Int → Int → Bool → Option (Bool)
  | 0, _, _, _, _, _, _, _ => none
  | k + 1, x0, x1, x2, x3, x4, x5, x28 => if x28 = true then ((cornucopialaw2_alive.f k).bind fun t196 => (some t196)) else ((okey_Put.f k (([(⟨1, x0, 0, 0⟩ : S35), (⟨2, (⟨#[]⟩ : ByteArray), x2, 0⟩ : S35), (⟨3, (⟨#[]⟩ : ByteArray), 0, x4⟩ : S35)] : List (S35)))).bind fun bt200 => ((okey_Put.f k (([(⟨1, x1, 0, 0⟩ : S35), (⟨2, (⟨#[]⟩ : ByteArray), x3, 0⟩ : S35), (⟨3, (⟨#[]⟩ : ByteArray), 0, x5⟩ : S35)] : List (S35)))).bind fun bt205 => (if (Op.bytesLess x0.toList x1.toList) = true then (cornucopialaw2_OkeyOrders.j1 k x0 x1 x2 x3 x4 x5 bt200.1 bt200.2 bt205.1 bt205.2 true) else (if x0.toList = x1.toList then (if x2 < x3 then (cornucopialaw2_OkeyOrders.j1 k x0 x1 x2 x3 x4 x5 bt200.1 bt200.2 bt205.1 bt205.2 true) else (if x2 = x3 then (cornucopialaw2_OkeyOrders.j1 k x0 x1 x2 x3 x4 x5 bt200.1 bt200.2 bt205.1 bt205.2 (decide (x4 < x5))) else (cornucopialaw2_OkeyOrders.j1 k x0 x1 x2 x3 x4 x5 bt200.1 bt200.2 bt205.1 bt205.2 false))) else (cornucopialaw2_OkeyOrders.j1 k x0 x1 x2 x3 x4 x5 bt200.1 bt200.2 bt205.1 bt205.2 false)))))
def cornucopialaw2_OkeyOrders.j1 : Nat → ByteArray → ByteArray → Int → Int → Int → Int → ByteArray → Int → ByteArray → Int → Bool → Option (Bool)
  | 0, _, _, _, _, _, _, _, _, _, _, _ => none
  | k + 1, x0, x1, x2, x3, x4, x5, x13, x14, x15, x16, x17 => (okey_Text.f x0).bind fun t207 => ((okey_Text.f x1).bind fun t208 => (if (t207.size : Int) ≤ (t208.size : Int) then (if 0 ≤ (t207.size : Int) then (cornucopialaw2_OkeyOrders.j2 k x0 x1 x2 x3 x4 x5 x13 x14 x15 x16 x17 ((t208.extract 0 ((t207.size : Int) : Int).toNat).toList == t207.toList)) else (none)) else (cornucopialaw2_OkeyOrders.j2 k x0 x1 x2 x3 x4 x5 x13 x14 x15 x16 x17 false)))
def cornucopialaw2_OkeyOrders.j2 : Nat → ByteArray → ByteArray → Int → Int → Int → Int → ByteArray → Int → ByteArray → Int → Bool → Bool → Option (Bool)
  | 0, _, _, _, _, _, _, _, _, _, _, _, _ => none
  | k + 1, x0, x1, x2, x3, x4, x5, x13, x14, x15, x16, x17, x20 => (cornucopialaw2_alive.f k).bind fun t209 => (if t209 = true then (if x14 = 0 then (if x16 = 0 then (if ((Op.bytesLess x13.toList x15.toList) == x17) = true then (if (x20 == (x0.toList == x1.toList)) = true then ((okey_Num.f k x2).bind fun t210 => ((okey_Num.f k x3).bind fun t211 => (if ((Op.bytesLess t210.toList t211.toList) == (decide (x2 < x3))) = true then ((okey_Int.f k x4).bind fun t212 => ((okey_Int.f k x5).bind fun t213 => (some ((Op.bytesLess t212.toList t213.toList) == (decide (x4 < x5)))))) else (none)))) else (none)) else (none)) else (none)) else (none)) else (none))
end
def cornucopialaw2_OkeyOrders.f (k : Nat) (a0 : ByteArray) (a1 : ByteArray) (a2 : Int) (a3 : Int) (a4 : Int) (a5 : Int) : Option (Bool) := if (a0.size : Int) > 300 then (cornucopialaw2_OkeyOrders.j0 k a0 a1 a2 a3 a4 a5 true) else (cornucopialaw2_OkeyOrders.j0 k a0 a1 a2 a3 a4 a5 (decide ((a1.size : Int) > 300)))
theorem cornucopialaw2_OkeyOrders.mono_l : ∀ k, (∀ y0 y1 y2 y3 y4 y5 y6, LeO (cornucopialaw2_OkeyOrders.j0 k y0 y1 y2 y3 y4 y5 y6) (cornucopialaw2_OkeyOrders.j0 (k + 1) y0 y1 y2 y3 y4 y5 y6)) ∧ (∀ y0 y1 y2 y3 y4 y5 y6 y7 y8 y9 y10, LeO (cornucopialaw2_OkeyOrders.j1 k y0 y1 y2 y3 y4 y5 y6 y7 y8 y9 y10) (cornucopialaw2_OkeyOrders.j1 (k + 1) y0 y1 y2 y3 y4 y5 y6 y7 y8 y9 y10)) ∧ (∀ y0 y1 y2 y3 y4 y5 y6 y7 y8 y9 y10 y11, LeO (cornucopialaw2_OkeyOrders.j2 k y0 y1 y2 y3 y4 y5 y6 y7 y8 y9 y10 y11) (cornucopialaw2_OkeyOrders.j2 (k + 1) y0 y1 y2 y3 y4 y5 y6 y7 y8 y9 y10 y11))
  | 0 => ⟨fun _ _ _ _ _ _ _ r h => by simp [cornucopialaw2_OkeyOrders.j0] at h, fun _ _ _ _ _ _ _ _ _ _ _ r h => by simp [cornucopialaw2_OkeyOrders.j1] at h, fun _ _ _ _ _ _ _ _ _ _ _ _ r h => by simp [cornucopialaw2_OkeyOrders.j2] at h⟩
  | k + 1 => by
    obtain ⟨ih0, ih1, ih2⟩ := cornucopialaw2_OkeyOrders.mono_l k
    refine ⟨?_, ?_, ?_⟩
    · intro y0 y1 y2 y3 y4 y5 y6
      unfold cornucopialaw2_OkeyOrders.j0
      repeat' first
      | (with_reducible exact ih0 _ _ _ _ _ _ _)
      | (with_reducible exact ih1 _ _ _ _ _ _ _ _ _ _ _)
      | (with_reducible exact ih2 _ _ _ _ _ _ _ _ _ _ _ _)
      | (with_reducible exact cornucopialaw2_alive.mono _)
      | (with_reducible exact okey_Int.mono _ _)
      | (with_reducible exact okey_Num.mono _ _)
      | (with_reducible exact okey_Put.mono _ _)
      | (with_reducible exact LeO.refl _)
      | (with_reducible exact LeO.none _)
      | (with_reducible refine LeO.ite ?_ ?_)
      | (with_reducible refine LeO.bind ?_ (fun _ => ?_))
      | exact ih0 _ _ _ _ _ _ _
      | exact ih1 _ _ _ _ _ _ _ _ _ _ _
      | exact ih2 _ _ _ _ _ _ _ _ _ _ _ _
      | exact cornucopialaw2_alive.mono _
      | exact okey_Int.mono _ _
      | exact okey_Num.mono _ _
      | exact okey_Put.mono _ _
      | exact LeO.none _
      | refine LeO.ite ?_ ?_
      | refine LeO.bind ?_ (fun _ => ?_)
    · intro y0 y1 y2 y3 y4 y5 y6 y7 y8 y9 y10
      unfold cornucopialaw2_OkeyOrders.j1
      repeat' first
      | (with_reducible exact ih0 _ _ _ _ _ _ _)
      | (with_reducible exact ih1 _ _ _ _ _ _ _ _ _ _ _)
      | (with_reducible exact ih2 _ _ _ _ _ _ _ _ _ _ _ _)
      | (with_reducible exact cornucopialaw2_alive.mono _)
      | (with_reducible exact okey_Int.mono _ _)
      | (with_reducible exact okey_Num.mono _ _)
      | (with_reducible exact okey_Put.mono _ _)
      | (with_reducible exact LeO.refl _)
      | (with_reducible exact LeO.none _)
      | (with_reducible refine LeO.ite ?_ ?_)
      | (with_reducible refine LeO.bind ?_ (fun _ => ?_))
      | exact ih0 _ _ _ _ _ _ _
      | exact ih1 _ _ _ _ _ _ _ _ _ _ _
      | exact ih2 _ _ _ _ _ _ _ _ _ _ _ _
      | exact cornucopialaw2_alive.mono _
      | exact okey_Int.mono _ _
      | exact okey_Num.mono _ _
      | exact okey_Put.mono _ _
      | exact LeO.none _
      | refine LeO.ite ?_ ?_
      | refine LeO.bind ?_ (fun _ => ?_)
    · intro y0 y1 y2 y3 y4 y5 y6 y7 y8 y9 y10 y11
      unfold cornucopialaw2_OkeyOrders.j2
      repeat' first
      | (with_reducible exact ih0 _ _ _ _ _ _ _)
      | (with_reducible exact ih1 _ _ _ _ _ _ _ _ _ _ _)
      | (with_reducible exact ih2 _ _ _ _ _ _ _ _ _ _ _ _)
      | (with_reducible exact cornucopialaw2_alive.mono _)
      | (with_reducible exact okey_Int.mono _ _)
      | (with_reducible exact okey_Num.mono _ _)
      | (with_reducible exact okey_Put.mono _ _)
      | (with_reducible exact LeO.refl _)
      | (with_reducible exact LeO.none _)
      | (with_reducible refine LeO.ite ?_ ?_)
      | (with_reducible refine LeO.bind ?_ (fun _ => ?_))
      | exact ih0 _ _ _ _ _ _ _
      | exact ih1 _ _ _ _ _ _ _ _ _ _ _
      | exact ih2 _ _ _ _ _ _ _ _ _ _ _ _
      | exact cornucopialaw2_alive.mono _
      | exact okey_Int.mono _ _
      | exact okey_Num.mono _ _
      | exact okey_Put.mono _ _
      | exact LeO.none _
      | refine LeO.ite ?_ ?_
      | refine LeO.bind ?_ (fun _ => ?_)
theorem cornucopialaw2_OkeyOrders.mono : ∀ a0 a1 a2 a3 a4 a5 k, LeO (cornucopialaw2_OkeyOrders.f k a0 a1 a2 a3 a4 a5) (cornucopialaw2_OkeyOrders.f (k + 1) a0 a1 a2 a3 a4 a5) := by
  intro a0 a1 a2 a3 a4 a5 k
  obtain ⟨ih0, ih1, ih2⟩ := cornucopialaw2_OkeyOrders.mono_l k
  unfold cornucopialaw2_OkeyOrders.f
  repeat' first
      | (with_reducible exact ih0 _ _ _ _ _ _ _)
      | (with_reducible exact ih1 _ _ _ _ _ _ _ _ _ _ _)
      | (with_reducible exact ih2 _ _ _ _ _ _ _ _ _ _ _ _)
      | (with_reducible exact cornucopialaw2_alive.mono _)
      | (with_reducible exact okey_Int.mono _ _)
      | (with_reducible exact okey_Num.mono _ _)
      | (with_reducible exact okey_Put.mono _ _)
      | (with_reducible exact LeO.refl _)
      | (with_reducible exact LeO.none _)
      | (with_reducible refine LeO.ite ?_ ?_)
      | (with_reducible refine LeO.bind ?_ (fun _ => ?_))
      | exact ih0 _ _ _ _ _ _ _
      | exact ih1 _ _ _ _ _ _ _ _ _ _ _
      | exact ih2 _ _ _ _ _ _ _ _ _ _ _ _
      | exact cornucopialaw2_alive.mono _
      | exact okey_Int.mono _ _
      | exact okey_Num.mono _ _
      | exact okey_Put.mono _ _
      | exact LeO.none _
      | refine LeO.ite ?_ ?_
      | refine LeO.bind ?_ (fun _ => ?_)
set_option maxHeartbeats 8000000 in
set_option maxRecDepth 100000 in
theorem cornucopialaw2_OkeyOrders.calls (k : Nat) (a0 : ByteArray) (a1 : ByteArray) (a2 : Int) (a3 : Int) (a4 : Int) (a5 : Int) (r : Bool) (w : World) (h : cornucopialaw2_OkeyOrders.f k a0 a1 a2 a3 a4 a5 = some r) :
    Calls Tryd.prog 6 #[.string a0, .string a1, .int .u64 a2, .int .u64 a3, .int .i64 a4, .int .i64 a5] w fun e w' => e = .returned (.bool r) ∧ Below w.heap.size w w' := by
  have hu35 := Tryd.underlying35
  have HB := Aside0.mk (Below.refl w.heap.size w)
  have H : (if (a0.size : Int) > 300 then (cornucopialaw2_OkeyOrders.j0 k a0 a1 a2 a3 a4 a5 true) else (cornucopialaw2_OkeyOrders.j0 k a0 a1 a2 a3 a4 a5 (decide ((a1.size : Int) > 300)))) = some r := h
  clear h
  have HC7 := Aside0.mk H
  clear H
  go_enter Tryd.func6, Tryd.ntmps6
  go_upto_region 1 with (fail)
  go_cut [28] (fun v28 wc => ∃ (kq : Nat) (x28_6 : Bool), v28 = .bool x28_6 ∧ Aside0 (cornucopialaw2_OkeyOrders.j0 kq a0 a1 a2 a3 a4 a5 x28_6 = some r) ∧ Aside0 (kq ≤ k) ∧ Aside0 (Below w.heap.size w wc))
  case first =>
    have H := HC7.out
    clear HC7
    by_cases c8 : (a0.size : Int) > 300
    · rw [if_pos c8] at H
      have c8b0 : decide (300 < (a0.size : Int)) = true := decide_eq_true c8
      have c8b1 : decide (300 < a0.size) = true := decide_eq_true (by omega)
      clear c8
      (first | rw [c8b0] | (simp only [i64_w, i32_w]; rw [c8b0]) | skip)
      have H' := Aside0.mk H
      clear H
      go_wp2
      go_meet
      case rel => exact ⟨_, (true), (by first | rfl | (simp; done) | (simp [*]; done)), H', ⟨by first | omega | exact Nat.le_refl _⟩, ⟨by repeat (first | (with_reducible first | exact HB.out | apply below_alloc | apply pw_below_drewN | apply below_drew1) | exact HB.out)⟩⟩
    · rw [if_neg c8] at H
      have c8b0 : decide (300 < (a0.size : Int)) = false := decide_eq_false c8
      have c8b1 : decide (300 < a0.size) = false := decide_eq_false (by omega)
      clear c8
      (first | rw [c8b0] | (simp only [i64_w, i32_w]; rw [c8b0]) | skip)
      have H' := Aside0.mk H
      clear H
      go_wp2
      go_meet
      case rel => exact ⟨_, (decide ((a1.size : Int) > 300)), (by first | rfl | (simp; done) | (simp [*]; done)), H', ⟨by first | omega | exact Nat.le_refl _⟩, ⟨by repeat (first | (with_reducible first | exact HB.out | apply below_alloc | apply pw_below_drewN | apply below_drew1) | exact HB.out)⟩⟩
  case rest =>
    clear HC7
    try clear p2
    try clear c6
    try clear c8
    try clear c8b0
    try clear c8b1
    obtain ⟨kq, x28_6, rfl, HA, HJ6, HB⟩ := hcut
    cases kq with
    | zero => exact absurd HA.out (by simp [cornucopialaw2_OkeyOrders.j0])
    | succ kj6 =>
      have H := HA.out
      clear HA
      simp only [cornucopialaw2_OkeyOrders.j0] at H
      by_cases c9 : x28_6 = true
      · subst c9
        have H1 : ((cornucopialaw2_alive.f kj6).bind fun t196 => (some t196)) = some r := by rw [if_pos rfl] at H; exact H
        clear H
        have H := H1
        clear H1
        replace H := Option.bind_eq_some_iff.mp H
        obtain ⟨t196, A100, H⟩ := H
        replace H : (some t196) = some r := H
        have A10 := Aside0.mk A100
        clear A100
        obtain rfl := Option.some.inj H
        go_wp2_with (first | ((with_reducible refine gate_callee (f := 7) rfl ?_); refine goesL_ (some 29) rfl rfl Tryd.func7 (by kernel_rfl) rfl #[] rfl (by (try simp only [List.map_toArray, List.map_cons, List.map_nil]); first | done | rfl | (simp only [List.length_drop, List.length_take]; rfl)) ?_; (with_reducible refine (cornucopialaw2_alive.calls kj6  t196 _ A10.out).mono ?_); rintro e w11 ⟨rfl, hb⟩; refine ⟨_, rfl, ?_⟩; have n0_ := Aside0.mk (below_step (by repeat (first | (with_reducible first | exact HB.out | apply below_alloc | apply pw_below_drewN | apply below_drew1) | exact HB.out)) hb); clear HB; have HB := n0_; clear n0_; (try clear hb); (try clear hb2); (try clear hk); (try clear hi)))
        go_ret
        exact ⟨by first | rfl | (simp [errW_none, errW_some] <;> rfl) | (simp [*, errW_none, errW_some] <;> rfl), by repeat (first | (with_reducible first | exact HB.out | apply below_alloc | apply pw_below_drewN | apply below_drew1) | exact HB.out)⟩
      · replace c9 := Bool.eq_false_iff.mpr c9
        subst c9
        have H1 : ((okey_Put.f kj6 (([(⟨1, a0, 0, 0⟩ : S35), (⟨2, (⟨#[]⟩ : ByteArray), a2, 0⟩ : S35), (⟨3, (⟨#[]⟩ : ByteArray), 0, a4⟩ : S35)] : List (S35)))).bind fun bt200 => ((okey_Put.f kj6 (([(⟨1, a1, 0, 0⟩ : S35), (⟨2, (⟨#[]⟩ : ByteArray), a3, 0⟩ : S35), (⟨3, (⟨#[]⟩ : ByteArray), 0, a5⟩ : S35)] : List (S35)))).bind fun bt205 => (if (Op.bytesLess a0.toList a1.toList) = true then (cornucopialaw2_OkeyOrders.j1 kj6 a0 a1 a2 a3 a4 a5 bt200.1 bt200.2 bt205.1 bt205.2 true) else (if a0.toList = a1.toList then (if a2 < a3 then (cornucopialaw2_OkeyOrders.j1 kj6 a0 a1 a2 a3 a4 a5 bt200.1 bt200.2 bt205.1 bt205.2 true) else (if a2 = a3 then (cornucopialaw2_OkeyOrders.j1 kj6 a0 a1 a2 a3 a4 a5 bt200.1 bt200.2 bt205.1 bt205.2 (decide (a4 < a5))) else (cornucopialaw2_OkeyOrders.j1 kj6 a0 a1 a2 a3 a4 a5 bt200.1 bt200.2 bt205.1 bt205.2 false))) else (cornucopialaw2_OkeyOrders.j1 kj6 a0 a1 a2 a3 a4 a5 bt200.1 bt200.2 bt205.1 bt205.2 false))))) = some r := by rw [if_neg (show ¬ (false = true) by decide)] at H; exact H
        clear H
        have H := H1
        clear H1
        obtain ⟨y197, hy197⟩ : ∃ y_ : List (S35), y_ = (([(⟨1, a0, 0, 0⟩ : S35), (⟨2, (⟨#[]⟩ : ByteArray), a2, 0⟩ : S35), (⟨3, (⟨#[]⟩ : ByteArray), 0, a4⟩ : S35)] : List (S35))) := ⟨_, rfl⟩
        replace H : ((okey_Put.f kj6 y197).bind fun bt200 => ((okey_Put.f kj6 (([(⟨1, a1, 0, 0⟩ : S35), (⟨2, (⟨#[]⟩ : ByteArray), a3, 0⟩ : S35), (⟨3, (⟨#[]⟩ : ByteArray), 0, a5⟩ : S35)] : List (S35)))).bind fun bt205 => (if (Op.bytesLess a0.toList a1.toList) = true then (cornucopialaw2_OkeyOrders.j1 kj6 a0 a1 a2 a3 a4 a5 bt200.1 bt200.2 bt205.1 bt205.2 true) else (if a0.toList = a1.toList then (if a2 < a3 then (cornucopialaw2_OkeyOrders.j1 kj6 a0 a1 a2 a3 a4 a5 bt200.1 bt200.2 bt205.1 bt205.2 true) else (if a2 = a3 then (cornucopialaw2_OkeyOrders.j1 kj6 a0 a1 a2 a3 a4 a5 bt200.1 bt200.2 bt205.1 bt205.2 (decide (a4 < a5))) else (cornucopialaw2_OkeyOrders.j1 kj6 a0 a1 a2 a3 a4 a5 bt200.1 bt200.2 bt205.1 bt205.2 false))) else (cornucopialaw2_OkeyOrders.j1 kj6 a0 a1 a2 a3 a4 a5 bt200.1 bt200.2 bt205.1 bt205.2 false))))) = some r := by first | (rw [hy197]; with_reducible exact H) | (have H2_ := (Option.bind_some _ _).symm.trans H; rw [hy197]; with_reducible exact H2_) | (have H2_ := (Option.bind_some _ _).symm.trans H; with_reducible exact H2_) | with_reducible exact H | (rw [hy197]; exact H) | exact H
        have Ny197 := Aside0.mk hy197
        clear hy197
        replace H := Option.bind_eq_some_iff.mp H
        obtain ⟨⟨t200, t201⟩, A120, H⟩ := H
        replace H : ((okey_Put.f kj6 (([(⟨1, a1, 0, 0⟩ : S35), (⟨2, (⟨#[]⟩ : ByteArray), a3, 0⟩ : S35), (⟨3, (⟨#[]⟩ : ByteArray), 0, a5⟩ : S35)] : List (S35)))).bind fun bt205 => (if (Op.bytesLess a0.toList a1.toList) = true then (cornucopialaw2_OkeyOrders.j1 kj6 a0 a1 a2 a3 a4 a5 t200 t201 bt205.1 bt205.2 true) else (if a0.toList = a1.toList then (if a2 < a3 then (cornucopialaw2_OkeyOrders.j1 kj6 a0 a1 a2 a3 a4 a5 t200 t201 bt205.1 bt205.2 true) else (if a2 = a3 then (cornucopialaw2_OkeyOrders.j1 kj6 a0 a1 a2 a3 a4 a5 t200 t201 bt205.1 bt205.2 (decide (a4 < a5))) else (cornucopialaw2_OkeyOrders.j1 kj6 a0 a1 a2 a3 a4 a5 t200 t201 bt205.1 bt205.2 false))) else (cornucopialaw2_OkeyOrders.j1 kj6 a0 a1 a2 a3 a4 a5 t200 t201 bt205.1 bt205.2 false)))) = some r := H
        have A12 := Aside0.mk A120
        clear A120
        obtain ⟨y202, hy202⟩ : ∃ y_ : List (S35), y_ = (([(⟨1, a1, 0, 0⟩ : S35), (⟨2, (⟨#[]⟩ : ByteArray), a3, 0⟩ : S35), (⟨3, (⟨#[]⟩ : ByteArray), 0, a5⟩ : S35)] : List (S35))) := ⟨_, rfl⟩
        replace H : ((okey_Put.f kj6 y202).bind fun bt205 => (if (Op.bytesLess a0.toList a1.toList) = true then (cornucopialaw2_OkeyOrders.j1 kj6 a0 a1 a2 a3 a4 a5 t200 t201 bt205.1 bt205.2 true) else (if a0.toList = a1.toList then (if a2 < a3 then (cornucopialaw2_OkeyOrders.j1 kj6 a0 a1 a2 a3 a4 a5 t200 t201 bt205.1 bt205.2 true) else (if a2 = a3 then (cornucopialaw2_OkeyOrders.j1 kj6 a0 a1 a2 a3 a4 a5 t200 t201 bt205.1 bt205.2 (decide (a4 < a5))) else (cornucopialaw2_OkeyOrders.j1 kj6 a0 a1 a2 a3 a4 a5 t200 t201 bt205.1 bt205.2 false))) else (cornucopialaw2_OkeyOrders.j1 kj6 a0 a1 a2 a3 a4 a5 t200 t201 bt205.1 bt205.2 false)))) = some r := by first | (rw [hy202]; with_reducible exact H) | (have H2_ := (Option.bind_some _ _).symm.trans H; rw [hy202]; with_reducible exact H2_) | (have H2_ := (Option.bind_some _ _).symm.trans H; with_reducible exact H2_) | with_reducible exact H | (rw [hy202]; exact H) | exact H
        have Ny202 := Aside0.mk hy202
        clear hy202
        replace H := Option.bind_eq_some_iff.mp H
        obtain ⟨⟨t205, t206⟩, A130, H⟩ := H
        replace H : (if (Op.bytesLess a0.toList a1.toList) = true then (cornucopialaw2_OkeyOrders.j1 kj6 a0 a1 a2 a3 a4 a5 t200 t201 t205 t206 true) else (if a0.toList = a1.toList then (if a2 < a3 then (cornucopialaw2_OkeyOrders.j1 kj6 a0 a1 a2 a3 a4 a5 t200 t201 t205 t206 true) else (if a2 = a3 then (cornucopialaw2_OkeyOrders.j1 kj6 a0 a1 a2 a3 a4 a5 t200 t201 t205 t206 (decide (a4 < a5))) else (cornucopialaw2_OkeyOrders.j1 kj6 a0 a1 a2 a3 a4 a5 t200 t201 t205 t206 false))) else (cornucopialaw2_OkeyOrders.j1 kj6 a0 a1 a2 a3 a4 a5 t200 t201 t205 t206 false))) = some r := H
        have A13 := Aside0.mk A130
        clear A130
        have HC14 := Aside0.mk H
        clear H
        go_upto_region 5 with (first | ((with_reducible refine gate_dst (N := 37) rfl ?_); (try (refine gate_guard (by rfl) ?_; dsimp only)); refine Kd.R_lit k35 _ 35 ?hg (N := 37) ?hd (xs := ([(⟨1, a0, 0, 0⟩ : S35), (⟨2, (⟨#[]⟩ : ByteArray), a2, 0⟩ : S35), (⟨3, (⟨#[]⟩ : ByteArray), 0, a4⟩ : S35)] : List (S35))) (inner := [.int .i64 1, .string a0, .int .u64 0, .int .i64 0, .int .i64 2, .string (⟨#[]⟩ : ByteArray), .int .u64 a2, .int .i64 0, .int .i64 3, .string (⟨#[]⟩ : ByteArray), .int .u64 0, .int .i64 a4]) (ok := fun _ => True) (okp := fun _ => True) ?hr ?hp (fun _ hk => hk) trivial (Below.refl _ _) (Nat.le_refl _) (by simp) ?_; (case hd => rfl); (case hg => rfl); (case hr => first | (go_simp; done) | (go_simp; rfl)); (case hp => exact (Reps.c4 (show Kd.M k35 _ _ _ (⟨1, a0, 0, 0⟩ : S35) [.int .i64 1, .string a0, .int .u64 0, .int .i64 0] from (k35_mkM _ _ _ (⟨1, a0, 0, 0⟩ : S35) )) (Reps.c4 (show Kd.M k35 _ _ _ (⟨2, (⟨#[]⟩ : ByteArray), a2, 0⟩ : S35) [.int .i64 2, .string (⟨#[]⟩ : ByteArray), .int .u64 a2, .int .i64 0] from (k35_mkM _ _ _ (⟨2, (⟨#[]⟩ : ByteArray), a2, 0⟩ : S35) )) (Reps.c4 (show Kd.M k35 _ _ _ (⟨3, (⟨#[]⟩ : ByteArray), 0, a4⟩ : S35) [.int .i64 3, .string (⟨#[]⟩ : ByteArray), .int .u64 0, .int .i64 a4] from (k35_mkM _ _ _ (⟨3, (⟨#[]⟩ : ByteArray), 0, a4⟩ : S35) )) (Reps.none _ _))))); intro v198 w15 ho16 hb hg_ hnew_; clear hg_ hnew_; (first | rw [← Ny197.out] at ho16 | (simp only [Int.reduceToNat] at ho16; rw [← Ny197.out] at ho16)); have n0_ := Aside0.mk (Kd.R_lower ho16 (below_size (by repeat (first | (with_reducible first | exact HB.out | apply below_alloc | apply pw_below_drewN | apply below_drew1) | exact HB.out)))); have n1_ := Aside0.mk (below_step (by repeat (first | (with_reducible first | exact HB.out | apply below_alloc | apply pw_below_drewN | apply below_drew1) | exact HB.out)) hb); clear HB; have HO199 := n0_; have HB := n1_; clear n0_ n1_; clear hb ho16; obtain ⟨Ao17, co17, eo17⟩ := Kd.R_slice HO199.out; subst eo17) | ((with_reducible refine gate_callee (f := 13) rfl ?_); refine goesL_ (some 38) rfl rfl Tryd.func13 (by kernel_rfl) rfl #[.slice Ao17 y197.length co17] rfl (by (try simp only [List.map_toArray, List.map_cons, List.map_nil]); first | done | rfl | (simp only [List.length_drop, List.length_take]; rfl)) ?_; (with_reducible refine (okey_Put.calls kj6 _ _ y197 t200 t201 _ ?side1 ?side2 A12.out).mono ?_); (case side1 => repeat (first | exact (Kd.R_reads' HO199.out).2.2 | (with_reducible refine Kd.C_alloc ?_ _) | (with_reducible refine Kd.C_drewN ?_ _) | (with_reducible refine Kd.C_drew ?_))); (case side2 => exact (Kd.R_reads' HO199.out).2.1); rintro e w18 ⟨rfl, hb⟩; refine ⟨_, rfl, ?_⟩; have n0_ := Aside0.mk (Kd.R_below (by (with_reducible repeat (first | apply Kd.R_alloc | apply Kd.R_drewN | apply Kd.R_drew)); exact HO199.out) hb); have n1_ := Aside0.mk (below_step (by repeat (first | (with_reducible first | exact HB.out | apply below_alloc | apply pw_below_drewN | apply below_drew1) | exact HB.out)) hb); clear HO199; clear HB; have HO199 := n0_; have HB := n1_; clear n0_ n1_; (try clear hb); (try clear hb2); (try clear hk); (try clear hi)) | ((with_reducible refine gate_dst (N := 48) rfl ?_); (try (refine gate_guard (by rfl) ?_; dsimp only)); refine Kd.R_lit k35 _ 35 ?hg (N := 48) ?hd (xs := ([(⟨1, a1, 0, 0⟩ : S35), (⟨2, (⟨#[]⟩ : ByteArray), a3, 0⟩ : S35), (⟨3, (⟨#[]⟩ : ByteArray), 0, a5⟩ : S35)] : List (S35))) (inner := [.int .i64 1, .string a1, .int .u64 0, .int .i64 0, .int .i64 2, .string (⟨#[]⟩ : ByteArray), .int .u64 a3, .int .i64 0, .int .i64 3, .string (⟨#[]⟩ : ByteArray), .int .u64 0, .int .i64 a5]) (ok := fun _ => True) (okp := fun _ => True) ?hr ?hp (fun _ hk => hk) trivial (Below.refl _ _) (Nat.le_refl _) (by simp) ?_; (case hd => rfl); (case hg => rfl); (case hr => first | (go_simp; done) | (go_simp; rfl)); (case hp => exact (Reps.c4 (show Kd.M k35 _ _ _ (⟨1, a1, 0, 0⟩ : S35) [.int .i64 1, .string a1, .int .u64 0, .int .i64 0] from (k35_mkM _ _ _ (⟨1, a1, 0, 0⟩ : S35) )) (Reps.c4 (show Kd.M k35 _ _ _ (⟨2, (⟨#[]⟩ : ByteArray), a3, 0⟩ : S35) [.int .i64 2, .string (⟨#[]⟩ : ByteArray), .int .u64 a3, .int .i64 0] from (k35_mkM _ _ _ (⟨2, (⟨#[]⟩ : ByteArray), a3, 0⟩ : S35) )) (Reps.c4 (show Kd.M k35 _ _ _ (⟨3, (⟨#[]⟩ : ByteArray), 0, a5⟩ : S35) [.int .i64 3, .string (⟨#[]⟩ : ByteArray), .int .u64 0, .int .i64 a5] from (k35_mkM _ _ _ (⟨3, (⟨#[]⟩ : ByteArray), 0, a5⟩ : S35) )) (Reps.none _ _))))); intro v203 w19 ho20 hb hg_ hnew_; clear hg_ hnew_; (first | rw [← Ny202.out] at ho20 | (simp only [Int.reduceToNat] at ho20; rw [← Ny202.out] at ho20)); have n0_ := Aside0.mk (Kd.R_elder' (by (with_reducible repeat (first | apply Kd.R_alloc | apply Kd.R_drewN | apply Kd.R_drew)); exact HO199.out) (Kd.R_base ho20) hb); have n1_ := Aside0.mk (Kd.R_lower (Kd.R_new' ho20 (Kd.R_lt (by (with_reducible repeat (first | apply Kd.R_alloc | apply Kd.R_drewN | apply Kd.R_drew)); exact HO199.out))) (below_size (by repeat (first | (with_reducible first | exact HB.out | apply below_alloc | apply pw_below_drewN | apply below_drew1) | exact HB.out)))); have n2_ := Aside0.mk (below_step (by repeat (first | (with_reducible first | exact HB.out | apply below_alloc | apply pw_below_drewN | apply below_drew1) | exact HB.out)) hb); clear HO199; clear HB; have HO199 := n0_; have HO204 := n1_; have HB := n2_; clear n0_ n1_ n2_; clear hb ho20; obtain ⟨Ao21, co21, eo21⟩ := Kd.R_slice HO204.out; subst eo21) | ((with_reducible refine gate_callee (f := 13) rfl ?_); refine goesL_ (some 49) rfl rfl Tryd.func13 (by kernel_rfl) rfl #[.slice Ao21 y202.length co21] rfl (by (try simp only [List.map_toArray, List.map_cons, List.map_nil]); first | done | rfl | (simp only [List.length_drop, List.length_take]; rfl)) ?_; (with_reducible refine (okey_Put.calls kj6 _ _ y202 t205 t206 _ ?side1 ?side2 A13.out).mono ?_); (case side1 => repeat (first | exact (Kd.R_reads' HO204.out).2.2 | (with_reducible refine Kd.C_alloc ?_ _) | (with_reducible refine Kd.C_drewN ?_ _) | (with_reducible refine Kd.C_drew ?_))); (case side2 => exact (Kd.R_reads' HO204.out).2.1); rintro e w22 ⟨rfl, hb⟩; refine ⟨_, rfl, ?_⟩; have n0_ := Aside0.mk (Kd.R_below (by (with_reducible repeat (first | apply Kd.R_alloc | apply Kd.R_drewN | apply Kd.R_drew)); exact HO199.out) hb); have n1_ := Aside0.mk (Kd.R_below (by (with_reducible repeat (first | apply Kd.R_alloc | apply Kd.R_drewN | apply Kd.R_drew)); exact HO204.out) hb); have n2_ := Aside0.mk (below_step (by repeat (first | (with_reducible first | exact HB.out | apply below_alloc | apply pw_below_drewN | apply below_drew1) | exact HB.out)) hb); clear HO199; clear HO204; clear HB; have HO199 := n0_; have HO204 := n1_; have HB := n2_; clear n0_ n1_ n2_; (try clear hb); (try clear hb2); (try clear hk); (try clear hi)))
        (try simp only [Act.put, List.setIfInBounds_toArray, List.set_cons_zero, List.set_cons_succ])
        go_cut [17] (fun v17 wc => ∃ (kq : Nat) (x17_13 : Bool), v17 = .bool x17_13 ∧ Aside0 (cornucopialaw2_OkeyOrders.j1 kq a0 a1 a2 a3 a4 a5 t200 t201 t205 t206 x17_13 = some r) ∧ Aside0 (kq ≤ kj6) ∧ Aside0 (Below w.heap.size w wc))
        case first =>
          have H := HC14.out
          clear HC14
          by_cases c23 : (Op.bytesLess a0.toList a1.toList) = true
          · rw [if_pos c23] at H
            have c23b0 : (Op.bytesLess a0.toList a1.toList) = true := c23
            clear c23
            (first | rw [c23b0] | (simp only [i64_w, i32_w]; rw [c23b0]) | skip)
            have H' := Aside0.mk H
            clear H
            go_wp2
            go_meet
            case rel => exact ⟨_, (true), (by first | rfl | (simp; done) | (simp [*]; done)), H', ⟨by have := HJ6.out; first | omega | exact Nat.le_refl _⟩, ⟨by repeat (first | (with_reducible first | exact HB.out | apply below_alloc | apply pw_below_drewN | apply below_drew1) | exact HB.out)⟩⟩
          · rw [if_neg c23] at H
            have c23b0 : (Op.bytesLess a0.toList a1.toList) = false := by simpa using c23
            clear c23
            (first | rw [c23b0] | (simp only [i64_w, i32_w]; rw [c23b0]) | skip)
            by_cases c24 : a0.toList = a1.toList
            · rw [if_pos c24] at H
              have c24b0 : (a0.toList == a1.toList) = true := beq_iff_eq.mpr c24
              have c24b1 : (a0.toList != a1.toList) = false := bne_eq_false_iff_eq.mpr c24
              clear c24
              by_cases c25 : a2 < a3
              · rw [if_pos c25] at H
                have c25b0 : decide (a2 < a3) = true := decide_eq_true c25
                clear c25
                have H' := Aside0.mk H
                clear H
                go_wp2
                go_meet
                case rel => exact ⟨_, (true), (by first | rfl | (simp; done) | (simp [*]; done)), H', ⟨by have := HJ6.out; first | omega | exact Nat.le_refl _⟩, ⟨by repeat (first | (with_reducible first | exact HB.out | apply below_alloc | apply pw_below_drewN | apply below_drew1) | exact HB.out)⟩⟩
              · rw [if_neg c25] at H
                have c25b0 : decide (a2 < a3) = false := decide_eq_false c25
                clear c25
                by_cases c26 : a2 = a3
                · rw [if_pos c26] at H
                  have c26b0 : (a2 == a3) = true := beq_iff_eq.mpr c26
                  have c26b1 : (a2 != a3) = false := bne_eq_false_iff_eq.mpr c26
                  clear c26
                  have H' := Aside0.mk H
                  clear H
                  go_wp2
                  go_meet
                  case rel => exact ⟨_, (decide (a4 < a5)), (by first | rfl | (simp; done) | (simp [*]; done)), H', ⟨by have := HJ6.out; first | omega | exact Nat.le_refl _⟩, ⟨by repeat (first | (with_reducible first | exact HB.out | apply below_alloc | apply pw_below_drewN | apply below_drew1) | exact HB.out)⟩⟩
                · rw [if_neg c26] at H
                  have c26b0 : (a2 == a3) = false := beq_eq_false_iff_ne.mpr c26
                  have c26b1 : (a2 != a3) = true := bne_iff_ne.mpr c26
                  have H' := Aside0.mk H
                  clear H
                  go_wp2
                  go_meet
                  case rel => exact ⟨_, (false), (by first | rfl | (simp; done) | (simp [*]; done)), H', ⟨by have := HJ6.out; first | omega | exact Nat.le_refl _⟩, ⟨by repeat (first | (with_reducible first | exact HB.out | apply below_alloc | apply pw_below_drewN | apply below_drew1) | exact HB.out)⟩⟩
            · rw [if_neg c24] at H
              have c24b0 : (a0.toList == a1.toList) = false := beq_eq_false_iff_ne.mpr c24
              have c24b1 : (a0.toList != a1.toList) = true := bne_iff_ne.mpr c24
              have H' := Aside0.mk H
              clear H
              go_wp2
              go_meet
              case rel => exact ⟨_, (false), (by first | rfl | (simp; done) | (simp [*]; done)), H', ⟨by have := HJ6.out; first | omega | exact Nat.le_refl _⟩, ⟨by repeat (first | (with_reducible first | exact HB.out | apply below_alloc | apply pw_below_drewN | apply below_drew1) | exact HB.out)⟩⟩
        case rest =>
          clear HC14
          try clear c1
          try clear c2
          try clear p2
          try clear c4
          try clear c6
          try clear c7
          try clear c8
          try clear c8b0
          try clear c8b1
          try clear c9
          try clear c13
          try clear c23
          try clear c23b0
          try clear c24
          try clear c24b0
          try clear c24b1
          try clear c25
          try clear c25b0
          try clear c26
          try clear c26b0
          try clear c26b1
          try clear p2
          obtain ⟨kq, x17_13, rfl, HA, HJ13, HB⟩ := hcut
          cases kq with
          | zero => exact absurd HA.out (by simp [cornucopialaw2_OkeyOrders.j1])
          | succ kj13 =>
            have H := HA.out
            clear HA
            simp only [cornucopialaw2_OkeyOrders.j1] at H
            replace H := Option.bind_eq_some_iff.mp H
            obtain ⟨t207, A270, H⟩ := H
            replace H : ((okey_Text.f a1).bind fun t208 => (if (t207.size : Int) ≤ (t208.size : Int) then (if 0 ≤ (t207.size : Int) then (cornucopialaw2_OkeyOrders.j2 kj13 a0 a1 a2 a3 a4 a5 t200 t201 t205 t206 x17_13 ((t208.extract 0 ((t207.size : Int) : Int).toNat).toList == t207.toList)) else (none)) else (cornucopialaw2_OkeyOrders.j2 kj13 a0 a1 a2 a3 a4 a5 t200 t201 t205 t206 x17_13 false))) = some r := H
            have A27 := Aside0.mk A270
            clear A270
            replace H := Option.bind_eq_some_iff.mp H
            obtain ⟨t208, A280, H⟩ := H
            replace H : (if (t207.size : Int) ≤ (t208.size : Int) then (if 0 ≤ (t207.size : Int) then (cornucopialaw2_OkeyOrders.j2 kj13 a0 a1 a2 a3 a4 a5 t200 t201 t205 t206 x17_13 ((t208.extract 0 ((t207.size : Int) : Int).toNat).toList == t207.toList)) else (none)) else (cornucopialaw2_OkeyOrders.j2 kj13 a0 a1 a2 a3 a4 a5 t200 t201 t205 t206 x17_13 false)) = some r := H
            have A28 := Aside0.mk A280
            clear A280
            have HC29 := Aside0.mk H
            clear H
            go_upto_region 7 with (first | ((with_reducible refine gate_callee (f := 9) rfl ?_); refine goesL_ (some 76) rfl rfl Tryd.func9 (by kernel_rfl) rfl #[.string a0] rfl (by (try simp only [List.map_toArray, List.map_cons, List.map_nil]); first | done | rfl | (simp only [List.length_drop, List.length_take]; rfl)) ?_; (with_reducible refine (okey_Text.calls a0 t207 _ A27.out).mono ?_); rintro e w30 ⟨rfl, hb⟩; refine ⟨_, rfl, ?_⟩; have n0_ := Aside0.mk (below_step (by repeat (first | (with_reducible first | exact HB.out | apply below_alloc | apply pw_below_drewN | apply below_drew1) | exact HB.out)) hb); clear HB; have HB := n0_; clear n0_; (try clear hb); (try clear hb2); (try clear hk); (try clear hi)) | ((with_reducible refine gate_callee (f := 9) rfl ?_); refine goesL_ (some 78) rfl rfl Tryd.func9 (by kernel_rfl) rfl #[.string a1] rfl (by (try simp only [List.map_toArray, List.map_cons, List.map_nil]); first | done | rfl | (simp only [List.length_drop, List.length_take]; rfl)) ?_; (with_reducible refine (okey_Text.calls a1 t208 _ A28.out).mono ?_); rintro e w31 ⟨rfl, hb⟩; refine ⟨_, rfl, ?_⟩; have n0_ := Aside0.mk (below_step (by repeat (first | (with_reducible first | exact HB.out | apply below_alloc | apply pw_below_drewN | apply below_drew1) | exact HB.out)) hb); clear HB; have HB := n0_; clear n0_; (try clear hb); (try clear hb2); (try clear hk); (try clear hi)))
            (try simp only [Act.put, List.setIfInBounds_toArray, List.set_cons_zero, List.set_cons_succ])
            go_cut [20] (fun v20 wc => ∃ (kq : Nat) (x20_28 : Bool), v20 = .bool x20_28 ∧ Aside0 (cornucopialaw2_OkeyOrders.j2 kq a0 a1 a2 a3 a4 a5 t200 t201 t205 t206 x17_13 x20_28 = some r) ∧ Aside0 (kq ≤ kj13) ∧ Aside0 (Below w.heap.size w wc))
            case first =>
              have H := HC29.out
              clear HC29
              by_cases c32 : (t207.size : Int) ≤ (t208.size : Int)
              · rw [if_pos c32] at H
                have c32b0 : decide ((t207.size : Int) ≤ (t208.size : Int)) = true := decide_eq_true c32
                have c32b1 : decide (t207.size ≤ t208.size) = true := decide_eq_true (Int.ofNat_le.mp c32)
                clear c32
                (first | rw [c32b0] | (simp only [i64_w, i32_w]; rw [c32b0]) | skip)
                by_cases c33 : 0 ≤ (t207.size : Int)
                · rw [if_pos c33] at H
                  have c33b0 := eq_true c33
                  have c33b1 : decide (0 ≤ (t207.size : Int)) = true := decide_eq_true c33
                  clear c33
                  have c34b0 := eq_true (of_decide_eq_true (by first | (with_reducible assumption) | assumption) : (t207.size : Int) ≤ (t208.size : Int))
                  have H' := Aside0.mk H
                  clear H
                  go_wp2
                  go_meet
                  case rel => exact ⟨_, (((t208.extract 0 ((t207.size : Int) : Int).toNat).toList == t207.toList)), (by first | rfl | (simp; done) | (simp [*]; done)), H', ⟨by have := HJ6.out; have := HJ13.out; first | omega | exact Nat.le_refl _⟩, ⟨by repeat (first | (with_reducible first | exact HB.out | apply below_alloc | apply pw_below_drewN | apply below_drew1) | exact HB.out)⟩⟩
                · rw [if_neg c33] at H
                  exact absurd H (by simp)
              · rw [if_neg c32] at H
                have c32b0 : decide ((t207.size : Int) ≤ (t208.size : Int)) = false := decide_eq_false c32
                have c32b1 : decide (t207.size ≤ t208.size) = false := decide_eq_false (fun h => c32 (Int.ofNat_le.mpr h))
                clear c32
                (first | rw [c32b0] | (simp only [i64_w, i32_w]; rw [c32b0]) | skip)
                have H' := Aside0.mk H
                clear H
                go_wp2
                go_meet
                case rel => exact ⟨_, (false), (by first | rfl | (simp; done) | (simp [*]; done)), H', ⟨by have := HJ6.out; have := HJ13.out; first | omega | exact Nat.le_refl _⟩, ⟨by repeat (first | (with_reducible first | exact HB.out | apply below_alloc | apply pw_below_drewN | apply below_drew1) | exact HB.out)⟩⟩
            case rest =>
              clear HC29
              try clear c1
              try clear c2
              try clear p2
              try clear c3
              try clear c4
              try clear c6
              try clear c7
              try clear c8
              try clear c8b0
              try clear c8b1
              try clear c9
              try clear c13
              try clear c23
              try clear c23b0
              try clear c24
              try clear c24b0
              try clear c24b1
              try clear c25
              try clear c25b0
              try clear c26
              try clear c26b0
              try clear c26b1
              try clear c32
              try clear c32b0
              try clear c32b1
              try clear c33
              try clear c33b0
              try clear c33b1
              try clear c34
              try clear c34b0
              try clear p2
              obtain ⟨kq, x20_28, rfl, HA, HJ28, HB⟩ := hcut
              cases kq with
              | zero => exact absurd HA.out (by simp [cornucopialaw2_OkeyOrders.j2])
              | succ kj28 =>
                have H := HA.out
                clear HA
                simp only [cornucopialaw2_OkeyOrders.j2] at H
                replace H := Option.bind_eq_some_iff.mp H
                obtain ⟨t209, A350, H⟩ := H
                replace H : (if t209 = true then (if t201 = 0 then (if t206 = 0 then (if ((Op.bytesLess t200.toList t205.toList) == x17_13) = true then (if (x20_28 == (a0.toList == a1.toList)) = true then ((okey_Num.f kj28 a2).bind fun t210 => ((okey_Num.f kj28 a3).bind fun t211 => (if ((Op.bytesLess t210.toList t211.toList) == (decide (a2 < a3))) = true then ((okey_Int.f kj28 a4).bind fun t212 => ((okey_Int.f kj28 a5).bind fun t213 => (some ((Op.bytesLess t212.toList t213.toList) == (decide (a4 < a5)))))) else (none)))) else (none)) else (none)) else (none)) else (none)) else (none)) = some r := H
                have A35 := Aside0.mk A350
                clear A350
                by_cases c36 : t209 = true
                · subst c36
                  have H1 : (if t201 = 0 then (if t206 = 0 then (if ((Op.bytesLess t200.toList t205.toList) == x17_13) = true then (if (x20_28 == (a0.toList == a1.toList)) = true then ((okey_Num.f kj28 a2).bind fun t210 => ((okey_Num.f kj28 a3).bind fun t211 => (if ((Op.bytesLess t210.toList t211.toList) == (decide (a2 < a3))) = true then ((okey_Int.f kj28 a4).bind fun t212 => ((okey_Int.f kj28 a5).bind fun t213 => (some ((Op.bytesLess t212.toList t213.toList) == (decide (a4 < a5)))))) else (none)))) else (none)) else (none)) else (none)) else (none)) = some r := by rw [if_pos rfl] at H; exact H
                  clear H
                  have H := H1
                  clear H1
                  by_cases c37 : t201 = 0
                  · rw [if_pos c37] at H
                    have c37b0 : (t201 == 0) = true := beq_iff_eq.mpr c37
                    have c37b1 : (t201 != 0) = false := bne_eq_false_iff_eq.mpr c37
                    clear c37
                    by_cases c38 : t206 = 0
                    · rw [if_pos c38] at H
                      have c38b0 : (t206 == 0) = true := beq_iff_eq.mpr c38
                      have c38b1 : (t206 != 0) = false := bne_eq_false_iff_eq.mpr c38
                      clear c38
                      by_cases c39 : ((Op.bytesLess t200.toList t205.toList) == x17_13) = true
                      · rw [if_pos c39] at H
                        have c39b0 : ((Op.bytesLess t200.toList t205.toList) == x17_13) = true := c39
                        (try (have c39b1 : decide ((Op.bytesLess t200.toList t205.toList) = x17_13) = true := by simpa using c39))
                        (try (have c39b2 : ((Op.bytesLess t200.toList t205.toList) == x17_13) = true := by simpa using c39))
                        clear c39
                        by_cases c40 : (x20_28 == (a0.toList == a1.toList)) = true
                        · rw [if_pos c40] at H
                          have c40b0 : (x20_28 == (a0.toList == a1.toList)) = true := c40
                          (try (have c40b1 : decide (x20_28 = (a0.toList == a1.toList)) = true := by simpa using c40))
                          (try (have c40b2 : (x20_28 == (a0.toList == a1.toList)) = true := by simpa using c40))
                          clear c40
                          replace H := Option.bind_eq_some_iff.mp H
                          obtain ⟨t210, A410, H⟩ := H
                          replace H : ((okey_Num.f kj28 a3).bind fun t211 => (if ((Op.bytesLess t210.toList t211.toList) == (decide (a2 < a3))) = true then ((okey_Int.f kj28 a4).bind fun t212 => ((okey_Int.f kj28 a5).bind fun t213 => (some ((Op.bytesLess t212.toList t213.toList) == (decide (a4 < a5)))))) else (none))) = some r := H
                          have A41 := Aside0.mk A410
                          clear A410
                          replace H := Option.bind_eq_some_iff.mp H
                          obtain ⟨t211, A420, H⟩ := H
                          replace H : (if ((Op.bytesLess t210.toList t211.toList) == (decide (a2 < a3))) = true then ((okey_Int.f kj28 a4).bind fun t212 => ((okey_Int.f kj28 a5).bind fun t213 => (some ((Op.bytesLess t212.toList t213.toList) == (decide (a4 < a5)))))) else (none)) = some r := H
                          have A42 := Aside0.mk A420
                          clear A420
                          by_cases c43 : ((Op.bytesLess t210.toList t211.toList) == (decide (a2 < a3))) = true
                          · rw [if_pos c43] at H
                            have c43b0 : ((Op.bytesLess t210.toList t211.toList) == (decide (a2 < a3))) = true := c43
                            (try (have c43b1 : decide ((Op.bytesLess t210.toList t211.toList) = (decide (a2 < a3))) = true := by simpa using c43))
                            (try (have c43b2 : ((Op.bytesLess t210.toList t211.toList) == (decide (a2 < a3))) = true := by simpa using c43))
                            clear c43
                            replace H := Option.bind_eq_some_iff.mp H
                            obtain ⟨t212, A440, H⟩ := H
                            replace H : ((okey_Int.f kj28 a5).bind fun t213 => (some ((Op.bytesLess t212.toList t213.toList) == (decide (a4 < a5))))) = some r := H
                            have A44 := Aside0.mk A440
                            clear A440
                            replace H := Option.bind_eq_some_iff.mp H
                            obtain ⟨t213, A450, H⟩ := H
                            replace H : (some ((Op.bytesLess t212.toList t213.toList) == (decide (a4 < a5)))) = some r := H
                            have A45 := Aside0.mk A450
                            clear A450
                            obtain rfl := Option.some.inj H
                            go_wp2_with (first | ((with_reducible refine gate_callee (f := 7) rfl ?_); refine goesL_ (some 92) rfl rfl Tryd.func7 (by kernel_rfl) rfl #[] rfl (by (try simp only [List.map_toArray, List.map_cons, List.map_nil]); first | done | rfl | (simp only [List.length_drop, List.length_take]; rfl)) ?_; (with_reducible refine (cornucopialaw2_alive.calls kj28  true _ A35.out).mono ?_); rintro e w46 ⟨rfl, hb⟩; refine ⟨_, rfl, ?_⟩; have n0_ := Aside0.mk (below_step (by repeat (first | (with_reducible first | exact HB.out | apply below_alloc | apply pw_below_drewN | apply below_drew1) | exact HB.out)) hb); clear HB; have HB := n0_; clear n0_; (try clear hb); (try clear hb2); (try clear hk); (try clear hi)) | (go_at_call 10; (with_reducible refine (okey_Num.calls kj28 a2 t210 _ A41.out).mono ?_); rintro e w47 ⟨rfl, hb⟩; have n0_ := Aside0.mk (below_step (by repeat (first | (with_reducible first | exact HB.out | apply below_alloc | apply pw_below_drewN | apply below_drew1) | exact HB.out)) hb); clear HB; have HB := n0_; clear n0_; (try clear hb); (try clear hb2); (try clear hk); (try clear hi)) | (go_at_call 10; (with_reducible refine (okey_Num.calls kj28 a3 t211 _ A42.out).mono ?_); rintro e w48 ⟨rfl, hb⟩; have n0_ := Aside0.mk (below_step (by repeat (first | (with_reducible first | exact HB.out | apply below_alloc | apply pw_below_drewN | apply below_drew1) | exact HB.out)) hb); clear HB; have HB := n0_; clear n0_; (try clear hb); (try clear hb2); (try clear hk); (try clear hi)) | (go_at_call 11; (with_reducible refine (okey_Int.calls kj28 a4 t212 _ A44.out).mono ?_); rintro e w49 ⟨rfl, hb⟩; have n0_ := Aside0.mk (below_step (by repeat (first | (with_reducible first | exact HB.out | apply below_alloc | apply pw_below_drewN | apply below_drew1) | exact HB.out)) hb); clear HB; have HB := n0_; clear n0_; (try clear hb); (try clear hb2); (try clear hk); (try clear hi)) | (go_at_call 11; (with_reducible refine (okey_Int.calls kj28 a5 t213 _ A45.out).mono ?_); rintro e w50 ⟨rfl, hb⟩; have n0_ := Aside0.mk (below_step (by repeat (first | (with_reducible first | exact HB.out | apply below_alloc | apply pw_below_drewN | apply below_drew1) | exact HB.out)) hb); clear HB; have HB := n0_; clear n0_; (try clear hb); (try clear hb2); (try clear hk); (try clear hi)))
                            go_ret
                            exact ⟨by first | rfl | (simp [errW_none, errW_some] <;> rfl) | (simp [*, errW_none, errW_some] <;> rfl), by repeat (first | (with_reducible first | exact HB.out | apply below_alloc | apply pw_below_drewN | apply below_drew1) | exact HB.out)⟩
                          · rw [if_neg c43] at H
                            exact absurd H (by simp)
                        · rw [if_neg c40] at H
                          exact absurd H (by simp)
                      · rw [if_neg c39] at H
                        exact absurd H (by simp)
                    · rw [if_neg c38] at H
                      exact absurd H (by simp)
                  · rw [if_neg c37] at H
                    exact absurd H (by simp)
                · replace c36 := Bool.eq_false_iff.mpr c36
                  subst c36
                  have H1 : (none) = some r := by rw [if_neg (show ¬ (false = true) by decide)] at H; exact H
                  clear H
                  have H := H1
                  clear H1
                  exact absurd H (by simp)

/-- THE ONE PURE STATEMENT of cornucopialaw2_OkeyOrders: yours. -/
def cornucopialaw2_OkeyOrders.Pure : Prop := ∀ (a0 : ByteArray) (a1 : ByteArray) (a2 : Int) (a3 : Int) (a4 : Int) (a5 : Int), a0.size ≤ 140737488351232 → a1.size ≤ 140737488351232 → (Lit.int .u64 a2).wf = true → (Lit.int .u64 a3).wf = true → (Lit.int .i64 a4).wf = true → (Lit.int .i64 a5).wf = true → ∃ k, cornucopialaw2_OkeyOrders.f k a0 a1 a2 a3 a4 a5 = some true
theorem cornucopialaw2_OkeyOrders.walk (P : cornucopialaw2_OkeyOrders.Pure) (a0 : ByteArray) (a1 : ByteArray) (a2 : Int) (a3 : Int) (a4 : Int) (a5 : Int) (w : World) (w0 : a0.size ≤ 140737488351232) (w1 : a1.size ≤ 140737488351232) (w2 : (Lit.int .u64 a2).wf = true) (w3 : (Lit.int .u64 a3).wf = true) (w4 : (Lit.int .i64 a4).wf = true) (w5 : (Lit.int .i64 a5).wf = true) :
    Calls Tryd.prog 6 #[.string a0, .string a1, .int .u64 a2, .int .u64 a3, .int .i64 a4, .int .i64 a5] w fun e w' => e = .returned (.bool true) ∧ Below w.heap.size w w' := by
  obtain ⟨k, h⟩ := P a0 a1 a2 a3 a4 a5 w0 w1 w2 w3 w4 w5
  refine (cornucopialaw2_OkeyOrders.calls k a0 a1 a2 a3 a4 a5 true w h).mono ?_
  rintro e w' ⟨rfl, hd⟩
  exact ⟨rfl, hd⟩

end Go.Proofs.YtbejofbbmpmnfaaDoor.PAll
