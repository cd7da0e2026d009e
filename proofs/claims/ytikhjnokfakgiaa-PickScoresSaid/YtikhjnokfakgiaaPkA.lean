/- The reference's Ordered: walked: some row of tables that came in, as many. -/
import Derived.Test.YtikhjnokfakgiaaPkS
import Derived.Test.YtikhjnokfakgiaaPAllx5
import Derived.Lib.QuietBelow
import Derived.BigQuiet
import Derived.Deep.CutBlock
import Derived.Deep.DeepCutAuto
set_option linter.unusedSimpArgs false
set_option linter.unusedVariables false
namespace Go.Proofs.Ytikhjnokfakgiaa.Pk
open Go.Sort Go.RowKit Go.Maps Go.Proofs Go.Proofs.Ytikhjnokfakgiaa.Rw Go.Proofs.Ytikhjnokfakgiaa.PAll Go.Proofs.YtikhjnokfakgiaaW.PrintWords Go.Proofs.Ytikhjnokfakgiaa.Pb
attribute [local go_sem] put_fresh
attribute [-go_sem] Builtin.append_
attribute [-go_sem] sliced

theorem before_ev (x y : Tb) (hx : x.f3.size ≤ 9000) (hy : y.f3.size ≤ 9000) : ∃ K r, cornucopiaref12_before.f K x.f0 x.f1 x.f2 x.f3 x.f4 y.f0 y.f1 y.f2 y.f3 y.f4 = some r := by
  obtain ⟨K, hK⟩ := Less_ev x.f3 y.f3 (by omega) (by omega)
  have hK := hK K (Nat.le_refl _)
  refine ⟨K, ?_⟩
  unfold cornucopiaref12_before.f
  by_cases h1 : x.f1 = y.f1
  · rw [if_pos h1]
    by_cases h2 : x.f1 = 0
    · exact ⟨_, if_pos h2⟩
    · rw [if_neg h2]
      have hK : cornucopiaref1_Less.f K x.f3 y.f3 = _ := hK
      rw [hK]
      exact ⟨_, rfl⟩
  · exact ⟨_, if_neg h1⟩
/-- Some tables of these, so many. -/
def Some (l L : List Tb) (n : Nat) : Prop := L.length = n ∧ ∀ x ∈ L, x ∈ l
theorem Some.put {l L : List Tb} {n m : Nat} (h : Some l L n) {x : Tb} (hx : x ∈ l) (hm : m ≤ n) : Some l (L.take m ++ [x] ++ L.drop m) (n + 1) := by
  refine ⟨?_, fun y hy => ?_⟩
  · simp only [List.length_append, List.length_take, List.length_drop, List.length_singleton, h.1]; omega
  · rw [List.mem_append, List.mem_append] at hy
    rcases hy with (hy | hy) | hy
    · exact h.2 y (List.mem_of_mem_take hy)
    · rw [List.mem_singleton.1 hy]; exact hx
    · exact h.2 y (List.mem_of_mem_drop hy)
def OrdO (W : World) (l : List Tb) (e : Ending) (w' : World) : Prop := ∃ A' c' L, e = .returned (.slice A' l.length c') ∧ Some l L l.length ∧ Rw.Own KT 42 w' W.heap.size A' c' L ∧ Below W.heap.size W w'
set_option maxRecDepth 100000 in
set_option maxHeartbeats 8000000 in
theorem ordered_c {W : World} {A : Option Addr} {c : Nat} {l : List Tb} (hr : Reads KT W A l) (hl : l.length ≤ 100) (hs : ∀ x ∈ l, x.f3.size ≤ 9000 ∧ x.f4.size ≤ 9000) :
    Calls Try.prog 10 #[.slice A l.length c] W (OrdO W l) := by
  have HK := Aside0.mk (And.intro hr hs)
  clear hr hs
  go_enter Try.func10, Try.ntmps10
  go_wp2
  go_loopw [3, 4] (fun s3 i wr => ∃ (k : Nat) (A1 : Option Addr) (c1 : Nat) (L : List Tb), k ≤ l.length ∧ i = .int .i64 k ∧ s3 = .slice A1 k c1 ∧ Aside0 (Some l L k ∧ Rw.Own KT 42 wr W.heap.size A1 c1 L ∧ Below W.heap.size W wr)) (fun _ i _ => l.length - (intOf i).toNat)
  case atStart => exact ⟨0, none, 0, [], Nat.zero_le _, rfl, rfl, ⟨⟨rfl, fun x hx => by cases hx⟩, Rw.Own.nil _ _ _ _, Below.refl _ _⟩⟩
  case round =>
    obtain ⟨k, A1, c1, L, hk, rfl, rfl, H1⟩ := hrel
    obtain ⟨w1, hw1⟩ : ∃ w1, w1 = wr := ⟨_, rfl⟩
    subst wr
    by_cases hlt : k < l.length
    · have hwk := Aside0.mk (show wrap64 ((k : Int) + 1) = (k : Int) + 1 by unfold wrap64; omega)
      have hd1 : decide ((k : Int) < (l.length : Int)) = true := decide_eq_true (by omega)
      have hd2 : decide (k < l.length) = true := decide_eq_true hlt
      obtain ⟨g, o, rfl, hg⟩ := HK.out.1.where hlt
      obtain ⟨x, hx⟩ : ∃ x, l[k]? = some x := ⟨_, List.getElem?_eq_getElem hlt⟩
      have HX := Aside0.mk (And.intro hx (HK.out.2 x (List.mem_of_getElem? hx)))
      have hcap := H1.out.2.1.cap
      rw [H1.out.1.1] at hcap
      clear hg hx
      go_wp2_with fail
      go_loopw [5] (fun j wr => ∃ m : Nat, m ≤ k ∧ j = .int .i64 m ∧ Aside0 (Below w1.heap.size w1 wr)) (fun j _ => (intOf j).toNat)
      case atStart => exact ⟨k, Nat.le_refl _, rfl, ⟨Below.refl _ _⟩⟩
      case round =>
        obtain ⟨m, hm, rfl, H2⟩ := hrel
        obtain ⟨w2, hw2⟩ : ∃ w2, w2 = wr := ⟨_, rfl⟩
        subst wr
        have H3 := Aside0.mk (And.intro (H1.out.2.1.below H2.out) (H1.out.2.2.trans (H2.out.mono H1.out.2.2.size)))
        have hR := HK.out.1.below H3.out.2
        have c0 : w2.cell? ⟨g, o + k * 5, none⟩ = some (.int .i64 x.f0) := hR.at HX.out.1 (i := 0) rfl
        have c1' : w2.cell? ⟨g, o + k * 5 + 1, none⟩ = some (.int .i64 x.f1) := hR.at HX.out.1 (i := 1) rfl
        have c2' : w2.cell? ⟨g, o + k * 5 + 2, none⟩ = some (.int .i64 x.f2) := hR.at HX.out.1 (i := 2) rfl
        have c3 : w2.cell? ⟨g, o + k * 5 + 3, none⟩ = some (.string x.f3) := hR.at HX.out.1 (i := 3) rfl
        have c4 : w2.cell? ⟨g, o + k * 5 + 4, none⟩ = some (.string x.f4) := hR.at HX.out.1 (i := 4) rfl
        have k0 := cell_regrown c0
        have k1 := cell_regrown c1'
        have k2 := cell_regrown c2'
        have k3 := cell_regrown c3
        have k4 := cell_regrown c4
        clear c0 c1' c2' c3 c4 hR
        have fin : ∀ d os, Aside0 (Reads KT (grow (redrawn w2 d) os) (some ⟨g, o, none⟩) l ∧ Rw.Own KT 42 (grow (redrawn w2 d) os) W.heap.size A1 c1 L ∧ Below W.heap.size W (grow (redrawn w2 d) os)) := fun d os => ⟨⟨(HK.out.1.below H3.out.2).below (below_regrown w2 d os), H3.out.1.below (below_regrown w2 d os), H3.out.2.trans ((below_regrown w2 d os).mono H3.out.2.size)⟩⟩
        rcases Nat.eq_zero_or_pos m with hm0 | hm0
        case' inl =>
          have hz1 : decide ((0 : Int) < (m : Int)) = false := decide_eq_false (by omega)
          have hz2 : decide (0 < m) = false := decide_eq_false (by omega)
          have HM0 := Aside0.mk hm0
          clear hm0
          go_upto_region 6 with (fail)
          refine wp_region_quiet_below (by kernel_rfl) (by kernel_rfl) ?_
          repeat (go_big_quiet_step (fail))
          refine wpQuiet_nil ?_
          intro _ hw'
          obtain ⟨⟨dq, osq⟩, hw''⟩ := hw'
          subst hw''
          have H4 := fin dq osq
          clear k0 k1 k2 k3 k4 fin
          generalize grow (redrawn w2 dq) osq = w3 at *
          go_upto_region 8 with (fail)
          have hml : m ≤ L.length := by rw [H1.out.1.1]; exact hm
          obtain ⟨A4, c4, hs4, r4⟩ := cut_l H4.out.2.1 hml
          obtain ⟨A5, c5, hs5, r5⟩ := cut_r H4.out.2.1 hml
          rw [H1.out.1.1] at hs5 hml
          obtain ⟨p1, k1, v1, p2, k2, v2, p3, k3, v3, rA1, rA2, rA3, bA1, bA3, oA⟩ := three_A (n := m) (m := k - m) (by rw [List.length_take, H1.out.1.1]; omega) (by rw [List.length_drop, H1.out.1.1]) r4 r5 c4 c5 x (by omega)
          obtain ⟨q1, j1, u1, q2, j2, u2, q3, j3, u3, rB1, rB2, rB3, bB1, bB3, oB⟩ := three_B (n := m) (m := k - m) (by rw [List.length_take, H1.out.1.1]; omega) (by rw [List.length_drop, H1.out.1.1]) r4 r5 c4 c5 x (by omega)
          have hR3 := H4.out.1
          have hR4 := hR3.below bA1
          have e0 : w3.cell? ⟨g, o + k * 5, none⟩ = some (.int .i64 x.f0) := hR3.at HX.out.1 (i := 0) rfl
          have e1 : w3.cell? ⟨g, o + k * 5 + 1, none⟩ = some (.int .i64 x.f1) := hR3.at HX.out.1 (i := 1) rfl
          have e2 : w3.cell? ⟨g, o + k * 5 + 2, none⟩ = some (.int .i64 x.f2) := hR3.at HX.out.1 (i := 2) rfl
          have e3 : w3.cell? ⟨g, o + k * 5 + 3, none⟩ = some (.string x.f3) := hR3.at HX.out.1 (i := 3) rfl
          have e4 : w3.cell? ⟨g, o + k * 5 + 4, none⟩ = some (.string x.f4) := hR3.at HX.out.1 (i := 4) rfl
          have f0 : v1.cell? ⟨g, o + k * 5, none⟩ = some (.int .i64 x.f0) := hR4.at HX.out.1 (i := 0) rfl
          have f1 : v1.cell? ⟨g, o + k * 5 + 1, none⟩ = some (.int .i64 x.f1) := hR4.at HX.out.1 (i := 1) rfl
          have f2 : v1.cell? ⟨g, o + k * 5 + 2, none⟩ = some (.int .i64 x.f2) := hR4.at HX.out.1 (i := 2) rfl
          have f3 : v1.cell? ⟨g, o + k * 5 + 3, none⟩ = some (.string x.f3) := hR4.at HX.out.1 (i := 3) rfl
          have f4 : v1.cell? ⟨g, o + k * 5 + 4, none⟩ = some (.string x.f4) := hR4.at HX.out.1 (i := 4) rfl
          have hWs := H4.out.2.2.size
          have HF := Aside0.mk (And.intro (And.intro (H1.out.1.put (List.mem_of_getElem? HX.out.1) hm) (oA.less hWs)) (And.intro (H4.out.2.2.trans (bA3.mono hWs)) (And.intro (oB.less hWs) (H4.out.2.2.trans (bB3.mono hWs)))))
          have HN := Aside0.mk (show m + 1 + (k - m) = k + 1 by omega)
          have hkc : (m : Int) ≤ (c1 : Int) := by omega
          have hkl2 : (m : Int) ≤ (k : Int) := by omega
          clear bA1 bA3 oA bB1 bB3 oB r4 r5 hR3 hR4 hWs
          dsimp only [boxE] at rA2 rB1
          go_region
          all_goals
            go_wp2_with fail
            first
              | exact ⟨⟨k + 1, _, _, _, hlt, by first | exact iw_succ k | exact iv_succ hwk.out, by rw [HN.out], ⟨HF.out.1.1, HF.out.1.2, HF.out.2.1⟩⟩, by first | exact iw_meas hlt | exact iv_meas hwk.out hlt⟩
              | exact ⟨⟨k + 1, _, _, _, hlt, by first | exact iw_succ k | exact iv_succ hwk.out, by rw [HN.out], ⟨HF.out.1.1, HF.out.2.2.1, HF.out.2.2.2⟩⟩, by first | exact iw_meas hlt | exact iv_meas hwk.out hlt⟩
        case' inr =>
          have hz1 : decide ((0 : Int) < (m : Int)) = true := decide_eq_true (by omega)
          have hz2 : decide (0 < m) = true := decide_eq_true hm0
          obtain ⟨y, hy⟩ : ∃ y, L[m - 1]? = some y := ⟨_, List.getElem?_eq_getElem (by have := H1.out.1.1; omega)⟩
          obtain ⟨g1, o1, rfl, hg1⟩ := H3.out.1.reads.where (show m - 1 < L.length by have := H1.out.1.1; omega)
          have hyl := H1.out.1.2 y (List.mem_of_getElem? hy)
          obtain ⟨K, b, hK⟩ := before_ev x y HX.out.2.1 (HK.out.2 y hyl).1
          have hRL := H3.out.1.reads
          have m0 := cell_regrown (show w2.cell? ⟨g1, o1 + (m - 1) * 5, none⟩ = some (.int .i64 y.f0) from hRL.at hy (i := 0) rfl)
          have m1 := cell_regrown (show w2.cell? ⟨g1, o1 + (m - 1) * 5 + 1, none⟩ = some (.int .i64 y.f1) from hRL.at hy (i := 1) rfl)
          have m2 := cell_regrown (show w2.cell? ⟨g1, o1 + (m - 1) * 5 + 2, none⟩ = some (.int .i64 y.f2) from hRL.at hy (i := 2) rfl)
          have m3 := cell_regrown (show w2.cell? ⟨g1, o1 + (m - 1) * 5 + 3, none⟩ = some (.string y.f3) from hRL.at hy (i := 3) rfl)
          have m4 := cell_regrown (show w2.cell? ⟨g1, o1 + (m - 1) * 5 + 4, none⟩ = some (.string y.f4) from hRL.at hy (i := 4) rfl)
          have cC : ∀ d os, Calls Try.prog 21 #[.agg #[.int .i64 x.f0, .int .i64 x.f1, .int .i64 x.f2, .string x.f3, .string x.f4], .agg #[.int .i64 y.f0, .int .i64 y.f1, .int .i64 y.f2, .string y.f3, .string y.f4]] (grow (redrawn w2 d) os) fun e w'' => e = .returned (.bool b) ∧ ∃ p : Regrown, w'' = grow (redrawn w2 p.d) p.os := fun d os => Calls.regrown_of (cornucopiaref12_before.calls K x.f0 x.f1 x.f2 x.f3 x.f4 y.f0 y.f1 y.f2 y.f3 y.f4 b _ hK)
          have hs1 : wrap64 ((m : Int) - 1) = (m : Int) - 1 := by unfold wrap64; omega
          have hlt1 : m - 1 < k := by omega
          have hk1i : (1 : Int) ≤ (m : Int) := by omega
          clear hK hRL hyl hy hg1
          cases b with
          | true =>
            go_upto_region 6 with (fail)
            refine wp_region_quiet_below (by kernel_rfl) (by kernel_rfl) ?_
            repeat (go_big_quiet_step (exact cC _ _))
            refine wpQuiet_nil ?_
            intro _ hw'
            obtain ⟨⟨dq, osq⟩, hw''⟩ := hw'
            subst hw''
            have H4 := Aside0.mk (H2.out.trans ((below_regrown w2 dq osq).mono H2.out.size))
            clear k0 k1 k2 k3 k4 m0 m1 m2 m3 m4 cC fin
            generalize grow (redrawn w2 dq) osq = w3 at *
            go_wp2_with fail
            have hmi : wrap64 ((m : Int) - 1) = ((m - 1 : Nat) : Int) := by rw [hs1]; omega
            exact ⟨⟨m - 1, by omega, by first | exact congrArg (Value.int .i64) hmi | exact congrArg (Value.int .i64) (by omega), H4⟩, by first | (rw [hmi]; simp only [intOf]; omega) | (simp only [intOf]; omega)⟩
          | false =>
            go_upto_region 6 with (fail)
            refine wp_region_quiet_below (by kernel_rfl) (by kernel_rfl) ?_
            repeat (go_big_quiet_step (exact cC _ _))
            refine wpQuiet_nil ?_
            intro _ hw'
            obtain ⟨⟨dq, osq⟩, hw''⟩ := hw'
            subst hw''
            have H4 := fin dq osq
            clear k0 k1 k2 k3 k4 m0 m1 m2 m3 m4 cC fin
            generalize grow (redrawn w2 dq) osq = w3 at *
            go_upto_region 8 with (fail)
            have hml : m ≤ L.length := by rw [H1.out.1.1]; exact hm
            obtain ⟨A4, c4, hs4, r4⟩ := cut_l H4.out.2.1 hml
            obtain ⟨A5, c5, hs5, r5⟩ := cut_r H4.out.2.1 hml
            rw [H1.out.1.1] at hs5 hml
            obtain ⟨p1, k1, v1, p2, k2, v2, p3, k3, v3, rA1, rA2, rA3, bA1, bA3, oA⟩ := three_A (n := m) (m := k - m) (by rw [List.length_take, H1.out.1.1]; omega) (by rw [List.length_drop, H1.out.1.1]) r4 r5 c4 c5 x (by omega)
            obtain ⟨q1, j1, u1, q2, j2, u2, q3, j3, u3, rB1, rB2, rB3, bB1, bB3, oB⟩ := three_B (n := m) (m := k - m) (by rw [List.length_take, H1.out.1.1]; omega) (by rw [List.length_drop, H1.out.1.1]) r4 r5 c4 c5 x (by omega)
            have hR3 := H4.out.1
            have hR4 := hR3.below bA1
            have e0 : w3.cell? ⟨g, o + k * 5, none⟩ = some (.int .i64 x.f0) := hR3.at HX.out.1 (i := 0) rfl
            have e1 : w3.cell? ⟨g, o + k * 5 + 1, none⟩ = some (.int .i64 x.f1) := hR3.at HX.out.1 (i := 1) rfl
            have e2 : w3.cell? ⟨g, o + k * 5 + 2, none⟩ = some (.int .i64 x.f2) := hR3.at HX.out.1 (i := 2) rfl
            have e3 : w3.cell? ⟨g, o + k * 5 + 3, none⟩ = some (.string x.f3) := hR3.at HX.out.1 (i := 3) rfl
            have e4 : w3.cell? ⟨g, o + k * 5 + 4, none⟩ = some (.string x.f4) := hR3.at HX.out.1 (i := 4) rfl
            have f0 : v1.cell? ⟨g, o + k * 5, none⟩ = some (.int .i64 x.f0) := hR4.at HX.out.1 (i := 0) rfl
            have f1 : v1.cell? ⟨g, o + k * 5 + 1, none⟩ = some (.int .i64 x.f1) := hR4.at HX.out.1 (i := 1) rfl
            have f2 : v1.cell? ⟨g, o + k * 5 + 2, none⟩ = some (.int .i64 x.f2) := hR4.at HX.out.1 (i := 2) rfl
            have f3 : v1.cell? ⟨g, o + k * 5 + 3, none⟩ = some (.string x.f3) := hR4.at HX.out.1 (i := 3) rfl
            have f4 : v1.cell? ⟨g, o + k * 5 + 4, none⟩ = some (.string x.f4) := hR4.at HX.out.1 (i := 4) rfl
            have hWs := H4.out.2.2.size
            have HF := Aside0.mk (And.intro (And.intro (H1.out.1.put (List.mem_of_getElem? HX.out.1) hm) (oA.less hWs)) (And.intro (H4.out.2.2.trans (bA3.mono hWs)) (And.intro (oB.less hWs) (H4.out.2.2.trans (bB3.mono hWs)))))
            have HN := Aside0.mk (show m + 1 + (k - m) = k + 1 by omega)
            have hkc : (m : Int) ≤ (c1 : Int) := by omega
            have hkl2 : (m : Int) ≤ (k : Int) := by omega
            clear bA1 bA3 oA bB1 bB3 oB r4 r5 hR3 hR4 hWs
            dsimp only [boxE] at rA2 rB1
            go_region
            all_goals
              go_wp2_with fail
              first
                | exact ⟨⟨k + 1, _, _, _, hlt, by first | exact iw_succ k | exact iv_succ hwk.out, by rw [HN.out], ⟨HF.out.1.1, HF.out.1.2, HF.out.2.1⟩⟩, by first | exact iw_meas hlt | exact iv_meas hwk.out hlt⟩
                | exact ⟨⟨k + 1, _, _, _, hlt, by first | exact iw_succ k | exact iv_succ hwk.out, by rw [HN.out], ⟨HF.out.1.1, HF.out.2.2.1, HF.out.2.2.2⟩⟩, by first | exact iw_meas hlt | exact iv_meas hwk.out hlt⟩
    · have hkl : k = l.length := by omega
      subst hkl
      have hd1 : decide ((l.length : Int) < (l.length : Int)) = false := decide_eq_false (Int.lt_irrefl _)
      go_wp2
      go_ret
      exact ⟨_, _, L, rfl, H1.out⟩
end Go.Proofs.Ytikhjnokfakgiaa.Pk
