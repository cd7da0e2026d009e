-- Printed by a program of this session (wip/drive.py, over the kit's print.py with its own changes). Lean checks it.
import Derived.Test.YtbejofbbmpmnfaaDoorPAllx0
import Derived.Test.YtbejofbbmpmnfaaDoorPAllx1
import Derived.Test.YtbejofbbmpmnfaaDoorPAllx2
namespace Go.Proofs.YtbejofbbmpmnfaaDoor.PAll
open Go.RowKit Go.Proofs.YtbejofbbmpmnfaaDoorW.PrintWords Go.Proofs.YtbejofbbmpmnfaaDoorW.PrintLast Go.Proofs.YtbejofbbmpmnfaaDoorW.PrintMore
attribute [local go_sem] max2_int min2_int max_two min_two max_three min_three max_four min_four   -- for this text's walks alone
set_option linter.unusedVariables false
set_option linter.unusedSimpArgs false

/-! ### okey_Put: function 13 -/
def okey_Put.g (k : Nat) : List S35 → ByteArray → Option (ByteArray × Int)
  | [], acc => some (acc, 0)
  | x :: l, acc =>
    if x.f0 = 1 then (okey_Text.f x.f1).bind fun t => if acc.size + t.size ≤ 140737488355328 then okey_Put.g k l (acc ++ t) else none
    else if x.f0 = 2 then (okey_Num.f k x.f2).bind fun t => if acc.size + t.size ≤ 140737488355328 then okey_Put.g k l (acc ++ t) else none
    else if x.f0 = 3 then (okey_Int.f k x.f3).bind fun t => if acc.size + t.size ≤ 140737488355328 then okey_Put.g k l (acc ++ t) else none
    else some (⟨#[]⟩, 1)
def okey_Put.f (k : Nat) (l0 : List S35) : Option (ByteArray × Int) := okey_Put.g k l0 ⟨#[]⟩
theorem okey_Put.mono_g (k : Nat) : ∀ l acc, LeO (okey_Put.g k l acc) (okey_Put.g (k + 1) l acc)
  | [], _ => LeO.refl _
  | _ :: l, _ => LeO.ite (LeO.bind (LeO.refl _) fun _ => LeO.ite (okey_Put.mono_g k l _) (LeO.none _)) (LeO.ite (LeO.bind (okey_Num.mono _ _) fun _ => LeO.ite (okey_Put.mono_g k l _) (LeO.none _)) (LeO.ite (LeO.bind (okey_Int.mono _ _) fun _ => LeO.ite (okey_Put.mono_g k l _) (LeO.none _)) (LeO.refl _)))
theorem okey_Put.mono : ∀ a0 k, LeO (okey_Put.f k a0) (okey_Put.f (k + 1) a0) := fun l k => okey_Put.mono_g k l _
theorem drop_T (l : List S35) (j : Nat) (h : j < l.length) : l.drop j = rd_T35 l (j : Int) :: l.drop (j + 1) := by
  rw [List.drop_eq_getElem_cons h]
  simp [rd_T35, h]
set_option maxHeartbeats 8000000 in
set_option maxRecDepth 100000 in
theorem okey_Put.calls (k : Nat) (A0 : Option Addr) (c0 : Nat) (l0 : List S35) (r1 : ByteArray) (r2 : Int) (w : World) (hr0 : Kd.C k35 w A0 l0.length l0) (hc0 : l0.length ≤ c0) (h : okey_Put.f k l0 = some (r1, r2)) :
    Calls Tryd.prog 13 #[.slice A0 l0.length c0] w fun e w' => e = .returned (.tuple #[.string r1, .int .i64 r2]) ∧ Below w.heap.size w w' := by
  have HR0 := Aside0.mk hr0
  clear hr0 hc0
  have H' : Aside0 (okey_Put.g k (l0.drop 0) ⟨#[]⟩ = some (r1, r2)) := ⟨h⟩
  clear h
  have HBD := Aside0.mk (IsB.new 49 5 w w.heap.size (Nat.le_refl _))
  have HB := Aside0.mk (below_alloc (Below.refl w.heap.size w) (.cells #[.pointer none, .slice none 0 0] 49))
  go_enter Tryd.func13, Tryd.ntmps13
  go_wp2
  go_loopw [9] (fun v9 wr => ∃ (x9 : Int) (acc : ByteArray), v9 = .int .i64 x9 ∧ Aside0 (0 ≤ x9 ∧ x9 ≤ (l0.length : Int)) ∧ Aside0 (okey_Put.g k (l0.drop x9.toNat) acc = some (r1, r2)) ∧ Aside0 (IsB 49 5 wr w.heap.size w.heap.size acc) ∧ Aside0 (Below w.heap.size w wr)) (fun v9 _ => l0.length - (intOf v9).toNat)
  case atStart => exact ⟨0, ⟨#[]⟩, rfl, ⟨by omega, by omega⟩, H', HBD, HB⟩
  case round =>
    clear H' HBD HB
    obtain ⟨x9, acc, rfl, HX, HF, HBD, HB⟩ := hrel
    by_cases hj : x9 < (l0.length : Int)
    · have hn : l0.length ≤ 9223372036854775807 := HR0.out.2.1
      have hw : Aside0 (wrap64 (x9 + 1) = x9 + 1 ∧ (x9 + 1).toNat = x9.toNat + 1 ∧ 0 ≤ x9 + 1 ∧ x9 + 1 ≤ (l0.length : Int) ∧ x9.toNat < l0.length) := ⟨IntWalk.wrap64_in _ ⟨by have := HX.out; omega, by have := HX.out; omega⟩, by have := HX.out; omega, by have := HX.out; omega, by omega, by have := HX.out; omega⟩
      have HF1 := HF.out
      rw [drop_T l0 x9.toNat (by have := HX.out; omega), Int.toNat_of_nonneg HX.out.1] at HF1
      simp only [okey_Put.g] at HF1
      obtain ⟨ad, e, q0, q1, q2, q3⟩ := at_T35 HR0.out x9 HX.out.1 hj
      cases e
      replace q0 := (HB.out.cell (World.block_lt_of_cell? w _ q0)).trans q0
      replace q1 := (HB.out.cell (World.block_lt_of_cell? w _ q1)).trans q1
      replace q2 := (HB.out.cell (World.block_lt_of_cell? w _ q2)).trans q2
      replace q3 := (HB.out.cell (World.block_lt_of_cell? w _ q3)).trans q3
      obtain ⟨p, hp⟩ : ∃ p, p = rd_T35 l0 x9 := ⟨_, rfl⟩
      rw [← hp] at HF1 q0 q1 q2 q3
      obtain ⟨p0, p1, p2, p3⟩ := p
      simp only [] at HF1 q0 q1 q2 q3
      have hj0 := eq_true HX.out.1
      have hj1 : decide (x9 < (l0.length : Int)) = true := decide_eq_true hj
      have hj2 := eq_true hj
      have HBa := Aside0.mk (below_alloc HB.out (.cells #[.int .i64 p0, .string p1, .int .u64 p2, .int .i64 p3] 35))
      have HBDa := Aside0.mk (HBD.out.alloc (.cells #[.int .i64 p0, .string p1, .int .u64 p2, .int .i64 p3] 35))
      clear hj hn HF hp HB HBD
      by_cases c1 : p0 = 1
      · subst c1
        rw [if_pos rfl] at HF1
        obtain ⟨t, A1, HF2⟩ := Option.bind_eq_some_iff.mp HF1
        by_cases hs : acc.size + t.size ≤ 140737488355328
        · rw [if_pos hs] at HF2
          have HF3 := Aside0.mk HF2
          have A1' := Aside0.mk A1
          have HS := Aside0.mk hs
          clear HF1 HF2 A1 hs
          go_wp2_with fail
          refine (okey_Text.calls _ t _ A1'.out).mono ?_
          rintro e w1 ⟨rfl, hb1⟩
          have HB1 := Aside0.mk (below_step HBa.out hb1)
          have HBD1 := Aside0.mk (HBDa.out.below hb1)
          clear hb1 HBa HBDa
          go_wp2_with fail
          refine (builder_write _ _ _ _ _ HBD1.out HS.out HB1.out.size).mono ?_
          rintro e w4 ⟨rfl, hb4, hbb⟩
          have HB4 := Aside0.mk (HB1.out.trans hbb)
          have HBD4 := Aside0.mk hb4
          clear hbb hb4 HB1 HBD1
          go_wp2_with fail
          go_roundw
          case rel => exact ⟨x9 + 1, _, congrArg (Value.int .i64) hw.out.1, ⟨hw.out.2.2.1, hw.out.2.2.2.1⟩, ⟨by rw [hw.out.2.1]; exact HF3.out⟩, HBD4, HB4⟩
          case measure =>
            rw [hw.out.1]
            simp only [intOf]
            have := hw.out
            omega
        · rw [if_neg hs] at HF2
          cases HF2
      · have b1 : (p0 == 1) = false := beq_eq_false_iff_ne.2 c1
        rw [if_neg c1] at HF1
        by_cases c2 : p0 = 2
        · subst c2
          rw [if_pos rfl] at HF1
          obtain ⟨t, A1, HF2⟩ := Option.bind_eq_some_iff.mp HF1
          by_cases hs : acc.size + t.size ≤ 140737488355328
          · rw [if_pos hs] at HF2
            have HF3 := Aside0.mk HF2
            have A1' := Aside0.mk A1
            have HS := Aside0.mk hs
            clear HF1 HF2 A1 hs
            go_wp2_with fail
            refine (okey_Num.calls k _ t _ A1'.out).mono ?_
            rintro e w1 ⟨rfl, hb1⟩
            have HB1 := Aside0.mk (below_step HBa.out hb1)
            have HBD1 := Aside0.mk (HBDa.out.below hb1)
            clear hb1 HBa HBDa
            go_wp2_with fail
            refine (builder_write _ _ _ _ _ HBD1.out HS.out HB1.out.size).mono ?_
            rintro e w4 ⟨rfl, hb4, hbb⟩
            have HB4 := Aside0.mk (HB1.out.trans hbb)
            have HBD4 := Aside0.mk hb4
            clear hbb hb4 HB1 HBD1
            go_wp2_with fail
            go_roundw
            case rel => exact ⟨x9 + 1, _, congrArg (Value.int .i64) hw.out.1, ⟨hw.out.2.2.1, hw.out.2.2.2.1⟩, ⟨by rw [hw.out.2.1]; exact HF3.out⟩, HBD4, HB4⟩
            case measure =>
              rw [hw.out.1]
              simp only [intOf]
              have := hw.out
              omega
          · rw [if_neg hs] at HF2
            cases HF2
        · have b2 : (p0 == 2) = false := beq_eq_false_iff_ne.2 c2
          rw [if_neg c2] at HF1
          by_cases c3 : p0 = 3
          · subst c3
            rw [if_pos rfl] at HF1
            obtain ⟨t, A1, HF2⟩ := Option.bind_eq_some_iff.mp HF1
            by_cases hs : acc.size + t.size ≤ 140737488355328
            · rw [if_pos hs] at HF2
              have HF3 := Aside0.mk HF2
              have A1' := Aside0.mk A1
              have HS := Aside0.mk hs
              clear HF1 HF2 A1 hs
              go_wp2_with fail
              refine (okey_Int.calls k _ t _ A1'.out).mono ?_
              rintro e w1 ⟨rfl, hb1⟩
              have HB1 := Aside0.mk (below_step HBa.out hb1)
              have HBD1 := Aside0.mk (HBDa.out.below hb1)
              clear hb1 HBa HBDa
              go_wp2_with fail
              refine (builder_write _ _ _ _ _ HBD1.out HS.out HB1.out.size).mono ?_
              rintro e w4 ⟨rfl, hb4, hbb⟩
              have HB4 := Aside0.mk (HB1.out.trans hbb)
              have HBD4 := Aside0.mk hb4
              clear hbb hb4 HB1 HBD1
              go_wp2_with fail
              go_roundw
              case rel => exact ⟨x9 + 1, _, congrArg (Value.int .i64) hw.out.1, ⟨hw.out.2.2.1, hw.out.2.2.2.1⟩, ⟨by rw [hw.out.2.1]; exact HF3.out⟩, HBD4, HB4⟩
              case measure =>
                rw [hw.out.1]
                simp only [intOf]
                have := hw.out
                omega
            · rw [if_neg hs] at HF2
              cases HF2
          · have b3 : (p0 == 3) = false := beq_eq_false_iff_ne.2 c3
            rw [if_neg c3] at HF1
            simp only [Option.some.injEq, Prod.mk.injEq] at HF1
            obtain ⟨rfl, rfl⟩ := HF1
            clear HBDa
            go_wp2_with fail
            go_ret2
            exact ⟨rfl, HBa.out⟩
    · have hj1 : decide (x9 < (l0.length : Int)) = false := decide_eq_false hj
      have hj2 := eq_false hj
      have HE : acc = r1 ∧ 0 = r2 := by
        have h := HF.out
        rw [List.drop_of_length_le (by have := HX.out; omega)] at h
        simpa [okey_Put.g] using h
      obtain ⟨rfl, rfl⟩ := HE
      clear HF
      go_wp2_with fail
      refine (builder_string _ _ _ _ HBD.out HB.out.size).mono ?_
      rintro e w3 ⟨rfl, hb, hbb⟩
      have HB3 := Aside0.mk (HB.out.trans hbb)
      go_wp2_with fail
      go_ret2
      exact ⟨rfl, HB3.out⟩

end Go.Proofs.YtbejofbbmpmnfaaDoor.PAll
