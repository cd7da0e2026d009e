-- Printed by a program of this session (wip/drive.py, over the kit's print.py with its own changes). Lean checks it.
import Derived.Test.YtghfkihmiamblaaPAllx0
import Derived.Test.YtghfkihmiamblaaPAllx2
import Derived.Test.YtghfkihmiamblaaPAllx3
import Derived.Test.YtghfkihmiamblaaPAllx7
namespace Go.Proofs.Ytghfkihmiamblaa.PAll
open Go.RowKit Go.Proofs.YtghfkihmiamblaaW.PrintWords Go.Proofs.YtghfkihmiamblaaW.PrintLast Go.Proofs.YtghfkihmiamblaaW.PrintMore
attribute [local go_sem] max2_int min2_int max_two min_two max_three min_three max_four min_four   -- for this text's walks alone
set_option linter.unusedVariables false
set_option linter.unusedSimpArgs false

-- NOT PRINTED: function 4 (cornucopialaw3_SumChanged)

/-! ### cornucopialaw3_SumParts: function 5 -/
def cornucopialaw3_SumParts.j0 : Nat → ByteArray → Int → Int → Bool → Option (Bool)
  | 0, _, _, _, _ => none
  | k + 1, x0, x1, x2, x24 => if x24 = true then ((cornucopialaw3_alive.f k).bind fun t178 => (some t178)) else ((cornucopialaw3_alive.f k).bind fun t179 => (if t179 = true then (if 0 ≤ x1 then (if x1 ≤ (x0.size : Int) then (if x1 ≤ x2 then (if x2 ≤ (x0.size : Int) then (if 0 ≤ x2 then ((sum_Crc.f k (([x0.extract 0 (x1 : Int).toNat, x0.extract (x1 : Int).toNat (x2 : Int).toNat, x0.extract (x2 : Int).toNat x0.size] : List ByteArray))).bind fun t183 => ((sum_Crc.f k (([x0] : List ByteArray))).bind fun t187 => (if t183 = t187 then ((sum_Crc.f k ([] : List ByteArray)).bind fun t188 => ((sum_Crc.f k (([(⟨#[]⟩ : ByteArray), (⟨#[]⟩ : ByteArray)] : List ByteArray))).bind fun t192 => (if t188 = t192 then ((sum_Frame.f k (([x0.extract 0 (x1 : Int).toNat] : List ByteArray))).bind fun t196 => ((sum_Frame.f k (([x0.extract (x1 : Int).toNat x0.size] : List ByteArray))).bind fun t200 => (if t196.size + t200.size ≤ 9223372036854775807 then ((sum_Frame.f k (([x0.extract 0 (x1 : Int).toNat, x0.extract (x1 : Int).toNat x0.size] : List ByteArray))).bind fun t204 => (some ((t196 ++ t200).toList == t204.toList))) else (none)))) else (none)))) else (none)))) else (none)) else (none)) else (none)) else (none)) else (none)) else (none)))
def cornucopialaw3_SumParts.f (k : Nat) (a0 : ByteArray) (a1 : Int) (a2 : Int) : Option (Bool) := if (a0.size : Int) > 3000 then (cornucopialaw3_SumParts.j0 k a0 a1 a2 true) else (if a1 < 0 then (cornucopialaw3_SumParts.j0 k a0 a1 a2 true) else (if a2 < a1 then (cornucopialaw3_SumParts.j0 k a0 a1 a2 true) else (cornucopialaw3_SumParts.j0 k a0 a1 a2 (decide (a2 > (a0.size : Int))))))
theorem cornucopialaw3_SumParts.mono_l : ∀ k, (∀ y0 y1 y2 y3, LeO (cornucopialaw3_SumParts.j0 k y0 y1 y2 y3) (cornucopialaw3_SumParts.j0 (k + 1) y0 y1 y2 y3))
  | 0 => fun _ _ _ _ r h => by simp [cornucopialaw3_SumParts.j0] at h
  | k + 1 => by
    have ih0 := cornucopialaw3_SumParts.mono_l k
    · intro y0 y1 y2 y3
      unfold cornucopialaw3_SumParts.j0
      repeat' first
      | (with_reducible exact ih0 _ _ _ _)
      | (with_reducible exact cornucopialaw3_alive.mono _)
      | (with_reducible exact sum_Crc.mono _ _)
      | (with_reducible exact sum_Frame.mono _ _)
      | (with_reducible exact LeO.refl _)
      | (with_reducible exact LeO.none _)
      | (with_reducible refine LeO.ite ?_ ?_)
      | (with_reducible refine LeO.bind ?_ (fun _ => ?_))
      | exact ih0 _ _ _ _
      | exact cornucopialaw3_alive.mono _
      | exact sum_Crc.mono _ _
      | exact sum_Frame.mono _ _
      | exact LeO.none _
      | refine LeO.ite ?_ ?_
      | refine LeO.bind ?_ (fun _ => ?_)
theorem cornucopialaw3_SumParts.mono : ∀ a0 a1 a2 k, LeO (cornucopialaw3_SumParts.f k a0 a1 a2) (cornucopialaw3_SumParts.f (k + 1) a0 a1 a2) := by
  intro a0 a1 a2 k
  have ih0 := cornucopialaw3_SumParts.mono_l k
  unfold cornucopialaw3_SumParts.f
  repeat' first
      | (with_reducible exact ih0 _ _ _ _)
      | (with_reducible exact cornucopialaw3_alive.mono _)
      | (with_reducible exact sum_Crc.mono _ _)
      | (with_reducible exact sum_Frame.mono _ _)
      | (with_reducible exact LeO.refl _)
      | (with_reducible exact LeO.none _)
      | (with_reducible refine LeO.ite ?_ ?_)
      | (with_reducible refine LeO.bind ?_ (fun _ => ?_))
      | exact ih0 _ _ _ _
      | exact cornucopialaw3_alive.mono _
      | exact sum_Crc.mono _ _
      | exact sum_Frame.mono _ _
      | exact LeO.none _
      | refine LeO.ite ?_ ?_
      | refine LeO.bind ?_ (fun _ => ?_)
def cornucopialaw3_SumParts.T3 : Bool × List (List Nat × List Nat) := (true, [([], []), ([0, 0], [0]), ([1], [1]), ([1], [1]), ([2, 3, 1], [1, 2, 3]), ([1], [1]), ([1], [1]), ([1], [1]), ([5, 6, 7, 1], [1, 5, 6, 7]), ([1], [1]), ([1], [1]), ([9, 10, 1], [1, 9, 10]), ([4, 8, 11, 1], [1, 4, 8, 11]), ([12, 1, 1], [1, 12]), ([1], [1]), ([14, 1], [1, 14]), ([15, 13, 1], [1, 15]), ([13, 16, 1], [1, 13, 16]), ([1, 17], [1, 17]), ([18, 16], [18]), ([19, 19], [19]), ([19], [19]), ([21, 20, 19], [19, 21]), ([20, 22, 19], [19, 20, 22]), ([19, 23], [19, 23]), ([24, 22], [24]), ([25], [25]), ([25], [25]), ([26, 27, 25], [25, 26, 27]), ([28, 25], [25, 28]), ([29, 25, 25], [25, 29]), ([25], [25]), ([25], [25]), ([31, 32, 25], [25, 31, 32]), ([33, 25], [25, 33]), ([34, 30, 25], [25, 34]), ([30, 35, 25], [25, 30, 35]), ([25], [25]), ([25], [25]), ([37, 38, 25], [25, 37, 38]), ([25], [25]), ([25], [25]), ([40, 41, 25], [25, 40, 41]), ([39, 42, 25], [25, 39, 42]), ([43, 35, 25], [25, 43]), ([36, 44, 25], [25, 36, 44]), ([25, 45], [25, 45]), ([46, 44, 0, 1, 2, 3, 4, 5, 6, 7, 8, 9, 10, 11, 12, 13, 14, 15, 16, 17, 18, 19, 20, 21, 22, 23, 24, 25, 26, 27, 28, 29, 30, 31, 32, 33, 34, 35, 36, 37, 38, 39, 40, 41, 42, 43, 44, 45, 46], [46])])
def cornucopialaw3_SumParts.B3 : List Nat := [0, 1, 3, 3, 15, 3, 3, 3, 227, 3, 3, 1539, 4095, 8191, 3, 16387, 65535, 131071, 262143, 524287, 1048575, 1048575, 4194303, 8388607, 16777215, 33554431, 67108863, 67108863, 268435455, 536870911, 1073741823, 67108863, 67108863, 6509559807, 15099494399, 34359738367, 68719476735, 67108863, 67108863, 412383969279, 67108863, 67108863, 3298601992191, 8658721177599, 17523466567679, 35184372088831, 70368744177663, 140737488355327]
theorem cornucopialaw3_SumParts.tab3 : rtab .any (opsOf Try.f5 3) = cornucopialaw3_SumParts.T3 := by kernel_rfl
theorem cornucopialaw3_SumParts.bits3 : waitsOk cornucopialaw3_SumParts.T3.2 cornucopialaw3_SumParts.B3 = true := by kernel_rfl

end Go.Proofs.Ytghfkihmiamblaa.PAll
