-- Printed by a program of this session (wip/drive.py, over the kit's print.py with its own changes). Lean checks it.
import Derived.Test.YtdigpaniganndaaDoorPAllx0
import Derived.Test.YtdigpaniganndaaDoorPAllx2
import Derived.Test.YtdigpaniganndaaDoorPAllx3
import Derived.Test.YtdigpaniganndaaDoorPAllx6
import Derived.Test.YtdigpaniganndaaDoorPAllx8
import Derived.Test.YtdigpaniganndaaDoorPAllx10
import Derived.Test.YtdigpaniganndaaDoorPAllx11
import Derived.Test.YtdigpaniganndaaDoorPAllx12
import Derived.Test.YtdigpaniganndaaDoorPAllx17
namespace Go.Proofs.YtdigpaniganndaaDoor.PAll
open Go.RowKit Go.Proofs.YtdigpaniganndaaDoorW.PrintWords Go.Proofs.YtdigpaniganndaaDoorW.PrintLast Go.Proofs.YtdigpaniganndaaDoorW.PrintMore
attribute [local go_sem] max2_int min2_int max_two min_two max_three min_three max_four min_four   -- for this text's walks alone
set_option linter.unusedVariables false
set_option linter.unusedSimpArgs false

attribute [local go_sem high] eqA29
/-! ### cornucopialaw21_LayoutBack: function 4 -/
mutual
def cornucopialaw21_LayoutBack.j0 : Nat → Bool → ByteArray → Int → ByteArray → Int → Int → Int → Int → Int → ByteArray → Int → ByteArray → Int → Int → Int → Int → Int → Option (Bool)
  | 0, _, _, _, _, _, _, _, _, _, _, _, _, _, _, _, _, _ => none
  | k + 1, x49, x338000, x338001, x338002, x338003, x338004, x338005, x338006, x338007, x339000, x339001, x339002, x339003, x339004, x339005, x339006, x339007 => if x49 = true then ((cornucopialaw21_alive.f k).bind fun t343 => (some t343)) else ((layout_ElemKey.f k x338000 x338002 x338003 x338004 x338005 x338006 x338007).bind fun t344 => ((layout_ElemKey.f k x339000 x339002 x339003 x339004 x339005 x339006 x339007).bind fun t345 => ((layout_Parse.f k t344).bind fun bt346 => ((layout_Ends.f k x338000).bind fun bt356 => (if ((Op.bytesLess t345.toList bt356.1.toList) = true) then (cornucopialaw21_LayoutBack.j1 k t344 t345 bt346.2.2.2.2.2.2.2.2 bt356.1 bt356.2 false x338000 3 x338002 x338003 x338004 x338005 x338006 x338007 x339000 3 x339002 x339003 x339004 x339005 x339006 x339007 bt346.1 bt346.2.1 bt346.2.2.1 bt346.2.2.2.1 bt346.2.2.2.2.1 bt346.2.2.2.2.2.1 bt346.2.2.2.2.2.2.1 bt346.2.2.2.2.2.2.2.1) else (cornucopialaw21_LayoutBack.j1 k t344 t345 bt346.2.2.2.2.2.2.2.2 bt356.1 bt356.2 (Op.bytesLess t345.toList bt356.2.toList) x338000 3 x338002 x338003 x338004 x338005 x338006 x338007 x339000 3 x339002 x339003 x339004 x339005 x339006 x339007 bt346.1 bt346.2.1 bt346.2.2.1 bt346.2.2.2.1 bt346.2.2.2.2.1 bt346.2.2.2.2.2.1 bt346.2.2.2.2.2.2.1 bt346.2.2.2.2.2.2.2.1))))))
def cornucopialaw21_LayoutBack.j1 : Nat → ByteArray → ByteArray → Int → ByteArray → ByteArray → Bool → ByteArray → Int → ByteArray → Int → Int → Int → Int → Int → ByteArray → Int → ByteArray → Int → Int → Int → Int → Int → ByteArray → Int → ByteArray → Int → Int → Int → Int → Int → Option (Bool)
  | 0, _, _, _, _, _, _, _, _, _, _, _, _, _, _, _, _, _, _, _, _, _, _, _, _, _, _, _, _, _, _ => none
  | k + 1, x5, x6, x8, x9, x10, x11, x338000, x338001, x338002, x338003, x338004, x338005, x338006, x338007, x339000, x339001, x339002, x339003, x339004, x339005, x339006, x339007, x356000, x356001, x356002, x356003, x356004, x356005, x356006, x356007 => if x8 = 0 then (if (!(x356000.toList == x338000.toList) || (!(x356001 == x338001) || (!(x356002.toList == x338002.toList) || (((!(x356003 == x338003) || (!(x356004 == x338004) || (!(x356005 == x338005) || (!(x356006 == x338006))))) || (!(x356007 == x338007))))))) = true then (cornucopialaw21_LayoutBack.j2 k x5 x6 x9 x10 true x338000 x338001 x338002 x338003 x338004 x338005 x338006 x338007 x339000 x339001 x339002 x339003 x339004 x339005 x339006 x339007) else (if (Op.bytesLess x5.toList x9.toList) = true then (cornucopialaw21_LayoutBack.j2 k x5 x6 x9 x10 true x338000 x338001 x338002 x338003 x338004 x338005 x338006 x338007 x339000 x339001 x339002 x339003 x339004 x339005 x339006 x339007) else (if ((Op.bytesLess x5.toList x10.toList) = true) then (if (x11 != (x338000.toList == x339000.toList)) = true then (cornucopialaw21_LayoutBack.j2 k x5 x6 x9 x10 true x338000 x338001 x338002 x338003 x338004 x338005 x338006 x338007 x339000 x339001 x339002 x339003 x339004 x339005 x339006 x339007) else (cornucopialaw21_LayoutBack.j2 k x5 x6 x9 x10 ((x5.toList == x6.toList) != (x338000.toList == x339000.toList && (x338001 == x339001 && (x338002.toList == x339002.toList && (((x338003 == x339003 && (x338004 == x339004 && (x338005 == x339005 && (x338006 == x339006)))) && (x338007 == x339007))))))) x338000 x338001 x338002 x338003 x338004 x338005 x338006 x338007 x339000 x339001 x339002 x339003 x339004 x339005 x339006 x339007)) else (cornucopialaw21_LayoutBack.j2 k x5 x6 x9 x10 true x338000 x338001 x338002 x338003 x338004 x338005 x338006 x338007 x339000 x339001 x339002 x339003 x339004 x339005 x339006 x339007)))) else (cornucopialaw21_LayoutBack.j2 k x5 x6 x9 x10 true x338000 x338001 x338002 x338003 x338004 x338005 x338006 x338007 x339000 x339001 x339002 x339003 x339004 x339005 x339006 x339007)
def cornucopialaw21_LayoutBack.j2 : Nat → ByteArray → ByteArray → ByteArray → ByteArray → Bool → ByteArray → Int → ByteArray → Int → Int → Int → Int → Int → ByteArray → Int → ByteArray → Int → Int → Int → Int → Int → Option (Bool)
  | 0, _, _, _, _, _, _, _, _, _, _, _, _, _, _, _, _, _, _, _, _, _ => none
  | k + 1, x5, x6, x9, x10, x120, x338000, x338001, x338002, x338003, x338004, x338005, x338006, x338007, x339000, x339001, x339002, x339003, x339004, x339005, x339006, x339007 => if x120 = true then (none) else (cornucopialaw21_LayoutBack.l0 k x5 x6 x9 x10 0 x338000 x338001 x338002 x338003 x338004 x338005 x338006 x338007 x339000 x339001 x339002 x339003 x339004 x339005 x339006 x339007)
def cornucopialaw21_LayoutBack.l0 : Nat → ByteArray → ByteArray → ByteArray → ByteArray → Int → ByteArray → Int → ByteArray → Int → Int → Int → Int → Int → ByteArray → Int → ByteArray → Int → Int → Int → Int → Int → Option (Bool)
  | 0, _, _, _, _, _, _, _, _, _, _, _, _, _, _, _, _, _, _, _, _, _ => none
  | k + 1, x5, x6, x9, x10, x12, x338000, x338001, x338002, x338003, x338004, x338005, x338006, x338007, x339000, x339001, x339002, x339003, x339004, x339005, x339006, x339007 => if x12 < 3 then ((layout_Key.f x338000 x12).bind fun t358 => ((layout_Parse.f k t358).bind fun bt359 => (if bt359.2.2.2.2.2.2.2.2 = 0 then (if (!(bt359.1.toList == x338000.toList) || (!(bt359.2.1 == x12) || (!(bt359.2.2.1.toList == ([] : List UInt8)) || (((!(bt359.2.2.2.1 == 0) || (!(bt359.2.2.2.2.1 == 0) || (!(bt359.2.2.2.2.2.1 == 0) || (!(bt359.2.2.2.2.2.2.1 == 0))))) || (!(bt359.2.2.2.2.2.2.2.1 == 0))))))) = true then (none) else (if ((Op.bytesLess t358.toList x9.toList) = true) then (cornucopialaw21_LayoutBack.l0 k x5 x6 x9 x10 (wrap64 (x12 + 1)) x338000 x338001 x338002 x338003 x338004 x338005 x338006 x338007 x339000 x339001 x339002 x339003 x339004 x339005 x339006 x339007) else (if (Op.bytesLess t358.toList x10.toList) = true then (none) else (cornucopialaw21_LayoutBack.l0 k x5 x6 x9 x10 (wrap64 (x12 + 1)) x338000 x338001 x338002 x338003 x338004 x338005 x338006 x338007 x339000 x339001 x339002 x339003 x339004 x339005 x339006 x339007)))) else (none)))) else (if x338000.toList = x339000.toList then ((cornucopialaw21_alive.f k).bind fun t369 => (if t369 = true then (if ((Op.bytesLess x338002.toList x339002.toList) = true) then (if (Op.bytesLess x5.toList x6.toList) = true then (if ((Op.bytesLess x339002.toList x338002.toList) = true) then (some (Op.bytesLess x6.toList x5.toList)) else (some true)) else (none)) else (if ((Op.bytesLess x339002.toList x338002.toList) = true) then (some (Op.bytesLess x6.toList x5.toList)) else (some true))) else (none))) else ((cornucopialaw21_alive.f k).bind fun t370 => (some t370)))
end
def cornucopialaw21_LayoutBack.f (k : Nat) (a0_0 : ByteArray) (a0_1 : Int) (a0_2 : ByteArray) (a0_3 : Int) (a0_4 : Int) (a0_5 : Int) (a0_6 : Int) (a0_7 : Int) (a1_0 : ByteArray) (a1_1 : Int) (a1_2 : ByteArray) (a1_3 : Int) (a1_4 : Int) (a1_5 : Int) (a1_6 : Int) (a1_7 : Int) : Option (Bool) := (layout_ValidName.f a0_0).bind fun t339 => (if t339 = true then ((layout_ValidName.f a1_0).bind fun t340 => (if t340 = true then ((layout_ValidElem.f a0_2).bind fun t341 => (if t341 = true then ((layout_ValidElem.f a1_2).bind fun t342 => (if t342 = true then (if a0_7 = 0 then (cornucopialaw21_LayoutBack.j0 k true a0_0 a0_1 a0_2 a0_3 a0_4 a0_5 a0_6 a0_7 a1_0 a1_1 a1_2 a1_3 a1_4 a1_5 a1_6 a1_7) else (cornucopialaw21_LayoutBack.j0 k (a1_7 == 0) a0_0 a0_1 a0_2 a0_3 a0_4 a0_5 a0_6 a0_7 a1_0 a1_1 a1_2 a1_3 a1_4 a1_5 a1_6 a1_7)) else (cornucopialaw21_LayoutBack.j0 k true a0_0 a0_1 a0_2 a0_3 a0_4 a0_5 a0_6 a0_7 a1_0 a1_1 a1_2 a1_3 a1_4 a1_5 a1_6 a1_7))) else (cornucopialaw21_LayoutBack.j0 k true a0_0 a0_1 a0_2 a0_3 a0_4 a0_5 a0_6 a0_7 a1_0 a1_1 a1_2 a1_3 a1_4 a1_5 a1_6 a1_7))) else (cornucopialaw21_LayoutBack.j0 k true a0_0 a0_1 a0_2 a0_3 a0_4 a0_5 a0_6 a0_7 a1_0 a1_1 a1_2 a1_3 a1_4 a1_5 a1_6 a1_7))) else (cornucopialaw21_LayoutBack.j0 k true a0_0 a0_1 a0_2 a0_3 a0_4 a0_5 a0_6 a0_7 a1_0 a1_1 a1_2 a1_3 a1_4 a1_5 a1_6 a1_7))
theorem cornucopialaw21_LayoutBack.mono_l : ∀ k, (∀ y0 y1 y2 y3 y4 y5 y6 y7 y8 y9 y10 y11 y12 y13 y14 y15 y16, LeO (cornucopialaw21_LayoutBack.j0 k y0 y1 y2 y3 y4 y5 y6 y7 y8 y9 y10 y11 y12 y13 y14 y15 y16) (cornucopialaw21_LayoutBack.j0 (k + 1) y0 y1 y2 y3 y4 y5 y6 y7 y8 y9 y10 y11 y12 y13 y14 y15 y16)) ∧ (∀ y0 y1 y2 y3 y4 y5 y6 y7 y8 y9 y10 y11 y12 y13 y14 y15 y16 y17 y18 y19 y20 y21 y22 y23 y24 y25 y26 y27 y28 y29, LeO (cornucopialaw21_LayoutBack.j1 k y0 y1 y2 y3 y4 y5 y6 y7 y8 y9 y10 y11 y12 y13 y14 y15 y16 y17 y18 y19 y20 y21 y22 y23 y24 y25 y26 y27 y28 y29) (cornucopialaw21_LayoutBack.j1 (k + 1) y0 y1 y2 y3 y4 y5 y6 y7 y8 y9 y10 y11 y12 y13 y14 y15 y16 y17 y18 y19 y20 y21 y22 y23 y24 y25 y26 y27 y28 y29)) ∧ (∀ y0 y1 y2 y3 y4 y5 y6 y7 y8 y9 y10 y11 y12 y13 y14 y15 y16 y17 y18 y19 y20, LeO (cornucopialaw21_LayoutBack.j2 k y0 y1 y2 y3 y4 y5 y6 y7 y8 y9 y10 y11 y12 y13 y14 y15 y16 y17 y18 y19 y20) (cornucopialaw21_LayoutBack.j2 (k + 1) y0 y1 y2 y3 y4 y5 y6 y7 y8 y9 y10 y11 y12 y13 y14 y15 y16 y17 y18 y19 y20)) ∧ (∀ y0 y1 y2 y3 y4 y5 y6 y7 y8 y9 y10 y11 y12 y13 y14 y15 y16 y17 y18 y19 y20, LeO (cornucopialaw21_LayoutBack.l0 k y0 y1 y2 y3 y4 y5 y6 y7 y8 y9 y10 y11 y12 y13 y14 y15 y16 y17 y18 y19 y20) (cornucopialaw21_LayoutBack.l0 (k + 1) y0 y1 y2 y3 y4 y5 y6 y7 y8 y9 y10 y11 y12 y13 y14 y15 y16 y17 y18 y19 y20))
  | 0 => ⟨fun _ _ _ _ _ _ _ _ _ _ _ _ _ _ _ _ _ r h => by simp [cornucopialaw21_LayoutBack.j0] at h, fun _ _ _ _ _ _ _ _ _ _ _ _ _ _ _ _ _ _ _ _ _ _ _ _ _ _ _ _ _ _ r h => by simp [cornucopialaw21_LayoutBack.j1] at h, fun _ _ _ _ _ _ _ _ _ _ _ _ _ _ _ _ _ _ _ _ _ r h => by simp [cornucopialaw21_LayoutBack.j2] at h, fun _ _ _ _ _ _ _ _ _ _ _ _ _ _ _ _ _ _ _ _ _ r h => by simp [cornucopialaw21_LayoutBack.l0] at h⟩
  | k + 1 => by
    obtain ⟨ih0, ih1, ih2, ih3⟩ := cornucopialaw21_LayoutBack.mono_l k
    refine ⟨?_, ?_, ?_, ?_⟩
    · intro y0 y1 y2 y3 y4 y5 y6 y7 y8 y9 y10 y11 y12 y13 y14 y15 y16
      unfold cornucopialaw21_LayoutBack.j0
      repeat' first
      | (with_reducible exact ih0 _ _ _ _ _ _ _ _ _ _ _ _ _ _ _ _ _)
      | (with_reducible exact ih1 _ _ _ _ _ _ _ _ _ _ _ _ _ _ _ _ _ _ _ _ _ _ _ _ _ _ _ _ _ _)
      | (with_reducible exact ih2 _ _ _ _ _ _ _ _ _ _ _ _ _ _ _ _ _ _ _ _ _)
      | (with_reducible exact ih3 _ _ _ _ _ _ _ _ _ _ _ _ _ _ _ _ _ _ _ _ _)
      | (with_reducible exact cornucopialaw21_alive.mono _)
      | (with_reducible exact layout_ElemKey.mono _ _ _ _ _ _ _ _)
      | (with_reducible exact layout_Ends.mono _ _)
      | (with_reducible exact layout_Parse.mono _ _)
      | (with_reducible exact LeO.refl _)
      | (with_reducible exact LeO.none _)
      | (with_reducible refine LeO.ite ?_ ?_)
      | (with_reducible refine LeO.bind ?_ (fun _ => ?_))
      | exact ih0 _ _ _ _ _ _ _ _ _ _ _ _ _ _ _ _ _
      | exact ih1 _ _ _ _ _ _ _ _ _ _ _ _ _ _ _ _ _ _ _ _ _ _ _ _ _ _ _ _ _ _
      | exact ih2 _ _ _ _ _ _ _ _ _ _ _ _ _ _ _ _ _ _ _ _ _
      | exact ih3 _ _ _ _ _ _ _ _ _ _ _ _ _ _ _ _ _ _ _ _ _
      | exact cornucopialaw21_alive.mono _
      | exact layout_ElemKey.mono _ _ _ _ _ _ _ _
      | exact layout_Ends.mono _ _
      | exact layout_Parse.mono _ _
      | exact LeO.none _
      | refine LeO.ite ?_ ?_
      | refine LeO.bind ?_ (fun _ => ?_)
    · intro y0 y1 y2 y3 y4 y5 y6 y7 y8 y9 y10 y11 y12 y13 y14 y15 y16 y17 y18 y19 y20 y21 y22 y23 y24 y25 y26 y27 y28 y29
      unfold cornucopialaw21_LayoutBack.j1
      repeat' first
      | (with_reducible exact ih0 _ _ _ _ _ _ _ _ _ _ _ _ _ _ _ _ _)
      | (with_reducible exact ih1 _ _ _ _ _ _ _ _ _ _ _ _ _ _ _ _ _ _ _ _ _ _ _ _ _ _ _ _ _ _)
      | (with_reducible exact ih2 _ _ _ _ _ _ _ _ _ _ _ _ _ _ _ _ _ _ _ _ _)
      | (with_reducible exact ih3 _ _ _ _ _ _ _ _ _ _ _ _ _ _ _ _ _ _ _ _ _)
      | (with_reducible exact cornucopialaw21_alive.mono _)
      | (with_reducible exact layout_ElemKey.mono _ _ _ _ _ _ _ _)
      | (with_reducible exact layout_Ends.mono _ _)
      | (with_reducible exact layout_Parse.mono _ _)
      | (with_reducible exact LeO.refl _)
      | (with_reducible exact LeO.none _)
      | (with_reducible refine LeO.ite ?_ ?_)
      | (with_reducible refine LeO.bind ?_ (fun _ => ?_))
      | exact ih0 _ _ _ _ _ _ _ _ _ _ _ _ _ _ _ _ _
      | exact ih1 _ _ _ _ _ _ _ _ _ _ _ _ _ _ _ _ _ _ _ _ _ _ _ _ _ _ _ _ _ _
      | exact ih2 _ _ _ _ _ _ _ _ _ _ _ _ _ _ _ _ _ _ _ _ _
      | exact ih3 _ _ _ _ _ _ _ _ _ _ _ _ _ _ _ _ _ _ _ _ _
      | exact cornucopialaw21_alive.mono _
      | exact layout_ElemKey.mono _ _ _ _ _ _ _ _
      | exact layout_Ends.mono _ _
      | exact layout_Parse.mono _ _
      | exact LeO.none _
      | refine LeO.ite ?_ ?_
      | refine LeO.bind ?_ (fun _ => ?_)
    · intro y0 y1 y2 y3 y4 y5 y6 y7 y8 y9 y10 y11 y12 y13 y14 y15 y16 y17 y18 y19 y20
      unfold cornucopialaw21_LayoutBack.j2
      repeat' first
      | (with_reducible exact ih0 _ _ _ _ _ _ _ _ _ _ _ _ _ _ _ _ _)
      | (with_reducible exact ih1 _ _ _ _ _ _ _ _ _ _ _ _ _ _ _ _ _ _ _ _ _ _ _ _ _ _ _ _ _ _)
      | (with_reducible exact ih2 _ _ _ _ _ _ _ _ _ _ _ _ _ _ _ _ _ _ _ _ _)
      | (with_reducible exact ih3 _ _ _ _ _ _ _ _ _ _ _ _ _ _ _ _ _ _ _ _ _)
      | (with_reducible exact cornucopialaw21_alive.mono _)
      | (with_reducible exact layout_ElemKey.mono _ _ _ _ _ _ _ _)
      | (with_reducible exact layout_Ends.mono _ _)
      | (with_reducible exact layout_Parse.mono _ _)
      | (with_reducible exact LeO.refl _)
      | (with_reducible exact LeO.none _)
      | (with_reducible refine LeO.ite ?_ ?_)
      | (with_reducible refine LeO.bind ?_ (fun _ => ?_))
      | exact ih0 _ _ _ _ _ _ _ _ _ _ _ _ _ _ _ _ _
      | exact ih1 _ _ _ _ _ _ _ _ _ _ _ _ _ _ _ _ _ _ _ _ _ _ _ _ _ _ _ _ _ _
      | exact ih2 _ _ _ _ _ _ _ _ _ _ _ _ _ _ _ _ _ _ _ _ _
      | exact ih3 _ _ _ _ _ _ _ _ _ _ _ _ _ _ _ _ _ _ _ _ _
      | exact cornucopialaw21_alive.mono _
      | exact layout_ElemKey.mono _ _ _ _ _ _ _ _
      | exact layout_Ends.mono _ _
      | exact layout_Parse.mono _ _
      | exact LeO.none _
      | refine LeO.ite ?_ ?_
      | refine LeO.bind ?_ (fun _ => ?_)
    · intro y0 y1 y2 y3 y4 y5 y6 y7 y8 y9 y10 y11 y12 y13 y14 y15 y16 y17 y18 y19 y20
      unfold cornucopialaw21_LayoutBack.l0
      repeat' first
      | (with_reducible exact ih0 _ _ _ _ _ _ _ _ _ _ _ _ _ _ _ _ _)
      | (with_reducible exact ih1 _ _ _ _ _ _ _ _ _ _ _ _ _ _ _ _ _ _ _ _ _ _ _ _ _ _ _ _ _ _)
      | (with_reducible exact ih2 _ _ _ _ _ _ _ _ _ _ _ _ _ _ _ _ _ _ _ _ _)
      | (with_reducible exact ih3 _ _ _ _ _ _ _ _ _ _ _ _ _ _ _ _ _ _ _ _ _)
      | (with_reducible exact cornucopialaw21_alive.mono _)
      | (with_reducible exact layout_ElemKey.mono _ _ _ _ _ _ _ _)
      | (with_reducible exact layout_Ends.mono _ _)
      | (with_reducible exact layout_Parse.mono _ _)
      | (with_reducible exact LeO.refl _)
      | (with_reducible exact LeO.none _)
      | (with_reducible refine LeO.ite ?_ ?_)
      | (with_reducible refine LeO.bind ?_ (fun _ => ?_))
      | exact ih0 _ _ _ _ _ _ _ _ _ _ _ _ _ _ _ _ _
      | exact ih1 _ _ _ _ _ _ _ _ _ _ _ _ _ _ _ _ _ _ _ _ _ _ _ _ _ _ _ _ _ _
      | exact ih2 _ _ _ _ _ _ _ _ _ _ _ _ _ _ _ _ _ _ _ _ _
      | exact ih3 _ _ _ _ _ _ _ _ _ _ _ _ _ _ _ _ _ _ _ _ _
      | exact cornucopialaw21_alive.mono _
      | exact layout_ElemKey.mono _ _ _ _ _ _ _ _
      | exact layout_Ends.mono _ _
      | exact layout_Parse.mono _ _
      | exact LeO.none _
      | refine LeO.ite ?_ ?_
      | refine LeO.bind ?_ (fun _ => ?_)
theorem cornucopialaw21_LayoutBack.mono : ∀ a0 a1 a2 a3 a4 a5 a6 a7 a8 a9 a10 a11 a12 a13 a14 a15 k, LeO (cornucopialaw21_LayoutBack.f k a0 a1 a2 a3 a4 a5 a6 a7 a8 a9 a10 a11 a12 a13 a14 a15) (cornucopialaw21_LayoutBack.f (k + 1) a0 a1 a2 a3 a4 a5 a6 a7 a8 a9 a10 a11 a12 a13 a14 a15) := by
  intro a0 a1 a2 a3 a4 a5 a6 a7 a8 a9 a10 a11 a12 a13 a14 a15 k
  obtain ⟨ih0, ih1, ih2, ih3⟩ := cornucopialaw21_LayoutBack.mono_l k
  unfold cornucopialaw21_LayoutBack.f
  repeat' first
      | (with_reducible exact ih0 _ _ _ _ _ _ _ _ _ _ _ _ _ _ _ _ _)
      | (with_reducible exact ih1 _ _ _ _ _ _ _ _ _ _ _ _ _ _ _ _ _ _ _ _ _ _ _ _ _ _ _ _ _ _)
      | (with_reducible exact ih2 _ _ _ _ _ _ _ _ _ _ _ _ _ _ _ _ _ _ _ _ _)
      | (with_reducible exact ih3 _ _ _ _ _ _ _ _ _ _ _ _ _ _ _ _ _ _ _ _ _)
      | (with_reducible exact cornucopialaw21_alive.mono _)
      | (with_reducible exact layout_ElemKey.mono _ _ _ _ _ _ _ _)
      | (with_reducible exact layout_Ends.mono _ _)
      | (with_reducible exact layout_Parse.mono _ _)
      | (with_reducible exact LeO.refl _)
      | (with_reducible exact LeO.none _)
      | (with_reducible refine LeO.ite ?_ ?_)
      | (with_reducible refine LeO.bind ?_ (fun _ => ?_))
      | exact ih0 _ _ _ _ _ _ _ _ _ _ _ _ _ _ _ _ _
      | exact ih1 _ _ _ _ _ _ _ _ _ _ _ _ _ _ _ _ _ _ _ _ _ _ _ _ _ _ _ _ _ _
      | exact ih2 _ _ _ _ _ _ _ _ _ _ _ _ _ _ _ _ _ _ _ _ _
      | exact ih3 _ _ _ _ _ _ _ _ _ _ _ _ _ _ _ _ _ _ _ _ _
      | exact cornucopialaw21_alive.mono _
      | exact layout_ElemKey.mono _ _ _ _ _ _ _ _
      | exact layout_Ends.mono _ _
      | exact layout_Parse.mono _ _
      | exact LeO.none _
      | refine LeO.ite ?_ ?_
      | refine LeO.bind ?_ (fun _ => ?_)
def cornucopialaw21_LayoutBack.T4 : Bool × List (List Nat × List Nat) := (true, [([], []), ([0], [0]), ([], []), ([2], [2]), ([], []), ([4], [4]), ([1, 3, 5], [1, 3, 5]), ([], []), ([7], [7]), ([], []), ([9], [9]), ([], []), ([11], [11]), ([8, 10, 12, 6], [8, 10, 12]), ([6, 13, 0, 1, 2, 3, 4, 5, 6], [6]), ([13, 14, 0, 1, 2, 3, 4, 5, 6, 7, 8, 9, 10, 11, 12, 13, 14], [13])])
def cornucopialaw21_LayoutBack.B4 : List Nat := [0, 1, 0, 4, 0, 16, 63, 0, 128, 0, 512, 0, 2048, 8191, 16383, 32767]
theorem cornucopialaw21_LayoutBack.tab4 : rtab .any (opsOf Tryd.f4 4) = cornucopialaw21_LayoutBack.T4 := by kernel_rfl
theorem cornucopialaw21_LayoutBack.bits4 : waitsOk cornucopialaw21_LayoutBack.T4.2 cornucopialaw21_LayoutBack.B4 = true := by kernel_rfl
theorem bl_trich : ∀ a b : List UInt8, (Op.bytesLess a b || a == b) = !Op.bytesLess b a
  | [], [] => rfl
  | [], _ :: _ => rfl
  | _ :: _, [] => rfl
  | x :: a, y :: b => by
    have ih := bl_trich a b
    unfold Op.bytesLess
    by_cases h : x = y
    · subst h
      have := UInt8.lt_irrefl x
      simpa using ih
    · have h2 : ¬ y = x := fun e => h e.symm
      by_cases h3 : x < y
      · have h4 : ¬ y < x := UInt8.lt_asymm h3
        simp [h, h2, h3, h4]
      · have h4 : y < x := by
          have h5 : ¬ x.toNat < y.toNat := fun e => h3 (UInt8.lt_iff_toNat_lt.2 e)
          have h6 : ¬ x.toNat = y.toNat := fun e => h (UInt8.toNat_inj.1 e)
          exact UInt8.lt_iff_toNat_lt.2 (by omega)
        simp [h, h2, h3, h4]
theorem leq_n (t : TypeId) (a b : ByteArray) : binOp .leq t (.string a) (.string b) = pure (.bool !(Op.bytesLess b.toList a.toList)) := by rw [binOp_string_leq, bl_trich]
theorem gtr_n (t : TypeId) (a b : ByteArray) : binOp .gtr t (.string a) (.string b) = pure (.bool (Op.bytesLess b.toList a.toList)) := by rw [binOp_string_gtr, bl_trich, Bool.not_not]
attribute [-go_sem] binOp_string_leq binOp_string_gtr
attribute [local go_sem] leq_n gtr_n

set_option maxHeartbeats 40000000 in
set_option maxRecDepth 100000 in
theorem cornucopialaw21_LayoutBack.calls (k : Nat) (a0_0 : ByteArray) (a0_1 : Int) (a0_2 : ByteArray) (a0_3 : Int) (a0_4 : Int) (a0_5 : Int) (a0_6 : Int) (a0_7 : Int) (a1_0 : ByteArray) (a1_1 : Int) (a1_2 : ByteArray) (a1_3 : Int) (a1_4 : Int) (a1_5 : Int) (a1_6 : Int) (a1_7 : Int) (r : Bool) (w : World) (h : cornucopialaw21_LayoutBack.f k a0_0 a0_1 a0_2 a0_3 a0_4 a0_5 a0_6 a0_7 a1_0 a1_1 a1_2 a1_3 a1_4 a1_5 a1_6 a1_7 = some r) :
    Calls Tryd.prog 4 #[.agg #[.string a0_0, .int .i64 a0_1, .string a0_2, .int .u8 a0_3, .int .u8 a0_4, .int .u8 a0_5, .int .u8 a0_6, .int .u64 a0_7], .agg #[.string a1_0, .int .i64 a1_1, .string a1_2, .int .u8 a1_3, .int .u8 a1_4, .int .u8 a1_5, .int .u8 a1_6, .int .u64 a1_7]] w fun e w' => e = .returned (.bool r) ∧ Below w.heap.size w w' := by
  have hu29 := Tryd.underlying29
  have hu26 := Tryd.underlying26
  have HB := Aside0.mk (Below.refl w.heap.size w)
  have H : ((layout_ValidName.f a0_0).bind fun t339 => (if t339 = true then ((layout_ValidName.f a1_0).bind fun t340 => (if t340 = true then ((layout_ValidElem.f a0_2).bind fun t341 => (if t341 = true then ((layout_ValidElem.f a1_2).bind fun t342 => (if t342 = true then (if a0_7 = 0 then (cornucopialaw21_LayoutBack.j0 k true a0_0 a0_1 a0_2 a0_3 a0_4 a0_5 a0_6 a0_7 a1_0 a1_1 a1_2 a1_3 a1_4 a1_5 a1_6 a1_7) else (cornucopialaw21_LayoutBack.j0 k (a1_7 == 0) a0_0 a0_1 a0_2 a0_3 a0_4 a0_5 a0_6 a0_7 a1_0 a1_1 a1_2 a1_3 a1_4 a1_5 a1_6 a1_7)) else (cornucopialaw21_LayoutBack.j0 k true a0_0 a0_1 a0_2 a0_3 a0_4 a0_5 a0_6 a0_7 a1_0 a1_1 a1_2 a1_3 a1_4 a1_5 a1_6 a1_7))) else (cornucopialaw21_LayoutBack.j0 k true a0_0 a0_1 a0_2 a0_3 a0_4 a0_5 a0_6 a0_7 a1_0 a1_1 a1_2 a1_3 a1_4 a1_5 a1_6 a1_7))) else (cornucopialaw21_LayoutBack.j0 k true a0_0 a0_1 a0_2 a0_3 a0_4 a0_5 a0_6 a0_7 a1_0 a1_1 a1_2 a1_3 a1_4 a1_5 a1_6 a1_7))) else (cornucopialaw21_LayoutBack.j0 k true a0_0 a0_1 a0_2 a0_3 a0_4 a0_5 a0_6 a0_7 a1_0 a1_1 a1_2 a1_3 a1_4 a1_5 a1_6 a1_7))) = some r := h
  clear h
  have HC3 := Aside0.mk H
  clear H
  go_enter Tryd.func4, Tryd.ntmps4
  go_upto_region 1 with (first | ((with_reducible refine gate_dst (N := 2) rfl ?_); refine box_event ?hg (N := 2) ?hd (cs := #[.string a0_0, .int .i64 a0_1, .string a0_2, .int .u8 a0_3, .int .u8 a0_4, .int .u8 a0_5, .int .u8 a0_6, .int .u64 a0_7]) (t := 29) ?hr ?_; (case hd => rfl); (case hg => rfl); (case hr => first | (go_simp; done) | (go_simp; rfl)); intro gb337 hg w4 hbox hb; have n0_ := Aside0.mk (below_step (by repeat (first | (with_reducible first | exact HB.out | apply below_alloc | apply pw_below_drewN | apply below_drew1) | exact HB.out)) hb); have n1_ := Aside0.mk (hbox); have n2_ := Aside0.mk ((by rw [hg]; exact (below_size (by repeat (first | (with_reducible first | exact HB.out | apply below_alloc | apply pw_below_drewN | apply below_drew1) | exact HB.out))) : w.heap.size ≤ gb337)); have n3_ := Aside0.mk ((by rw [hg]; exact (below_size (by repeat (first | (with_reducible first | exact HB.out | apply below_alloc | apply pw_below_drewN | apply below_drew1) | exact HB.out))) : w.heap.size ≤ gb337)); clear HB; have HB := n0_; have BK337 := n1_; have GW337 := n2_; have GE337 := n3_; clear n0_ n1_ n2_ n3_; clear hb hbox hg) | ((with_reducible refine gate_dst (N := 3) rfl ?_); refine box_event ?hg (N := 3) ?hd (cs := #[.string a1_0, .int .i64 a1_1, .string a1_2, .int .u8 a1_3, .int .u8 a1_4, .int .u8 a1_5, .int .u8 a1_6, .int .u64 a1_7]) (t := 29) ?hr ?_; (case hd => rfl); (case hg => rfl); (case hr => first | (go_simp; done) | (go_simp; rfl)); intro gb338 hg w5 hbox hb; have n0_ := Aside0.mk (blk_below (g := gb337) (o := .cells #[.string a0_0, .int .i64 a0_1, .string a0_2, .int .u8 a0_3, .int .u8 a0_4, .int .u8 a0_5, .int .u8 a0_6, .int .u64 a0_7] 29 (0, 0)) (by (with_reducible repeat (first | refine blk_drewN ?_ _ | refine blk_drew ?_ | refine blk_alloc ?_ _)); exact BK337.out) hb); have n1_ := Aside0.mk (below_step (by repeat (first | (with_reducible first | exact HB.out | apply below_alloc | apply pw_below_drewN | apply below_drew1 | refine below_set ?_ GE337.out) | exact HB.out)) hb); have n2_ := Aside0.mk (hbox); have n3_ := Aside0.mk ((by rw [hg]; exact (below_size (by repeat (first | (with_reducible first | exact HB.out | apply below_alloc | apply pw_below_drewN | apply below_drew1 | refine below_set ?_ GE337.out) | exact HB.out))) : w.heap.size ≤ gb338)); have n4_ := Aside0.mk ((by rw [hg]; exact (below_size (by repeat (first | (with_reducible first | exact HB.out | apply below_alloc | apply pw_below_drewN | apply below_drew1 | refine below_set ?_ GE337.out) | exact HB.out))) : w.heap.size ≤ gb338)); have n5_ := Aside0.mk ((by rw [hg]; exact Nat.ne_of_lt (blk_lt (g := gb337) (o := .cells #[.string a0_0, .int .i64 a0_1, .string a0_2, .int .u8 a0_3, .int .u8 a0_4, .int .u8 a0_5, .int .u8 a0_6, .int .u64 a0_7] 29 (0, 0)) (by (with_reducible repeat (first | refine blk_drewN ?_ _ | refine blk_drew ?_ | refine blk_alloc ?_ _)); exact BK337.out)) : gb337 ≠ gb338)); have n6_ := Aside0.mk ((by rw [hg]; exact Nat.ne_of_gt (blk_lt (g := gb337) (o := .cells #[.string a0_0, .int .i64 a0_1, .string a0_2, .int .u8 a0_3, .int .u8 a0_4, .int .u8 a0_5, .int .u8 a0_6, .int .u64 a0_7] 29 (0, 0)) (by (with_reducible repeat (first | refine blk_drewN ?_ _ | refine blk_drew ?_ | refine blk_alloc ?_ _)); exact BK337.out)) : gb338 ≠ gb337)); clear BK337; clear HB; have BK337 := n0_; have HB := n1_; have BK338 := n2_; have GW338 := n3_; have GE338 := n4_; have NB337_338 := n5_; have NB338_337 := n6_; clear n0_ n1_ n2_ n3_ n4_ n5_ n6_; clear hb hbox hg))
  (try simp only [Act.put, List.setIfInBounds_toArray, List.set_cons_zero, List.set_cons_succ])
  go_cut [49] (fun v49 wc => ∃ (kq : Nat) (x49_2 : Bool), v49 = .bool x49_2 ∧ Aside0 (cornucopialaw21_LayoutBack.j0 kq x49_2 a0_0 a0_1 a0_2 a0_3 a0_4 a0_5 a0_6 a0_7 a1_0 a1_1 a1_2 a1_3 a1_4 a1_5 a1_6 a1_7 = some r) ∧ Aside0 (kq ≤ k) ∧ Aside0 (wc.heap[gb337]? = some (.cells #[.string a0_0, .int .i64 a0_1, .string a0_2, .int .u8 a0_3, .int .u8 a0_4, .int .u8 a0_5, .int .u8 a0_6, .int .u64 a0_7] 29 (0, 0))) ∧ Aside0 (wc.heap[gb338]? = some (.cells #[.string a1_0, .int .i64 a1_1, .string a1_2, .int .u8 a1_3, .int .u8 a1_4, .int .u8 a1_5, .int .u8 a1_6, .int .u64 a1_7] 29 (0, 0))) ∧ Aside0 (Below w.heap.size w wc))
  case first =>
    have H := HC3.out
    clear HC3
    replace H := Option.bind_eq_some_iff.mp H
    obtain ⟨t339, A60, H⟩ := H
    replace H : (if t339 = true then ((layout_ValidName.f a1_0).bind fun t340 => (if t340 = true then ((layout_ValidElem.f a0_2).bind fun t341 => (if t341 = true then ((layout_ValidElem.f a1_2).bind fun t342 => (if t342 = true then (if a0_7 = 0 then (cornucopialaw21_LayoutBack.j0 k true a0_0 a0_1 a0_2 a0_3 a0_4 a0_5 a0_6 a0_7 a1_0 a1_1 a1_2 a1_3 a1_4 a1_5 a1_6 a1_7) else (cornucopialaw21_LayoutBack.j0 k (a1_7 == 0) a0_0 a0_1 a0_2 a0_3 a0_4 a0_5 a0_6 a0_7 a1_0 a1_1 a1_2 a1_3 a1_4 a1_5 a1_6 a1_7)) else (cornucopialaw21_LayoutBack.j0 k true a0_0 a0_1 a0_2 a0_3 a0_4 a0_5 a0_6 a0_7 a1_0 a1_1 a1_2 a1_3 a1_4 a1_5 a1_6 a1_7))) else (cornucopialaw21_LayoutBack.j0 k true a0_0 a0_1 a0_2 a0_3 a0_4 a0_5 a0_6 a0_7 a1_0 a1_1 a1_2 a1_3 a1_4 a1_5 a1_6 a1_7))) else (cornucopialaw21_LayoutBack.j0 k true a0_0 a0_1 a0_2 a0_3 a0_4 a0_5 a0_6 a0_7 a1_0 a1_1 a1_2 a1_3 a1_4 a1_5 a1_6 a1_7))) else (cornucopialaw21_LayoutBack.j0 k true a0_0 a0_1 a0_2 a0_3 a0_4 a0_5 a0_6 a0_7 a1_0 a1_1 a1_2 a1_3 a1_4 a1_5 a1_6 a1_7)) = some r := H
    have A6 := Aside0.mk A60
    clear A60
    by_cases c7 : t339 = true
    · subst c7
      have H1 : ((layout_ValidName.f a1_0).bind fun t340 => (if t340 = true then ((layout_ValidElem.f a0_2).bind fun t341 => (if t341 = true then ((layout_ValidElem.f a1_2).bind fun t342 => (if t342 = true then (if a0_7 = 0 then (cornucopialaw21_LayoutBack.j0 k true a0_0 a0_1 a0_2 a0_3 a0_4 a0_5 a0_6 a0_7 a1_0 a1_1 a1_2 a1_3 a1_4 a1_5 a1_6 a1_7) else (cornucopialaw21_LayoutBack.j0 k (a1_7 == 0) a0_0 a0_1 a0_2 a0_3 a0_4 a0_5 a0_6 a0_7 a1_0 a1_1 a1_2 a1_3 a1_4 a1_5 a1_6 a1_7)) else (cornucopialaw21_LayoutBack.j0 k true a0_0 a0_1 a0_2 a0_3 a0_4 a0_5 a0_6 a0_7 a1_0 a1_1 a1_2 a1_3 a1_4 a1_5 a1_6 a1_7))) else (cornucopialaw21_LayoutBack.j0 k true a0_0 a0_1 a0_2 a0_3 a0_4 a0_5 a0_6 a0_7 a1_0 a1_1 a1_2 a1_3 a1_4 a1_5 a1_6 a1_7))) else (cornucopialaw21_LayoutBack.j0 k true a0_0 a0_1 a0_2 a0_3 a0_4 a0_5 a0_6 a0_7 a1_0 a1_1 a1_2 a1_3 a1_4 a1_5 a1_6 a1_7))) = some r := by rw [if_pos rfl] at H; exact H
      clear H
      have H := H1
      clear H1
      replace H := Option.bind_eq_some_iff.mp H
      obtain ⟨t340, A80, H⟩ := H
      replace H : (if t340 = true then ((layout_ValidElem.f a0_2).bind fun t341 => (if t341 = true then ((layout_ValidElem.f a1_2).bind fun t342 => (if t342 = true then (if a0_7 = 0 then (cornucopialaw21_LayoutBack.j0 k true a0_0 a0_1 a0_2 a0_3 a0_4 a0_5 a0_6 a0_7 a1_0 a1_1 a1_2 a1_3 a1_4 a1_5 a1_6 a1_7) else (cornucopialaw21_LayoutBack.j0 k (a1_7 == 0) a0_0 a0_1 a0_2 a0_3 a0_4 a0_5 a0_6 a0_7 a1_0 a1_1 a1_2 a1_3 a1_4 a1_5 a1_6 a1_7)) else (cornucopialaw21_LayoutBack.j0 k true a0_0 a0_1 a0_2 a0_3 a0_4 a0_5 a0_6 a0_7 a1_0 a1_1 a1_2 a1_3 a1_4 a1_5 a1_6 a1_7))) else (cornucopialaw21_LayoutBack.j0 k true a0_0 a0_1 a0_2 a0_3 a0_4 a0_5 a0_6 a0_7 a1_0 a1_1 a1_2 a1_3 a1_4 a1_5 a1_6 a1_7))) else (cornucopialaw21_LayoutBack.j0 k true a0_0 a0_1 a0_2 a0_3 a0_4 a0_5 a0_6 a0_7 a1_0 a1_1 a1_2 a1_3 a1_4 a1_5 a1_6 a1_7)) = some r := H
      have A8 := Aside0.mk A80
      clear A80
      by_cases c9 : t340 = true
      · subst c9
        have H1 : ((layout_ValidElem.f a0_2).bind fun t341 => (if t341 = true then ((layout_ValidElem.f a1_2).bind fun t342 => (if t342 = true then (if a0_7 = 0 then (cornucopialaw21_LayoutBack.j0 k true a0_0 a0_1 a0_2 a0_3 a0_4 a0_5 a0_6 a0_7 a1_0 a1_1 a1_2 a1_3 a1_4 a1_5 a1_6 a1_7) else (cornucopialaw21_LayoutBack.j0 k (a1_7 == 0) a0_0 a0_1 a0_2 a0_3 a0_4 a0_5 a0_6 a0_7 a1_0 a1_1 a1_2 a1_3 a1_4 a1_5 a1_6 a1_7)) else (cornucopialaw21_LayoutBack.j0 k true a0_0 a0_1 a0_2 a0_3 a0_4 a0_5 a0_6 a0_7 a1_0 a1_1 a1_2 a1_3 a1_4 a1_5 a1_6 a1_7))) else (cornucopialaw21_LayoutBack.j0 k true a0_0 a0_1 a0_2 a0_3 a0_4 a0_5 a0_6 a0_7 a1_0 a1_1 a1_2 a1_3 a1_4 a1_5 a1_6 a1_7))) = some r := by rw [if_pos rfl] at H; exact H
        clear H
        have H := H1
        clear H1
        replace H := Option.bind_eq_some_iff.mp H
        obtain ⟨t341, A100, H⟩ := H
        replace H : (if t341 = true then ((layout_ValidElem.f a1_2).bind fun t342 => (if t342 = true then (if a0_7 = 0 then (cornucopialaw21_LayoutBack.j0 k true a0_0 a0_1 a0_2 a0_3 a0_4 a0_5 a0_6 a0_7 a1_0 a1_1 a1_2 a1_3 a1_4 a1_5 a1_6 a1_7) else (cornucopialaw21_LayoutBack.j0 k (a1_7 == 0) a0_0 a0_1 a0_2 a0_3 a0_4 a0_5 a0_6 a0_7 a1_0 a1_1 a1_2 a1_3 a1_4 a1_5 a1_6 a1_7)) else (cornucopialaw21_LayoutBack.j0 k true a0_0 a0_1 a0_2 a0_3 a0_4 a0_5 a0_6 a0_7 a1_0 a1_1 a1_2 a1_3 a1_4 a1_5 a1_6 a1_7))) else (cornucopialaw21_LayoutBack.j0 k true a0_0 a0_1 a0_2 a0_3 a0_4 a0_5 a0_6 a0_7 a1_0 a1_1 a1_2 a1_3 a1_4 a1_5 a1_6 a1_7)) = some r := H
        have A10 := Aside0.mk A100
        clear A100
        by_cases c11 : t341 = true
        · subst c11
          have H1 : ((layout_ValidElem.f a1_2).bind fun t342 => (if t342 = true then (if a0_7 = 0 then (cornucopialaw21_LayoutBack.j0 k true a0_0 a0_1 a0_2 a0_3 a0_4 a0_5 a0_6 a0_7 a1_0 a1_1 a1_2 a1_3 a1_4 a1_5 a1_6 a1_7) else (cornucopialaw21_LayoutBack.j0 k (a1_7 == 0) a0_0 a0_1 a0_2 a0_3 a0_4 a0_5 a0_6 a0_7 a1_0 a1_1 a1_2 a1_3 a1_4 a1_5 a1_6 a1_7)) else (cornucopialaw21_LayoutBack.j0 k true a0_0 a0_1 a0_2 a0_3 a0_4 a0_5 a0_6 a0_7 a1_0 a1_1 a1_2 a1_3 a1_4 a1_5 a1_6 a1_7))) = some r := by rw [if_pos rfl] at H; exact H
          clear H
          have H := H1
          clear H1
          replace H := Option.bind_eq_some_iff.mp H
          obtain ⟨t342, A120, H⟩ := H
          replace H : (if t342 = true then (if a0_7 = 0 then (cornucopialaw21_LayoutBack.j0 k true a0_0 a0_1 a0_2 a0_3 a0_4 a0_5 a0_6 a0_7 a1_0 a1_1 a1_2 a1_3 a1_4 a1_5 a1_6 a1_7) else (cornucopialaw21_LayoutBack.j0 k (a1_7 == 0) a0_0 a0_1 a0_2 a0_3 a0_4 a0_5 a0_6 a0_7 a1_0 a1_1 a1_2 a1_3 a1_4 a1_5 a1_6 a1_7)) else (cornucopialaw21_LayoutBack.j0 k true a0_0 a0_1 a0_2 a0_3 a0_4 a0_5 a0_6 a0_7 a1_0 a1_1 a1_2 a1_3 a1_4 a1_5 a1_6 a1_7)) = some r := H
          have A12 := Aside0.mk A120
          clear A120
          by_cases c13 : t342 = true
          · subst c13
            have H1 : (if a0_7 = 0 then (cornucopialaw21_LayoutBack.j0 k true a0_0 a0_1 a0_2 a0_3 a0_4 a0_5 a0_6 a0_7 a1_0 a1_1 a1_2 a1_3 a1_4 a1_5 a1_6 a1_7) else (cornucopialaw21_LayoutBack.j0 k (a1_7 == 0) a0_0 a0_1 a0_2 a0_3 a0_4 a0_5 a0_6 a0_7 a1_0 a1_1 a1_2 a1_3 a1_4 a1_5 a1_6 a1_7)) = some r := by rw [if_pos rfl] at H; exact H
            clear H
            have H := H1
            clear H1
            by_cases c14 : a0_7 = 0
            · rw [if_pos c14] at H
              have c14b0 : (a0_7 == 0) = true := beq_iff_eq.mpr c14
              have c14b1 : (a0_7 != 0) = false := bne_eq_false_iff_eq.mpr c14
              clear c14
              (first | rw [c14b0] | (simp only [i64_w, i32_w]; rw [c14b0]) | skip)
              have H' := Aside0.mk H
              clear H
              have hnb15 := NB337_338.out
              have hnc15 := NB338_337.out
              have hcz16_0 : w5.cell? ⟨gb337, 0, none⟩ = some (.string a0_0) := (blk_cell BK337.out 0).trans rfl
              have hcz16_1 : w5.cell? ⟨gb337, 1, none⟩ = some (.int .i64 a0_1) := (blk_cell BK337.out 1).trans rfl
              have hcz16_2 : w5.cell? ⟨gb337, 2, none⟩ = some (.string a0_2) := (blk_cell BK337.out 2).trans rfl
              have hcz16_3 : w5.cell? ⟨gb337, 3, none⟩ = some (.int .u8 a0_3) := (blk_cell BK337.out 3).trans rfl
              have hcz16_4 : w5.cell? ⟨gb337, 4, none⟩ = some (.int .u8 a0_4) := (blk_cell BK337.out 4).trans rfl
              have hcz16_5 : w5.cell? ⟨gb337, 5, none⟩ = some (.int .u8 a0_5) := (blk_cell BK337.out 5).trans rfl
              have hcz16_6 : w5.cell? ⟨gb337, 6, none⟩ = some (.int .u8 a0_6) := (blk_cell BK337.out 6).trans rfl
              have hcz16_7 : w5.cell? ⟨gb337, 7, none⟩ = some (.int .u64 a0_7) := (blk_cell BK337.out 7).trans rfl
              have hfz16_0 := blk_frozen BK337.out 0
              have hfz16_1 := blk_frozen BK337.out 1
              have hfz16_2 := blk_frozen BK337.out 2
              have hfz16_3 := blk_frozen BK337.out 3
              have hfz16_4 := blk_frozen BK337.out 4
              have hfz16_5 := blk_frozen BK337.out 5
              have hfz16_6 := blk_frozen BK337.out 6
              have hfz16_7 := blk_frozen BK337.out 7
              go_wp2_with (first | ((with_reducible refine gate_callee (f := 17) rfl ?_); refine goesL_ (some 18) rfl rfl Tryd.func17 (by kernel_rfl) rfl #[.string a0_0] rfl (by (try simp only [List.map_toArray, List.map_cons, List.map_nil]); first | done | rfl | (simp only [List.length_drop, List.length_take]; rfl)) ?_; (with_reducible refine (layout_ValidName.calls a0_0 true _ A6.out).mono ?_); rintro e w' ⟨rfl, ⟨nd, rfl⟩⟩; refine ⟨_, rfl, ?_⟩; have hcz17_0 : w5.cell? ⟨gb338, 0, none⟩ = some (.string a1_0) := (blk_cell BK338.out 0).trans rfl; have hcz17_1 : w5.cell? ⟨gb338, 1, none⟩ = some (.int .i64 a1_1) := (blk_cell BK338.out 1).trans rfl; have hcz17_2 : w5.cell? ⟨gb338, 2, none⟩ = some (.string a1_2) := (blk_cell BK338.out 2).trans rfl; have hcz17_3 : w5.cell? ⟨gb338, 3, none⟩ = some (.int .u8 a1_3) := (blk_cell BK338.out 3).trans rfl; have hcz17_4 : w5.cell? ⟨gb338, 4, none⟩ = some (.int .u8 a1_4) := (blk_cell BK338.out 4).trans rfl; have hcz17_5 : w5.cell? ⟨gb338, 5, none⟩ = some (.int .u8 a1_5) := (blk_cell BK338.out 5).trans rfl; have hcz17_6 : w5.cell? ⟨gb338, 6, none⟩ = some (.int .u8 a1_6) := (blk_cell BK338.out 6).trans rfl; have hcz17_7 : w5.cell? ⟨gb338, 7, none⟩ = some (.int .u64 a1_7) := (blk_cell BK338.out 7).trans rfl; have hfz17_0 := blk_frozen BK338.out 0; have hfz17_1 := blk_frozen BK338.out 1; have hfz17_2 := blk_frozen BK338.out 2; have hfz17_3 := blk_frozen BK338.out 3; have hfz17_4 := blk_frozen BK338.out 4; have hfz17_5 := blk_frozen BK338.out 5; have hfz17_6 := blk_frozen BK338.out 6; have hfz17_7 := blk_frozen BK338.out 7) | (go_at_call 17; (with_reducible refine (layout_ValidName.calls a1_0 true _ A8.out).mono ?_); rintro e w' ⟨rfl, ⟨nd, rfl⟩⟩) | (go_at_call 19; (with_reducible refine (layout_ValidElem.calls a0_2 true _ A10.out).mono ?_); rintro e w' ⟨rfl, ⟨nd, rfl⟩⟩) | (go_at_call 19; (with_reducible refine (layout_ValidElem.calls a1_2 true _ A12.out).mono ?_); rintro e w' ⟨rfl, ⟨nd, rfl⟩⟩))
              go_meet
              case rel => exact ⟨_, (true), (by first | rfl | (simp; done) | (simp [*]; done)), H', ⟨by first | omega | exact Nat.le_refl _⟩, ⟨by (with_reducible repeat (first | refine blk_drewN ?_ _ | refine blk_drew ?_ | refine blk_alloc ?_ _)); exact BK337.out⟩, ⟨by (with_reducible repeat (first | refine blk_drewN ?_ _ | refine blk_drew ?_ | refine blk_alloc ?_ _)); exact BK338.out⟩, ⟨by repeat (first | (with_reducible first | exact HB.out | apply below_alloc | apply pw_below_drewN | apply below_drew1 | refine below_set ?_ GE337.out | refine below_set ?_ GE338.out) | exact HB.out)⟩⟩
            · rw [if_neg c14] at H
              have c14b0 : (a0_7 == 0) = false := beq_eq_false_iff_ne.mpr c14
              have c14b1 : (a0_7 != 0) = true := bne_iff_ne.mpr c14
              (first | rw [c14b0] | (simp only [i64_w, i32_w]; rw [c14b0]) | skip)
              have H' := Aside0.mk H
              clear H
              have hnb18 := NB337_338.out
              have hnc18 := NB338_337.out
              have hcz19_0 : w5.cell? ⟨gb337, 0, none⟩ = some (.string a0_0) := (blk_cell BK337.out 0).trans rfl
              have hcz19_1 : w5.cell? ⟨gb337, 1, none⟩ = some (.int .i64 a0_1) := (blk_cell BK337.out 1).trans rfl
              have hcz19_2 : w5.cell? ⟨gb337, 2, none⟩ = some (.string a0_2) := (blk_cell BK337.out 2).trans rfl
              have hcz19_3 : w5.cell? ⟨gb337, 3, none⟩ = some (.int .u8 a0_3) := (blk_cell BK337.out 3).trans rfl
              have hcz19_4 : w5.cell? ⟨gb337, 4, none⟩ = some (.int .u8 a0_4) := (blk_cell BK337.out 4).trans rfl
              have hcz19_5 : w5.cell? ⟨gb337, 5, none⟩ = some (.int .u8 a0_5) := (blk_cell BK337.out 5).trans rfl
              have hcz19_6 : w5.cell? ⟨gb337, 6, none⟩ = some (.int .u8 a0_6) := (blk_cell BK337.out 6).trans rfl
              have hcz19_7 : w5.cell? ⟨gb337, 7, none⟩ = some (.int .u64 a0_7) := (blk_cell BK337.out 7).trans rfl
              have hfz19_0 := blk_frozen BK337.out 0
              have hfz19_1 := blk_frozen BK337.out 1
              have hfz19_2 := blk_frozen BK337.out 2
              have hfz19_3 := blk_frozen BK337.out 3
              have hfz19_4 := blk_frozen BK337.out 4
              have hfz19_5 := blk_frozen BK337.out 5
              have hfz19_6 := blk_frozen BK337.out 6
              have hfz19_7 := blk_frozen BK337.out 7
              go_wp2_with (first | ((with_reducible refine gate_callee (f := 17) rfl ?_); refine goesL_ (some 18) rfl rfl Tryd.func17 (by kernel_rfl) rfl #[.string a0_0] rfl (by (try simp only [List.map_toArray, List.map_cons, List.map_nil]); first | done | rfl | (simp only [List.length_drop, List.length_take]; rfl)) ?_; (with_reducible refine (layout_ValidName.calls a0_0 true _ A6.out).mono ?_); rintro e w' ⟨rfl, ⟨nd, rfl⟩⟩; refine ⟨_, rfl, ?_⟩; have hcz20_0 : w5.cell? ⟨gb338, 0, none⟩ = some (.string a1_0) := (blk_cell BK338.out 0).trans rfl; have hcz20_1 : w5.cell? ⟨gb338, 1, none⟩ = some (.int .i64 a1_1) := (blk_cell BK338.out 1).trans rfl; have hcz20_2 : w5.cell? ⟨gb338, 2, none⟩ = some (.string a1_2) := (blk_cell BK338.out 2).trans rfl; have hcz20_3 : w5.cell? ⟨gb338, 3, none⟩ = some (.int .u8 a1_3) := (blk_cell BK338.out 3).trans rfl; have hcz20_4 : w5.cell? ⟨gb338, 4, none⟩ = some (.int .u8 a1_4) := (blk_cell BK338.out 4).trans rfl; have hcz20_5 : w5.cell? ⟨gb338, 5, none⟩ = some (.int .u8 a1_5) := (blk_cell BK338.out 5).trans rfl; have hcz20_6 : w5.cell? ⟨gb338, 6, none⟩ = some (.int .u8 a1_6) := (blk_cell BK338.out 6).trans rfl; have hcz20_7 : w5.cell? ⟨gb338, 7, none⟩ = some (.int .u64 a1_7) := (blk_cell BK338.out 7).trans rfl; have hfz20_0 := blk_frozen BK338.out 0; have hfz20_1 := blk_frozen BK338.out 1; have hfz20_2 := blk_frozen BK338.out 2; have hfz20_3 := blk_frozen BK338.out 3; have hfz20_4 := blk_frozen BK338.out 4; have hfz20_5 := blk_frozen BK338.out 5; have hfz20_6 := blk_frozen BK338.out 6; have hfz20_7 := blk_frozen BK338.out 7) | (go_at_call 17; (with_reducible refine (layout_ValidName.calls a1_0 true _ A8.out).mono ?_); rintro e w' ⟨rfl, ⟨nd, rfl⟩⟩) | (go_at_call 19; (with_reducible refine (layout_ValidElem.calls a0_2 true _ A10.out).mono ?_); rintro e w' ⟨rfl, ⟨nd, rfl⟩⟩) | (go_at_call 19; (with_reducible refine (layout_ValidElem.calls a1_2 true _ A12.out).mono ?_); rintro e w' ⟨rfl, ⟨nd, rfl⟩⟩))
              go_meet
              case rel => exact ⟨_, ((a1_7 == 0)), (by first | rfl | (simp; done) | (simp [*]; done)), H', ⟨by first | omega | exact Nat.le_refl _⟩, ⟨by (with_reducible repeat (first | refine blk_drewN ?_ _ | refine blk_drew ?_ | refine blk_alloc ?_ _)); exact BK337.out⟩, ⟨by (with_reducible repeat (first | refine blk_drewN ?_ _ | refine blk_drew ?_ | refine blk_alloc ?_ _)); exact BK338.out⟩, ⟨by repeat (first | (with_reducible first | exact HB.out | apply below_alloc | apply pw_below_drewN | apply below_drew1 | refine below_set ?_ GE337.out | refine below_set ?_ GE338.out) | exact HB.out)⟩⟩
          · replace c13 := Bool.eq_false_iff.mpr c13
            subst c13
            have H1 : (cornucopialaw21_LayoutBack.j0 k true a0_0 a0_1 a0_2 a0_3 a0_4 a0_5 a0_6 a0_7 a1_0 a1_1 a1_2 a1_3 a1_4 a1_5 a1_6 a1_7) = some r := by rw [if_neg (show ¬ (false = true) by decide)] at H; exact H
            clear H
            have H := H1
            clear H1
            have H' := Aside0.mk H
            clear H
            have hnb21 := NB337_338.out
            have hnc21 := NB338_337.out
            have hcz22_0 : w5.cell? ⟨gb337, 0, none⟩ = some (.string a0_0) := (blk_cell BK337.out 0).trans rfl
            have hcz22_1 : w5.cell? ⟨gb337, 1, none⟩ = some (.int .i64 a0_1) := (blk_cell BK337.out 1).trans rfl
            have hcz22_2 : w5.cell? ⟨gb337, 2, none⟩ = some (.string a0_2) := (blk_cell BK337.out 2).trans rfl
            have hcz22_3 : w5.cell? ⟨gb337, 3, none⟩ = some (.int .u8 a0_3) := (blk_cell BK337.out 3).trans rfl
            have hcz22_4 : w5.cell? ⟨gb337, 4, none⟩ = some (.int .u8 a0_4) := (blk_cell BK337.out 4).trans rfl
            have hcz22_5 : w5.cell? ⟨gb337, 5, none⟩ = some (.int .u8 a0_5) := (blk_cell BK337.out 5).trans rfl
            have hcz22_6 : w5.cell? ⟨gb337, 6, none⟩ = some (.int .u8 a0_6) := (blk_cell BK337.out 6).trans rfl
            have hcz22_7 : w5.cell? ⟨gb337, 7, none⟩ = some (.int .u64 a0_7) := (blk_cell BK337.out 7).trans rfl
            have hfz22_0 := blk_frozen BK337.out 0
            have hfz22_1 := blk_frozen BK337.out 1
            have hfz22_2 := blk_frozen BK337.out 2
            have hfz22_3 := blk_frozen BK337.out 3
            have hfz22_4 := blk_frozen BK337.out 4
            have hfz22_5 := blk_frozen BK337.out 5
            have hfz22_6 := blk_frozen BK337.out 6
            have hfz22_7 := blk_frozen BK337.out 7
            go_wp2_with (first | ((with_reducible refine gate_callee (f := 17) rfl ?_); refine goesL_ (some 18) rfl rfl Tryd.func17 (by kernel_rfl) rfl #[.string a0_0] rfl (by (try simp only [List.map_toArray, List.map_cons, List.map_nil]); first | done | rfl | (simp only [List.length_drop, List.length_take]; rfl)) ?_; (with_reducible refine (layout_ValidName.calls a0_0 true _ A6.out).mono ?_); rintro e w' ⟨rfl, ⟨nd, rfl⟩⟩; refine ⟨_, rfl, ?_⟩; have hcz23_0 : w5.cell? ⟨gb338, 0, none⟩ = some (.string a1_0) := (blk_cell BK338.out 0).trans rfl; have hcz23_1 : w5.cell? ⟨gb338, 1, none⟩ = some (.int .i64 a1_1) := (blk_cell BK338.out 1).trans rfl; have hcz23_2 : w5.cell? ⟨gb338, 2, none⟩ = some (.string a1_2) := (blk_cell BK338.out 2).trans rfl; have hcz23_3 : w5.cell? ⟨gb338, 3, none⟩ = some (.int .u8 a1_3) := (blk_cell BK338.out 3).trans rfl; have hcz23_4 : w5.cell? ⟨gb338, 4, none⟩ = some (.int .u8 a1_4) := (blk_cell BK338.out 4).trans rfl; have hcz23_5 : w5.cell? ⟨gb338, 5, none⟩ = some (.int .u8 a1_5) := (blk_cell BK338.out 5).trans rfl; have hcz23_6 : w5.cell? ⟨gb338, 6, none⟩ = some (.int .u8 a1_6) := (blk_cell BK338.out 6).trans rfl; have hcz23_7 : w5.cell? ⟨gb338, 7, none⟩ = some (.int .u64 a1_7) := (blk_cell BK338.out 7).trans rfl; have hfz23_0 := blk_frozen BK338.out 0; have hfz23_1 := blk_frozen BK338.out 1; have hfz23_2 := blk_frozen BK338.out 2; have hfz23_3 := blk_frozen BK338.out 3; have hfz23_4 := blk_frozen BK338.out 4; have hfz23_5 := blk_frozen BK338.out 5; have hfz23_6 := blk_frozen BK338.out 6; have hfz23_7 := blk_frozen BK338.out 7) | (go_at_call 17; (with_reducible refine (layout_ValidName.calls a1_0 true _ A8.out).mono ?_); rintro e w' ⟨rfl, ⟨nd, rfl⟩⟩) | (go_at_call 19; (with_reducible refine (layout_ValidElem.calls a0_2 true _ A10.out).mono ?_); rintro e w' ⟨rfl, ⟨nd, rfl⟩⟩) | (go_at_call 19; (with_reducible refine (layout_ValidElem.calls a1_2 false _ A12.out).mono ?_); rintro e w' ⟨rfl, ⟨nd, rfl⟩⟩))
            go_meet
            case rel => exact ⟨_, (true), (by first | rfl | (simp; done) | (simp [*]; done)), H', ⟨by first | omega | exact Nat.le_refl _⟩, ⟨by (with_reducible repeat (first | refine blk_drewN ?_ _ | refine blk_drew ?_ | refine blk_alloc ?_ _)); exact BK337.out⟩, ⟨by (with_reducible repeat (first | refine blk_drewN ?_ _ | refine blk_drew ?_ | refine blk_alloc ?_ _)); exact BK338.out⟩, ⟨by repeat (first | (with_reducible first | exact HB.out | apply below_alloc | apply pw_below_drewN | apply below_drew1 | refine below_set ?_ GE337.out | refine below_set ?_ GE338.out) | exact HB.out)⟩⟩
        · replace c11 := Bool.eq_false_iff.mpr c11
          subst c11
          have H1 : (cornucopialaw21_LayoutBack.j0 k true a0_0 a0_1 a0_2 a0_3 a0_4 a0_5 a0_6 a0_7 a1_0 a1_1 a1_2 a1_3 a1_4 a1_5 a1_6 a1_7) = some r := by rw [if_neg (show ¬ (false = true) by decide)] at H; exact H
          clear H
          have H := H1
          clear H1
          have H' := Aside0.mk H
          clear H
          have hnb24 := NB337_338.out
          have hnc24 := NB338_337.out
          have hcz25_0 : w5.cell? ⟨gb337, 0, none⟩ = some (.string a0_0) := (blk_cell BK337.out 0).trans rfl
          have hcz25_1 : w5.cell? ⟨gb337, 1, none⟩ = some (.int .i64 a0_1) := (blk_cell BK337.out 1).trans rfl
          have hcz25_2 : w5.cell? ⟨gb337, 2, none⟩ = some (.string a0_2) := (blk_cell BK337.out 2).trans rfl
          have hcz25_3 : w5.cell? ⟨gb337, 3, none⟩ = some (.int .u8 a0_3) := (blk_cell BK337.out 3).trans rfl
          have hcz25_4 : w5.cell? ⟨gb337, 4, none⟩ = some (.int .u8 a0_4) := (blk_cell BK337.out 4).trans rfl
          have hcz25_5 : w5.cell? ⟨gb337, 5, none⟩ = some (.int .u8 a0_5) := (blk_cell BK337.out 5).trans rfl
          have hcz25_6 : w5.cell? ⟨gb337, 6, none⟩ = some (.int .u8 a0_6) := (blk_cell BK337.out 6).trans rfl
          have hcz25_7 : w5.cell? ⟨gb337, 7, none⟩ = some (.int .u64 a0_7) := (blk_cell BK337.out 7).trans rfl
          have hfz25_0 := blk_frozen BK337.out 0
          have hfz25_1 := blk_frozen BK337.out 1
          have hfz25_2 := blk_frozen BK337.out 2
          have hfz25_3 := blk_frozen BK337.out 3
          have hfz25_4 := blk_frozen BK337.out 4
          have hfz25_5 := blk_frozen BK337.out 5
          have hfz25_6 := blk_frozen BK337.out 6
          have hfz25_7 := blk_frozen BK337.out 7
          go_wp2_with (first | ((with_reducible refine gate_callee (f := 17) rfl ?_); refine goesL_ (some 18) rfl rfl Tryd.func17 (by kernel_rfl) rfl #[.string a0_0] rfl (by (try simp only [List.map_toArray, List.map_cons, List.map_nil]); first | done | rfl | (simp only [List.length_drop, List.length_take]; rfl)) ?_; (with_reducible refine (layout_ValidName.calls a0_0 true _ A6.out).mono ?_); rintro e w' ⟨rfl, ⟨nd, rfl⟩⟩; refine ⟨_, rfl, ?_⟩; have hcz26_0 : w5.cell? ⟨gb338, 0, none⟩ = some (.string a1_0) := (blk_cell BK338.out 0).trans rfl; have hcz26_1 : w5.cell? ⟨gb338, 1, none⟩ = some (.int .i64 a1_1) := (blk_cell BK338.out 1).trans rfl; have hcz26_2 : w5.cell? ⟨gb338, 2, none⟩ = some (.string a1_2) := (blk_cell BK338.out 2).trans rfl; have hcz26_3 : w5.cell? ⟨gb338, 3, none⟩ = some (.int .u8 a1_3) := (blk_cell BK338.out 3).trans rfl; have hcz26_4 : w5.cell? ⟨gb338, 4, none⟩ = some (.int .u8 a1_4) := (blk_cell BK338.out 4).trans rfl; have hcz26_5 : w5.cell? ⟨gb338, 5, none⟩ = some (.int .u8 a1_5) := (blk_cell BK338.out 5).trans rfl; have hcz26_6 : w5.cell? ⟨gb338, 6, none⟩ = some (.int .u8 a1_6) := (blk_cell BK338.out 6).trans rfl; have hcz26_7 : w5.cell? ⟨gb338, 7, none⟩ = some (.int .u64 a1_7) := (blk_cell BK338.out 7).trans rfl; have hfz26_0 := blk_frozen BK338.out 0; have hfz26_1 := blk_frozen BK338.out 1; have hfz26_2 := blk_frozen BK338.out 2; have hfz26_3 := blk_frozen BK338.out 3; have hfz26_4 := blk_frozen BK338.out 4; have hfz26_5 := blk_frozen BK338.out 5; have hfz26_6 := blk_frozen BK338.out 6; have hfz26_7 := blk_frozen BK338.out 7) | (go_at_call 17; (with_reducible refine (layout_ValidName.calls a1_0 true _ A8.out).mono ?_); rintro e w' ⟨rfl, ⟨nd, rfl⟩⟩) | (go_at_call 19; (with_reducible refine (layout_ValidElem.calls a0_2 false _ A10.out).mono ?_); rintro e w' ⟨rfl, ⟨nd, rfl⟩⟩))
          go_meet
          case rel => exact ⟨_, (true), (by first | rfl | (simp; done) | (simp [*]; done)), H', ⟨by first | omega | exact Nat.le_refl _⟩, ⟨by (with_reducible repeat (first | refine blk_drewN ?_ _ | refine blk_drew ?_ | refine blk_alloc ?_ _)); exact BK337.out⟩, ⟨by (with_reducible repeat (first | refine blk_drewN ?_ _ | refine blk_drew ?_ | refine blk_alloc ?_ _)); exact BK338.out⟩, ⟨by repeat (first | (with_reducible first | exact HB.out | apply below_alloc | apply pw_below_drewN | apply below_drew1 | refine below_set ?_ GE337.out | refine below_set ?_ GE338.out) | exact HB.out)⟩⟩
      · replace c9 := Bool.eq_false_iff.mpr c9
        subst c9
        have H1 : (cornucopialaw21_LayoutBack.j0 k true a0_0 a0_1 a0_2 a0_3 a0_4 a0_5 a0_6 a0_7 a1_0 a1_1 a1_2 a1_3 a1_4 a1_5 a1_6 a1_7) = some r := by rw [if_neg (show ¬ (false = true) by decide)] at H; exact H
        clear H
        have H := H1
        clear H1
        have H' := Aside0.mk H
        clear H
        have hnb27 := NB337_338.out
        have hnc27 := NB338_337.out
        have hcz28_0 : w5.cell? ⟨gb337, 0, none⟩ = some (.string a0_0) := (blk_cell BK337.out 0).trans rfl
        have hcz28_1 : w5.cell? ⟨gb337, 1, none⟩ = some (.int .i64 a0_1) := (blk_cell BK337.out 1).trans rfl
        have hcz28_2 : w5.cell? ⟨gb337, 2, none⟩ = some (.string a0_2) := (blk_cell BK337.out 2).trans rfl
        have hcz28_3 : w5.cell? ⟨gb337, 3, none⟩ = some (.int .u8 a0_3) := (blk_cell BK337.out 3).trans rfl
        have hcz28_4 : w5.cell? ⟨gb337, 4, none⟩ = some (.int .u8 a0_4) := (blk_cell BK337.out 4).trans rfl
        have hcz28_5 : w5.cell? ⟨gb337, 5, none⟩ = some (.int .u8 a0_5) := (blk_cell BK337.out 5).trans rfl
        have hcz28_6 : w5.cell? ⟨gb337, 6, none⟩ = some (.int .u8 a0_6) := (blk_cell BK337.out 6).trans rfl
        have hcz28_7 : w5.cell? ⟨gb337, 7, none⟩ = some (.int .u64 a0_7) := (blk_cell BK337.out 7).trans rfl
        have hfz28_0 := blk_frozen BK337.out 0
        have hfz28_1 := blk_frozen BK337.out 1
        have hfz28_2 := blk_frozen BK337.out 2
        have hfz28_3 := blk_frozen BK337.out 3
        have hfz28_4 := blk_frozen BK337.out 4
        have hfz28_5 := blk_frozen BK337.out 5
        have hfz28_6 := blk_frozen BK337.out 6
        have hfz28_7 := blk_frozen BK337.out 7
        go_wp2_with (first | ((with_reducible refine gate_callee (f := 17) rfl ?_); refine goesL_ (some 18) rfl rfl Tryd.func17 (by kernel_rfl) rfl #[.string a0_0] rfl (by (try simp only [List.map_toArray, List.map_cons, List.map_nil]); first | done | rfl | (simp only [List.length_drop, List.length_take]; rfl)) ?_; (with_reducible refine (layout_ValidName.calls a0_0 true _ A6.out).mono ?_); rintro e w' ⟨rfl, ⟨nd, rfl⟩⟩; refine ⟨_, rfl, ?_⟩; have hcz29_0 : w5.cell? ⟨gb338, 0, none⟩ = some (.string a1_0) := (blk_cell BK338.out 0).trans rfl; have hcz29_1 : w5.cell? ⟨gb338, 1, none⟩ = some (.int .i64 a1_1) := (blk_cell BK338.out 1).trans rfl; have hcz29_2 : w5.cell? ⟨gb338, 2, none⟩ = some (.string a1_2) := (blk_cell BK338.out 2).trans rfl; have hcz29_3 : w5.cell? ⟨gb338, 3, none⟩ = some (.int .u8 a1_3) := (blk_cell BK338.out 3).trans rfl; have hcz29_4 : w5.cell? ⟨gb338, 4, none⟩ = some (.int .u8 a1_4) := (blk_cell BK338.out 4).trans rfl; have hcz29_5 : w5.cell? ⟨gb338, 5, none⟩ = some (.int .u8 a1_5) := (blk_cell BK338.out 5).trans rfl; have hcz29_6 : w5.cell? ⟨gb338, 6, none⟩ = some (.int .u8 a1_6) := (blk_cell BK338.out 6).trans rfl; have hcz29_7 : w5.cell? ⟨gb338, 7, none⟩ = some (.int .u64 a1_7) := (blk_cell BK338.out 7).trans rfl; have hfz29_0 := blk_frozen BK338.out 0; have hfz29_1 := blk_frozen BK338.out 1; have hfz29_2 := blk_frozen BK338.out 2; have hfz29_3 := blk_frozen BK338.out 3; have hfz29_4 := blk_frozen BK338.out 4; have hfz29_5 := blk_frozen BK338.out 5; have hfz29_6 := blk_frozen BK338.out 6; have hfz29_7 := blk_frozen BK338.out 7) | (go_at_call 17; (with_reducible refine (layout_ValidName.calls a1_0 false _ A8.out).mono ?_); rintro e w' ⟨rfl, ⟨nd, rfl⟩⟩))
        go_meet
        case rel => exact ⟨_, (true), (by first | rfl | (simp; done) | (simp [*]; done)), H', ⟨by first | omega | exact Nat.le_refl _⟩, ⟨by (with_reducible repeat (first | refine blk_drewN ?_ _ | refine blk_drew ?_ | refine blk_alloc ?_ _)); exact BK337.out⟩, ⟨by (with_reducible repeat (first | refine blk_drewN ?_ _ | refine blk_drew ?_ | refine blk_alloc ?_ _)); exact BK338.out⟩, ⟨by repeat (first | (with_reducible first | exact HB.out | apply below_alloc | apply pw_below_drewN | apply below_drew1 | refine below_set ?_ GE337.out | refine below_set ?_ GE338.out) | exact HB.out)⟩⟩
    · replace c7 := Bool.eq_false_iff.mpr c7
      subst c7
      have H1 : (cornucopialaw21_LayoutBack.j0 k true a0_0 a0_1 a0_2 a0_3 a0_4 a0_5 a0_6 a0_7 a1_0 a1_1 a1_2 a1_3 a1_4 a1_5 a1_6 a1_7) = some r := by rw [if_neg (show ¬ (false = true) by decide)] at H; exact H
      clear H
      have H := H1
      clear H1
      have H' := Aside0.mk H
      clear H
      have hnb30 := NB337_338.out
      have hnc30 := NB338_337.out
      have hcz31_0 : w5.cell? ⟨gb337, 0, none⟩ = some (.string a0_0) := (blk_cell BK337.out 0).trans rfl
      have hcz31_1 : w5.cell? ⟨gb337, 1, none⟩ = some (.int .i64 a0_1) := (blk_cell BK337.out 1).trans rfl
      have hcz31_2 : w5.cell? ⟨gb337, 2, none⟩ = some (.string a0_2) := (blk_cell BK337.out 2).trans rfl
      have hcz31_3 : w5.cell? ⟨gb337, 3, none⟩ = some (.int .u8 a0_3) := (blk_cell BK337.out 3).trans rfl
      have hcz31_4 : w5.cell? ⟨gb337, 4, none⟩ = some (.int .u8 a0_4) := (blk_cell BK337.out 4).trans rfl
      have hcz31_5 : w5.cell? ⟨gb337, 5, none⟩ = some (.int .u8 a0_5) := (blk_cell BK337.out 5).trans rfl
      have hcz31_6 : w5.cell? ⟨gb337, 6, none⟩ = some (.int .u8 a0_6) := (blk_cell BK337.out 6).trans rfl
      have hcz31_7 : w5.cell? ⟨gb337, 7, none⟩ = some (.int .u64 a0_7) := (blk_cell BK337.out 7).trans rfl
      have hfz31_0 := blk_frozen BK337.out 0
      have hfz31_1 := blk_frozen BK337.out 1
      have hfz31_2 := blk_frozen BK337.out 2
      have hfz31_3 := blk_frozen BK337.out 3
      have hfz31_4 := blk_frozen BK337.out 4
      have hfz31_5 := blk_frozen BK337.out 5
      have hfz31_6 := blk_frozen BK337.out 6
      have hfz31_7 := blk_frozen BK337.out 7
      go_wp2_with (first | ((with_reducible refine gate_callee (f := 17) rfl ?_); refine goesL_ (some 18) rfl rfl Tryd.func17 (by kernel_rfl) rfl #[.string a0_0] rfl (by (try simp only [List.map_toArray, List.map_cons, List.map_nil]); first | done | rfl | (simp only [List.length_drop, List.length_take]; rfl)) ?_; (with_reducible refine (layout_ValidName.calls a0_0 false _ A6.out).mono ?_); rintro e w' ⟨rfl, ⟨nd, rfl⟩⟩; refine ⟨_, rfl, ?_⟩))
      go_meet
      case rel => exact ⟨_, (true), (by first | rfl | (simp; done) | (simp [*]; done)), H', ⟨by first | omega | exact Nat.le_refl _⟩, ⟨by (with_reducible repeat (first | refine blk_drewN ?_ _ | refine blk_drew ?_ | refine blk_alloc ?_ _)); exact BK337.out⟩, ⟨by (with_reducible repeat (first | refine blk_drewN ?_ _ | refine blk_drew ?_ | refine blk_alloc ?_ _)); exact BK338.out⟩, ⟨by repeat (first | (with_reducible first | exact HB.out | apply below_alloc | apply pw_below_drewN | apply below_drew1 | refine below_set ?_ GE337.out | refine below_set ?_ GE338.out) | exact HB.out)⟩⟩
  case rest =>
    clear HC3
    try clear c1
    try clear c2
    try clear p2
    try clear c3
    try clear c4
    try clear c7
    try clear c9
    try clear c11
    try clear c13
    try clear c14
    try clear c14b0
    try clear c14b1
    try clear c15
    try clear c17
    try clear c18
    try clear c21
    try clear c24
    try clear c27
    try clear c30
    try clear hcz16_0
    try clear hcz16_1
    try clear hcz16_2
    try clear hcz16_3
    try clear hcz16_4
    try clear hcz16_5
    try clear hcz16_6
    try clear hcz16_7
    try clear hcz17_0
    try clear hcz17_1
    try clear hcz17_2
    try clear hcz17_3
    try clear hcz17_4
    try clear hcz17_5
    try clear hcz17_6
    try clear hcz17_7
    try clear hcz19_0
    try clear hcz19_1
    try clear hcz19_2
    try clear hcz19_3
    try clear hcz19_4
    try clear hcz19_5
    try clear hcz19_6
    try clear hcz19_7
    try clear hcz20_0
    try clear hcz20_1
    try clear hcz20_2
    try clear hcz20_3
    try clear hcz20_4
    try clear hcz20_5
    try clear hcz20_6
    try clear hcz20_7
    try clear hcz22_0
    try clear hcz22_1
    try clear hcz22_2
    try clear hcz22_3
    try clear hcz22_4
    try clear hcz22_5
    try clear hcz22_6
    try clear hcz22_7
    try clear hcz23_0
    try clear hcz23_1
    try clear hcz23_2
    try clear hcz23_3
    try clear hcz23_4
    try clear hcz23_5
    try clear hcz23_6
    try clear hcz23_7
    try clear hcz25_0
    try clear hcz25_1
    try clear hcz25_2
    try clear hcz25_3
    try clear hcz25_4
    try clear hcz25_5
    try clear hcz25_6
    try clear hcz25_7
    try clear hcz26_0
    try clear hcz26_1
    try clear hcz26_2
    try clear hcz26_3
    try clear hcz26_4
    try clear hcz26_5
    try clear hcz26_6
    try clear hcz26_7
    try clear hcz28_0
    try clear hcz28_1
    try clear hcz28_2
    try clear hcz28_3
    try clear hcz28_4
    try clear hcz28_5
    try clear hcz28_6
    try clear hcz28_7
    try clear hcz29_0
    try clear hcz29_1
    try clear hcz29_2
    try clear hcz29_3
    try clear hcz29_4
    try clear hcz29_5
    try clear hcz29_6
    try clear hcz29_7
    try clear hcz31_0
    try clear hcz31_1
    try clear hcz31_2
    try clear hcz31_3
    try clear hcz31_4
    try clear hcz31_5
    try clear hcz31_6
    try clear hcz31_7
    try clear hfz16_0
    try clear hfz16_1
    try clear hfz16_2
    try clear hfz16_3
    try clear hfz16_4
    try clear hfz16_5
    try clear hfz16_6
    try clear hfz16_7
    try clear hfz17_0
    try clear hfz17_1
    try clear hfz17_2
    try clear hfz17_3
    try clear hfz17_4
    try clear hfz17_5
    try clear hfz17_6
    try clear hfz17_7
    try clear hfz19_0
    try clear hfz19_1
    try clear hfz19_2
    try clear hfz19_3
    try clear hfz19_4
    try clear hfz19_5
    try clear hfz19_6
    try clear hfz19_7
    try clear hfz20_0
    try clear hfz20_1
    try clear hfz20_2
    try clear hfz20_3
    try clear hfz20_4
    try clear hfz20_5
    try clear hfz20_6
    try clear hfz20_7
    try clear hfz22_0
    try clear hfz22_1
    try clear hfz22_2
    try clear hfz22_3
    try clear hfz22_4
    try clear hfz22_5
    try clear hfz22_6
    try clear hfz22_7
    try clear hfz23_0
    try clear hfz23_1
    try clear hfz23_2
    try clear hfz23_3
    try clear hfz23_4
    try clear hfz23_5
    try clear hfz23_6
    try clear hfz23_7
    try clear hfz25_0
    try clear hfz25_1
    try clear hfz25_2
    try clear hfz25_3
    try clear hfz25_4
    try clear hfz25_5
    try clear hfz25_6
    try clear hfz25_7
    try clear hfz26_0
    try clear hfz26_1
    try clear hfz26_2
    try clear hfz26_3
    try clear hfz26_4
    try clear hfz26_5
    try clear hfz26_6
    try clear hfz26_7
    try clear hfz28_0
    try clear hfz28_1
    try clear hfz28_2
    try clear hfz28_3
    try clear hfz28_4
    try clear hfz28_5
    try clear hfz28_6
    try clear hfz28_7
    try clear hfz29_0
    try clear hfz29_1
    try clear hfz29_2
    try clear hfz29_3
    try clear hfz29_4
    try clear hfz29_5
    try clear hfz29_6
    try clear hfz29_7
    try clear hfz31_0
    try clear hfz31_1
    try clear hfz31_2
    try clear hfz31_3
    try clear hfz31_4
    try clear hfz31_5
    try clear hfz31_6
    try clear hfz31_7
    obtain ⟨kq, x49_2, rfl, HA, HJ2, BK337, BK338, HB⟩ := hcut
    cases kq with
    | zero => exact absurd HA.out (by simp [cornucopialaw21_LayoutBack.j0])
    | succ kj2 =>
      have H := HA.out
      clear HA
      simp only [cornucopialaw21_LayoutBack.j0] at H
      by_cases c32 : x49_2 = true
      · subst c32
        have H1 : ((cornucopialaw21_alive.f kj2).bind fun t343 => (some t343)) = some r := by rw [if_pos rfl] at H; exact H
        clear H
        have H := H1
        clear H1
        replace H := Option.bind_eq_some_iff.mp H
        obtain ⟨t343, A330, H⟩ := H
        replace H : (some t343) = some r := H
        have A33 := Aside0.mk A330
        clear A330
        obtain rfl := Option.some.inj H
        go_wp2_with (first | ((with_reducible refine gate_callee (f := 6) rfl ?_); refine goesL_ (some 50) rfl rfl Tryd.func6 (by kernel_rfl) rfl #[] rfl (by (try simp only [List.map_toArray, List.map_cons, List.map_nil]); first | done | rfl | (simp only [List.length_drop, List.length_take]; rfl)) ?_; (with_reducible refine (cornucopialaw21_alive.calls kj2  t343 _ A33.out).mono ?_); rintro e w34 ⟨rfl, hb⟩; refine ⟨_, rfl, ?_⟩; have n0_ := Aside0.mk (blk_below (g := gb337) (o := .cells #[.string a0_0, .int .i64 a0_1, .string a0_2, .int .u8 a0_3, .int .u8 a0_4, .int .u8 a0_5, .int .u8 a0_6, .int .u64 a0_7] 29 (0, 0)) (by (with_reducible repeat (first | refine blk_drewN ?_ _ | refine blk_drew ?_ | refine blk_alloc ?_ _)); exact BK337.out) hb); have n1_ := Aside0.mk (blk_below (g := gb338) (o := .cells #[.string a1_0, .int .i64 a1_1, .string a1_2, .int .u8 a1_3, .int .u8 a1_4, .int .u8 a1_5, .int .u8 a1_6, .int .u64 a1_7] 29 (0, 0)) (by (with_reducible repeat (first | refine blk_drewN ?_ _ | refine blk_drew ?_ | refine blk_alloc ?_ _)); exact BK338.out) hb); have n2_ := Aside0.mk (below_step (by repeat (first | (with_reducible first | exact HB.out | apply below_alloc | apply pw_below_drewN | apply below_drew1 | refine below_set ?_ GE337.out | refine below_set ?_ GE338.out) | exact HB.out)) hb); clear BK337; clear BK338; clear HB; have BK337 := n0_; have BK338 := n1_; have HB := n2_; clear n0_ n1_ n2_; (try clear hb); (try clear hb2); (try clear hk); (try clear hi)))
        go_ret
        exact ⟨by first | rfl | (simp [errW_none, errW_some] <;> rfl) | (simp [*, errW_none, errW_some] <;> rfl), by repeat (first | (with_reducible first | exact HB.out | apply below_alloc | apply pw_below_drewN | apply below_drew1 | refine below_set ?_ GE337.out | refine below_set ?_ GE338.out) | exact HB.out)⟩
      · replace c32 := Bool.eq_false_iff.mpr c32
        subst c32
        have H1 : ((layout_ElemKey.f kj2 a0_0 a0_2 a0_3 a0_4 a0_5 a0_6 a0_7).bind fun t344 => ((layout_ElemKey.f kj2 a1_0 a1_2 a1_3 a1_4 a1_5 a1_6 a1_7).bind fun t345 => ((layout_Parse.f kj2 t344).bind fun bt346 => ((layout_Ends.f kj2 a0_0).bind fun bt356 => (if ((Op.bytesLess t345.toList bt356.1.toList) = true) then (cornucopialaw21_LayoutBack.j1 kj2 t344 t345 bt346.2.2.2.2.2.2.2.2 bt356.1 bt356.2 false a0_0 3 a0_2 a0_3 a0_4 a0_5 a0_6 a0_7 a1_0 3 a1_2 a1_3 a1_4 a1_5 a1_6 a1_7 bt346.1 bt346.2.1 bt346.2.2.1 bt346.2.2.2.1 bt346.2.2.2.2.1 bt346.2.2.2.2.2.1 bt346.2.2.2.2.2.2.1 bt346.2.2.2.2.2.2.2.1) else (cornucopialaw21_LayoutBack.j1 kj2 t344 t345 bt346.2.2.2.2.2.2.2.2 bt356.1 bt356.2 (Op.bytesLess t345.toList bt356.2.toList) a0_0 3 a0_2 a0_3 a0_4 a0_5 a0_6 a0_7 a1_0 3 a1_2 a1_3 a1_4 a1_5 a1_6 a1_7 bt346.1 bt346.2.1 bt346.2.2.1 bt346.2.2.2.1 bt346.2.2.2.2.1 bt346.2.2.2.2.2.1 bt346.2.2.2.2.2.2.1 bt346.2.2.2.2.2.2.2.1)))))) = some r := by rw [if_neg (show ¬ (false = true) by decide)] at H; exact H
        clear H
        have H := H1
        clear H1
        replace H := Option.bind_eq_some_iff.mp H
        obtain ⟨t344, A350, H⟩ := H
        replace H : ((layout_ElemKey.f kj2 a1_0 a1_2 a1_3 a1_4 a1_5 a1_6 a1_7).bind fun t345 => ((layout_Parse.f kj2 t344).bind fun bt346 => ((layout_Ends.f kj2 a0_0).bind fun bt356 => (if ((Op.bytesLess t345.toList bt356.1.toList) = true) then (cornucopialaw21_LayoutBack.j1 kj2 t344 t345 bt346.2.2.2.2.2.2.2.2 bt356.1 bt356.2 false a0_0 3 a0_2 a0_3 a0_4 a0_5 a0_6 a0_7 a1_0 3 a1_2 a1_3 a1_4 a1_5 a1_6 a1_7 bt346.1 bt346.2.1 bt346.2.2.1 bt346.2.2.2.1 bt346.2.2.2.2.1 bt346.2.2.2.2.2.1 bt346.2.2.2.2.2.2.1 bt346.2.2.2.2.2.2.2.1) else (cornucopialaw21_LayoutBack.j1 kj2 t344 t345 bt346.2.2.2.2.2.2.2.2 bt356.1 bt356.2 (Op.bytesLess t345.toList bt356.2.toList) a0_0 3 a0_2 a0_3 a0_4 a0_5 a0_6 a0_7 a1_0 3 a1_2 a1_3 a1_4 a1_5 a1_6 a1_7 bt346.1 bt346.2.1 bt346.2.2.1 bt346.2.2.2.1 bt346.2.2.2.2.1 bt346.2.2.2.2.2.1 bt346.2.2.2.2.2.2.1 bt346.2.2.2.2.2.2.2.1))))) = some r := H
        have A35 := Aside0.mk A350
        clear A350
        replace H := Option.bind_eq_some_iff.mp H
        obtain ⟨t345, A360, H⟩ := H
        replace H : ((layout_Parse.f kj2 t344).bind fun bt346 => ((layout_Ends.f kj2 a0_0).bind fun bt356 => (if ((Op.bytesLess t345.toList bt356.1.toList) = true) then (cornucopialaw21_LayoutBack.j1 kj2 t344 t345 bt346.2.2.2.2.2.2.2.2 bt356.1 bt356.2 false a0_0 3 a0_2 a0_3 a0_4 a0_5 a0_6 a0_7 a1_0 3 a1_2 a1_3 a1_4 a1_5 a1_6 a1_7 bt346.1 bt346.2.1 bt346.2.2.1 bt346.2.2.2.1 bt346.2.2.2.2.1 bt346.2.2.2.2.2.1 bt346.2.2.2.2.2.2.1 bt346.2.2.2.2.2.2.2.1) else (cornucopialaw21_LayoutBack.j1 kj2 t344 t345 bt346.2.2.2.2.2.2.2.2 bt356.1 bt356.2 (Op.bytesLess t345.toList bt356.2.toList) a0_0 3 a0_2 a0_3 a0_4 a0_5 a0_6 a0_7 a1_0 3 a1_2 a1_3 a1_4 a1_5 a1_6 a1_7 bt346.1 bt346.2.1 bt346.2.2.1 bt346.2.2.2.1 bt346.2.2.2.2.1 bt346.2.2.2.2.2.1 bt346.2.2.2.2.2.2.1 bt346.2.2.2.2.2.2.2.1)))) = some r := H
        have A36 := Aside0.mk A360
        clear A360
        replace H := Option.bind_eq_some_iff.mp H
        obtain ⟨⟨t346, t347, t348, t349, t350, t351, t352, t353, t354⟩, A370, H⟩ := H
        replace H : ((layout_Ends.f kj2 a0_0).bind fun bt356 => (if ((Op.bytesLess t345.toList bt356.1.toList) = true) then (cornucopialaw21_LayoutBack.j1 kj2 t344 t345 t354 bt356.1 bt356.2 false a0_0 3 a0_2 a0_3 a0_4 a0_5 a0_6 a0_7 a1_0 3 a1_2 a1_3 a1_4 a1_5 a1_6 a1_7 t346 t347 t348 t349 t350 t351 t352 t353) else (cornucopialaw21_LayoutBack.j1 kj2 t344 t345 t354 bt356.1 bt356.2 (Op.bytesLess t345.toList bt356.2.toList) a0_0 3 a0_2 a0_3 a0_4 a0_5 a0_6 a0_7 a1_0 3 a1_2 a1_3 a1_4 a1_5 a1_6 a1_7 t346 t347 t348 t349 t350 t351 t352 t353))) = some r := H
        have A37 := Aside0.mk A370
        clear A370
        replace H := Option.bind_eq_some_iff.mp H
        obtain ⟨⟨t356, t357⟩, A380, H⟩ := H
        replace H : (if ((Op.bytesLess t345.toList t356.toList) = true) then (cornucopialaw21_LayoutBack.j1 kj2 t344 t345 t354 t356 t357 false a0_0 3 a0_2 a0_3 a0_4 a0_5 a0_6 a0_7 a1_0 3 a1_2 a1_3 a1_4 a1_5 a1_6 a1_7 t346 t347 t348 t349 t350 t351 t352 t353) else (cornucopialaw21_LayoutBack.j1 kj2 t344 t345 t354 t356 t357 (Op.bytesLess t345.toList t357.toList) a0_0 3 a0_2 a0_3 a0_4 a0_5 a0_6 a0_7 a1_0 3 a1_2 a1_3 a1_4 a1_5 a1_6 a1_7 t346 t347 t348 t349 t350 t351 t352 t353)) = some r := H
        have A38 := Aside0.mk A380
        clear A380
        have HC39 := Aside0.mk H
        clear H
        have hnb40 := NB337_338.out
        have hnc40 := NB338_337.out
        have hcz41_0 : wc.cell? ⟨gb337, 0, none⟩ = some (.string a0_0) := (blk_cell BK337.out 0).trans rfl
        have hcz41_1 : wc.cell? ⟨gb337, 1, none⟩ = some (.int .i64 a0_1) := (blk_cell BK337.out 1).trans rfl
        have hcz41_2 : wc.cell? ⟨gb337, 2, none⟩ = some (.string a0_2) := (blk_cell BK337.out 2).trans rfl
        have hcz41_3 : wc.cell? ⟨gb337, 3, none⟩ = some (.int .u8 a0_3) := (blk_cell BK337.out 3).trans rfl
        have hcz41_4 : wc.cell? ⟨gb337, 4, none⟩ = some (.int .u8 a0_4) := (blk_cell BK337.out 4).trans rfl
        have hcz41_5 : wc.cell? ⟨gb337, 5, none⟩ = some (.int .u8 a0_5) := (blk_cell BK337.out 5).trans rfl
        have hcz41_6 : wc.cell? ⟨gb337, 6, none⟩ = some (.int .u8 a0_6) := (blk_cell BK337.out 6).trans rfl
        have hcz41_7 : wc.cell? ⟨gb337, 7, none⟩ = some (.int .u64 a0_7) := (blk_cell BK337.out 7).trans rfl
        have hfz41_0 := blk_frozen BK337.out 0
        have hfz41_1 := blk_frozen BK337.out 1
        have hfz41_2 := blk_frozen BK337.out 2
        have hfz41_3 := blk_frozen BK337.out 3
        have hfz41_4 := blk_frozen BK337.out 4
        have hfz41_5 := blk_frozen BK337.out 5
        have hfz41_6 := blk_frozen BK337.out 6
        have hfz41_7 := blk_frozen BK337.out 7
        have hcz42_0 : wc.cell? ⟨gb338, 0, none⟩ = some (.string a1_0) := (blk_cell BK338.out 0).trans rfl
        have hcz42_1 : wc.cell? ⟨gb338, 1, none⟩ = some (.int .i64 a1_1) := (blk_cell BK338.out 1).trans rfl
        have hcz42_2 : wc.cell? ⟨gb338, 2, none⟩ = some (.string a1_2) := (blk_cell BK338.out 2).trans rfl
        have hcz42_3 : wc.cell? ⟨gb338, 3, none⟩ = some (.int .u8 a1_3) := (blk_cell BK338.out 3).trans rfl
        have hcz42_4 : wc.cell? ⟨gb338, 4, none⟩ = some (.int .u8 a1_4) := (blk_cell BK338.out 4).trans rfl
        have hcz42_5 : wc.cell? ⟨gb338, 5, none⟩ = some (.int .u8 a1_5) := (blk_cell BK338.out 5).trans rfl
        have hcz42_6 : wc.cell? ⟨gb338, 6, none⟩ = some (.int .u8 a1_6) := (blk_cell BK338.out 6).trans rfl
        have hcz42_7 : wc.cell? ⟨gb338, 7, none⟩ = some (.int .u64 a1_7) := (blk_cell BK338.out 7).trans rfl
        have hfz42_0 := blk_frozen BK338.out 0
        have hfz42_1 := blk_frozen BK338.out 1
        have hfz42_2 := blk_frozen BK338.out 2
        have hfz42_3 := blk_frozen BK338.out 3
        have hfz42_4 := blk_frozen BK338.out 4
        have hfz42_5 := blk_frozen BK338.out 5
        have hfz42_6 := blk_frozen BK338.out 6
        have hfz42_7 := blk_frozen BK338.out 7
        try go_wp2
        have n0_ : Aside0 (((wc.setCell ⟨gb337, 1, none⟩ (.int .i64 3)).setCell ⟨gb338, 1, none⟩ (.int .i64 3)).heap[gb337]? = some (.cells #[.string a0_0, .int .i64 3, .string a0_2, .int .u8 a0_3, .int .u8 a0_4, .int .u8 a0_5, .int .u8 a0_6, .int .u64 a0_7] 29 (0, 0))) := ⟨by (with_reducible repeat (first | refine blk_drewN ?_ _ | refine blk_drew ?_ | refine blk_alloc ?_ _)); refine blk_far ?_ NB337_338.out _; (with_reducible repeat (first | refine blk_drewN ?_ _ | refine blk_drew ?_ | refine blk_alloc ?_ _)); refine blk_put (cs := #[.string a0_0, .int .i64 a0_1, .string a0_2, .int .u8 a0_3, .int .u8 a0_4, .int .u8 a0_5, .int .u8 a0_6, .int .u64 a0_7]) ?_ 1 _ rfl; (with_reducible repeat (first | refine blk_drewN ?_ _ | refine blk_drew ?_ | refine blk_alloc ?_ _)); exact BK337.out⟩
        have n1_ : Aside0 (((wc.setCell ⟨gb337, 1, none⟩ (.int .i64 3)).setCell ⟨gb338, 1, none⟩ (.int .i64 3)).heap[gb338]? = some (.cells #[.string a1_0, .int .i64 3, .string a1_2, .int .u8 a1_3, .int .u8 a1_4, .int .u8 a1_5, .int .u8 a1_6, .int .u64 a1_7] 29 (0, 0))) := ⟨by (with_reducible repeat (first | refine blk_drewN ?_ _ | refine blk_drew ?_ | refine blk_alloc ?_ _)); refine blk_put (cs := #[.string a1_0, .int .i64 a1_1, .string a1_2, .int .u8 a1_3, .int .u8 a1_4, .int .u8 a1_5, .int .u8 a1_6, .int .u64 a1_7]) ?_ 1 _ rfl; (with_reducible repeat (first | refine blk_drewN ?_ _ | refine blk_drew ?_ | refine blk_alloc ?_ _)); refine blk_far ?_ NB338_337.out _; (with_reducible repeat (first | refine blk_drewN ?_ _ | refine blk_drew ?_ | refine blk_alloc ?_ _)); exact BK338.out⟩
        have n2_ : Aside0 (Below w.heap.size w ((wc.setCell ⟨gb337, 1, none⟩ (.int .i64 3)).setCell ⟨gb338, 1, none⟩ (.int .i64 3))) := ⟨by repeat (first | (with_reducible first | exact HB.out | apply below_alloc | apply pw_below_drewN | apply below_drew1 | refine below_set ?_ GE337.out | refine below_set ?_ GE338.out) | exact HB.out)⟩
        (try clear BK337)
        (try clear BK338)
        (try clear HB)
        generalize ((wc.setCell ⟨gb337, 1, none⟩ (.int .i64 3)).setCell ⟨gb338, 1, none⟩ (.int .i64 3)) = w43 at n0_ n1_ n2_ ⊢
        have BK337 := n0_
        have BK338 := n1_
        have HB := n2_
        clear n0_ n1_ n2_
        have n0_ := Aside0.mk (blk_drew BK337.out)
        have n1_ := Aside0.mk (blk_drew BK338.out)
        have n2_ := Aside0.mk (below_drew1 HB.out)
        clear BK337
        clear BK338
        clear HB
        have BK337 := n0_
        have BK338 := n1_
        have HB := n2_
        clear n0_ n1_ n2_
        refine start_ (n := 16) (S := fun w' => w'.cell? ⟨gb337, 0, none⟩ = some (.string a0_0) ∧ w'.cell? ⟨gb337, 1, none⟩ = some (.int .i64 3) ∧ w'.cell? ⟨gb337, 2, none⟩ = some (.string a0_2) ∧ w'.cell? ⟨gb337, 3, none⟩ = some (.int .u8 a0_3) ∧ w'.cell? ⟨gb337, 4, none⟩ = some (.int .u8 a0_4) ∧ w'.cell? ⟨gb337, 5, none⟩ = some (.int .u8 a0_5) ∧ w'.cell? ⟨gb337, 6, none⟩ = some (.int .u8 a0_6) ∧ w'.cell? ⟨gb337, 7, none⟩ = some (.int .u64 a0_7) ∧ w'.cell? ⟨gb338, 0, none⟩ = some (.string a1_0) ∧ w'.cell? ⟨gb338, 1, none⟩ = some (.int .i64 3) ∧ w'.cell? ⟨gb338, 2, none⟩ = some (.string a1_2) ∧ w'.cell? ⟨gb338, 3, none⟩ = some (.int .u8 a1_3) ∧ w'.cell? ⟨gb338, 4, none⟩ = some (.int .u8 a1_4) ∧ w'.cell? ⟨gb338, 5, none⟩ = some (.int .u8 a1_5) ∧ w'.cell? ⟨gb338, 6, none⟩ = some (.int .u8 a1_6) ∧ w'.cell? ⟨gb338, 7, none⟩ = some (.int .u64 a1_7)) (ds := []) #[false, false, false, false, false, false, false, false, false, false, false, false, false, false, false, false] (by kernel_rfl) rfl rfl ⟨(blk_cell BK337.out 0).trans rfl, (blk_cell BK337.out 1).trans rfl, (blk_cell BK337.out 2).trans rfl, (blk_cell BK337.out 3).trans rfl, (blk_cell BK337.out 4).trans rfl, (blk_cell BK337.out 5).trans rfl, (blk_cell BK337.out 6).trans rfl, (blk_cell BK337.out 7).trans rfl, (blk_cell BK338.out 0).trans rfl, (blk_cell BK338.out 1).trans rfl, (blk_cell BK338.out 2).trans rfl, (blk_cell BK338.out 3).trans rfl, (blk_cell BK338.out 4).trans rfl, (blk_cell BK338.out 5).trans rfl, (blk_cell BK338.out 6).trans rfl, (blk_cell BK338.out 7).trans rfl⟩ (fun hHeld => ?_); refine with_tabW cornucopialaw21_LayoutBack.tab4 cornucopialaw21_LayoutBack.bits4 (fun HT_ HW_ => ?_)
        generalize w43.drew = w44 at BK337 BK338 HB hHeld ⊢
        refine pure_ (i := 0) (N := some 53) (v := ?_) (a' := ?_) #[true, false, false, false, false, false, false, false, false, false, false, false, false, false, false, false] rfl rfl (any_of HT_.out (by kernel_rfl)) (fun _ _ _ h => h) (Or.inl ⟨by rfl, ?_⟩) ?_ ?_
        rotate_left
        · intro w'
          go_simp
          with_reducible rfl
        rotate_left
        · simp only [Act.put, List.setIfInBounds_toArray, List.set_cons_zero, List.set_cons_succ, i64_w, i32_w]
          rfl
        refine pure_ (i := 2) (N := some 55) (v := ?_) (a' := ?_) #[true, false, true, false, false, false, false, false, false, false, false, false, false, false, false, false] rfl rfl (any_of HT_.out (by kernel_rfl)) (fun _ _ _ h => h) (Or.inl ⟨by rfl, ?_⟩) ?_ ?_
        rotate_left
        · intro w'
          go_simp
          with_reducible rfl
        rotate_left
        · simp only [Act.put, List.setIfInBounds_toArray, List.set_cons_zero, List.set_cons_succ, i64_w, i32_w]
          rfl
        refine pure_ (i := 4) (N := some 57) (v := ?_) (a' := ?_) #[true, false, true, false, true, false, false, false, false, false, false, false, false, false, false, false] rfl rfl (any_of HT_.out (by kernel_rfl)) (fun _ _ _ h => h) (Or.inl ⟨by rfl, ?_⟩) ?_ ?_
        rotate_left
        · intro w'
          go_simp
          with_reducible rfl
        rotate_left
        · simp only [Act.put, List.setIfInBounds_toArray, List.set_cons_zero, List.set_cons_succ, i64_w, i32_w]
          rfl
        refine pure_ (i := 7) (N := some 60) (v := ?_) (a' := ?_) #[true, false, true, false, true, false, false, true, false, false, false, false, false, false, false, false] rfl rfl (any_of HT_.out (by kernel_rfl)) (fun _ _ _ h => h) (Or.inl ⟨by rfl, ?_⟩) ?_ ?_
        rotate_left
        · intro w'
          go_simp
          with_reducible rfl
        rotate_left
        · simp only [Act.put, List.setIfInBounds_toArray, List.set_cons_zero, List.set_cons_succ, i64_w, i32_w]
          rfl
        refine pure_ (i := 9) (N := some 62) (v := ?_) (a' := ?_) #[true, false, true, false, true, false, false, true, false, true, false, false, false, false, false, false] rfl rfl (any_of HT_.out (by kernel_rfl)) (fun _ _ _ h => h) (Or.inl ⟨by rfl, ?_⟩) ?_ ?_
        rotate_left
        · intro w'
          go_simp
          with_reducible rfl
        rotate_left
        · simp only [Act.put, List.setIfInBounds_toArray, List.set_cons_zero, List.set_cons_succ, i64_w, i32_w]
          rfl
        refine pure_ (i := 11) (N := some 64) (v := ?_) (a' := ?_) #[true, false, true, false, true, false, false, true, false, true, false, true, false, false, false, false] rfl rfl (any_of HT_.out (by kernel_rfl)) (fun _ _ _ h => h) (Or.inl ⟨by rfl, ?_⟩) ?_ ?_
        rotate_left
        · intro w'
          go_simp
          with_reducible rfl
        rotate_left
        · simp only [Act.put, List.setIfInBounds_toArray, List.set_cons_zero, List.set_cons_succ, i64_w, i32_w]
          rfl
        refine take_ (i := 1) (N := some 54) (v := ?_) (a' := ?_) #[true, true, true, false, true, false, false, true, false, true, false, true, false, false, false, false] rfl rfl (take_ofW HT_.out HW_.out (by kernel_rfl)) (fun _ _ _ h => h) (Or.inl ⟨by rfl, ?_⟩) hHeld ?_ ?_
        rotate_left
        · rintro w' ⟨s0, s1, s2, s3, s4, s5, s6, s7, s8, s9, s10, s11, s12, s13, s14, s15⟩
          go_simp
          with_reducible rfl
        rotate_left
        · simp only [Act.put, List.setIfInBounds_toArray, List.set_cons_zero, List.set_cons_succ, i64_w, i32_w]
          rfl
        refine take_ (i := 3) (N := some 56) (v := ?_) (a' := ?_) #[true, true, true, true, true, false, false, true, false, true, false, true, false, false, false, false] rfl rfl (take_ofW HT_.out HW_.out (by kernel_rfl)) (fun _ _ _ h => h) (Or.inl ⟨by rfl, ?_⟩) hHeld ?_ ?_
        rotate_left
        · rintro w' ⟨s0, s1, s2, s3, s4, s5, s6, s7, s8, s9, s10, s11, s12, s13, s14, s15⟩
          go_simp
          with_reducible rfl
        rotate_left
        · simp only [Act.put, List.setIfInBounds_toArray, List.set_cons_zero, List.set_cons_succ, i64_w, i32_w]
          rfl
        refine take_ (i := 5) (N := some 58) (v := ?_) (a' := ?_) #[true, true, true, true, true, true, false, true, false, true, false, true, false, false, false, false] rfl rfl (take_ofW HT_.out HW_.out (by kernel_rfl)) (fun _ _ _ h => h) (Or.inl ⟨by rfl, ?_⟩) hHeld ?_ ?_
        rotate_left
        · rintro w' ⟨s0, s1, s2, s3, s4, s5, s6, s7, s8, s9, s10, s11, s12, s13, s14, s15⟩
          go_simp
          with_reducible rfl
        rotate_left
        · simp only [Act.put, List.setIfInBounds_toArray, List.set_cons_zero, List.set_cons_succ, i64_w, i32_w]
          rfl
        refine take_ (i := 8) (N := some 61) (v := ?_) (a' := ?_) #[true, true, true, true, true, true, false, true, true, true, false, true, false, false, false, false] rfl rfl (take_ofW HT_.out HW_.out (by kernel_rfl)) (fun _ _ _ h => h) (Or.inl ⟨by rfl, ?_⟩) hHeld ?_ ?_
        rotate_left
        · rintro w' ⟨s0, s1, s2, s3, s4, s5, s6, s7, s8, s9, s10, s11, s12, s13, s14, s15⟩
          go_simp
          with_reducible rfl
        rotate_left
        · simp only [Act.put, List.setIfInBounds_toArray, List.set_cons_zero, List.set_cons_succ, i64_w, i32_w]
          rfl
        refine take_ (i := 10) (N := some 63) (v := ?_) (a' := ?_) #[true, true, true, true, true, true, false, true, true, true, true, true, false, false, false, false] rfl rfl (take_ofW HT_.out HW_.out (by kernel_rfl)) (fun _ _ _ h => h) (Or.inl ⟨by rfl, ?_⟩) hHeld ?_ ?_
        rotate_left
        · rintro w' ⟨s0, s1, s2, s3, s4, s5, s6, s7, s8, s9, s10, s11, s12, s13, s14, s15⟩
          go_simp
          with_reducible rfl
        rotate_left
        · simp only [Act.put, List.setIfInBounds_toArray, List.set_cons_zero, List.set_cons_succ, i64_w, i32_w]
          rfl
        refine take_ (i := 12) (N := some 65) (v := ?_) (a' := ?_) #[true, true, true, true, true, true, false, true, true, true, true, true, true, false, false, false] rfl rfl (take_ofW HT_.out HW_.out (by kernel_rfl)) (fun _ _ _ h => h) (Or.inl ⟨by rfl, ?_⟩) hHeld ?_ ?_
        rotate_left
        · rintro w' ⟨s0, s1, s2, s3, s4, s5, s6, s7, s8, s9, s10, s11, s12, s13, s14, s15⟩
          go_simp
          with_reducible rfl
        rotate_left
        · simp only [Act.put, List.setIfInBounds_toArray, List.set_cons_zero, List.set_cons_succ, i64_w, i32_w]
          rfl
        refine one_ (i := 6) (N := some 59) #[true, true, true, true, true, true, true, true, true, true, true, true, true, false, false, false] rfl rfl (one_of HT_.out (by kernel_rfl)) (by decide) (fun K hK => ?_)
        refine goes_ Tryd.func13 (by kernel_rfl) rfl #[.string a0_0, .string a0_2, .agg #[.int .u8 a0_3, .int .u8 a0_4, .int .u8 a0_5, .int .u8 a0_6, .int .u64 a0_7]] (by rfl) rfl rfl (by (try simp only [List.map_toArray, List.map_cons, List.map_nil]); first | done | rfl | (simp only [List.length_drop, List.length_take]; rfl)) ?_
        with_reducible refine (layout_ElemKey.calls kj2 a0_0 a0_2 a0_3 a0_4 a0_5 a0_6 a0_7 t344 _ A35.out).mono ?_
        rintro e w45 ⟨rfl, hb⟩
        refine ⟨_, rfl, ?_⟩
        have n0_ := Aside0.mk (blk_below (g := gb337) (o := .cells #[.string a0_0, .int .i64 3, .string a0_2, .int .u8 a0_3, .int .u8 a0_4, .int .u8 a0_5, .int .u8 a0_6, .int .u64 a0_7] 29 (0, 0)) (by (with_reducible repeat (first | refine blk_drewN ?_ _ | refine blk_drew ?_ | refine blk_alloc ?_ _)); exact BK337.out) hb)
        have n1_ := Aside0.mk (blk_below (g := gb338) (o := .cells #[.string a1_0, .int .i64 3, .string a1_2, .int .u8 a1_3, .int .u8 a1_4, .int .u8 a1_5, .int .u8 a1_6, .int .u64 a1_7] 29 (0, 0)) (by (with_reducible repeat (first | refine blk_drewN ?_ _ | refine blk_drew ?_ | refine blk_alloc ?_ _)); exact BK338.out) hb)
        have n2_ := Aside0.mk (below_step (by repeat (first | (with_reducible first | exact HB.out | apply below_alloc | apply pw_below_drewN | apply below_drew1 | refine below_set ?_ GE337.out | refine below_set ?_ GE338.out) | exact HB.out)) hb)
        clear BK337
        clear BK338
        clear HB
        have BK337 := n0_
        have BK338 := n1_
        have HB := n2_
        clear n0_ n1_ n2_
        (try clear hb)
        (try clear hb2)
        (try clear hk)
        (try clear hi)
        refine hK.out _ _ ⟨(blk_cell BK337.out 0).trans rfl, (blk_cell BK337.out 1).trans rfl, (blk_cell BK337.out 2).trans rfl, (blk_cell BK337.out 3).trans rfl, (blk_cell BK337.out 4).trans rfl, (blk_cell BK337.out 5).trans rfl, (blk_cell BK337.out 6).trans rfl, (blk_cell BK337.out 7).trans rfl, (blk_cell BK338.out 0).trans rfl, (blk_cell BK338.out 1).trans rfl, (blk_cell BK338.out 2).trans rfl, (blk_cell BK338.out 3).trans rfl, (blk_cell BK338.out 4).trans rfl, (blk_cell BK338.out 5).trans rfl, (blk_cell BK338.out 6).trans rfl, (blk_cell BK338.out 7).trans rfl⟩ (fun hHeld => ?_)
        clear hK K
        refine norm_ (a' := ?_) ?_ ?_
        rotate_left
        · show Act.put _ (some 59) _ = _
          simp only [Act.put, List.setIfInBounds_toArray, List.set_cons_zero, List.set_cons_succ, i64_w, i32_w]
          rfl
        refine one_ (i := 13) (N := some 66) #[true, true, true, true, true, true, true, true, true, true, true, true, true, true, false, false] rfl rfl (one_of HT_.out (by kernel_rfl)) (by decide) (fun K hK => ?_)
        refine goes_ Tryd.func13 (by kernel_rfl) rfl #[.string a1_0, .string a1_2, .agg #[.int .u8 a1_3, .int .u8 a1_4, .int .u8 a1_5, .int .u8 a1_6, .int .u64 a1_7]] (by rfl) rfl rfl (by (try simp only [List.map_toArray, List.map_cons, List.map_nil]); first | done | rfl | (simp only [List.length_drop, List.length_take]; rfl)) ?_
        with_reducible refine (layout_ElemKey.calls kj2 a1_0 a1_2 a1_3 a1_4 a1_5 a1_6 a1_7 t345 _ A36.out).mono ?_
        rintro e w46 ⟨rfl, hb⟩
        refine ⟨_, rfl, ?_⟩
        have n0_ := Aside0.mk (blk_below (g := gb337) (o := .cells #[.string a0_0, .int .i64 3, .string a0_2, .int .u8 a0_3, .int .u8 a0_4, .int .u8 a0_5, .int .u8 a0_6, .int .u64 a0_7] 29 (0, 0)) (by (with_reducible repeat (first | refine blk_drewN ?_ _ | refine blk_drew ?_ | refine blk_alloc ?_ _)); exact BK337.out) hb)
        have n1_ := Aside0.mk (blk_below (g := gb338) (o := .cells #[.string a1_0, .int .i64 3, .string a1_2, .int .u8 a1_3, .int .u8 a1_4, .int .u8 a1_5, .int .u8 a1_6, .int .u64 a1_7] 29 (0, 0)) (by (with_reducible repeat (first | refine blk_drewN ?_ _ | refine blk_drew ?_ | refine blk_alloc ?_ _)); exact BK338.out) hb)
        have n2_ := Aside0.mk (below_step (by repeat (first | (with_reducible first | exact HB.out | apply below_alloc | apply pw_below_drewN | apply below_drew1 | refine below_set ?_ GE337.out | refine below_set ?_ GE338.out) | exact HB.out)) hb)
        clear BK337
        clear BK338
        clear HB
        have BK337 := n0_
        have BK338 := n1_
        have HB := n2_
        clear n0_ n1_ n2_
        (try clear hb)
        (try clear hb2)
        (try clear hk)
        (try clear hi)
        refine hK.out _ _ ⟨(blk_cell BK337.out 0).trans rfl, (blk_cell BK337.out 1).trans rfl, (blk_cell BK337.out 2).trans rfl, (blk_cell BK337.out 3).trans rfl, (blk_cell BK337.out 4).trans rfl, (blk_cell BK337.out 5).trans rfl, (blk_cell BK337.out 6).trans rfl, (blk_cell BK337.out 7).trans rfl, (blk_cell BK338.out 0).trans rfl, (blk_cell BK338.out 1).trans rfl, (blk_cell BK338.out 2).trans rfl, (blk_cell BK338.out 3).trans rfl, (blk_cell BK338.out 4).trans rfl, (blk_cell BK338.out 5).trans rfl, (blk_cell BK338.out 6).trans rfl, (blk_cell BK338.out 7).trans rfl⟩ (fun hHeld => ?_)
        clear hK K
        refine norm_ (a' := ?_) ?_ ?_
        rotate_left
        · show Act.put _ (some 66) _ = _
          simp only [Act.put, List.setIfInBounds_toArray, List.set_cons_zero, List.set_cons_succ, i64_w, i32_w]
          rfl
        refine pure_ (i := 14) (N := some 5) (v := ?_) (a' := ?_) #[true, true, true, true, true, true, true, true, true, true, true, true, true, true, true, false] rfl rfl (any_of HT_.out (by kernel_rfl)) (fun _ _ _ h => h) (Or.inl ⟨by rfl, ?_⟩) ?_ ?_
        rotate_left
        · intro w'
          go_simp
          with_reducible rfl
        rotate_left
        · simp only [Act.put, List.setIfInBounds_toArray, List.set_cons_zero, List.set_cons_succ, i64_w, i32_w]
          rfl
        refine pure_ (i := 15) (N := some 6) (v := ?_) (a' := ?_) #[true, true, true, true, true, true, true, true, true, true, true, true, true, true, true, true] rfl rfl (any_of HT_.out (by kernel_rfl)) (fun _ _ _ h => h) (Or.inl ⟨by rfl, ?_⟩) ?_ ?_
        rotate_left
        · intro w'
          go_simp
          with_reducible rfl
        rotate_left
        · simp only [Act.put, List.setIfInBounds_toArray, List.set_cons_zero, List.set_cons_succ, i64_w, i32_w]
          rfl
        refine done_ (done_of HT_.out (by kernel_rfl)) ?_
        go_upto_region 7 with (first | ((with_reducible refine gate_callee (f := 7) rfl ?_); refine goesL_ (some 69) rfl rfl Tryd.func7 (by kernel_rfl) rfl #[.string t344] rfl (by (try simp only [List.map_toArray, List.map_cons, List.map_nil]); first | done | rfl | (simp only [List.length_drop, List.length_take]; rfl)) ?_; (with_reducible refine (layout_Parse.calls kj2 t344 t346 t347 t348 t349 t350 t351 t352 t353 t354 _ A37.out).mono ?_); rintro e w47 ⟨rfl, hb⟩; refine ⟨_, rfl, ?_⟩; have n0_ := Aside0.mk (blk_below (g := gb337) (o := .cells #[.string a0_0, .int .i64 3, .string a0_2, .int .u8 a0_3, .int .u8 a0_4, .int .u8 a0_5, .int .u8 a0_6, .int .u64 a0_7] 29 (0, 0)) (by (with_reducible repeat (first | refine blk_drewN ?_ _ | refine blk_drew ?_ | refine blk_alloc ?_ _)); exact BK337.out) hb); have n1_ := Aside0.mk (blk_below (g := gb338) (o := .cells #[.string a1_0, .int .i64 3, .string a1_2, .int .u8 a1_3, .int .u8 a1_4, .int .u8 a1_5, .int .u8 a1_6, .int .u64 a1_7] 29 (0, 0)) (by (with_reducible repeat (first | refine blk_drewN ?_ _ | refine blk_drew ?_ | refine blk_alloc ?_ _)); exact BK338.out) hb); have n2_ := Aside0.mk (below_step (by repeat (first | (with_reducible first | exact HB.out | apply below_alloc | apply pw_below_drewN | apply below_drew1 | refine below_set ?_ GE337.out | refine below_set ?_ GE338.out) | exact HB.out)) hb); clear BK337; clear BK338; clear HB; have BK337 := n0_; have BK338 := n1_; have HB := n2_; clear n0_ n1_ n2_; (try clear hb); (try clear hb2); (try clear hk); (try clear hi)) | ((with_reducible refine gate_dst (N := 7) rfl ?_); refine box_event ?hg (N := 7) ?hd (cs := #[.string (⟨#[]⟩ : ByteArray), .int .i64 0, .string (⟨#[]⟩ : ByteArray), .int .u8 0, .int .u8 0, .int .u8 0, .int .u8 0, .int .u64 0]) (t := 29) ?hr ?_; (case hd => rfl); (case hg => rfl); (case hr => first | (go_simp; done) | (go_simp; rfl)); intro gb355 hg w48 hbox hb; have n0_ := Aside0.mk (blk_below (g := gb337) (o := .cells #[.string a0_0, .int .i64 3, .string a0_2, .int .u8 a0_3, .int .u8 a0_4, .int .u8 a0_5, .int .u8 a0_6, .int .u64 a0_7] 29 (0, 0)) (by (with_reducible repeat (first | refine blk_drewN ?_ _ | refine blk_drew ?_ | refine blk_alloc ?_ _)); exact BK337.out) hb); have n1_ := Aside0.mk (blk_below (g := gb338) (o := .cells #[.string a1_0, .int .i64 3, .string a1_2, .int .u8 a1_3, .int .u8 a1_4, .int .u8 a1_5, .int .u8 a1_6, .int .u64 a1_7] 29 (0, 0)) (by (with_reducible repeat (first | refine blk_drewN ?_ _ | refine blk_drew ?_ | refine blk_alloc ?_ _)); exact BK338.out) hb); have n2_ := Aside0.mk (below_step (by repeat (first | (with_reducible first | exact HB.out | apply below_alloc | apply pw_below_drewN | apply below_drew1 | refine below_set ?_ GE337.out | refine below_set ?_ GE338.out) | exact HB.out)) hb); have n3_ := Aside0.mk (hbox); have n4_ := Aside0.mk ((by rw [hg]; exact (below_size (by repeat (first | (with_reducible first | exact HB.out | apply below_alloc | apply pw_below_drewN | apply below_drew1 | refine below_set ?_ GE337.out | refine below_set ?_ GE338.out) | exact HB.out))) : w.heap.size ≤ gb355)); have n5_ := Aside0.mk ((by rw [hg]; exact (below_size (by repeat (first | (with_reducible first | exact HB.out | apply below_alloc | apply pw_below_drewN | apply below_drew1 | refine below_set ?_ GE337.out | refine below_set ?_ GE338.out) | exact HB.out))) : w.heap.size ≤ gb355)); have n6_ := Aside0.mk ((by rw [hg]; exact Nat.ne_of_lt (blk_lt (g := gb337) (o := .cells #[.string a0_0, .int .i64 3, .string a0_2, .int .u8 a0_3, .int .u8 a0_4, .int .u8 a0_5, .int .u8 a0_6, .int .u64 a0_7] 29 (0, 0)) (by (with_reducible repeat (first | refine blk_drewN ?_ _ | refine blk_drew ?_ | refine blk_alloc ?_ _)); exact BK337.out)) : gb337 ≠ gb355)); have n7_ := Aside0.mk ((by rw [hg]; exact Nat.ne_of_gt (blk_lt (g := gb337) (o := .cells #[.string a0_0, .int .i64 3, .string a0_2, .int .u8 a0_3, .int .u8 a0_4, .int .u8 a0_5, .int .u8 a0_6, .int .u64 a0_7] 29 (0, 0)) (by (with_reducible repeat (first | refine blk_drewN ?_ _ | refine blk_drew ?_ | refine blk_alloc ?_ _)); exact BK337.out)) : gb355 ≠ gb337)); have n8_ := Aside0.mk ((by rw [hg]; exact Nat.ne_of_lt (blk_lt (g := gb338) (o := .cells #[.string a1_0, .int .i64 3, .string a1_2, .int .u8 a1_3, .int .u8 a1_4, .int .u8 a1_5, .int .u8 a1_6, .int .u64 a1_7] 29 (0, 0)) (by (with_reducible repeat (first | refine blk_drewN ?_ _ | refine blk_drew ?_ | refine blk_alloc ?_ _)); exact BK338.out)) : gb338 ≠ gb355)); have n9_ := Aside0.mk ((by rw [hg]; exact Nat.ne_of_gt (blk_lt (g := gb338) (o := .cells #[.string a1_0, .int .i64 3, .string a1_2, .int .u8 a1_3, .int .u8 a1_4, .int .u8 a1_5, .int .u8 a1_6, .int .u64 a1_7] 29 (0, 0)) (by (with_reducible repeat (first | refine blk_drewN ?_ _ | refine blk_drew ?_ | refine blk_alloc ?_ _)); exact BK338.out)) : gb355 ≠ gb338)); clear BK337; clear BK338; clear HB; have BK337 := n0_; have BK338 := n1_; have HB := n2_; have BK355 := n3_; have GW355 := n4_; have GE355 := n5_; have NB337_355 := n6_; have NB355_337 := n7_; have NB338_355 := n8_; have NB355_338 := n9_; clear n0_ n1_ n2_ n3_ n4_ n5_ n6_ n7_ n8_ n9_; clear hb hbox hg; have hnb49 := NB355_337.out; have hnc49 := NB337_355.out; have hnb50 := NB355_338.out; have hnc50 := NB338_355.out; have hcz51_0 : w48.cell? ⟨gb355, 0, none⟩ = some (.string (⟨#[]⟩ : ByteArray)) := (blk_cell BK355.out 0).trans rfl; have hcz51_1 : w48.cell? ⟨gb355, 1, none⟩ = some (.int .i64 0) := (blk_cell BK355.out 1).trans rfl; have hcz51_2 : w48.cell? ⟨gb355, 2, none⟩ = some (.string (⟨#[]⟩ : ByteArray)) := (blk_cell BK355.out 2).trans rfl; have hcz51_3 : w48.cell? ⟨gb355, 3, none⟩ = some (.int .u8 0) := (blk_cell BK355.out 3).trans rfl; have hcz51_4 : w48.cell? ⟨gb355, 4, none⟩ = some (.int .u8 0) := (blk_cell BK355.out 4).trans rfl; have hcz51_5 : w48.cell? ⟨gb355, 5, none⟩ = some (.int .u8 0) := (blk_cell BK355.out 5).trans rfl; have hcz51_6 : w48.cell? ⟨gb355, 6, none⟩ = some (.int .u8 0) := (blk_cell BK355.out 6).trans rfl; have hcz51_7 : w48.cell? ⟨gb355, 7, none⟩ = some (.int .u64 0) := (blk_cell BK355.out 7).trans rfl; have hfz51_0 := blk_frozen BK355.out 0; have hfz51_1 := blk_frozen BK355.out 1; have hfz51_2 := blk_frozen BK355.out 2; have hfz51_3 := blk_frozen BK355.out 3; have hfz51_4 := blk_frozen BK355.out 4; have hfz51_5 := blk_frozen BK355.out 5; have hfz51_6 := blk_frozen BK355.out 6; have hfz51_7 := blk_frozen BK355.out 7; have hcz52_0 : w48.cell? ⟨gb337, 0, none⟩ = some (.string a0_0) := (blk_cell BK337.out 0).trans rfl; have hcz52_1 : w48.cell? ⟨gb337, 1, none⟩ = some (.int .i64 3) := (blk_cell BK337.out 1).trans rfl; have hcz52_2 : w48.cell? ⟨gb337, 2, none⟩ = some (.string a0_2) := (blk_cell BK337.out 2).trans rfl; have hcz52_3 : w48.cell? ⟨gb337, 3, none⟩ = some (.int .u8 a0_3) := (blk_cell BK337.out 3).trans rfl; have hcz52_4 : w48.cell? ⟨gb337, 4, none⟩ = some (.int .u8 a0_4) := (blk_cell BK337.out 4).trans rfl; have hcz52_5 : w48.cell? ⟨gb337, 5, none⟩ = some (.int .u8 a0_5) := (blk_cell BK337.out 5).trans rfl; have hcz52_6 : w48.cell? ⟨gb337, 6, none⟩ = some (.int .u8 a0_6) := (blk_cell BK337.out 6).trans rfl; have hcz52_7 : w48.cell? ⟨gb337, 7, none⟩ = some (.int .u64 a0_7) := (blk_cell BK337.out 7).trans rfl; have hfz52_0 := blk_frozen BK337.out 0; have hfz52_1 := blk_frozen BK337.out 1; have hfz52_2 := blk_frozen BK337.out 2; have hfz52_3 := blk_frozen BK337.out 3; have hfz52_4 := blk_frozen BK337.out 4; have hfz52_5 := blk_frozen BK337.out 5; have hfz52_6 := blk_frozen BK337.out 6; have hfz52_7 := blk_frozen BK337.out 7) | ((with_reducible refine gate_callee (f := 9) rfl ?_); refine goesL_ (some 75) rfl rfl Tryd.func9 (by kernel_rfl) rfl #[.string a0_0] rfl (by (try simp only [List.map_toArray, List.map_cons, List.map_nil]); first | done | rfl | (simp only [List.length_drop, List.length_take]; rfl)) ?_; (with_reducible refine (layout_Ends.calls kj2 a0_0 t356 t357 _ A38.out).mono ?_); rintro e w53 ⟨rfl, hb⟩; refine ⟨_, rfl, ?_⟩; have n0_ := Aside0.mk (blk_below (g := gb337) (o := .cells #[.string a0_0, .int .i64 3, .string a0_2, .int .u8 a0_3, .int .u8 a0_4, .int .u8 a0_5, .int .u8 a0_6, .int .u64 a0_7] 29 (0, 0)) (by (with_reducible repeat (first | refine blk_drewN ?_ _ | refine blk_drew ?_ | refine blk_alloc ?_ _)); refine blk_far ?_ NB337_355.out _; (with_reducible repeat (first | refine blk_drewN ?_ _ | refine blk_drew ?_ | refine blk_alloc ?_ _)); refine blk_far ?_ NB337_355.out _; (with_reducible repeat (first | refine blk_drewN ?_ _ | refine blk_drew ?_ | refine blk_alloc ?_ _)); refine blk_far ?_ NB337_355.out _; (with_reducible repeat (first | refine blk_drewN ?_ _ | refine blk_drew ?_ | refine blk_alloc ?_ _)); refine blk_far ?_ NB337_355.out _; (with_reducible repeat (first | refine blk_drewN ?_ _ | refine blk_drew ?_ | refine blk_alloc ?_ _)); refine blk_far ?_ NB337_355.out _; (with_reducible repeat (first | refine blk_drewN ?_ _ | refine blk_drew ?_ | refine blk_alloc ?_ _)); refine blk_far ?_ NB337_355.out _; (with_reducible repeat (first | refine blk_drewN ?_ _ | refine blk_drew ?_ | refine blk_alloc ?_ _)); refine blk_far ?_ NB337_355.out _; (with_reducible repeat (first | refine blk_drewN ?_ _ | refine blk_drew ?_ | refine blk_alloc ?_ _)); refine blk_far ?_ NB337_355.out _; (with_reducible repeat (first | refine blk_drewN ?_ _ | refine blk_drew ?_ | refine blk_alloc ?_ _)); exact BK337.out) hb); have n1_ := Aside0.mk (blk_below (g := gb338) (o := .cells #[.string a1_0, .int .i64 3, .string a1_2, .int .u8 a1_3, .int .u8 a1_4, .int .u8 a1_5, .int .u8 a1_6, .int .u64 a1_7] 29 (0, 0)) (by (with_reducible repeat (first | refine blk_drewN ?_ _ | refine blk_drew ?_ | refine blk_alloc ?_ _)); refine blk_far ?_ NB338_355.out _; (with_reducible repeat (first | refine blk_drewN ?_ _ | refine blk_drew ?_ | refine blk_alloc ?_ _)); refine blk_far ?_ NB338_355.out _; (with_reducible repeat (first | refine blk_drewN ?_ _ | refine blk_drew ?_ | refine blk_alloc ?_ _)); refine blk_far ?_ NB338_355.out _; (with_reducible repeat (first | refine blk_drewN ?_ _ | refine blk_drew ?_ | refine blk_alloc ?_ _)); refine blk_far ?_ NB338_355.out _; (with_reducible repeat (first | refine blk_drewN ?_ _ | refine blk_drew ?_ | refine blk_alloc ?_ _)); refine blk_far ?_ NB338_355.out _; (with_reducible repeat (first | refine blk_drewN ?_ _ | refine blk_drew ?_ | refine blk_alloc ?_ _)); refine blk_far ?_ NB338_355.out _; (with_reducible repeat (first | refine blk_drewN ?_ _ | refine blk_drew ?_ | refine blk_alloc ?_ _)); refine blk_far ?_ NB338_355.out _; (with_reducible repeat (first | refine blk_drewN ?_ _ | refine blk_drew ?_ | refine blk_alloc ?_ _)); refine blk_far ?_ NB338_355.out _; (with_reducible repeat (first | refine blk_drewN ?_ _ | refine blk_drew ?_ | refine blk_alloc ?_ _)); exact BK338.out) hb); have n2_ := Aside0.mk (blk_below (g := gb355) (o := .cells #[.string t346, .int .i64 t347, .string t348, .int .u8 t349, .int .u8 t350, .int .u8 t351, .int .u8 t352, .int .u64 t353] 29 (0, 0)) (by (with_reducible repeat (first | refine blk_drewN ?_ _ | refine blk_drew ?_ | refine blk_alloc ?_ _)); refine blk_put (cs := #[.string t346, .int .i64 t347, .string t348, .int .u8 t349, .int .u8 t350, .int .u8 t351, .int .u8 t352, .int .u64 0]) ?_ 7 _ rfl; (with_reducible repeat (first | refine blk_drewN ?_ _ | refine blk_drew ?_ | refine blk_alloc ?_ _)); refine blk_put (cs := #[.string t346, .int .i64 t347, .string t348, .int .u8 t349, .int .u8 t350, .int .u8 t351, .int .u8 0, .int .u64 0]) ?_ 6 _ rfl; (with_reducible repeat (first | refine blk_drewN ?_ _ | refine blk_drew ?_ | refine blk_alloc ?_ _)); refine blk_put (cs := #[.string t346, .int .i64 t347, .string t348, .int .u8 t349, .int .u8 t350, .int .u8 0, .int .u8 0, .int .u64 0]) ?_ 5 _ rfl; (with_reducible repeat (first | refine blk_drewN ?_ _ | refine blk_drew ?_ | refine blk_alloc ?_ _)); refine blk_put (cs := #[.string t346, .int .i64 t347, .string t348, .int .u8 t349, .int .u8 0, .int .u8 0, .int .u8 0, .int .u64 0]) ?_ 4 _ rfl; (with_reducible repeat (first | refine blk_drewN ?_ _ | refine blk_drew ?_ | refine blk_alloc ?_ _)); refine blk_put (cs := #[.string t346, .int .i64 t347, .string t348, .int .u8 0, .int .u8 0, .int .u8 0, .int .u8 0, .int .u64 0]) ?_ 3 _ rfl; (with_reducible repeat (first | refine blk_drewN ?_ _ | refine blk_drew ?_ | refine blk_alloc ?_ _)); refine blk_put (cs := #[.string t346, .int .i64 t347, .string (⟨#[]⟩ : ByteArray), .int .u8 0, .int .u8 0, .int .u8 0, .int .u8 0, .int .u64 0]) ?_ 2 _ rfl; (with_reducible repeat (first | refine blk_drewN ?_ _ | refine blk_drew ?_ | refine blk_alloc ?_ _)); refine blk_put (cs := #[.string t346, .int .i64 0, .string (⟨#[]⟩ : ByteArray), .int .u8 0, .int .u8 0, .int .u8 0, .int .u8 0, .int .u64 0]) ?_ 1 _ rfl; (with_reducible repeat (first | refine blk_drewN ?_ _ | refine blk_drew ?_ | refine blk_alloc ?_ _)); refine blk_put (cs := #[.string (⟨#[]⟩ : ByteArray), .int .i64 0, .string (⟨#[]⟩ : ByteArray), .int .u8 0, .int .u8 0, .int .u8 0, .int .u8 0, .int .u64 0]) ?_ 0 _ rfl; (with_reducible repeat (first | refine blk_drewN ?_ _ | refine blk_drew ?_ | refine blk_alloc ?_ _)); exact BK355.out) hb); have n3_ := Aside0.mk (below_step (by repeat (first | (with_reducible first | exact HB.out | apply below_alloc | apply pw_below_drewN | apply below_drew1 | refine below_set ?_ GE337.out | refine below_set ?_ GE338.out | refine below_set ?_ GE355.out) | exact HB.out)) hb); clear BK337; clear BK338; clear BK355; clear HB; have BK337 := n0_; have BK338 := n1_; have BK355 := n2_; have HB := n3_; clear n0_ n1_ n2_ n3_; (try clear hb); (try clear hb2); (try clear hk); (try clear hi)))
        (try simp only [Act.put, List.setIfInBounds_toArray, List.set_cons_zero, List.set_cons_succ])
        go_cut [11] (fun v11 wc => ∃ (kq : Nat) (x11_38 : Bool), v11 = .bool x11_38 ∧ Aside0 (cornucopialaw21_LayoutBack.j1 kq t344 t345 t354 t356 t357 x11_38 a0_0 3 a0_2 a0_3 a0_4 a0_5 a0_6 a0_7 a1_0 3 a1_2 a1_3 a1_4 a1_5 a1_6 a1_7 t346 t347 t348 t349 t350 t351 t352 t353 = some r) ∧ Aside0 (kq ≤ kj2) ∧ Aside0 (wc.heap[gb337]? = some (.cells #[.string a0_0, .int .i64 3, .string a0_2, .int .u8 a0_3, .int .u8 a0_4, .int .u8 a0_5, .int .u8 a0_6, .int .u64 a0_7] 29 (0, 0))) ∧ Aside0 (wc.heap[gb338]? = some (.cells #[.string a1_0, .int .i64 3, .string a1_2, .int .u8 a1_3, .int .u8 a1_4, .int .u8 a1_5, .int .u8 a1_6, .int .u64 a1_7] 29 (0, 0))) ∧ Aside0 (wc.heap[gb355]? = some (.cells #[.string t346, .int .i64 t347, .string t348, .int .u8 t349, .int .u8 t350, .int .u8 t351, .int .u8 t352, .int .u64 t353] 29 (0, 0))) ∧ Aside0 (Below w.heap.size w wc))
        case first =>
          have H := HC39.out
          clear HC39
          by_cases c54 : ((Op.bytesLess t345.toList t356.toList) = true)
          · rw [if_pos c54] at H
            have c54b0 : (Op.bytesLess t345.toList t356.toList) = true := c54
            clear c54
            (first | rw [c54b0] | (simp only [i64_w, i32_w]; rw [c54b0]) | skip)
            have H' := Aside0.mk H
            clear H
            go_wp2
            go_meet
            case rel => exact ⟨_, (false), (by first | rfl | (simp; done) | (simp [*]; done)), H', ⟨by have := HJ2.out; first | omega | exact Nat.le_refl _⟩, ⟨by (with_reducible repeat (first | refine blk_drewN ?_ _ | refine blk_drew ?_ | refine blk_alloc ?_ _)); exact BK337.out⟩, ⟨by (with_reducible repeat (first | refine blk_drewN ?_ _ | refine blk_drew ?_ | refine blk_alloc ?_ _)); exact BK338.out⟩, ⟨by (with_reducible repeat (first | refine blk_drewN ?_ _ | refine blk_drew ?_ | refine blk_alloc ?_ _)); exact BK355.out⟩, ⟨by repeat (first | (with_reducible first | exact HB.out | apply below_alloc | apply pw_below_drewN | apply below_drew1 | refine below_set ?_ GE337.out | refine below_set ?_ GE338.out | refine below_set ?_ GE355.out) | exact HB.out)⟩⟩
          · rw [if_neg c54] at H
            have c54b0 : (Op.bytesLess t345.toList t356.toList) = false := by simpa using c54
            clear c54
            (first | rw [c54b0] | (simp only [i64_w, i32_w]; rw [c54b0]) | skip)
            have H' := Aside0.mk H
            clear H
            go_wp2
            go_meet
            case rel => exact ⟨_, ((Op.bytesLess t345.toList t357.toList)), (by first | rfl | (simp; done) | (simp [*]; done)), H', ⟨by have := HJ2.out; first | omega | exact Nat.le_refl _⟩, ⟨by (with_reducible repeat (first | refine blk_drewN ?_ _ | refine blk_drew ?_ | refine blk_alloc ?_ _)); exact BK337.out⟩, ⟨by (with_reducible repeat (first | refine blk_drewN ?_ _ | refine blk_drew ?_ | refine blk_alloc ?_ _)); exact BK338.out⟩, ⟨by (with_reducible repeat (first | refine blk_drewN ?_ _ | refine blk_drew ?_ | refine blk_alloc ?_ _)); exact BK355.out⟩, ⟨by repeat (first | (with_reducible first | exact HB.out | apply below_alloc | apply pw_below_drewN | apply below_drew1 | refine below_set ?_ GE337.out | refine below_set ?_ GE338.out | refine below_set ?_ GE355.out) | exact HB.out)⟩⟩
        case rest =>
          clear HC39
          try clear c1
          try clear c2
          try clear p2
          try clear c3
          try clear c4
          try clear c5
          try clear c6
          try clear c7
          try clear c9
          try clear c11
          try clear c13
          try clear c14
          try clear c14b0
          try clear c14b1
          try clear c15
          try clear c17
          try clear c18
          try clear c21
          try clear c24
          try clear c27
          try clear c30
          try clear c32
          try clear c40
          try clear c49
          try clear c50
          try clear c54
          try clear c54b0
          try clear hcz16_0
          try clear hcz16_1
          try clear hcz16_2
          try clear hcz16_3
          try clear hcz16_4
          try clear hcz16_5
          try clear hcz16_6
          try clear hcz16_7
          try clear hcz17_0
          try clear hcz17_1
          try clear hcz17_2
          try clear hcz17_3
          try clear hcz17_4
          try clear hcz17_5
          try clear hcz17_6
          try clear hcz17_7
          try clear hcz19_0
          try clear hcz19_1
          try clear hcz19_2
          try clear hcz19_3
          try clear hcz19_4
          try clear hcz19_5
          try clear hcz19_6
          try clear hcz19_7
          try clear hcz20_0
          try clear hcz20_1
          try clear hcz20_2
          try clear hcz20_3
          try clear hcz20_4
          try clear hcz20_5
          try clear hcz20_6
          try clear hcz20_7
          try clear hcz22_0
          try clear hcz22_1
          try clear hcz22_2
          try clear hcz22_3
          try clear hcz22_4
          try clear hcz22_5
          try clear hcz22_6
          try clear hcz22_7
          try clear hcz23_0
          try clear hcz23_1
          try clear hcz23_2
          try clear hcz23_3
          try clear hcz23_4
          try clear hcz23_5
          try clear hcz23_6
          try clear hcz23_7
          try clear hcz25_0
          try clear hcz25_1
          try clear hcz25_2
          try clear hcz25_3
          try clear hcz25_4
          try clear hcz25_5
          try clear hcz25_6
          try clear hcz25_7
          try clear hcz26_0
          try clear hcz26_1
          try clear hcz26_2
          try clear hcz26_3
          try clear hcz26_4
          try clear hcz26_5
          try clear hcz26_6
          try clear hcz26_7
          try clear hcz28_0
          try clear hcz28_1
          try clear hcz28_2
          try clear hcz28_3
          try clear hcz28_4
          try clear hcz28_5
          try clear hcz28_6
          try clear hcz28_7
          try clear hcz29_0
          try clear hcz29_1
          try clear hcz29_2
          try clear hcz29_3
          try clear hcz29_4
          try clear hcz29_5
          try clear hcz29_6
          try clear hcz29_7
          try clear hcz31_0
          try clear hcz31_1
          try clear hcz31_2
          try clear hcz31_3
          try clear hcz31_4
          try clear hcz31_5
          try clear hcz31_6
          try clear hcz31_7
          try clear hcz41_0
          try clear hcz41_1
          try clear hcz41_2
          try clear hcz41_3
          try clear hcz41_4
          try clear hcz41_5
          try clear hcz41_6
          try clear hcz41_7
          try clear hcz42_0
          try clear hcz42_1
          try clear hcz42_2
          try clear hcz42_3
          try clear hcz42_4
          try clear hcz42_5
          try clear hcz42_6
          try clear hcz42_7
          try clear hcz51_0
          try clear hcz51_1
          try clear hcz51_2
          try clear hcz51_3
          try clear hcz51_4
          try clear hcz51_5
          try clear hcz51_6
          try clear hcz51_7
          try clear hcz52_0
          try clear hcz52_1
          try clear hcz52_2
          try clear hcz52_3
          try clear hcz52_4
          try clear hcz52_5
          try clear hcz52_6
          try clear hcz52_7
          try clear hfz16_0
          try clear hfz16_1
          try clear hfz16_2
          try clear hfz16_3
          try clear hfz16_4
          try clear hfz16_5
          try clear hfz16_6
          try clear hfz16_7
          try clear hfz17_0
          try clear hfz17_1
          try clear hfz17_2
          try clear hfz17_3
          try clear hfz17_4
          try clear hfz17_5
          try clear hfz17_6
          try clear hfz17_7
          try clear hfz19_0
          try clear hfz19_1
          try clear hfz19_2
          try clear hfz19_3
          try clear hfz19_4
          try clear hfz19_5
          try clear hfz19_6
          try clear hfz19_7
          try clear hfz20_0
          try clear hfz20_1
          try clear hfz20_2
          try clear hfz20_3
          try clear hfz20_4
          try clear hfz20_5
          try clear hfz20_6
          try clear hfz20_7
          try clear hfz22_0
          try clear hfz22_1
          try clear hfz22_2
          try clear hfz22_3
          try clear hfz22_4
          try clear hfz22_5
          try clear hfz22_6
          try clear hfz22_7
          try clear hfz23_0
          try clear hfz23_1
          try clear hfz23_2
          try clear hfz23_3
          try clear hfz23_4
          try clear hfz23_5
          try clear hfz23_6
          try clear hfz23_7
          try clear hfz25_0
          try clear hfz25_1
          try clear hfz25_2
          try clear hfz25_3
          try clear hfz25_4
          try clear hfz25_5
          try clear hfz25_6
          try clear hfz25_7
          try clear hfz26_0
          try clear hfz26_1
          try clear hfz26_2
          try clear hfz26_3
          try clear hfz26_4
          try clear hfz26_5
          try clear hfz26_6
          try clear hfz26_7
          try clear hfz28_0
          try clear hfz28_1
          try clear hfz28_2
          try clear hfz28_3
          try clear hfz28_4
          try clear hfz28_5
          try clear hfz28_6
          try clear hfz28_7
          try clear hfz29_0
          try clear hfz29_1
          try clear hfz29_2
          try clear hfz29_3
          try clear hfz29_4
          try clear hfz29_5
          try clear hfz29_6
          try clear hfz29_7
          try clear hfz31_0
          try clear hfz31_1
          try clear hfz31_2
          try clear hfz31_3
          try clear hfz31_4
          try clear hfz31_5
          try clear hfz31_6
          try clear hfz31_7
          try clear hfz41_0
          try clear hfz41_1
          try clear hfz41_2
          try clear hfz41_3
          try clear hfz41_4
          try clear hfz41_5
          try clear hfz41_6
          try clear hfz41_7
          try clear hfz42_0
          try clear hfz42_1
          try clear hfz42_2
          try clear hfz42_3
          try clear hfz42_4
          try clear hfz42_5
          try clear hfz42_6
          try clear hfz42_7
          try clear hfz51_0
          try clear hfz51_1
          try clear hfz51_2
          try clear hfz51_3
          try clear hfz51_4
          try clear hfz51_5
          try clear hfz51_6
          try clear hfz51_7
          try clear hfz52_0
          try clear hfz52_1
          try clear hfz52_2
          try clear hfz52_3
          try clear hfz52_4
          try clear hfz52_5
          try clear hfz52_6
          try clear hfz52_7
          try clear p2
          obtain ⟨kq, x11_38, rfl, HA, HJ38, BK337, BK338, BK355, HB⟩ := hcut
          cases kq with
          | zero => exact absurd HA.out (by simp [cornucopialaw21_LayoutBack.j1])
          | succ kj38 =>
            have H := HA.out
            clear HA
            simp only [cornucopialaw21_LayoutBack.j1] at H
            have HC55 := Aside0.mk H
            clear H
            go_upto_region 8 with (fail)
            go_cut [120] (fun v120 wc => ∃ (kq : Nat) (x120_54 : Bool), v120 = .bool x120_54 ∧ Aside0 (cornucopialaw21_LayoutBack.j2 kq t344 t345 t356 t357 x120_54 a0_0 3 a0_2 a0_3 a0_4 a0_5 a0_6 a0_7 a1_0 3 a1_2 a1_3 a1_4 a1_5 a1_6 a1_7 = some r) ∧ Aside0 (kq ≤ kj38) ∧ Aside0 (wc.heap[gb337]? = some (.cells #[.string a0_0, .int .i64 3, .string a0_2, .int .u8 a0_3, .int .u8 a0_4, .int .u8 a0_5, .int .u8 a0_6, .int .u64 a0_7] 29 (0, 0))) ∧ Aside0 (wc.heap[gb338]? = some (.cells #[.string a1_0, .int .i64 3, .string a1_2, .int .u8 a1_3, .int .u8 a1_4, .int .u8 a1_5, .int .u8 a1_6, .int .u64 a1_7] 29 (0, 0))) ∧ Aside0 (wc.heap[gb355]? = some (.cells #[.string t346, .int .i64 t347, .string t348, .int .u8 t349, .int .u8 t350, .int .u8 t351, .int .u8 t352, .int .u64 t353] 29 (0, 0))) ∧ Aside0 (Below w.heap.size w wc))
            case first =>
              have H := HC55.out
              clear HC55
              by_cases c56 : t354 = 0
              · rw [if_pos c56] at H
                have c56b0 : (t354 == 0) = true := beq_iff_eq.mpr c56
                have c56b1 : (t354 != 0) = false := bne_eq_false_iff_eq.mpr c56
                clear c56
                (first | rw [c56b0] | (simp only [i64_w, i32_w]; rw [c56b0]) | skip)
                by_cases c57 : (!(t346.toList == a0_0.toList) || (!(t347 == 3) || (!(t348.toList == a0_2.toList) || (((!(t349 == a0_3) || (!(t350 == a0_4) || (!(t351 == a0_5) || (!(t352 == a0_6))))) || (!(t353 == a0_7))))))) = true
                · rw [if_pos c57] at H
                  have c57b0 : (!(t346.toList == a0_0.toList) || (!(t347 == 3) || (!(t348.toList == a0_2.toList) || (((!(t349 == a0_3) || (!(t350 == a0_4) || (!(t351 == a0_5) || (!(t352 == a0_6))))) || (!(t353 == a0_7))))))) = true := c57
                  clear c57
                  have H' := Aside0.mk H
                  clear H
                  have hnb58 := NB355_337.out
                  have hnc58 := NB337_355.out
                  have hnb59 := NB355_338.out
                  have hnc59 := NB338_355.out
                  have hcz60_0 : wc.cell? ⟨gb355, 0, none⟩ = some (.string t346) := (blk_cell BK355.out 0).trans rfl
                  have hcz60_1 : wc.cell? ⟨gb355, 1, none⟩ = some (.int .i64 t347) := (blk_cell BK355.out 1).trans rfl
                  have hcz60_2 : wc.cell? ⟨gb355, 2, none⟩ = some (.string t348) := (blk_cell BK355.out 2).trans rfl
                  have hcz60_3 : wc.cell? ⟨gb355, 3, none⟩ = some (.int .u8 t349) := (blk_cell BK355.out 3).trans rfl
                  have hcz60_4 : wc.cell? ⟨gb355, 4, none⟩ = some (.int .u8 t350) := (blk_cell BK355.out 4).trans rfl
                  have hcz60_5 : wc.cell? ⟨gb355, 5, none⟩ = some (.int .u8 t351) := (blk_cell BK355.out 5).trans rfl
                  have hcz60_6 : wc.cell? ⟨gb355, 6, none⟩ = some (.int .u8 t352) := (blk_cell BK355.out 6).trans rfl
                  have hcz60_7 : wc.cell? ⟨gb355, 7, none⟩ = some (.int .u64 t353) := (blk_cell BK355.out 7).trans rfl
                  have hfz60_0 := blk_frozen BK355.out 0
                  have hfz60_1 := blk_frozen BK355.out 1
                  have hfz60_2 := blk_frozen BK355.out 2
                  have hfz60_3 := blk_frozen BK355.out 3
                  have hfz60_4 := blk_frozen BK355.out 4
                  have hfz60_5 := blk_frozen BK355.out 5
                  have hfz60_6 := blk_frozen BK355.out 6
                  have hfz60_7 := blk_frozen BK355.out 7
                  have hnb61 := NB337_338.out
                  have hnc61 := NB338_337.out
                  have hcz62_0 : wc.cell? ⟨gb337, 0, none⟩ = some (.string a0_0) := (blk_cell BK337.out 0).trans rfl
                  have hcz62_1 : wc.cell? ⟨gb337, 1, none⟩ = some (.int .i64 3) := (blk_cell BK337.out 1).trans rfl
                  have hcz62_2 : wc.cell? ⟨gb337, 2, none⟩ = some (.string a0_2) := (blk_cell BK337.out 2).trans rfl
                  have hcz62_3 : wc.cell? ⟨gb337, 3, none⟩ = some (.int .u8 a0_3) := (blk_cell BK337.out 3).trans rfl
                  have hcz62_4 : wc.cell? ⟨gb337, 4, none⟩ = some (.int .u8 a0_4) := (blk_cell BK337.out 4).trans rfl
                  have hcz62_5 : wc.cell? ⟨gb337, 5, none⟩ = some (.int .u8 a0_5) := (blk_cell BK337.out 5).trans rfl
                  have hcz62_6 : wc.cell? ⟨gb337, 6, none⟩ = some (.int .u8 a0_6) := (blk_cell BK337.out 6).trans rfl
                  have hcz62_7 : wc.cell? ⟨gb337, 7, none⟩ = some (.int .u64 a0_7) := (blk_cell BK337.out 7).trans rfl
                  have hfz62_0 := blk_frozen BK337.out 0
                  have hfz62_1 := blk_frozen BK337.out 1
                  have hfz62_2 := blk_frozen BK337.out 2
                  have hfz62_3 := blk_frozen BK337.out 3
                  have hfz62_4 := blk_frozen BK337.out 4
                  have hfz62_5 := blk_frozen BK337.out 5
                  have hfz62_6 := blk_frozen BK337.out 6
                  have hfz62_7 := blk_frozen BK337.out 7
                  go_wp2
                  go_meet
                  case rel => exact ⟨_, (true), (by first | rfl | (simp; done) | (simp [*]; done)), H', ⟨by have := HJ2.out; have := HJ38.out; first | omega | exact Nat.le_refl _⟩, ⟨by (with_reducible repeat (first | refine blk_drewN ?_ _ | refine blk_drew ?_ | refine blk_alloc ?_ _)); exact BK337.out⟩, ⟨by (with_reducible repeat (first | refine blk_drewN ?_ _ | refine blk_drew ?_ | refine blk_alloc ?_ _)); exact BK338.out⟩, ⟨by (with_reducible repeat (first | refine blk_drewN ?_ _ | refine blk_drew ?_ | refine blk_alloc ?_ _)); exact BK355.out⟩, ⟨by repeat (first | (with_reducible first | exact HB.out | apply below_alloc | apply pw_below_drewN | apply below_drew1 | refine below_set ?_ GE337.out | refine below_set ?_ GE338.out | refine below_set ?_ GE355.out) | exact HB.out)⟩⟩
                · rw [if_neg c57] at H
                  have c57b0 : (!(t346.toList == a0_0.toList) || (!(t347 == 3) || (!(t348.toList == a0_2.toList) || (((!(t349 == a0_3) || (!(t350 == a0_4) || (!(t351 == a0_5) || (!(t352 == a0_6))))) || (!(t353 == a0_7))))))) = false := by simpa using c57
                  have c57y := c57b0
                  simp only [Bool.or_eq_false_iff, Bool.not_eq_false', beq_iff_eq] at c57y
                  clear c57
                  by_cases c63 : (Op.bytesLess t344.toList t356.toList) = true
                  · rw [if_pos c63] at H
                    have c63b0 : (Op.bytesLess t344.toList t356.toList) = true := c63
                    clear c63
                    have H' := Aside0.mk H
                    clear H
                    have hnb64 := NB355_337.out
                    have hnc64 := NB337_355.out
                    have hnb65 := NB355_338.out
                    have hnc65 := NB338_355.out
                    have hcz66_0 : wc.cell? ⟨gb355, 0, none⟩ = some (.string t346) := (blk_cell BK355.out 0).trans rfl
                    have hcz66_1 : wc.cell? ⟨gb355, 1, none⟩ = some (.int .i64 t347) := (blk_cell BK355.out 1).trans rfl
                    have hcz66_2 : wc.cell? ⟨gb355, 2, none⟩ = some (.string t348) := (blk_cell BK355.out 2).trans rfl
                    have hcz66_3 : wc.cell? ⟨gb355, 3, none⟩ = some (.int .u8 t349) := (blk_cell BK355.out 3).trans rfl
                    have hcz66_4 : wc.cell? ⟨gb355, 4, none⟩ = some (.int .u8 t350) := (blk_cell BK355.out 4).trans rfl
                    have hcz66_5 : wc.cell? ⟨gb355, 5, none⟩ = some (.int .u8 t351) := (blk_cell BK355.out 5).trans rfl
                    have hcz66_6 : wc.cell? ⟨gb355, 6, none⟩ = some (.int .u8 t352) := (blk_cell BK355.out 6).trans rfl
                    have hcz66_7 : wc.cell? ⟨gb355, 7, none⟩ = some (.int .u64 t353) := (blk_cell BK355.out 7).trans rfl
                    have hfz66_0 := blk_frozen BK355.out 0
                    have hfz66_1 := blk_frozen BK355.out 1
                    have hfz66_2 := blk_frozen BK355.out 2
                    have hfz66_3 := blk_frozen BK355.out 3
                    have hfz66_4 := blk_frozen BK355.out 4
                    have hfz66_5 := blk_frozen BK355.out 5
                    have hfz66_6 := blk_frozen BK355.out 6
                    have hfz66_7 := blk_frozen BK355.out 7
                    have hnb67 := NB337_338.out
                    have hnc67 := NB338_337.out
                    have hcz68_0 : wc.cell? ⟨gb337, 0, none⟩ = some (.string a0_0) := (blk_cell BK337.out 0).trans rfl
                    have hcz68_1 : wc.cell? ⟨gb337, 1, none⟩ = some (.int .i64 3) := (blk_cell BK337.out 1).trans rfl
                    have hcz68_2 : wc.cell? ⟨gb337, 2, none⟩ = some (.string a0_2) := (blk_cell BK337.out 2).trans rfl
                    have hcz68_3 : wc.cell? ⟨gb337, 3, none⟩ = some (.int .u8 a0_3) := (blk_cell BK337.out 3).trans rfl
                    have hcz68_4 : wc.cell? ⟨gb337, 4, none⟩ = some (.int .u8 a0_4) := (blk_cell BK337.out 4).trans rfl
                    have hcz68_5 : wc.cell? ⟨gb337, 5, none⟩ = some (.int .u8 a0_5) := (blk_cell BK337.out 5).trans rfl
                    have hcz68_6 : wc.cell? ⟨gb337, 6, none⟩ = some (.int .u8 a0_6) := (blk_cell BK337.out 6).trans rfl
                    have hcz68_7 : wc.cell? ⟨gb337, 7, none⟩ = some (.int .u64 a0_7) := (blk_cell BK337.out 7).trans rfl
                    have hfz68_0 := blk_frozen BK337.out 0
                    have hfz68_1 := blk_frozen BK337.out 1
                    have hfz68_2 := blk_frozen BK337.out 2
                    have hfz68_3 := blk_frozen BK337.out 3
                    have hfz68_4 := blk_frozen BK337.out 4
                    have hfz68_5 := blk_frozen BK337.out 5
                    have hfz68_6 := blk_frozen BK337.out 6
                    have hfz68_7 := blk_frozen BK337.out 7
                    go_wp2
                    go_meet
                    case rel => exact ⟨_, (true), (by first | rfl | (simp; done) | (simp [*]; done)), H', ⟨by have := HJ2.out; have := HJ38.out; first | omega | exact Nat.le_refl _⟩, ⟨by (with_reducible repeat (first | refine blk_drewN ?_ _ | refine blk_drew ?_ | refine blk_alloc ?_ _)); exact BK337.out⟩, ⟨by (with_reducible repeat (first | refine blk_drewN ?_ _ | refine blk_drew ?_ | refine blk_alloc ?_ _)); exact BK338.out⟩, ⟨by (with_reducible repeat (first | refine blk_drewN ?_ _ | refine blk_drew ?_ | refine blk_alloc ?_ _)); exact BK355.out⟩, ⟨by repeat (first | (with_reducible first | exact HB.out | apply below_alloc | apply pw_below_drewN | apply below_drew1 | refine below_set ?_ GE337.out | refine below_set ?_ GE338.out | refine below_set ?_ GE355.out) | exact HB.out)⟩⟩
                  · rw [if_neg c63] at H
                    have c63b0 : (Op.bytesLess t344.toList t356.toList) = false := by simpa using c63
                    clear c63
                    by_cases c69 : ((Op.bytesLess t344.toList t357.toList) = true)
                    · rw [if_pos c69] at H
                      have c69b0 : (Op.bytesLess t344.toList t357.toList) = true := c69
                      clear c69
                      by_cases c70 : (x11_38 != (a0_0.toList == a1_0.toList)) = true
                      · rw [if_pos c70] at H
                        have c70b0 : (x11_38 != (a0_0.toList == a1_0.toList)) = true := c70
                        (try (have c70b1 : decide (x11_38 = (a0_0.toList == a1_0.toList)) = false := by simpa using c70))
                        (try (have c70b2 : (x11_38 == (a0_0.toList == a1_0.toList)) = false := by simpa using c70))
                        (try (have c70b3 : ¬ (x11_38 = (a0_0.toList == a1_0.toList)) := by simpa using c70))
                        clear c70
                        have H' := Aside0.mk H
                        clear H
                        have hnb71 := NB355_337.out
                        have hnc71 := NB337_355.out
                        have hnb72 := NB355_338.out
                        have hnc72 := NB338_355.out
                        have hcz73_0 : wc.cell? ⟨gb355, 0, none⟩ = some (.string t346) := (blk_cell BK355.out 0).trans rfl
                        have hcz73_1 : wc.cell? ⟨gb355, 1, none⟩ = some (.int .i64 t347) := (blk_cell BK355.out 1).trans rfl
                        have hcz73_2 : wc.cell? ⟨gb355, 2, none⟩ = some (.string t348) := (blk_cell BK355.out 2).trans rfl
                        have hcz73_3 : wc.cell? ⟨gb355, 3, none⟩ = some (.int .u8 t349) := (blk_cell BK355.out 3).trans rfl
                        have hcz73_4 : wc.cell? ⟨gb355, 4, none⟩ = some (.int .u8 t350) := (blk_cell BK355.out 4).trans rfl
                        have hcz73_5 : wc.cell? ⟨gb355, 5, none⟩ = some (.int .u8 t351) := (blk_cell BK355.out 5).trans rfl
                        have hcz73_6 : wc.cell? ⟨gb355, 6, none⟩ = some (.int .u8 t352) := (blk_cell BK355.out 6).trans rfl
                        have hcz73_7 : wc.cell? ⟨gb355, 7, none⟩ = some (.int .u64 t353) := (blk_cell BK355.out 7).trans rfl
                        have hfz73_0 := blk_frozen BK355.out 0
                        have hfz73_1 := blk_frozen BK355.out 1
                        have hfz73_2 := blk_frozen BK355.out 2
                        have hfz73_3 := blk_frozen BK355.out 3
                        have hfz73_4 := blk_frozen BK355.out 4
                        have hfz73_5 := blk_frozen BK355.out 5
                        have hfz73_6 := blk_frozen BK355.out 6
                        have hfz73_7 := blk_frozen BK355.out 7
                        have hnb74 := NB337_338.out
                        have hnc74 := NB338_337.out
                        have hcz75_0 : wc.cell? ⟨gb337, 0, none⟩ = some (.string a0_0) := (blk_cell BK337.out 0).trans rfl
                        have hcz75_1 : wc.cell? ⟨gb337, 1, none⟩ = some (.int .i64 3) := (blk_cell BK337.out 1).trans rfl
                        have hcz75_2 : wc.cell? ⟨gb337, 2, none⟩ = some (.string a0_2) := (blk_cell BK337.out 2).trans rfl
                        have hcz75_3 : wc.cell? ⟨gb337, 3, none⟩ = some (.int .u8 a0_3) := (blk_cell BK337.out 3).trans rfl
                        have hcz75_4 : wc.cell? ⟨gb337, 4, none⟩ = some (.int .u8 a0_4) := (blk_cell BK337.out 4).trans rfl
                        have hcz75_5 : wc.cell? ⟨gb337, 5, none⟩ = some (.int .u8 a0_5) := (blk_cell BK337.out 5).trans rfl
                        have hcz75_6 : wc.cell? ⟨gb337, 6, none⟩ = some (.int .u8 a0_6) := (blk_cell BK337.out 6).trans rfl
                        have hcz75_7 : wc.cell? ⟨gb337, 7, none⟩ = some (.int .u64 a0_7) := (blk_cell BK337.out 7).trans rfl
                        have hfz75_0 := blk_frozen BK337.out 0
                        have hfz75_1 := blk_frozen BK337.out 1
                        have hfz75_2 := blk_frozen BK337.out 2
                        have hfz75_3 := blk_frozen BK337.out 3
                        have hfz75_4 := blk_frozen BK337.out 4
                        have hfz75_5 := blk_frozen BK337.out 5
                        have hfz75_6 := blk_frozen BK337.out 6
                        have hfz75_7 := blk_frozen BK337.out 7
                        have hcz76_0 : wc.cell? ⟨gb338, 0, none⟩ = some (.string a1_0) := (blk_cell BK338.out 0).trans rfl
                        have hcz76_1 : wc.cell? ⟨gb338, 1, none⟩ = some (.int .i64 3) := (blk_cell BK338.out 1).trans rfl
                        have hcz76_2 : wc.cell? ⟨gb338, 2, none⟩ = some (.string a1_2) := (blk_cell BK338.out 2).trans rfl
                        have hcz76_3 : wc.cell? ⟨gb338, 3, none⟩ = some (.int .u8 a1_3) := (blk_cell BK338.out 3).trans rfl
                        have hcz76_4 : wc.cell? ⟨gb338, 4, none⟩ = some (.int .u8 a1_4) := (blk_cell BK338.out 4).trans rfl
                        have hcz76_5 : wc.cell? ⟨gb338, 5, none⟩ = some (.int .u8 a1_5) := (blk_cell BK338.out 5).trans rfl
                        have hcz76_6 : wc.cell? ⟨gb338, 6, none⟩ = some (.int .u8 a1_6) := (blk_cell BK338.out 6).trans rfl
                        have hcz76_7 : wc.cell? ⟨gb338, 7, none⟩ = some (.int .u64 a1_7) := (blk_cell BK338.out 7).trans rfl
                        have hfz76_0 := blk_frozen BK338.out 0
                        have hfz76_1 := blk_frozen BK338.out 1
                        have hfz76_2 := blk_frozen BK338.out 2
                        have hfz76_3 := blk_frozen BK338.out 3
                        have hfz76_4 := blk_frozen BK338.out 4
                        have hfz76_5 := blk_frozen BK338.out 5
                        have hfz76_6 := blk_frozen BK338.out 6
                        have hfz76_7 := blk_frozen BK338.out 7
                        go_wp2
                        go_meet
                        case rel => exact ⟨_, (true), (by first | rfl | (simp; done) | (simp [*]; done)), H', ⟨by have := HJ2.out; have := HJ38.out; first | omega | exact Nat.le_refl _⟩, ⟨by (with_reducible repeat (first | refine blk_drewN ?_ _ | refine blk_drew ?_ | refine blk_alloc ?_ _)); exact BK337.out⟩, ⟨by (with_reducible repeat (first | refine blk_drewN ?_ _ | refine blk_drew ?_ | refine blk_alloc ?_ _)); exact BK338.out⟩, ⟨by (with_reducible repeat (first | refine blk_drewN ?_ _ | refine blk_drew ?_ | refine blk_alloc ?_ _)); exact BK355.out⟩, ⟨by repeat (first | (with_reducible first | exact HB.out | apply below_alloc | apply pw_below_drewN | apply below_drew1 | refine below_set ?_ GE337.out | refine below_set ?_ GE338.out | refine below_set ?_ GE355.out) | exact HB.out)⟩⟩
                      · rw [if_neg c70] at H
                        have c70b0 : (x11_38 != (a0_0.toList == a1_0.toList)) = false := by simpa using c70
                        (try (have c70b1 : decide (x11_38 = (a0_0.toList == a1_0.toList)) = true := by simpa using c70))
                        (try (have c70b2 : (x11_38 == (a0_0.toList == a1_0.toList)) = true := by simpa using c70))
                        clear c70
                        have H' := Aside0.mk H
                        clear H
                        have hnb77 := NB355_337.out
                        have hnc77 := NB337_355.out
                        have hnb78 := NB355_338.out
                        have hnc78 := NB338_355.out
                        have hcz79_0 : wc.cell? ⟨gb355, 0, none⟩ = some (.string t346) := (blk_cell BK355.out 0).trans rfl
                        have hcz79_1 : wc.cell? ⟨gb355, 1, none⟩ = some (.int .i64 t347) := (blk_cell BK355.out 1).trans rfl
                        have hcz79_2 : wc.cell? ⟨gb355, 2, none⟩ = some (.string t348) := (blk_cell BK355.out 2).trans rfl
                        have hcz79_3 : wc.cell? ⟨gb355, 3, none⟩ = some (.int .u8 t349) := (blk_cell BK355.out 3).trans rfl
                        have hcz79_4 : wc.cell? ⟨gb355, 4, none⟩ = some (.int .u8 t350) := (blk_cell BK355.out 4).trans rfl
                        have hcz79_5 : wc.cell? ⟨gb355, 5, none⟩ = some (.int .u8 t351) := (blk_cell BK355.out 5).trans rfl
                        have hcz79_6 : wc.cell? ⟨gb355, 6, none⟩ = some (.int .u8 t352) := (blk_cell BK355.out 6).trans rfl
                        have hcz79_7 : wc.cell? ⟨gb355, 7, none⟩ = some (.int .u64 t353) := (blk_cell BK355.out 7).trans rfl
                        have hfz79_0 := blk_frozen BK355.out 0
                        have hfz79_1 := blk_frozen BK355.out 1
                        have hfz79_2 := blk_frozen BK355.out 2
                        have hfz79_3 := blk_frozen BK355.out 3
                        have hfz79_4 := blk_frozen BK355.out 4
                        have hfz79_5 := blk_frozen BK355.out 5
                        have hfz79_6 := blk_frozen BK355.out 6
                        have hfz79_7 := blk_frozen BK355.out 7
                        have hnb80 := NB337_338.out
                        have hnc80 := NB338_337.out
                        have hcz81_0 : wc.cell? ⟨gb337, 0, none⟩ = some (.string a0_0) := (blk_cell BK337.out 0).trans rfl
                        have hcz81_1 : wc.cell? ⟨gb337, 1, none⟩ = some (.int .i64 3) := (blk_cell BK337.out 1).trans rfl
                        have hcz81_2 : wc.cell? ⟨gb337, 2, none⟩ = some (.string a0_2) := (blk_cell BK337.out 2).trans rfl
                        have hcz81_3 : wc.cell? ⟨gb337, 3, none⟩ = some (.int .u8 a0_3) := (blk_cell BK337.out 3).trans rfl
                        have hcz81_4 : wc.cell? ⟨gb337, 4, none⟩ = some (.int .u8 a0_4) := (blk_cell BK337.out 4).trans rfl
                        have hcz81_5 : wc.cell? ⟨gb337, 5, none⟩ = some (.int .u8 a0_5) := (blk_cell BK337.out 5).trans rfl
                        have hcz81_6 : wc.cell? ⟨gb337, 6, none⟩ = some (.int .u8 a0_6) := (blk_cell BK337.out 6).trans rfl
                        have hcz81_7 : wc.cell? ⟨gb337, 7, none⟩ = some (.int .u64 a0_7) := (blk_cell BK337.out 7).trans rfl
                        have hfz81_0 := blk_frozen BK337.out 0
                        have hfz81_1 := blk_frozen BK337.out 1
                        have hfz81_2 := blk_frozen BK337.out 2
                        have hfz81_3 := blk_frozen BK337.out 3
                        have hfz81_4 := blk_frozen BK337.out 4
                        have hfz81_5 := blk_frozen BK337.out 5
                        have hfz81_6 := blk_frozen BK337.out 6
                        have hfz81_7 := blk_frozen BK337.out 7
                        have hcz82_0 : wc.cell? ⟨gb338, 0, none⟩ = some (.string a1_0) := (blk_cell BK338.out 0).trans rfl
                        have hcz82_1 : wc.cell? ⟨gb338, 1, none⟩ = some (.int .i64 3) := (blk_cell BK338.out 1).trans rfl
                        have hcz82_2 : wc.cell? ⟨gb338, 2, none⟩ = some (.string a1_2) := (blk_cell BK338.out 2).trans rfl
                        have hcz82_3 : wc.cell? ⟨gb338, 3, none⟩ = some (.int .u8 a1_3) := (blk_cell BK338.out 3).trans rfl
                        have hcz82_4 : wc.cell? ⟨gb338, 4, none⟩ = some (.int .u8 a1_4) := (blk_cell BK338.out 4).trans rfl
                        have hcz82_5 : wc.cell? ⟨gb338, 5, none⟩ = some (.int .u8 a1_5) := (blk_cell BK338.out 5).trans rfl
                        have hcz82_6 : wc.cell? ⟨gb338, 6, none⟩ = some (.int .u8 a1_6) := (blk_cell BK338.out 6).trans rfl
                        have hcz82_7 : wc.cell? ⟨gb338, 7, none⟩ = some (.int .u64 a1_7) := (blk_cell BK338.out 7).trans rfl
                        have hfz82_0 := blk_frozen BK338.out 0
                        have hfz82_1 := blk_frozen BK338.out 1
                        have hfz82_2 := blk_frozen BK338.out 2
                        have hfz82_3 := blk_frozen BK338.out 3
                        have hfz82_4 := blk_frozen BK338.out 4
                        have hfz82_5 := blk_frozen BK338.out 5
                        have hfz82_6 := blk_frozen BK338.out 6
                        have hfz82_7 := blk_frozen BK338.out 7
                        go_wp2
                        go_meet
                        case rel => exact ⟨_, (((t344.toList == t345.toList) != (a0_0.toList == a1_0.toList && (3 == 3 && (a0_2.toList == a1_2.toList && (((a0_3 == a1_3 && (a0_4 == a1_4 && (a0_5 == a1_5 && (a0_6 == a1_6)))) && (a0_7 == a1_7)))))))), (by first | rfl | (simp; done) | (simp [*]; done)), H', ⟨by have := HJ2.out; have := HJ38.out; first | omega | exact Nat.le_refl _⟩, ⟨by (with_reducible repeat (first | refine blk_drewN ?_ _ | refine blk_drew ?_ | refine blk_alloc ?_ _)); exact BK337.out⟩, ⟨by (with_reducible repeat (first | refine blk_drewN ?_ _ | refine blk_drew ?_ | refine blk_alloc ?_ _)); exact BK338.out⟩, ⟨by (with_reducible repeat (first | refine blk_drewN ?_ _ | refine blk_drew ?_ | refine blk_alloc ?_ _)); exact BK355.out⟩, ⟨by repeat (first | (with_reducible first | exact HB.out | apply below_alloc | apply pw_below_drewN | apply below_drew1 | refine below_set ?_ GE337.out | refine below_set ?_ GE338.out | refine below_set ?_ GE355.out) | exact HB.out)⟩⟩
                    · rw [if_neg c69] at H
                      have c69b0 : (Op.bytesLess t344.toList t357.toList) = false := by simpa using c69
                      clear c69
                      have H' := Aside0.mk H
                      clear H
                      have hnb83 := NB355_337.out
                      have hnc83 := NB337_355.out
                      have hnb84 := NB355_338.out
                      have hnc84 := NB338_355.out
                      have hcz85_0 : wc.cell? ⟨gb355, 0, none⟩ = some (.string t346) := (blk_cell BK355.out 0).trans rfl
                      have hcz85_1 : wc.cell? ⟨gb355, 1, none⟩ = some (.int .i64 t347) := (blk_cell BK355.out 1).trans rfl
                      have hcz85_2 : wc.cell? ⟨gb355, 2, none⟩ = some (.string t348) := (blk_cell BK355.out 2).trans rfl
                      have hcz85_3 : wc.cell? ⟨gb355, 3, none⟩ = some (.int .u8 t349) := (blk_cell BK355.out 3).trans rfl
                      have hcz85_4 : wc.cell? ⟨gb355, 4, none⟩ = some (.int .u8 t350) := (blk_cell BK355.out 4).trans rfl
                      have hcz85_5 : wc.cell? ⟨gb355, 5, none⟩ = some (.int .u8 t351) := (blk_cell BK355.out 5).trans rfl
                      have hcz85_6 : wc.cell? ⟨gb355, 6, none⟩ = some (.int .u8 t352) := (blk_cell BK355.out 6).trans rfl
                      have hcz85_7 : wc.cell? ⟨gb355, 7, none⟩ = some (.int .u64 t353) := (blk_cell BK355.out 7).trans rfl
                      have hfz85_0 := blk_frozen BK355.out 0
                      have hfz85_1 := blk_frozen BK355.out 1
                      have hfz85_2 := blk_frozen BK355.out 2
                      have hfz85_3 := blk_frozen BK355.out 3
                      have hfz85_4 := blk_frozen BK355.out 4
                      have hfz85_5 := blk_frozen BK355.out 5
                      have hfz85_6 := blk_frozen BK355.out 6
                      have hfz85_7 := blk_frozen BK355.out 7
                      have hnb86 := NB337_338.out
                      have hnc86 := NB338_337.out
                      have hcz87_0 : wc.cell? ⟨gb337, 0, none⟩ = some (.string a0_0) := (blk_cell BK337.out 0).trans rfl
                      have hcz87_1 : wc.cell? ⟨gb337, 1, none⟩ = some (.int .i64 3) := (blk_cell BK337.out 1).trans rfl
                      have hcz87_2 : wc.cell? ⟨gb337, 2, none⟩ = some (.string a0_2) := (blk_cell BK337.out 2).trans rfl
                      have hcz87_3 : wc.cell? ⟨gb337, 3, none⟩ = some (.int .u8 a0_3) := (blk_cell BK337.out 3).trans rfl
                      have hcz87_4 : wc.cell? ⟨gb337, 4, none⟩ = some (.int .u8 a0_4) := (blk_cell BK337.out 4).trans rfl
                      have hcz87_5 : wc.cell? ⟨gb337, 5, none⟩ = some (.int .u8 a0_5) := (blk_cell BK337.out 5).trans rfl
                      have hcz87_6 : wc.cell? ⟨gb337, 6, none⟩ = some (.int .u8 a0_6) := (blk_cell BK337.out 6).trans rfl
                      have hcz87_7 : wc.cell? ⟨gb337, 7, none⟩ = some (.int .u64 a0_7) := (blk_cell BK337.out 7).trans rfl
                      have hfz87_0 := blk_frozen BK337.out 0
                      have hfz87_1 := blk_frozen BK337.out 1
                      have hfz87_2 := blk_frozen BK337.out 2
                      have hfz87_3 := blk_frozen BK337.out 3
                      have hfz87_4 := blk_frozen BK337.out 4
                      have hfz87_5 := blk_frozen BK337.out 5
                      have hfz87_6 := blk_frozen BK337.out 6
                      have hfz87_7 := blk_frozen BK337.out 7
                      go_wp2
                      go_meet
                      case rel => exact ⟨_, (true), (by first | rfl | (simp; done) | (simp [*]; done)), H', ⟨by have := HJ2.out; have := HJ38.out; first | omega | exact Nat.le_refl _⟩, ⟨by (with_reducible repeat (first | refine blk_drewN ?_ _ | refine blk_drew ?_ | refine blk_alloc ?_ _)); exact BK337.out⟩, ⟨by (with_reducible repeat (first | refine blk_drewN ?_ _ | refine blk_drew ?_ | refine blk_alloc ?_ _)); exact BK338.out⟩, ⟨by (with_reducible repeat (first | refine blk_drewN ?_ _ | refine blk_drew ?_ | refine blk_alloc ?_ _)); exact BK355.out⟩, ⟨by repeat (first | (with_reducible first | exact HB.out | apply below_alloc | apply pw_below_drewN | apply below_drew1 | refine below_set ?_ GE337.out | refine below_set ?_ GE338.out | refine below_set ?_ GE355.out) | exact HB.out)⟩⟩
              · rw [if_neg c56] at H
                have c56b0 : (t354 == 0) = false := beq_eq_false_iff_ne.mpr c56
                have c56b1 : (t354 != 0) = true := bne_iff_ne.mpr c56
                (first | rw [c56b0] | (simp only [i64_w, i32_w]; rw [c56b0]) | skip)
                have H' := Aside0.mk H
                clear H
                go_wp2
                go_meet
                case rel => exact ⟨_, (true), (by first | rfl | (simp; done) | (simp [*]; done)), H', ⟨by have := HJ2.out; have := HJ38.out; first | omega | exact Nat.le_refl _⟩, ⟨by (with_reducible repeat (first | refine blk_drewN ?_ _ | refine blk_drew ?_ | refine blk_alloc ?_ _)); exact BK337.out⟩, ⟨by (with_reducible repeat (first | refine blk_drewN ?_ _ | refine blk_drew ?_ | refine blk_alloc ?_ _)); exact BK338.out⟩, ⟨by (with_reducible repeat (first | refine blk_drewN ?_ _ | refine blk_drew ?_ | refine blk_alloc ?_ _)); exact BK355.out⟩, ⟨by repeat (first | (with_reducible first | exact HB.out | apply below_alloc | apply pw_below_drewN | apply below_drew1 | refine below_set ?_ GE337.out | refine below_set ?_ GE338.out | refine below_set ?_ GE355.out) | exact HB.out)⟩⟩
            case rest =>
              clear HC55
              try clear c1
              try clear c2
              try clear p2
              try clear c3
              try clear c4
              try clear c5
              try clear c6
              try clear c7
              try clear c8
              try clear c9
              try clear c11
              try clear c13
              try clear c14
              try clear c14b0
              try clear c14b1
              try clear c15
              try clear c17
              try clear c18
              try clear c21
              try clear c24
              try clear c27
              try clear c30
              try clear c32
              try clear c40
              try clear c49
              try clear c50
              try clear c54
              try clear c54b0
              try clear c56
              try clear c56b0
              try clear c56b1
              try clear c57
              try clear c57b0
              try clear c58
              try clear c59
              try clear c61
              try clear c63
              try clear c63b0
              try clear c64
              try clear c65
              try clear c67
              try clear c69
              try clear c69b0
              try clear c70
              try clear c70b0
              try clear c70b1
              try clear c70b2
              try clear c71
              try clear c72
              try clear c74
              try clear c77
              try clear c78
              try clear c80
              try clear c83
              try clear c84
              try clear c86
              try clear hcz16_0
              try clear hcz16_1
              try clear hcz16_2
              try clear hcz16_3
              try clear hcz16_4
              try clear hcz16_5
              try clear hcz16_6
              try clear hcz16_7
              try clear hcz17_0
              try clear hcz17_1
              try clear hcz17_2
              try clear hcz17_3
              try clear hcz17_4
              try clear hcz17_5
              try clear hcz17_6
              try clear hcz17_7
              try clear hcz19_0
              try clear hcz19_1
              try clear hcz19_2
              try clear hcz19_3
              try clear hcz19_4
              try clear hcz19_5
              try clear hcz19_6
              try clear hcz19_7
              try clear hcz20_0
              try clear hcz20_1
              try clear hcz20_2
              try clear hcz20_3
              try clear hcz20_4
              try clear hcz20_5
              try clear hcz20_6
              try clear hcz20_7
              try clear hcz22_0
              try clear hcz22_1
              try clear hcz22_2
              try clear hcz22_3
              try clear hcz22_4
              try clear hcz22_5
              try clear hcz22_6
              try clear hcz22_7
              try clear hcz23_0
              try clear hcz23_1
              try clear hcz23_2
              try clear hcz23_3
              try clear hcz23_4
              try clear hcz23_5
              try clear hcz23_6
              try clear hcz23_7
              try clear hcz25_0
              try clear hcz25_1
              try clear hcz25_2
              try clear hcz25_3
              try clear hcz25_4
              try clear hcz25_5
              try clear hcz25_6
              try clear hcz25_7
              try clear hcz26_0
              try clear hcz26_1
              try clear hcz26_2
              try clear hcz26_3
              try clear hcz26_4
              try clear hcz26_5
              try clear hcz26_6
              try clear hcz26_7
              try clear hcz28_0
              try clear hcz28_1
              try clear hcz28_2
              try clear hcz28_3
              try clear hcz28_4
              try clear hcz28_5
              try clear hcz28_6
              try clear hcz28_7
              try clear hcz29_0
              try clear hcz29_1
              try clear hcz29_2
              try clear hcz29_3
              try clear hcz29_4
              try clear hcz29_5
              try clear hcz29_6
              try clear hcz29_7
              try clear hcz31_0
              try clear hcz31_1
              try clear hcz31_2
              try clear hcz31_3
              try clear hcz31_4
              try clear hcz31_5
              try clear hcz31_6
              try clear hcz31_7
              try clear hcz41_0
              try clear hcz41_1
              try clear hcz41_2
              try clear hcz41_3
              try clear hcz41_4
              try clear hcz41_5
              try clear hcz41_6
              try clear hcz41_7
              try clear hcz42_0
              try clear hcz42_1
              try clear hcz42_2
              try clear hcz42_3
              try clear hcz42_4
              try clear hcz42_5
              try clear hcz42_6
              try clear hcz42_7
              try clear hcz51_0
              try clear hcz51_1
              try clear hcz51_2
              try clear hcz51_3
              try clear hcz51_4
              try clear hcz51_5
              try clear hcz51_6
              try clear hcz51_7
              try clear hcz52_0
              try clear hcz52_1
              try clear hcz52_2
              try clear hcz52_3
              try clear hcz52_4
              try clear hcz52_5
              try clear hcz52_6
              try clear hcz52_7
              try clear hcz60_0
              try clear hcz60_1
              try clear hcz60_2
              try clear hcz60_3
              try clear hcz60_4
              try clear hcz60_5
              try clear hcz60_6
              try clear hcz60_7
              try clear hcz62_0
              try clear hcz62_1
              try clear hcz62_2
              try clear hcz62_3
              try clear hcz62_4
              try clear hcz62_5
              try clear hcz62_6
              try clear hcz62_7
              try clear hcz66_0
              try clear hcz66_1
              try clear hcz66_2
              try clear hcz66_3
              try clear hcz66_4
              try clear hcz66_5
              try clear hcz66_6
              try clear hcz66_7
              try clear hcz68_0
              try clear hcz68_1
              try clear hcz68_2
              try clear hcz68_3
              try clear hcz68_4
              try clear hcz68_5
              try clear hcz68_6
              try clear hcz68_7
              try clear hcz73_0
              try clear hcz73_1
              try clear hcz73_2
              try clear hcz73_3
              try clear hcz73_4
              try clear hcz73_5
              try clear hcz73_6
              try clear hcz73_7
              try clear hcz75_0
              try clear hcz75_1
              try clear hcz75_2
              try clear hcz75_3
              try clear hcz75_4
              try clear hcz75_5
              try clear hcz75_6
              try clear hcz75_7
              try clear hcz76_0
              try clear hcz76_1
              try clear hcz76_2
              try clear hcz76_3
              try clear hcz76_4
              try clear hcz76_5
              try clear hcz76_6
              try clear hcz76_7
              try clear hcz79_0
              try clear hcz79_1
              try clear hcz79_2
              try clear hcz79_3
              try clear hcz79_4
              try clear hcz79_5
              try clear hcz79_6
              try clear hcz79_7
              try clear hcz81_0
              try clear hcz81_1
              try clear hcz81_2
              try clear hcz81_3
              try clear hcz81_4
              try clear hcz81_5
              try clear hcz81_6
              try clear hcz81_7
              try clear hcz82_0
              try clear hcz82_1
              try clear hcz82_2
              try clear hcz82_3
              try clear hcz82_4
              try clear hcz82_5
              try clear hcz82_6
              try clear hcz82_7
              try clear hcz85_0
              try clear hcz85_1
              try clear hcz85_2
              try clear hcz85_3
              try clear hcz85_4
              try clear hcz85_5
              try clear hcz85_6
              try clear hcz85_7
              try clear hcz87_0
              try clear hcz87_1
              try clear hcz87_2
              try clear hcz87_3
              try clear hcz87_4
              try clear hcz87_5
              try clear hcz87_6
              try clear hcz87_7
              try clear hfz16_0
              try clear hfz16_1
              try clear hfz16_2
              try clear hfz16_3
              try clear hfz16_4
              try clear hfz16_5
              try clear hfz16_6
              try clear hfz16_7
              try clear hfz17_0
              try clear hfz17_1
              try clear hfz17_2
              try clear hfz17_3
              try clear hfz17_4
              try clear hfz17_5
              try clear hfz17_6
              try clear hfz17_7
              try clear hfz19_0
              try clear hfz19_1
              try clear hfz19_2
              try clear hfz19_3
              try clear hfz19_4
              try clear hfz19_5
              try clear hfz19_6
              try clear hfz19_7
              try clear hfz20_0
              try clear hfz20_1
              try clear hfz20_2
              try clear hfz20_3
              try clear hfz20_4
              try clear hfz20_5
              try clear hfz20_6
              try clear hfz20_7
              try clear hfz22_0
              try clear hfz22_1
              try clear hfz22_2
              try clear hfz22_3
              try clear hfz22_4
              try clear hfz22_5
              try clear hfz22_6
              try clear hfz22_7
              try clear hfz23_0
              try clear hfz23_1
              try clear hfz23_2
              try clear hfz23_3
              try clear hfz23_4
              try clear hfz23_5
              try clear hfz23_6
              try clear hfz23_7
              try clear hfz25_0
              try clear hfz25_1
              try clear hfz25_2
              try clear hfz25_3
              try clear hfz25_4
              try clear hfz25_5
              try clear hfz25_6
              try clear hfz25_7
              try clear hfz26_0
              try clear hfz26_1
              try clear hfz26_2
              try clear hfz26_3
              try clear hfz26_4
              try clear hfz26_5
              try clear hfz26_6
              try clear hfz26_7
              try clear hfz28_0
              try clear hfz28_1
              try clear hfz28_2
              try clear hfz28_3
              try clear hfz28_4
              try clear hfz28_5
              try clear hfz28_6
              try clear hfz28_7
              try clear hfz29_0
              try clear hfz29_1
              try clear hfz29_2
              try clear hfz29_3
              try clear hfz29_4
              try clear hfz29_5
              try clear hfz29_6
              try clear hfz29_7
              try clear hfz31_0
              try clear hfz31_1
              try clear hfz31_2
              try clear hfz31_3
              try clear hfz31_4
              try clear hfz31_5
              try clear hfz31_6
              try clear hfz31_7
              try clear hfz41_0
              try clear hfz41_1
              try clear hfz41_2
              try clear hfz41_3
              try clear hfz41_4
              try clear hfz41_5
              try clear hfz41_6
              try clear hfz41_7
              try clear hfz42_0
              try clear hfz42_1
              try clear hfz42_2
              try clear hfz42_3
              try clear hfz42_4
              try clear hfz42_5
              try clear hfz42_6
              try clear hfz42_7
              try clear hfz51_0
              try clear hfz51_1
              try clear hfz51_2
              try clear hfz51_3
              try clear hfz51_4
              try clear hfz51_5
              try clear hfz51_6
              try clear hfz51_7
              try clear hfz52_0
              try clear hfz52_1
              try clear hfz52_2
              try clear hfz52_3
              try clear hfz52_4
              try clear hfz52_5
              try clear hfz52_6
              try clear hfz52_7
              try clear hfz60_0
              try clear hfz60_1
              try clear hfz60_2
              try clear hfz60_3
              try clear hfz60_4
              try clear hfz60_5
              try clear hfz60_6
              try clear hfz60_7
              try clear hfz62_0
              try clear hfz62_1
              try clear hfz62_2
              try clear hfz62_3
              try clear hfz62_4
              try clear hfz62_5
              try clear hfz62_6
              try clear hfz62_7
              try clear hfz66_0
              try clear hfz66_1
              try clear hfz66_2
              try clear hfz66_3
              try clear hfz66_4
              try clear hfz66_5
              try clear hfz66_6
              try clear hfz66_7
              try clear hfz68_0
              try clear hfz68_1
              try clear hfz68_2
              try clear hfz68_3
              try clear hfz68_4
              try clear hfz68_5
              try clear hfz68_6
              try clear hfz68_7
              try clear hfz73_0
              try clear hfz73_1
              try clear hfz73_2
              try clear hfz73_3
              try clear hfz73_4
              try clear hfz73_5
              try clear hfz73_6
              try clear hfz73_7
              try clear hfz75_0
              try clear hfz75_1
              try clear hfz75_2
              try clear hfz75_3
              try clear hfz75_4
              try clear hfz75_5
              try clear hfz75_6
              try clear hfz75_7
              try clear hfz76_0
              try clear hfz76_1
              try clear hfz76_2
              try clear hfz76_3
              try clear hfz76_4
              try clear hfz76_5
              try clear hfz76_6
              try clear hfz76_7
              try clear hfz79_0
              try clear hfz79_1
              try clear hfz79_2
              try clear hfz79_3
              try clear hfz79_4
              try clear hfz79_5
              try clear hfz79_6
              try clear hfz79_7
              try clear hfz81_0
              try clear hfz81_1
              try clear hfz81_2
              try clear hfz81_3
              try clear hfz81_4
              try clear hfz81_5
              try clear hfz81_6
              try clear hfz81_7
              try clear hfz82_0
              try clear hfz82_1
              try clear hfz82_2
              try clear hfz82_3
              try clear hfz82_4
              try clear hfz82_5
              try clear hfz82_6
              try clear hfz82_7
              try clear hfz85_0
              try clear hfz85_1
              try clear hfz85_2
              try clear hfz85_3
              try clear hfz85_4
              try clear hfz85_5
              try clear hfz85_6
              try clear hfz85_7
              try clear hfz87_0
              try clear hfz87_1
              try clear hfz87_2
              try clear hfz87_3
              try clear hfz87_4
              try clear hfz87_5
              try clear hfz87_6
              try clear hfz87_7
              try clear p2
              obtain ⟨kq, x120_54, rfl, HA, HJ54, BK337, BK338, BK355, HB⟩ := hcut
              cases kq with
              | zero => exact absurd HA.out (by simp [cornucopialaw21_LayoutBack.j2])
              | succ kj54 =>
                have H := HA.out
                clear HA
                simp only [cornucopialaw21_LayoutBack.j2] at H
                by_cases c88 : x120_54 = true
                · subst c88
                  have H1 : (none) = some r := by rw [if_pos rfl] at H; exact H
                  clear H
                  have H := H1
                  clear H1
                  exact absurd H (by simp)
                · replace c88 := Bool.eq_false_iff.mpr c88
                  subst c88
                  have H1 : (cornucopialaw21_LayoutBack.l0 kj54 t344 t345 t356 t357 0 a0_0 3 a0_2 a0_3 a0_4 a0_5 a0_6 a0_7 a1_0 3 a1_2 a1_3 a1_4 a1_5 a1_6 a1_7) = some r := by rw [if_neg (show ¬ (false = true) by decide)] at H; exact H
                  clear H
                  have H := H1
                  clear H1
                  have H' := Aside0.mk H
                  clear H
                  go_wp2
                  go_loopg [12] kj54 (fun kq v12 w' => ∃ (x12_4 : Int), v12 = .int .i64 x12_4 ∧ Aside0 (cornucopialaw21_LayoutBack.l0 kq t344 t345 t356 t357 x12_4 a0_0 3 a0_2 a0_3 a0_4 a0_5 a0_6 a0_7 a1_0 3 a1_2 a1_3 a1_4 a1_5 a1_6 a1_7 = some r) ∧ Aside0 (kq ≤ kj54) ∧ Aside0 (w'.heap[gb337]? = some (.cells #[.string a0_0, .int .i64 3, .string a0_2, .int .u8 a0_3, .int .u8 a0_4, .int .u8 a0_5, .int .u8 a0_6, .int .u64 a0_7] 29 (0, 0))) ∧ Aside0 (w'.heap[gb338]? = some (.cells #[.string a1_0, .int .i64 3, .string a1_2, .int .u8 a1_3, .int .u8 a1_4, .int .u8 a1_5, .int .u8 a1_6, .int .u64 a1_7] 29 (0, 0))) ∧ Aside0 (w'.heap[gb355]? = some (.cells #[.string t346, .int .i64 t347, .string t348, .int .u8 t349, .int .u8 t350, .int .u8 t351, .int .u8 t352, .int .u64 t353] 29 (0, 0))) ∧ Aside0 (Below w.heap.size w w'))
                  case atStart => exact ⟨(0), (by first | rfl | (simp; done) | (simp [*]; done)), H', ⟨Nat.le_refl _⟩, ⟨by (with_reducible repeat (first | refine blk_drewN ?_ _ | refine blk_drew ?_ | refine blk_alloc ?_ _)); exact BK337.out⟩, ⟨by (with_reducible repeat (first | refine blk_drewN ?_ _ | refine blk_drew ?_ | refine blk_alloc ?_ _)); exact BK338.out⟩, ⟨by (with_reducible repeat (first | refine blk_drewN ?_ _ | refine blk_drew ?_ | refine blk_alloc ?_ _)); exact BK355.out⟩, ⟨by repeat (first | (with_reducible first | exact HB.out | apply below_alloc | apply pw_below_drewN | apply below_drew1 | refine below_set ?_ GE337.out | refine below_set ?_ GE338.out | refine below_set ?_ GE355.out) | exact HB.out)⟩⟩
                  case round =>
                    clear H'
                    try clear c1
                    try clear c2
                    try clear p2
                    try clear c3
                    try clear c4
                    try clear c5
                    try clear c6
                    try clear c7
                    try clear c8
                    try clear c9
                    try clear c11
                    try clear c13
                    try clear c14
                    try clear c14b0
                    try clear c14b1
                    try clear c15
                    try clear c17
                    try clear c18
                    try clear c21
                    try clear c24
                    try clear c27
                    try clear c30
                    try clear c32
                    try clear c40
                    try clear c49
                    try clear c50
                    try clear c54
                    try clear c54b0
                    try clear c56
                    try clear c56b0
                    try clear c56b1
                    try clear c57
                    try clear c57b0
                    try clear c58
                    try clear c59
                    try clear c61
                    try clear c63
                    try clear c63b0
                    try clear c64
                    try clear c65
                    try clear c67
                    try clear c69
                    try clear c69b0
                    try clear c70
                    try clear c70b0
                    try clear c70b1
                    try clear c70b2
                    try clear c71
                    try clear c72
                    try clear c74
                    try clear c77
                    try clear c78
                    try clear c80
                    try clear c83
                    try clear c84
                    try clear c86
                    try clear c88
                    try clear hcz16_0
                    try clear hcz16_1
                    try clear hcz16_2
                    try clear hcz16_3
                    try clear hcz16_4
                    try clear hcz16_5
                    try clear hcz16_6
                    try clear hcz16_7
                    try clear hcz17_0
                    try clear hcz17_1
                    try clear hcz17_2
                    try clear hcz17_3
                    try clear hcz17_4
                    try clear hcz17_5
                    try clear hcz17_6
                    try clear hcz17_7
                    try clear hcz19_0
                    try clear hcz19_1
                    try clear hcz19_2
                    try clear hcz19_3
                    try clear hcz19_4
                    try clear hcz19_5
                    try clear hcz19_6
                    try clear hcz19_7
                    try clear hcz20_0
                    try clear hcz20_1
                    try clear hcz20_2
                    try clear hcz20_3
                    try clear hcz20_4
                    try clear hcz20_5
                    try clear hcz20_6
                    try clear hcz20_7
                    try clear hcz22_0
                    try clear hcz22_1
                    try clear hcz22_2
                    try clear hcz22_3
                    try clear hcz22_4
                    try clear hcz22_5
                    try clear hcz22_6
                    try clear hcz22_7
                    try clear hcz23_0
                    try clear hcz23_1
                    try clear hcz23_2
                    try clear hcz23_3
                    try clear hcz23_4
                    try clear hcz23_5
                    try clear hcz23_6
                    try clear hcz23_7
                    try clear hcz25_0
                    try clear hcz25_1
                    try clear hcz25_2
                    try clear hcz25_3
                    try clear hcz25_4
                    try clear hcz25_5
                    try clear hcz25_6
                    try clear hcz25_7
                    try clear hcz26_0
                    try clear hcz26_1
                    try clear hcz26_2
                    try clear hcz26_3
                    try clear hcz26_4
                    try clear hcz26_5
                    try clear hcz26_6
                    try clear hcz26_7
                    try clear hcz28_0
                    try clear hcz28_1
                    try clear hcz28_2
                    try clear hcz28_3
                    try clear hcz28_4
                    try clear hcz28_5
                    try clear hcz28_6
                    try clear hcz28_7
                    try clear hcz29_0
                    try clear hcz29_1
                    try clear hcz29_2
                    try clear hcz29_3
                    try clear hcz29_4
                    try clear hcz29_5
                    try clear hcz29_6
                    try clear hcz29_7
                    try clear hcz31_0
                    try clear hcz31_1
                    try clear hcz31_2
                    try clear hcz31_3
                    try clear hcz31_4
                    try clear hcz31_5
                    try clear hcz31_6
                    try clear hcz31_7
                    try clear hcz41_0
                    try clear hcz41_1
                    try clear hcz41_2
                    try clear hcz41_3
                    try clear hcz41_4
                    try clear hcz41_5
                    try clear hcz41_6
                    try clear hcz41_7
                    try clear hcz42_0
                    try clear hcz42_1
                    try clear hcz42_2
                    try clear hcz42_3
                    try clear hcz42_4
                    try clear hcz42_5
                    try clear hcz42_6
                    try clear hcz42_7
                    try clear hcz51_0
                    try clear hcz51_1
                    try clear hcz51_2
                    try clear hcz51_3
                    try clear hcz51_4
                    try clear hcz51_5
                    try clear hcz51_6
                    try clear hcz51_7
                    try clear hcz52_0
                    try clear hcz52_1
                    try clear hcz52_2
                    try clear hcz52_3
                    try clear hcz52_4
                    try clear hcz52_5
                    try clear hcz52_6
                    try clear hcz52_7
                    try clear hcz60_0
                    try clear hcz60_1
                    try clear hcz60_2
                    try clear hcz60_3
                    try clear hcz60_4
                    try clear hcz60_5
                    try clear hcz60_6
                    try clear hcz60_7
                    try clear hcz62_0
                    try clear hcz62_1
                    try clear hcz62_2
                    try clear hcz62_3
                    try clear hcz62_4
                    try clear hcz62_5
                    try clear hcz62_6
                    try clear hcz62_7
                    try clear hcz66_0
                    try clear hcz66_1
                    try clear hcz66_2
                    try clear hcz66_3
                    try clear hcz66_4
                    try clear hcz66_5
                    try clear hcz66_6
                    try clear hcz66_7
                    try clear hcz68_0
                    try clear hcz68_1
                    try clear hcz68_2
                    try clear hcz68_3
                    try clear hcz68_4
                    try clear hcz68_5
                    try clear hcz68_6
                    try clear hcz68_7
                    try clear hcz73_0
                    try clear hcz73_1
                    try clear hcz73_2
                    try clear hcz73_3
                    try clear hcz73_4
                    try clear hcz73_5
                    try clear hcz73_6
                    try clear hcz73_7
                    try clear hcz75_0
                    try clear hcz75_1
                    try clear hcz75_2
                    try clear hcz75_3
                    try clear hcz75_4
                    try clear hcz75_5
                    try clear hcz75_6
                    try clear hcz75_7
                    try clear hcz76_0
                    try clear hcz76_1
                    try clear hcz76_2
                    try clear hcz76_3
                    try clear hcz76_4
                    try clear hcz76_5
                    try clear hcz76_6
                    try clear hcz76_7
                    try clear hcz79_0
                    try clear hcz79_1
                    try clear hcz79_2
                    try clear hcz79_3
                    try clear hcz79_4
                    try clear hcz79_5
                    try clear hcz79_6
                    try clear hcz79_7
                    try clear hcz81_0
                    try clear hcz81_1
                    try clear hcz81_2
                    try clear hcz81_3
                    try clear hcz81_4
                    try clear hcz81_5
                    try clear hcz81_6
                    try clear hcz81_7
                    try clear hcz82_0
                    try clear hcz82_1
                    try clear hcz82_2
                    try clear hcz82_3
                    try clear hcz82_4
                    try clear hcz82_5
                    try clear hcz82_6
                    try clear hcz82_7
                    try clear hcz85_0
                    try clear hcz85_1
                    try clear hcz85_2
                    try clear hcz85_3
                    try clear hcz85_4
                    try clear hcz85_5
                    try clear hcz85_6
                    try clear hcz85_7
                    try clear hcz87_0
                    try clear hcz87_1
                    try clear hcz87_2
                    try clear hcz87_3
                    try clear hcz87_4
                    try clear hcz87_5
                    try clear hcz87_6
                    try clear hcz87_7
                    try clear hfz16_0
                    try clear hfz16_1
                    try clear hfz16_2
                    try clear hfz16_3
                    try clear hfz16_4
                    try clear hfz16_5
                    try clear hfz16_6
                    try clear hfz16_7
                    try clear hfz17_0
                    try clear hfz17_1
                    try clear hfz17_2
                    try clear hfz17_3
                    try clear hfz17_4
                    try clear hfz17_5
                    try clear hfz17_6
                    try clear hfz17_7
                    try clear hfz19_0
                    try clear hfz19_1
                    try clear hfz19_2
                    try clear hfz19_3
                    try clear hfz19_4
                    try clear hfz19_5
                    try clear hfz19_6
                    try clear hfz19_7
                    try clear hfz20_0
                    try clear hfz20_1
                    try clear hfz20_2
                    try clear hfz20_3
                    try clear hfz20_4
                    try clear hfz20_5
                    try clear hfz20_6
                    try clear hfz20_7
                    try clear hfz22_0
                    try clear hfz22_1
                    try clear hfz22_2
                    try clear hfz22_3
                    try clear hfz22_4
                    try clear hfz22_5
                    try clear hfz22_6
                    try clear hfz22_7
                    try clear hfz23_0
                    try clear hfz23_1
                    try clear hfz23_2
                    try clear hfz23_3
                    try clear hfz23_4
                    try clear hfz23_5
                    try clear hfz23_6
                    try clear hfz23_7
                    try clear hfz25_0
                    try clear hfz25_1
                    try clear hfz25_2
                    try clear hfz25_3
                    try clear hfz25_4
                    try clear hfz25_5
                    try clear hfz25_6
                    try clear hfz25_7
                    try clear hfz26_0
                    try clear hfz26_1
                    try clear hfz26_2
                    try clear hfz26_3
                    try clear hfz26_4
                    try clear hfz26_5
                    try clear hfz26_6
                    try clear hfz26_7
                    try clear hfz28_0
                    try clear hfz28_1
                    try clear hfz28_2
                    try clear hfz28_3
                    try clear hfz28_4
                    try clear hfz28_5
                    try clear hfz28_6
                    try clear hfz28_7
                    try clear hfz29_0
                    try clear hfz29_1
                    try clear hfz29_2
                    try clear hfz29_3
                    try clear hfz29_4
                    try clear hfz29_5
                    try clear hfz29_6
                    try clear hfz29_7
                    try clear hfz31_0
                    try clear hfz31_1
                    try clear hfz31_2
                    try clear hfz31_3
                    try clear hfz31_4
                    try clear hfz31_5
                    try clear hfz31_6
                    try clear hfz31_7
                    try clear hfz41_0
                    try clear hfz41_1
                    try clear hfz41_2
                    try clear hfz41_3
                    try clear hfz41_4
                    try clear hfz41_5
                    try clear hfz41_6
                    try clear hfz41_7
                    try clear hfz42_0
                    try clear hfz42_1
                    try clear hfz42_2
                    try clear hfz42_3
                    try clear hfz42_4
                    try clear hfz42_5
                    try clear hfz42_6
                    try clear hfz42_7
                    try clear hfz51_0
                    try clear hfz51_1
                    try clear hfz51_2
                    try clear hfz51_3
                    try clear hfz51_4
                    try clear hfz51_5
                    try clear hfz51_6
                    try clear hfz51_7
                    try clear hfz52_0
                    try clear hfz52_1
                    try clear hfz52_2
                    try clear hfz52_3
                    try clear hfz52_4
                    try clear hfz52_5
                    try clear hfz52_6
                    try clear hfz52_7
                    try clear hfz60_0
                    try clear hfz60_1
                    try clear hfz60_2
                    try clear hfz60_3
                    try clear hfz60_4
                    try clear hfz60_5
                    try clear hfz60_6
                    try clear hfz60_7
                    try clear hfz62_0
                    try clear hfz62_1
                    try clear hfz62_2
                    try clear hfz62_3
                    try clear hfz62_4
                    try clear hfz62_5
                    try clear hfz62_6
                    try clear hfz62_7
                    try clear hfz66_0
                    try clear hfz66_1
                    try clear hfz66_2
                    try clear hfz66_3
                    try clear hfz66_4
                    try clear hfz66_5
                    try clear hfz66_6
                    try clear hfz66_7
                    try clear hfz68_0
                    try clear hfz68_1
                    try clear hfz68_2
                    try clear hfz68_3
                    try clear hfz68_4
                    try clear hfz68_5
                    try clear hfz68_6
                    try clear hfz68_7
                    try clear hfz73_0
                    try clear hfz73_1
                    try clear hfz73_2
                    try clear hfz73_3
                    try clear hfz73_4
                    try clear hfz73_5
                    try clear hfz73_6
                    try clear hfz73_7
                    try clear hfz75_0
                    try clear hfz75_1
                    try clear hfz75_2
                    try clear hfz75_3
                    try clear hfz75_4
                    try clear hfz75_5
                    try clear hfz75_6
                    try clear hfz75_7
                    try clear hfz76_0
                    try clear hfz76_1
                    try clear hfz76_2
                    try clear hfz76_3
                    try clear hfz76_4
                    try clear hfz76_5
                    try clear hfz76_6
                    try clear hfz76_7
                    try clear hfz79_0
                    try clear hfz79_1
                    try clear hfz79_2
                    try clear hfz79_3
                    try clear hfz79_4
                    try clear hfz79_5
                    try clear hfz79_6
                    try clear hfz79_7
                    try clear hfz81_0
                    try clear hfz81_1
                    try clear hfz81_2
                    try clear hfz81_3
                    try clear hfz81_4
                    try clear hfz81_5
                    try clear hfz81_6
                    try clear hfz81_7
                    try clear hfz82_0
                    try clear hfz82_1
                    try clear hfz82_2
                    try clear hfz82_3
                    try clear hfz82_4
                    try clear hfz82_5
                    try clear hfz82_6
                    try clear hfz82_7
                    try clear hfz85_0
                    try clear hfz85_1
                    try clear hfz85_2
                    try clear hfz85_3
                    try clear hfz85_4
                    try clear hfz85_5
                    try clear hfz85_6
                    try clear hfz85_7
                    try clear hfz87_0
                    try clear hfz87_1
                    try clear hfz87_2
                    try clear hfz87_3
                    try clear hfz87_4
                    try clear hfz87_5
                    try clear hfz87_6
                    try clear hfz87_7
                    try clear p2
                    obtain ⟨x12_4, rfl, HA, HK4, BK337, BK338, BK355, HB⟩ := hrel
                    cases gk with
                    | zero => exact absurd HA.out (by simp [cornucopialaw21_LayoutBack.l0])
                    | succ k4 =>
                      have H := HA.out
                      clear HA
                      simp only [cornucopialaw21_LayoutBack.l0] at H
                      by_cases c89 : x12_4 < 3
                      · rw [if_pos c89] at H
                        have c89b0 : decide (x12_4 < 3) = true := decide_eq_true c89
                        clear c89
                        replace H := Option.bind_eq_some_iff.mp H
                        obtain ⟨t358, A900, H⟩ := H
                        replace H : ((layout_Parse.f k4 t358).bind fun bt359 => (if bt359.2.2.2.2.2.2.2.2 = 0 then (if (!(bt359.1.toList == a0_0.toList) || (!(bt359.2.1 == x12_4) || (!(bt359.2.2.1.toList == ([] : List UInt8)) || (((!(bt359.2.2.2.1 == 0) || (!(bt359.2.2.2.2.1 == 0) || (!(bt359.2.2.2.2.2.1 == 0) || (!(bt359.2.2.2.2.2.2.1 == 0))))) || (!(bt359.2.2.2.2.2.2.2.1 == 0))))))) = true then (none) else (if ((Op.bytesLess t358.toList t356.toList) = true) then (cornucopialaw21_LayoutBack.l0 k4 t344 t345 t356 t357 (wrap64 (x12_4 + 1)) a0_0 3 a0_2 a0_3 a0_4 a0_5 a0_6 a0_7 a1_0 3 a1_2 a1_3 a1_4 a1_5 a1_6 a1_7) else (if (Op.bytesLess t358.toList t357.toList) = true then (none) else (cornucopialaw21_LayoutBack.l0 k4 t344 t345 t356 t357 (wrap64 (x12_4 + 1)) a0_0 3 a0_2 a0_3 a0_4 a0_5 a0_6 a0_7 a1_0 3 a1_2 a1_3 a1_4 a1_5 a1_6 a1_7)))) else (none))) = some r := H
                        have A90 := Aside0.mk A900
                        clear A900
                        replace H := Option.bind_eq_some_iff.mp H
                        obtain ⟨⟨t359, t360, t361, t362, t363, t364, t365, t366, t367⟩, A910, H⟩ := H
                        replace H : (if t367 = 0 then (if (!(t359.toList == a0_0.toList) || (!(t360 == x12_4) || (!(t361.toList == ([] : List UInt8)) || (((!(t362 == 0) || (!(t363 == 0) || (!(t364 == 0) || (!(t365 == 0))))) || (!(t366 == 0))))))) = true then (none) else (if ((Op.bytesLess t358.toList t356.toList) = true) then (cornucopialaw21_LayoutBack.l0 k4 t344 t345 t356 t357 (wrap64 (x12_4 + 1)) a0_0 3 a0_2 a0_3 a0_4 a0_5 a0_6 a0_7 a1_0 3 a1_2 a1_3 a1_4 a1_5 a1_6 a1_7) else (if (Op.bytesLess t358.toList t357.toList) = true then (none) else (cornucopialaw21_LayoutBack.l0 k4 t344 t345 t356 t357 (wrap64 (x12_4 + 1)) a0_0 3 a0_2 a0_3 a0_4 a0_5 a0_6 a0_7 a1_0 3 a1_2 a1_3 a1_4 a1_5 a1_6 a1_7)))) else (none)) = some r := H
                        have A91 := Aside0.mk A910
                        clear A910
                        by_cases c92 : t367 = 0
                        · rw [if_pos c92] at H
                          have c92b0 : (t367 == 0) = true := beq_iff_eq.mpr c92
                          have c92b1 : (t367 != 0) = false := bne_eq_false_iff_eq.mpr c92
                          clear c92
                          by_cases c93 : (!(t359.toList == a0_0.toList) || (!(t360 == x12_4) || (!(t361.toList == ([] : List UInt8)) || (((!(t362 == 0) || (!(t363 == 0) || (!(t364 == 0) || (!(t365 == 0))))) || (!(t366 == 0))))))) = true
                          · rw [if_pos c93] at H
                            exact absurd H (by simp)
                          · rw [if_neg c93] at H
                            have c93b0 : (!(t359.toList == a0_0.toList) || (!(t360 == x12_4) || (!(t361.toList == ([] : List UInt8)) || (((!(t362 == 0) || (!(t363 == 0) || (!(t364 == 0) || (!(t365 == 0))))) || (!(t366 == 0))))))) = false := by simpa using c93
                            have c93y := c93b0
                            simp only [Bool.or_eq_false_iff, Bool.not_eq_false', beq_iff_eq] at c93y
                            clear c93
                            by_cases c94 : ((Op.bytesLess t358.toList t356.toList) = true)
                            · rw [if_pos c94] at H
                              have c94b0 : (Op.bytesLess t358.toList t356.toList) = true := c94
                              clear c94
                              have H' := Aside0.mk H
                              clear H
                              have hnb95 := NB337_338.out
                              have hnc95 := NB338_337.out
                              have hnb96 := NB337_355.out
                              have hnc96 := NB355_337.out
                              have hcz97_0 : wr.cell? ⟨gb337, 0, none⟩ = some (.string a0_0) := (blk_cell BK337.out 0).trans rfl
                              have hcz97_1 : wr.cell? ⟨gb337, 1, none⟩ = some (.int .i64 3) := (blk_cell BK337.out 1).trans rfl
                              have hcz97_2 : wr.cell? ⟨gb337, 2, none⟩ = some (.string a0_2) := (blk_cell BK337.out 2).trans rfl
                              have hcz97_3 : wr.cell? ⟨gb337, 3, none⟩ = some (.int .u8 a0_3) := (blk_cell BK337.out 3).trans rfl
                              have hcz97_4 : wr.cell? ⟨gb337, 4, none⟩ = some (.int .u8 a0_4) := (blk_cell BK337.out 4).trans rfl
                              have hcz97_5 : wr.cell? ⟨gb337, 5, none⟩ = some (.int .u8 a0_5) := (blk_cell BK337.out 5).trans rfl
                              have hcz97_6 : wr.cell? ⟨gb337, 6, none⟩ = some (.int .u8 a0_6) := (blk_cell BK337.out 6).trans rfl
                              have hcz97_7 : wr.cell? ⟨gb337, 7, none⟩ = some (.int .u64 a0_7) := (blk_cell BK337.out 7).trans rfl
                              have hfz97_0 := blk_frozen BK337.out 0
                              have hfz97_1 := blk_frozen BK337.out 1
                              have hfz97_2 := blk_frozen BK337.out 2
                              have hfz97_3 := blk_frozen BK337.out 3
                              have hfz97_4 := blk_frozen BK337.out 4
                              have hfz97_5 := blk_frozen BK337.out 5
                              have hfz97_6 := blk_frozen BK337.out 6
                              have hfz97_7 := blk_frozen BK337.out 7
                              go_wp2_with (first | ((with_reducible refine gate_callee (f := 11) rfl ?_); refine goesL_ (some 128) rfl rfl Tryd.func11 (by kernel_rfl) rfl #[.string a0_0, .int .i64 x12_4] rfl (by (try simp only [List.map_toArray, List.map_cons, List.map_nil]); first | done | rfl | (simp only [List.length_drop, List.length_take]; rfl)) ?_; (with_reducible refine (layout_Key.calls a0_0 x12_4 t358 _ A90.out).mono ?_); rintro e w98 ⟨rfl, hb⟩; refine ⟨_, rfl, ?_⟩; have n0_ := Aside0.mk (blk_below (g := gb337) (o := .cells #[.string a0_0, .int .i64 3, .string a0_2, .int .u8 a0_3, .int .u8 a0_4, .int .u8 a0_5, .int .u8 a0_6, .int .u64 a0_7] 29 (0, 0)) (by (with_reducible repeat (first | refine blk_drewN ?_ _ | refine blk_drew ?_ | refine blk_alloc ?_ _)); exact BK337.out) hb); have n1_ := Aside0.mk (blk_below (g := gb338) (o := .cells #[.string a1_0, .int .i64 3, .string a1_2, .int .u8 a1_3, .int .u8 a1_4, .int .u8 a1_5, .int .u8 a1_6, .int .u64 a1_7] 29 (0, 0)) (by (with_reducible repeat (first | refine blk_drewN ?_ _ | refine blk_drew ?_ | refine blk_alloc ?_ _)); exact BK338.out) hb); have n2_ := Aside0.mk (blk_below (g := gb355) (o := .cells #[.string t346, .int .i64 t347, .string t348, .int .u8 t349, .int .u8 t350, .int .u8 t351, .int .u8 t352, .int .u64 t353] 29 (0, 0)) (by (with_reducible repeat (first | refine blk_drewN ?_ _ | refine blk_drew ?_ | refine blk_alloc ?_ _)); exact BK355.out) hb); have n3_ := Aside0.mk (below_step (by repeat (first | (with_reducible first | exact HB.out | apply below_alloc | apply pw_below_drewN | apply below_drew1 | refine below_set ?_ GE337.out | refine below_set ?_ GE338.out | refine below_set ?_ GE355.out) | exact HB.out)) hb); clear BK337; clear BK338; clear BK355; clear HB; have BK337 := n0_; have BK338 := n1_; have BK355 := n2_; have HB := n3_; clear n0_ n1_ n2_ n3_; (try clear hb); (try clear hb2); (try clear hk); (try clear hi)) | ((with_reducible refine gate_callee (f := 7) rfl ?_); refine goesL_ (some 131) rfl rfl Tryd.func7 (by kernel_rfl) rfl #[.string t358] rfl (by (try simp only [List.map_toArray, List.map_cons, List.map_nil]); first | done | rfl | (simp only [List.length_drop, List.length_take]; rfl)) ?_; (with_reducible refine (layout_Parse.calls k4 t358 t359 t360 t361 t362 t363 t364 t365 t366 t367 _ A91.out).mono ?_); rintro e w99 ⟨rfl, hb⟩; refine ⟨_, rfl, ?_⟩; have n0_ := Aside0.mk (blk_below (g := gb337) (o := .cells #[.string a0_0, .int .i64 3, .string a0_2, .int .u8 a0_3, .int .u8 a0_4, .int .u8 a0_5, .int .u8 a0_6, .int .u64 a0_7] 29 (0, 0)) (by (with_reducible repeat (first | refine blk_drewN ?_ _ | refine blk_drew ?_ | refine blk_alloc ?_ _)); exact BK337.out) hb); have n1_ := Aside0.mk (blk_below (g := gb338) (o := .cells #[.string a1_0, .int .i64 3, .string a1_2, .int .u8 a1_3, .int .u8 a1_4, .int .u8 a1_5, .int .u8 a1_6, .int .u64 a1_7] 29 (0, 0)) (by (with_reducible repeat (first | refine blk_drewN ?_ _ | refine blk_drew ?_ | refine blk_alloc ?_ _)); exact BK338.out) hb); have n2_ := Aside0.mk (blk_below (g := gb355) (o := .cells #[.string t346, .int .i64 t347, .string t348, .int .u8 t349, .int .u8 t350, .int .u8 t351, .int .u8 t352, .int .u64 t353] 29 (0, 0)) (by (with_reducible repeat (first | refine blk_drewN ?_ _ | refine blk_drew ?_ | refine blk_alloc ?_ _)); exact BK355.out) hb); have n3_ := Aside0.mk (below_step (by repeat (first | (with_reducible first | exact HB.out | apply below_alloc | apply pw_below_drewN | apply below_drew1 | refine below_set ?_ GE337.out | refine below_set ?_ GE338.out | refine below_set ?_ GE355.out) | exact HB.out)) hb); clear BK337; clear BK338; clear BK355; clear HB; have BK337 := n0_; have BK338 := n1_; have BK355 := n2_; have HB := n3_; clear n0_ n1_ n2_ n3_; (try clear hb); (try clear hb2); (try clear hk); (try clear hi)) | ((with_reducible refine gate_dst (N := 14) rfl ?_); refine box_event ?hg (N := 14) ?hd (cs := #[.string (⟨#[]⟩ : ByteArray), .int .i64 0, .string (⟨#[]⟩ : ByteArray), .int .u8 0, .int .u8 0, .int .u8 0, .int .u8 0, .int .u64 0]) (t := 29) ?hr ?_; (case hd => rfl); (case hg => rfl); (case hr => first | (go_simp; done) | (go_simp; rfl)); intro gb368 hg w100 hbox hb; have n0_ := Aside0.mk (blk_below (g := gb337) (o := .cells #[.string a0_0, .int .i64 3, .string a0_2, .int .u8 a0_3, .int .u8 a0_4, .int .u8 a0_5, .int .u8 a0_6, .int .u64 a0_7] 29 (0, 0)) (by (with_reducible repeat (first | refine blk_drewN ?_ _ | refine blk_drew ?_ | refine blk_alloc ?_ _)); exact BK337.out) hb); have n1_ := Aside0.mk (blk_below (g := gb338) (o := .cells #[.string a1_0, .int .i64 3, .string a1_2, .int .u8 a1_3, .int .u8 a1_4, .int .u8 a1_5, .int .u8 a1_6, .int .u64 a1_7] 29 (0, 0)) (by (with_reducible repeat (first | refine blk_drewN ?_ _ | refine blk_drew ?_ | refine blk_alloc ?_ _)); exact BK338.out) hb); have n2_ := Aside0.mk (blk_below (g := gb355) (o := .cells #[.string t346, .int .i64 t347, .string t348, .int .u8 t349, .int .u8 t350, .int .u8 t351, .int .u8 t352, .int .u64 t353] 29 (0, 0)) (by (with_reducible repeat (first | refine blk_drewN ?_ _ | refine blk_drew ?_ | refine blk_alloc ?_ _)); exact BK355.out) hb); have n3_ := Aside0.mk (below_step (by repeat (first | (with_reducible first | exact HB.out | apply below_alloc | apply pw_below_drewN | apply below_drew1 | refine below_set ?_ GE337.out | refine below_set ?_ GE338.out | refine below_set ?_ GE355.out) | exact HB.out)) hb); have n4_ := Aside0.mk (hbox); have n5_ := Aside0.mk ((by rw [hg]; exact (below_size (by repeat (first | (with_reducible first | exact HB.out | apply below_alloc | apply pw_below_drewN | apply below_drew1 | refine below_set ?_ GE337.out | refine below_set ?_ GE338.out | refine below_set ?_ GE355.out) | exact HB.out))) : w.heap.size ≤ gb368)); have n6_ := Aside0.mk ((by rw [hg]; exact (below_size (by repeat (first | (with_reducible first | exact HB.out | apply below_alloc | apply pw_below_drewN | apply below_drew1 | refine below_set ?_ GE337.out | refine below_set ?_ GE338.out | refine below_set ?_ GE355.out) | exact HB.out))) : w.heap.size ≤ gb368)); have n7_ := Aside0.mk ((by rw [hg]; exact Nat.ne_of_lt (blk_lt (g := gb337) (o := .cells #[.string a0_0, .int .i64 3, .string a0_2, .int .u8 a0_3, .int .u8 a0_4, .int .u8 a0_5, .int .u8 a0_6, .int .u64 a0_7] 29 (0, 0)) (by (with_reducible repeat (first | refine blk_drewN ?_ _ | refine blk_drew ?_ | refine blk_alloc ?_ _)); exact BK337.out)) : gb337 ≠ gb368)); have n8_ := Aside0.mk ((by rw [hg]; exact Nat.ne_of_gt (blk_lt (g := gb337) (o := .cells #[.string a0_0, .int .i64 3, .string a0_2, .int .u8 a0_3, .int .u8 a0_4, .int .u8 a0_5, .int .u8 a0_6, .int .u64 a0_7] 29 (0, 0)) (by (with_reducible repeat (first | refine blk_drewN ?_ _ | refine blk_drew ?_ | refine blk_alloc ?_ _)); exact BK337.out)) : gb368 ≠ gb337)); have n9_ := Aside0.mk ((by rw [hg]; exact Nat.ne_of_lt (blk_lt (g := gb338) (o := .cells #[.string a1_0, .int .i64 3, .string a1_2, .int .u8 a1_3, .int .u8 a1_4, .int .u8 a1_5, .int .u8 a1_6, .int .u64 a1_7] 29 (0, 0)) (by (with_reducible repeat (first | refine blk_drewN ?_ _ | refine blk_drew ?_ | refine blk_alloc ?_ _)); exact BK338.out)) : gb338 ≠ gb368)); have n10_ := Aside0.mk ((by rw [hg]; exact Nat.ne_of_gt (blk_lt (g := gb338) (o := .cells #[.string a1_0, .int .i64 3, .string a1_2, .int .u8 a1_3, .int .u8 a1_4, .int .u8 a1_5, .int .u8 a1_6, .int .u64 a1_7] 29 (0, 0)) (by (with_reducible repeat (first | refine blk_drewN ?_ _ | refine blk_drew ?_ | refine blk_alloc ?_ _)); exact BK338.out)) : gb368 ≠ gb338)); have n11_ := Aside0.mk ((by rw [hg]; exact Nat.ne_of_lt (blk_lt (g := gb355) (o := .cells #[.string t346, .int .i64 t347, .string t348, .int .u8 t349, .int .u8 t350, .int .u8 t351, .int .u8 t352, .int .u64 t353] 29 (0, 0)) (by (with_reducible repeat (first | refine blk_drewN ?_ _ | refine blk_drew ?_ | refine blk_alloc ?_ _)); exact BK355.out)) : gb355 ≠ gb368)); have n12_ := Aside0.mk ((by rw [hg]; exact Nat.ne_of_gt (blk_lt (g := gb355) (o := .cells #[.string t346, .int .i64 t347, .string t348, .int .u8 t349, .int .u8 t350, .int .u8 t351, .int .u8 t352, .int .u64 t353] 29 (0, 0)) (by (with_reducible repeat (first | refine blk_drewN ?_ _ | refine blk_drew ?_ | refine blk_alloc ?_ _)); exact BK355.out)) : gb368 ≠ gb355)); clear BK337; clear BK338; clear BK355; clear HB; have BK337 := n0_; have BK338 := n1_; have BK355 := n2_; have HB := n3_; have BK368 := n4_; have GW368 := n5_; have GE368 := n6_; have NB337_368 := n7_; have NB368_337 := n8_; have NB338_368 := n9_; have NB368_338 := n10_; have NB355_368 := n11_; have NB368_355 := n12_; clear n0_ n1_ n2_ n3_ n4_ n5_ n6_ n7_ n8_ n9_ n10_ n11_ n12_; clear hb hbox hg; have hnb101 := NB368_337.out; have hnc101 := NB337_368.out; have hnb102 := NB368_338.out; have hnc102 := NB338_368.out; have hnb103 := NB368_355.out; have hnc103 := NB355_368.out; have hcz104_0 : w100.cell? ⟨gb368, 0, none⟩ = some (.string (⟨#[]⟩ : ByteArray)) := (blk_cell BK368.out 0).trans rfl; have hcz104_1 : w100.cell? ⟨gb368, 1, none⟩ = some (.int .i64 0) := (blk_cell BK368.out 1).trans rfl; have hcz104_2 : w100.cell? ⟨gb368, 2, none⟩ = some (.string (⟨#[]⟩ : ByteArray)) := (blk_cell BK368.out 2).trans rfl; have hcz104_3 : w100.cell? ⟨gb368, 3, none⟩ = some (.int .u8 0) := (blk_cell BK368.out 3).trans rfl; have hcz104_4 : w100.cell? ⟨gb368, 4, none⟩ = some (.int .u8 0) := (blk_cell BK368.out 4).trans rfl; have hcz104_5 : w100.cell? ⟨gb368, 5, none⟩ = some (.int .u8 0) := (blk_cell BK368.out 5).trans rfl; have hcz104_6 : w100.cell? ⟨gb368, 6, none⟩ = some (.int .u8 0) := (blk_cell BK368.out 6).trans rfl; have hcz104_7 : w100.cell? ⟨gb368, 7, none⟩ = some (.int .u64 0) := (blk_cell BK368.out 7).trans rfl; have hfz104_0 := blk_frozen BK368.out 0; have hfz104_1 := blk_frozen BK368.out 1; have hfz104_2 := blk_frozen BK368.out 2; have hfz104_3 := blk_frozen BK368.out 3; have hfz104_4 := blk_frozen BK368.out 4; have hfz104_5 := blk_frozen BK368.out 5; have hfz104_6 := blk_frozen BK368.out 6; have hfz104_7 := blk_frozen BK368.out 7; have hcz105_0 : w100.cell? ⟨gb337, 0, none⟩ = some (.string a0_0) := (blk_cell BK337.out 0).trans rfl; have hcz105_1 : w100.cell? ⟨gb337, 1, none⟩ = some (.int .i64 3) := (blk_cell BK337.out 1).trans rfl; have hcz105_2 : w100.cell? ⟨gb337, 2, none⟩ = some (.string a0_2) := (blk_cell BK337.out 2).trans rfl; have hcz105_3 : w100.cell? ⟨gb337, 3, none⟩ = some (.int .u8 a0_3) := (blk_cell BK337.out 3).trans rfl; have hcz105_4 : w100.cell? ⟨gb337, 4, none⟩ = some (.int .u8 a0_4) := (blk_cell BK337.out 4).trans rfl; have hcz105_5 : w100.cell? ⟨gb337, 5, none⟩ = some (.int .u8 a0_5) := (blk_cell BK337.out 5).trans rfl; have hcz105_6 : w100.cell? ⟨gb337, 6, none⟩ = some (.int .u8 a0_6) := (blk_cell BK337.out 6).trans rfl; have hcz105_7 : w100.cell? ⟨gb337, 7, none⟩ = some (.int .u64 a0_7) := (blk_cell BK337.out 7).trans rfl; have hfz105_0 := blk_frozen BK337.out 0; have hfz105_1 := blk_frozen BK337.out 1; have hfz105_2 := blk_frozen BK337.out 2; have hfz105_3 := blk_frozen BK337.out 3; have hfz105_4 := blk_frozen BK337.out 4; have hfz105_5 := blk_frozen BK337.out 5; have hfz105_6 := blk_frozen BK337.out 6; have hfz105_7 := blk_frozen BK337.out 7))
                              go_roundg k4
                              case measure => have := HJ2.out; have := HJ38.out; have := HJ54.out; have := HK4.out; omega
                              case rel => exact ⟨(wrap64 (x12_4 + 1)), (by first | rfl | (simp; done) | (simp [*]; done)), H', ⟨by have := HJ2.out; have := HJ38.out; have := HJ54.out; have := HK4.out; omega⟩, ⟨by (with_reducible repeat (first | refine blk_drewN ?_ _ | refine blk_drew ?_ | refine blk_alloc ?_ _)); refine blk_far ?_ NB337_368.out _; (with_reducible repeat (first | refine blk_drewN ?_ _ | refine blk_drew ?_ | refine blk_alloc ?_ _)); refine blk_far ?_ NB337_368.out _; (with_reducible repeat (first | refine blk_drewN ?_ _ | refine blk_drew ?_ | refine blk_alloc ?_ _)); refine blk_far ?_ NB337_368.out _; (with_reducible repeat (first | refine blk_drewN ?_ _ | refine blk_drew ?_ | refine blk_alloc ?_ _)); refine blk_far ?_ NB337_368.out _; (with_reducible repeat (first | refine blk_drewN ?_ _ | refine blk_drew ?_ | refine blk_alloc ?_ _)); refine blk_far ?_ NB337_368.out _; (with_reducible repeat (first | refine blk_drewN ?_ _ | refine blk_drew ?_ | refine blk_alloc ?_ _)); refine blk_far ?_ NB337_368.out _; (with_reducible repeat (first | refine blk_drewN ?_ _ | refine blk_drew ?_ | refine blk_alloc ?_ _)); refine blk_far ?_ NB337_368.out _; (with_reducible repeat (first | refine blk_drewN ?_ _ | refine blk_drew ?_ | refine blk_alloc ?_ _)); refine blk_far ?_ NB337_368.out _; (with_reducible repeat (first | refine blk_drewN ?_ _ | refine blk_drew ?_ | refine blk_alloc ?_ _)); exact BK337.out⟩, ⟨by (with_reducible repeat (first | refine blk_drewN ?_ _ | refine blk_drew ?_ | refine blk_alloc ?_ _)); refine blk_far ?_ NB338_368.out _; (with_reducible repeat (first | refine blk_drewN ?_ _ | refine blk_drew ?_ | refine blk_alloc ?_ _)); refine blk_far ?_ NB338_368.out _; (with_reducible repeat (first | refine blk_drewN ?_ _ | refine blk_drew ?_ | refine blk_alloc ?_ _)); refine blk_far ?_ NB338_368.out _; (with_reducible repeat (first | refine blk_drewN ?_ _ | refine blk_drew ?_ | refine blk_alloc ?_ _)); refine blk_far ?_ NB338_368.out _; (with_reducible repeat (first | refine blk_drewN ?_ _ | refine blk_drew ?_ | refine blk_alloc ?_ _)); refine blk_far ?_ NB338_368.out _; (with_reducible repeat (first | refine blk_drewN ?_ _ | refine blk_drew ?_ | refine blk_alloc ?_ _)); refine blk_far ?_ NB338_368.out _; (with_reducible repeat (first | refine blk_drewN ?_ _ | refine blk_drew ?_ | refine blk_alloc ?_ _)); refine blk_far ?_ NB338_368.out _; (with_reducible repeat (first | refine blk_drewN ?_ _ | refine blk_drew ?_ | refine blk_alloc ?_ _)); refine blk_far ?_ NB338_368.out _; (with_reducible repeat (first | refine blk_drewN ?_ _ | refine blk_drew ?_ | refine blk_alloc ?_ _)); exact BK338.out⟩, ⟨by (with_reducible repeat (first | refine blk_drewN ?_ _ | refine blk_drew ?_ | refine blk_alloc ?_ _)); refine blk_far ?_ NB355_368.out _; (with_reducible repeat (first | refine blk_drewN ?_ _ | refine blk_drew ?_ | refine blk_alloc ?_ _)); refine blk_far ?_ NB355_368.out _; (with_reducible repeat (first | refine blk_drewN ?_ _ | refine blk_drew ?_ | refine blk_alloc ?_ _)); refine blk_far ?_ NB355_368.out _; (with_reducible repeat (first | refine blk_drewN ?_ _ | refine blk_drew ?_ | refine blk_alloc ?_ _)); refine blk_far ?_ NB355_368.out _; (with_reducible repeat (first | refine blk_drewN ?_ _ | refine blk_drew ?_ | refine blk_alloc ?_ _)); refine blk_far ?_ NB355_368.out _; (with_reducible repeat (first | refine blk_drewN ?_ _ | refine blk_drew ?_ | refine blk_alloc ?_ _)); refine blk_far ?_ NB355_368.out _; (with_reducible repeat (first | refine blk_drewN ?_ _ | refine blk_drew ?_ | refine blk_alloc ?_ _)); refine blk_far ?_ NB355_368.out _; (with_reducible repeat (first | refine blk_drewN ?_ _ | refine blk_drew ?_ | refine blk_alloc ?_ _)); refine blk_far ?_ NB355_368.out _; (with_reducible repeat (first | refine blk_drewN ?_ _ | refine blk_drew ?_ | refine blk_alloc ?_ _)); exact BK355.out⟩, ⟨by repeat (first | (with_reducible first | exact HB.out | apply below_alloc | apply pw_below_drewN | apply below_drew1 | refine below_set ?_ GE337.out | refine below_set ?_ GE338.out | refine below_set ?_ GE355.out | refine below_set ?_ GE368.out) | exact HB.out)⟩⟩
                            · rw [if_neg c94] at H
                              have c94b0 : (Op.bytesLess t358.toList t356.toList) = false := by simpa using c94
                              clear c94
                              by_cases c106 : (Op.bytesLess t358.toList t357.toList) = true
                              · rw [if_pos c106] at H
                                exact absurd H (by simp)
                              · rw [if_neg c106] at H
                                have c106b0 : (Op.bytesLess t358.toList t357.toList) = false := by simpa using c106
                                clear c106
                                have H' := Aside0.mk H
                                clear H
                                have hnb107 := NB337_338.out
                                have hnc107 := NB338_337.out
                                have hnb108 := NB337_355.out
                                have hnc108 := NB355_337.out
                                have hcz109_0 : wr.cell? ⟨gb337, 0, none⟩ = some (.string a0_0) := (blk_cell BK337.out 0).trans rfl
                                have hcz109_1 : wr.cell? ⟨gb337, 1, none⟩ = some (.int .i64 3) := (blk_cell BK337.out 1).trans rfl
                                have hcz109_2 : wr.cell? ⟨gb337, 2, none⟩ = some (.string a0_2) := (blk_cell BK337.out 2).trans rfl
                                have hcz109_3 : wr.cell? ⟨gb337, 3, none⟩ = some (.int .u8 a0_3) := (blk_cell BK337.out 3).trans rfl
                                have hcz109_4 : wr.cell? ⟨gb337, 4, none⟩ = some (.int .u8 a0_4) := (blk_cell BK337.out 4).trans rfl
                                have hcz109_5 : wr.cell? ⟨gb337, 5, none⟩ = some (.int .u8 a0_5) := (blk_cell BK337.out 5).trans rfl
                                have hcz109_6 : wr.cell? ⟨gb337, 6, none⟩ = some (.int .u8 a0_6) := (blk_cell BK337.out 6).trans rfl
                                have hcz109_7 : wr.cell? ⟨gb337, 7, none⟩ = some (.int .u64 a0_7) := (blk_cell BK337.out 7).trans rfl
                                have hfz109_0 := blk_frozen BK337.out 0
                                have hfz109_1 := blk_frozen BK337.out 1
                                have hfz109_2 := blk_frozen BK337.out 2
                                have hfz109_3 := blk_frozen BK337.out 3
                                have hfz109_4 := blk_frozen BK337.out 4
                                have hfz109_5 := blk_frozen BK337.out 5
                                have hfz109_6 := blk_frozen BK337.out 6
                                have hfz109_7 := blk_frozen BK337.out 7
                                go_wp2_with (first | ((with_reducible refine gate_callee (f := 11) rfl ?_); refine goesL_ (some 128) rfl rfl Tryd.func11 (by kernel_rfl) rfl #[.string a0_0, .int .i64 x12_4] rfl (by (try simp only [List.map_toArray, List.map_cons, List.map_nil]); first | done | rfl | (simp only [List.length_drop, List.length_take]; rfl)) ?_; (with_reducible refine (layout_Key.calls a0_0 x12_4 t358 _ A90.out).mono ?_); rintro e w110 ⟨rfl, hb⟩; refine ⟨_, rfl, ?_⟩; have n0_ := Aside0.mk (blk_below (g := gb337) (o := .cells #[.string a0_0, .int .i64 3, .string a0_2, .int .u8 a0_3, .int .u8 a0_4, .int .u8 a0_5, .int .u8 a0_6, .int .u64 a0_7] 29 (0, 0)) (by (with_reducible repeat (first | refine blk_drewN ?_ _ | refine blk_drew ?_ | refine blk_alloc ?_ _)); exact BK337.out) hb); have n1_ := Aside0.mk (blk_below (g := gb338) (o := .cells #[.string a1_0, .int .i64 3, .string a1_2, .int .u8 a1_3, .int .u8 a1_4, .int .u8 a1_5, .int .u8 a1_6, .int .u64 a1_7] 29 (0, 0)) (by (with_reducible repeat (first | refine blk_drewN ?_ _ | refine blk_drew ?_ | refine blk_alloc ?_ _)); exact BK338.out) hb); have n2_ := Aside0.mk (blk_below (g := gb355) (o := .cells #[.string t346, .int .i64 t347, .string t348, .int .u8 t349, .int .u8 t350, .int .u8 t351, .int .u8 t352, .int .u64 t353] 29 (0, 0)) (by (with_reducible repeat (first | refine blk_drewN ?_ _ | refine blk_drew ?_ | refine blk_alloc ?_ _)); exact BK355.out) hb); have n3_ := Aside0.mk (below_step (by repeat (first | (with_reducible first | exact HB.out | apply below_alloc | apply pw_below_drewN | apply below_drew1 | refine below_set ?_ GE337.out | refine below_set ?_ GE338.out | refine below_set ?_ GE355.out) | exact HB.out)) hb); clear BK337; clear BK338; clear BK355; clear HB; have BK337 := n0_; have BK338 := n1_; have BK355 := n2_; have HB := n3_; clear n0_ n1_ n2_ n3_; (try clear hb); (try clear hb2); (try clear hk); (try clear hi)) | ((with_reducible refine gate_callee (f := 7) rfl ?_); refine goesL_ (some 131) rfl rfl Tryd.func7 (by kernel_rfl) rfl #[.string t358] rfl (by (try simp only [List.map_toArray, List.map_cons, List.map_nil]); first | done | rfl | (simp only [List.length_drop, List.length_take]; rfl)) ?_; (with_reducible refine (layout_Parse.calls k4 t358 t359 t360 t361 t362 t363 t364 t365 t366 t367 _ A91.out).mono ?_); rintro e w111 ⟨rfl, hb⟩; refine ⟨_, rfl, ?_⟩; have n0_ := Aside0.mk (blk_below (g := gb337) (o := .cells #[.string a0_0, .int .i64 3, .string a0_2, .int .u8 a0_3, .int .u8 a0_4, .int .u8 a0_5, .int .u8 a0_6, .int .u64 a0_7] 29 (0, 0)) (by (with_reducible repeat (first | refine blk_drewN ?_ _ | refine blk_drew ?_ | refine blk_alloc ?_ _)); exact BK337.out) hb); have n1_ := Aside0.mk (blk_below (g := gb338) (o := .cells #[.string a1_0, .int .i64 3, .string a1_2, .int .u8 a1_3, .int .u8 a1_4, .int .u8 a1_5, .int .u8 a1_6, .int .u64 a1_7] 29 (0, 0)) (by (with_reducible repeat (first | refine blk_drewN ?_ _ | refine blk_drew ?_ | refine blk_alloc ?_ _)); exact BK338.out) hb); have n2_ := Aside0.mk (blk_below (g := gb355) (o := .cells #[.string t346, .int .i64 t347, .string t348, .int .u8 t349, .int .u8 t350, .int .u8 t351, .int .u8 t352, .int .u64 t353] 29 (0, 0)) (by (with_reducible repeat (first | refine blk_drewN ?_ _ | refine blk_drew ?_ | refine blk_alloc ?_ _)); exact BK355.out) hb); have n3_ := Aside0.mk (below_step (by repeat (first | (with_reducible first | exact HB.out | apply below_alloc | apply pw_below_drewN | apply below_drew1 | refine below_set ?_ GE337.out | refine below_set ?_ GE338.out | refine below_set ?_ GE355.out) | exact HB.out)) hb); clear BK337; clear BK338; clear BK355; clear HB; have BK337 := n0_; have BK338 := n1_; have BK355 := n2_; have HB := n3_; clear n0_ n1_ n2_ n3_; (try clear hb); (try clear hb2); (try clear hk); (try clear hi)) | ((with_reducible refine gate_dst (N := 14) rfl ?_); refine box_event ?hg (N := 14) ?hd (cs := #[.string (⟨#[]⟩ : ByteArray), .int .i64 0, .string (⟨#[]⟩ : ByteArray), .int .u8 0, .int .u8 0, .int .u8 0, .int .u8 0, .int .u64 0]) (t := 29) ?hr ?_; (case hd => rfl); (case hg => rfl); (case hr => first | (go_simp; done) | (go_simp; rfl)); intro gb368 hg w112 hbox hb; have n0_ := Aside0.mk (blk_below (g := gb337) (o := .cells #[.string a0_0, .int .i64 3, .string a0_2, .int .u8 a0_3, .int .u8 a0_4, .int .u8 a0_5, .int .u8 a0_6, .int .u64 a0_7] 29 (0, 0)) (by (with_reducible repeat (first | refine blk_drewN ?_ _ | refine blk_drew ?_ | refine blk_alloc ?_ _)); exact BK337.out) hb); have n1_ := Aside0.mk (blk_below (g := gb338) (o := .cells #[.string a1_0, .int .i64 3, .string a1_2, .int .u8 a1_3, .int .u8 a1_4, .int .u8 a1_5, .int .u8 a1_6, .int .u64 a1_7] 29 (0, 0)) (by (with_reducible repeat (first | refine blk_drewN ?_ _ | refine blk_drew ?_ | refine blk_alloc ?_ _)); exact BK338.out) hb); have n2_ := Aside0.mk (blk_below (g := gb355) (o := .cells #[.string t346, .int .i64 t347, .string t348, .int .u8 t349, .int .u8 t350, .int .u8 t351, .int .u8 t352, .int .u64 t353] 29 (0, 0)) (by (with_reducible repeat (first | refine blk_drewN ?_ _ | refine blk_drew ?_ | refine blk_alloc ?_ _)); exact BK355.out) hb); have n3_ := Aside0.mk (below_step (by repeat (first | (with_reducible first | exact HB.out | apply below_alloc | apply pw_below_drewN | apply below_drew1 | refine below_set ?_ GE337.out | refine below_set ?_ GE338.out | refine below_set ?_ GE355.out) | exact HB.out)) hb); have n4_ := Aside0.mk (hbox); have n5_ := Aside0.mk ((by rw [hg]; exact (below_size (by repeat (first | (with_reducible first | exact HB.out | apply below_alloc | apply pw_below_drewN | apply below_drew1 | refine below_set ?_ GE337.out | refine below_set ?_ GE338.out | refine below_set ?_ GE355.out) | exact HB.out))) : w.heap.size ≤ gb368)); have n6_ := Aside0.mk ((by rw [hg]; exact (below_size (by repeat (first | (with_reducible first | exact HB.out | apply below_alloc | apply pw_below_drewN | apply below_drew1 | refine below_set ?_ GE337.out | refine below_set ?_ GE338.out | refine below_set ?_ GE355.out) | exact HB.out))) : w.heap.size ≤ gb368)); have n7_ := Aside0.mk ((by rw [hg]; exact Nat.ne_of_lt (blk_lt (g := gb337) (o := .cells #[.string a0_0, .int .i64 3, .string a0_2, .int .u8 a0_3, .int .u8 a0_4, .int .u8 a0_5, .int .u8 a0_6, .int .u64 a0_7] 29 (0, 0)) (by (with_reducible repeat (first | refine blk_drewN ?_ _ | refine blk_drew ?_ | refine blk_alloc ?_ _)); exact BK337.out)) : gb337 ≠ gb368)); have n8_ := Aside0.mk ((by rw [hg]; exact Nat.ne_of_gt (blk_lt (g := gb337) (o := .cells #[.string a0_0, .int .i64 3, .string a0_2, .int .u8 a0_3, .int .u8 a0_4, .int .u8 a0_5, .int .u8 a0_6, .int .u64 a0_7] 29 (0, 0)) (by (with_reducible repeat (first | refine blk_drewN ?_ _ | refine blk_drew ?_ | refine blk_alloc ?_ _)); exact BK337.out)) : gb368 ≠ gb337)); have n9_ := Aside0.mk ((by rw [hg]; exact Nat.ne_of_lt (blk_lt (g := gb338) (o := .cells #[.string a1_0, .int .i64 3, .string a1_2, .int .u8 a1_3, .int .u8 a1_4, .int .u8 a1_5, .int .u8 a1_6, .int .u64 a1_7] 29 (0, 0)) (by (with_reducible repeat (first | refine blk_drewN ?_ _ | refine blk_drew ?_ | refine blk_alloc ?_ _)); exact BK338.out)) : gb338 ≠ gb368)); have n10_ := Aside0.mk ((by rw [hg]; exact Nat.ne_of_gt (blk_lt (g := gb338) (o := .cells #[.string a1_0, .int .i64 3, .string a1_2, .int .u8 a1_3, .int .u8 a1_4, .int .u8 a1_5, .int .u8 a1_6, .int .u64 a1_7] 29 (0, 0)) (by (with_reducible repeat (first | refine blk_drewN ?_ _ | refine blk_drew ?_ | refine blk_alloc ?_ _)); exact BK338.out)) : gb368 ≠ gb338)); have n11_ := Aside0.mk ((by rw [hg]; exact Nat.ne_of_lt (blk_lt (g := gb355) (o := .cells #[.string t346, .int .i64 t347, .string t348, .int .u8 t349, .int .u8 t350, .int .u8 t351, .int .u8 t352, .int .u64 t353] 29 (0, 0)) (by (with_reducible repeat (first | refine blk_drewN ?_ _ | refine blk_drew ?_ | refine blk_alloc ?_ _)); exact BK355.out)) : gb355 ≠ gb368)); have n12_ := Aside0.mk ((by rw [hg]; exact Nat.ne_of_gt (blk_lt (g := gb355) (o := .cells #[.string t346, .int .i64 t347, .string t348, .int .u8 t349, .int .u8 t350, .int .u8 t351, .int .u8 t352, .int .u64 t353] 29 (0, 0)) (by (with_reducible repeat (first | refine blk_drewN ?_ _ | refine blk_drew ?_ | refine blk_alloc ?_ _)); exact BK355.out)) : gb368 ≠ gb355)); clear BK337; clear BK338; clear BK355; clear HB; have BK337 := n0_; have BK338 := n1_; have BK355 := n2_; have HB := n3_; have BK368 := n4_; have GW368 := n5_; have GE368 := n6_; have NB337_368 := n7_; have NB368_337 := n8_; have NB338_368 := n9_; have NB368_338 := n10_; have NB355_368 := n11_; have NB368_355 := n12_; clear n0_ n1_ n2_ n3_ n4_ n5_ n6_ n7_ n8_ n9_ n10_ n11_ n12_; clear hb hbox hg; have hnb113 := NB368_337.out; have hnc113 := NB337_368.out; have hnb114 := NB368_338.out; have hnc114 := NB338_368.out; have hnb115 := NB368_355.out; have hnc115 := NB355_368.out; have hcz116_0 : w112.cell? ⟨gb368, 0, none⟩ = some (.string (⟨#[]⟩ : ByteArray)) := (blk_cell BK368.out 0).trans rfl; have hcz116_1 : w112.cell? ⟨gb368, 1, none⟩ = some (.int .i64 0) := (blk_cell BK368.out 1).trans rfl; have hcz116_2 : w112.cell? ⟨gb368, 2, none⟩ = some (.string (⟨#[]⟩ : ByteArray)) := (blk_cell BK368.out 2).trans rfl; have hcz116_3 : w112.cell? ⟨gb368, 3, none⟩ = some (.int .u8 0) := (blk_cell BK368.out 3).trans rfl; have hcz116_4 : w112.cell? ⟨gb368, 4, none⟩ = some (.int .u8 0) := (blk_cell BK368.out 4).trans rfl; have hcz116_5 : w112.cell? ⟨gb368, 5, none⟩ = some (.int .u8 0) := (blk_cell BK368.out 5).trans rfl; have hcz116_6 : w112.cell? ⟨gb368, 6, none⟩ = some (.int .u8 0) := (blk_cell BK368.out 6).trans rfl; have hcz116_7 : w112.cell? ⟨gb368, 7, none⟩ = some (.int .u64 0) := (blk_cell BK368.out 7).trans rfl; have hfz116_0 := blk_frozen BK368.out 0; have hfz116_1 := blk_frozen BK368.out 1; have hfz116_2 := blk_frozen BK368.out 2; have hfz116_3 := blk_frozen BK368.out 3; have hfz116_4 := blk_frozen BK368.out 4; have hfz116_5 := blk_frozen BK368.out 5; have hfz116_6 := blk_frozen BK368.out 6; have hfz116_7 := blk_frozen BK368.out 7; have hcz117_0 : w112.cell? ⟨gb337, 0, none⟩ = some (.string a0_0) := (blk_cell BK337.out 0).trans rfl; have hcz117_1 : w112.cell? ⟨gb337, 1, none⟩ = some (.int .i64 3) := (blk_cell BK337.out 1).trans rfl; have hcz117_2 : w112.cell? ⟨gb337, 2, none⟩ = some (.string a0_2) := (blk_cell BK337.out 2).trans rfl; have hcz117_3 : w112.cell? ⟨gb337, 3, none⟩ = some (.int .u8 a0_3) := (blk_cell BK337.out 3).trans rfl; have hcz117_4 : w112.cell? ⟨gb337, 4, none⟩ = some (.int .u8 a0_4) := (blk_cell BK337.out 4).trans rfl; have hcz117_5 : w112.cell? ⟨gb337, 5, none⟩ = some (.int .u8 a0_5) := (blk_cell BK337.out 5).trans rfl; have hcz117_6 : w112.cell? ⟨gb337, 6, none⟩ = some (.int .u8 a0_6) := (blk_cell BK337.out 6).trans rfl; have hcz117_7 : w112.cell? ⟨gb337, 7, none⟩ = some (.int .u64 a0_7) := (blk_cell BK337.out 7).trans rfl; have hfz117_0 := blk_frozen BK337.out 0; have hfz117_1 := blk_frozen BK337.out 1; have hfz117_2 := blk_frozen BK337.out 2; have hfz117_3 := blk_frozen BK337.out 3; have hfz117_4 := blk_frozen BK337.out 4; have hfz117_5 := blk_frozen BK337.out 5; have hfz117_6 := blk_frozen BK337.out 6; have hfz117_7 := blk_frozen BK337.out 7))
                                go_roundg k4
                                case measure => have := HJ2.out; have := HJ38.out; have := HJ54.out; have := HK4.out; omega
                                case rel => exact ⟨(wrap64 (x12_4 + 1)), (by first | rfl | (simp; done) | (simp [*]; done)), H', ⟨by have := HJ2.out; have := HJ38.out; have := HJ54.out; have := HK4.out; omega⟩, ⟨by (with_reducible repeat (first | refine blk_drewN ?_ _ | refine blk_drew ?_ | refine blk_alloc ?_ _)); refine blk_far ?_ NB337_368.out _; (with_reducible repeat (first | refine blk_drewN ?_ _ | refine blk_drew ?_ | refine blk_alloc ?_ _)); refine blk_far ?_ NB337_368.out _; (with_reducible repeat (first | refine blk_drewN ?_ _ | refine blk_drew ?_ | refine blk_alloc ?_ _)); refine blk_far ?_ NB337_368.out _; (with_reducible repeat (first | refine blk_drewN ?_ _ | refine blk_drew ?_ | refine blk_alloc ?_ _)); refine blk_far ?_ NB337_368.out _; (with_reducible repeat (first | refine blk_drewN ?_ _ | refine blk_drew ?_ | refine blk_alloc ?_ _)); refine blk_far ?_ NB337_368.out _; (with_reducible repeat (first | refine blk_drewN ?_ _ | refine blk_drew ?_ | refine blk_alloc ?_ _)); refine blk_far ?_ NB337_368.out _; (with_reducible repeat (first | refine blk_drewN ?_ _ | refine blk_drew ?_ | refine blk_alloc ?_ _)); refine blk_far ?_ NB337_368.out _; (with_reducible repeat (first | refine blk_drewN ?_ _ | refine blk_drew ?_ | refine blk_alloc ?_ _)); refine blk_far ?_ NB337_368.out _; (with_reducible repeat (first | refine blk_drewN ?_ _ | refine blk_drew ?_ | refine blk_alloc ?_ _)); exact BK337.out⟩, ⟨by (with_reducible repeat (first | refine blk_drewN ?_ _ | refine blk_drew ?_ | refine blk_alloc ?_ _)); refine blk_far ?_ NB338_368.out _; (with_reducible repeat (first | refine blk_drewN ?_ _ | refine blk_drew ?_ | refine blk_alloc ?_ _)); refine blk_far ?_ NB338_368.out _; (with_reducible repeat (first | refine blk_drewN ?_ _ | refine blk_drew ?_ | refine blk_alloc ?_ _)); refine blk_far ?_ NB338_368.out _; (with_reducible repeat (first | refine blk_drewN ?_ _ | refine blk_drew ?_ | refine blk_alloc ?_ _)); refine blk_far ?_ NB338_368.out _; (with_reducible repeat (first | refine blk_drewN ?_ _ | refine blk_drew ?_ | refine blk_alloc ?_ _)); refine blk_far ?_ NB338_368.out _; (with_reducible repeat (first | refine blk_drewN ?_ _ | refine blk_drew ?_ | refine blk_alloc ?_ _)); refine blk_far ?_ NB338_368.out _; (with_reducible repeat (first | refine blk_drewN ?_ _ | refine blk_drew ?_ | refine blk_alloc ?_ _)); refine blk_far ?_ NB338_368.out _; (with_reducible repeat (first | refine blk_drewN ?_ _ | refine blk_drew ?_ | refine blk_alloc ?_ _)); refine blk_far ?_ NB338_368.out _; (with_reducible repeat (first | refine blk_drewN ?_ _ | refine blk_drew ?_ | refine blk_alloc ?_ _)); exact BK338.out⟩, ⟨by (with_reducible repeat (first | refine blk_drewN ?_ _ | refine blk_drew ?_ | refine blk_alloc ?_ _)); refine blk_far ?_ NB355_368.out _; (with_reducible repeat (first | refine blk_drewN ?_ _ | refine blk_drew ?_ | refine blk_alloc ?_ _)); refine blk_far ?_ NB355_368.out _; (with_reducible repeat (first | refine blk_drewN ?_ _ | refine blk_drew ?_ | refine blk_alloc ?_ _)); refine blk_far ?_ NB355_368.out _; (with_reducible repeat (first | refine blk_drewN ?_ _ | refine blk_drew ?_ | refine blk_alloc ?_ _)); refine blk_far ?_ NB355_368.out _; (with_reducible repeat (first | refine blk_drewN ?_ _ | refine blk_drew ?_ | refine blk_alloc ?_ _)); refine blk_far ?_ NB355_368.out _; (with_reducible repeat (first | refine blk_drewN ?_ _ | refine blk_drew ?_ | refine blk_alloc ?_ _)); refine blk_far ?_ NB355_368.out _; (with_reducible repeat (first | refine blk_drewN ?_ _ | refine blk_drew ?_ | refine blk_alloc ?_ _)); refine blk_far ?_ NB355_368.out _; (with_reducible repeat (first | refine blk_drewN ?_ _ | refine blk_drew ?_ | refine blk_alloc ?_ _)); refine blk_far ?_ NB355_368.out _; (with_reducible repeat (first | refine blk_drewN ?_ _ | refine blk_drew ?_ | refine blk_alloc ?_ _)); exact BK355.out⟩, ⟨by repeat (first | (with_reducible first | exact HB.out | apply below_alloc | apply pw_below_drewN | apply below_drew1 | refine below_set ?_ GE337.out | refine below_set ?_ GE338.out | refine below_set ?_ GE355.out | refine below_set ?_ GE368.out) | exact HB.out)⟩⟩
                        · rw [if_neg c92] at H
                          exact absurd H (by simp)
                      · rw [if_neg c89] at H
                        have c89b0 : decide (x12_4 < 3) = false := decide_eq_false c89
                        clear c89
                        as_aux_lemma =>
                        by_cases c118 : a0_0.toList = a1_0.toList
                        · rw [if_pos c118] at H
                          have c118b0 : (a0_0.toList == a1_0.toList) = true := beq_iff_eq.mpr c118
                          have c118b1 : (a0_0.toList != a1_0.toList) = false := bne_eq_false_iff_eq.mpr c118
                          clear c118
                          replace H := Option.bind_eq_some_iff.mp H
                          obtain ⟨t369, A1190, H⟩ := H
                          replace H : (if t369 = true then (if ((Op.bytesLess a0_2.toList a1_2.toList) = true) then (if (Op.bytesLess t344.toList t345.toList) = true then (if ((Op.bytesLess a1_2.toList a0_2.toList) = true) then (some (Op.bytesLess t345.toList t344.toList)) else (some true)) else (none)) else (if ((Op.bytesLess a1_2.toList a0_2.toList) = true) then (some (Op.bytesLess t345.toList t344.toList)) else (some true))) else (none)) = some r := H
                          have A119 := Aside0.mk A1190
                          clear A1190
                          by_cases c120 : t369 = true
                          · subst c120
                            have H1 : (if ((Op.bytesLess a0_2.toList a1_2.toList) = true) then (if (Op.bytesLess t344.toList t345.toList) = true then (if ((Op.bytesLess a1_2.toList a0_2.toList) = true) then (some (Op.bytesLess t345.toList t344.toList)) else (some true)) else (none)) else (if ((Op.bytesLess a1_2.toList a0_2.toList) = true) then (some (Op.bytesLess t345.toList t344.toList)) else (some true))) = some r := by rw [if_pos rfl] at H; exact H
                            clear H
                            have H := H1
                            clear H1
                            by_cases c121 : ((Op.bytesLess a0_2.toList a1_2.toList) = true)
                            · rw [if_pos c121] at H
                              have c121b0 : (Op.bytesLess a0_2.toList a1_2.toList) = true := c121
                              clear c121
                              by_cases c122 : (Op.bytesLess t344.toList t345.toList) = true
                              · rw [if_pos c122] at H
                                have c122b0 : (Op.bytesLess t344.toList t345.toList) = true := c122
                                clear c122
                                by_cases c123 : ((Op.bytesLess a1_2.toList a0_2.toList) = true)
                                · rw [if_pos c123] at H
                                  have c123b0 : (Op.bytesLess a1_2.toList a0_2.toList) = true := c123
                                  clear c123
                                  obtain rfl := Option.some.inj H
                                  have hnb124 := NB337_338.out
                                  have hnc124 := NB338_337.out
                                  have hnb125 := NB337_355.out
                                  have hnc125 := NB355_337.out
                                  have hcz126_0 : wr.cell? ⟨gb337, 0, none⟩ = some (.string a0_0) := (blk_cell BK337.out 0).trans rfl
                                  have hcz126_1 : wr.cell? ⟨gb337, 1, none⟩ = some (.int .i64 3) := (blk_cell BK337.out 1).trans rfl
                                  have hcz126_2 : wr.cell? ⟨gb337, 2, none⟩ = some (.string a0_2) := (blk_cell BK337.out 2).trans rfl
                                  have hcz126_3 : wr.cell? ⟨gb337, 3, none⟩ = some (.int .u8 a0_3) := (blk_cell BK337.out 3).trans rfl
                                  have hcz126_4 : wr.cell? ⟨gb337, 4, none⟩ = some (.int .u8 a0_4) := (blk_cell BK337.out 4).trans rfl
                                  have hcz126_5 : wr.cell? ⟨gb337, 5, none⟩ = some (.int .u8 a0_5) := (blk_cell BK337.out 5).trans rfl
                                  have hcz126_6 : wr.cell? ⟨gb337, 6, none⟩ = some (.int .u8 a0_6) := (blk_cell BK337.out 6).trans rfl
                                  have hcz126_7 : wr.cell? ⟨gb337, 7, none⟩ = some (.int .u64 a0_7) := (blk_cell BK337.out 7).trans rfl
                                  have hfz126_0 := blk_frozen BK337.out 0
                                  have hfz126_1 := blk_frozen BK337.out 1
                                  have hfz126_2 := blk_frozen BK337.out 2
                                  have hfz126_3 := blk_frozen BK337.out 3
                                  have hfz126_4 := blk_frozen BK337.out 4
                                  have hfz126_5 := blk_frozen BK337.out 5
                                  have hfz126_6 := blk_frozen BK337.out 6
                                  have hfz126_7 := blk_frozen BK337.out 7
                                  have hnb127 := NB338_355.out
                                  have hnc127 := NB355_338.out
                                  have hcz128_0 : wr.cell? ⟨gb338, 0, none⟩ = some (.string a1_0) := (blk_cell BK338.out 0).trans rfl
                                  have hcz128_1 : wr.cell? ⟨gb338, 1, none⟩ = some (.int .i64 3) := (blk_cell BK338.out 1).trans rfl
                                  have hcz128_2 : wr.cell? ⟨gb338, 2, none⟩ = some (.string a1_2) := (blk_cell BK338.out 2).trans rfl
                                  have hcz128_3 : wr.cell? ⟨gb338, 3, none⟩ = some (.int .u8 a1_3) := (blk_cell BK338.out 3).trans rfl
                                  have hcz128_4 : wr.cell? ⟨gb338, 4, none⟩ = some (.int .u8 a1_4) := (blk_cell BK338.out 4).trans rfl
                                  have hcz128_5 : wr.cell? ⟨gb338, 5, none⟩ = some (.int .u8 a1_5) := (blk_cell BK338.out 5).trans rfl
                                  have hcz128_6 : wr.cell? ⟨gb338, 6, none⟩ = some (.int .u8 a1_6) := (blk_cell BK338.out 6).trans rfl
                                  have hcz128_7 : wr.cell? ⟨gb338, 7, none⟩ = some (.int .u64 a1_7) := (blk_cell BK338.out 7).trans rfl
                                  have hfz128_0 := blk_frozen BK338.out 0
                                  have hfz128_1 := blk_frozen BK338.out 1
                                  have hfz128_2 := blk_frozen BK338.out 2
                                  have hfz128_3 := blk_frozen BK338.out 3
                                  have hfz128_4 := blk_frozen BK338.out 4
                                  have hfz128_5 := blk_frozen BK338.out 5
                                  have hfz128_6 := blk_frozen BK338.out 6
                                  have hfz128_7 := blk_frozen BK338.out 7
                                  go_wp2_with (first | ((with_reducible refine gate_callee (f := 6) rfl ?_); refine goesL_ (some 160) rfl rfl Tryd.func6 (by kernel_rfl) rfl #[] rfl (by (try simp only [List.map_toArray, List.map_cons, List.map_nil]); first | done | rfl | (simp only [List.length_drop, List.length_take]; rfl)) ?_; (with_reducible refine (cornucopialaw21_alive.calls k4  true _ A119.out).mono ?_); rintro e w129 ⟨rfl, hb⟩; refine ⟨_, rfl, ?_⟩; have n0_ := Aside0.mk (blk_below (g := gb337) (o := .cells #[.string a0_0, .int .i64 3, .string a0_2, .int .u8 a0_3, .int .u8 a0_4, .int .u8 a0_5, .int .u8 a0_6, .int .u64 a0_7] 29 (0, 0)) (by (with_reducible repeat (first | refine blk_drewN ?_ _ | refine blk_drew ?_ | refine blk_alloc ?_ _)); exact BK337.out) hb); have n1_ := Aside0.mk (blk_below (g := gb338) (o := .cells #[.string a1_0, .int .i64 3, .string a1_2, .int .u8 a1_3, .int .u8 a1_4, .int .u8 a1_5, .int .u8 a1_6, .int .u64 a1_7] 29 (0, 0)) (by (with_reducible repeat (first | refine blk_drewN ?_ _ | refine blk_drew ?_ | refine blk_alloc ?_ _)); exact BK338.out) hb); have n2_ := Aside0.mk (blk_below (g := gb355) (o := .cells #[.string t346, .int .i64 t347, .string t348, .int .u8 t349, .int .u8 t350, .int .u8 t351, .int .u8 t352, .int .u64 t353] 29 (0, 0)) (by (with_reducible repeat (first | refine blk_drewN ?_ _ | refine blk_drew ?_ | refine blk_alloc ?_ _)); exact BK355.out) hb); have n3_ := Aside0.mk (below_step (by repeat (first | (with_reducible first | exact HB.out | apply below_alloc | apply pw_below_drewN | apply below_drew1 | refine below_set ?_ GE337.out | refine below_set ?_ GE338.out | refine below_set ?_ GE355.out) | exact HB.out)) hb); clear BK337; clear BK338; clear BK355; clear HB; have BK337 := n0_; have BK338 := n1_; have BK355 := n2_; have HB := n3_; clear n0_ n1_ n2_ n3_; (try clear hb); (try clear hb2); (try clear hk); (try clear hi); have hcz130_0 : w129.cell? ⟨gb337, 0, none⟩ = some (.string a0_0) := (blk_cell BK337.out 0).trans rfl; have hcz130_1 : w129.cell? ⟨gb337, 1, none⟩ = some (.int .i64 3) := (blk_cell BK337.out 1).trans rfl; have hcz130_2 : w129.cell? ⟨gb337, 2, none⟩ = some (.string a0_2) := (blk_cell BK337.out 2).trans rfl; have hcz130_3 : w129.cell? ⟨gb337, 3, none⟩ = some (.int .u8 a0_3) := (blk_cell BK337.out 3).trans rfl; have hcz130_4 : w129.cell? ⟨gb337, 4, none⟩ = some (.int .u8 a0_4) := (blk_cell BK337.out 4).trans rfl; have hcz130_5 : w129.cell? ⟨gb337, 5, none⟩ = some (.int .u8 a0_5) := (blk_cell BK337.out 5).trans rfl; have hcz130_6 : w129.cell? ⟨gb337, 6, none⟩ = some (.int .u8 a0_6) := (blk_cell BK337.out 6).trans rfl; have hcz130_7 : w129.cell? ⟨gb337, 7, none⟩ = some (.int .u64 a0_7) := (blk_cell BK337.out 7).trans rfl; have hfz130_0 := blk_frozen BK337.out 0; have hfz130_1 := blk_frozen BK337.out 1; have hfz130_2 := blk_frozen BK337.out 2; have hfz130_3 := blk_frozen BK337.out 3; have hfz130_4 := blk_frozen BK337.out 4; have hfz130_5 := blk_frozen BK337.out 5; have hfz130_6 := blk_frozen BK337.out 6; have hfz130_7 := blk_frozen BK337.out 7; have hcz131_0 : w129.cell? ⟨gb338, 0, none⟩ = some (.string a1_0) := (blk_cell BK338.out 0).trans rfl; have hcz131_1 : w129.cell? ⟨gb338, 1, none⟩ = some (.int .i64 3) := (blk_cell BK338.out 1).trans rfl; have hcz131_2 : w129.cell? ⟨gb338, 2, none⟩ = some (.string a1_2) := (blk_cell BK338.out 2).trans rfl; have hcz131_3 : w129.cell? ⟨gb338, 3, none⟩ = some (.int .u8 a1_3) := (blk_cell BK338.out 3).trans rfl; have hcz131_4 : w129.cell? ⟨gb338, 4, none⟩ = some (.int .u8 a1_4) := (blk_cell BK338.out 4).trans rfl; have hcz131_5 : w129.cell? ⟨gb338, 5, none⟩ = some (.int .u8 a1_5) := (blk_cell BK338.out 5).trans rfl; have hcz131_6 : w129.cell? ⟨gb338, 6, none⟩ = some (.int .u8 a1_6) := (blk_cell BK338.out 6).trans rfl; have hcz131_7 : w129.cell? ⟨gb338, 7, none⟩ = some (.int .u64 a1_7) := (blk_cell BK338.out 7).trans rfl; have hfz131_0 := blk_frozen BK338.out 0; have hfz131_1 := blk_frozen BK338.out 1; have hfz131_2 := blk_frozen BK338.out 2; have hfz131_3 := blk_frozen BK338.out 3; have hfz131_4 := blk_frozen BK338.out 4; have hfz131_5 := blk_frozen BK338.out 5; have hfz131_6 := blk_frozen BK338.out 6; have hfz131_7 := blk_frozen BK338.out 7))
                                  go_ret
                                  exact ⟨by first | rfl | (simp [errW_none, errW_some] <;> rfl) | (simp [*, errW_none, errW_some] <;> rfl), by repeat (first | (with_reducible first | exact HB.out | apply below_alloc | apply pw_below_drewN | apply below_drew1 | refine below_set ?_ GE337.out | refine below_set ?_ GE338.out | refine below_set ?_ GE355.out) | exact HB.out)⟩
                                · rw [if_neg c123] at H
                                  have c123b0 : (Op.bytesLess a1_2.toList a0_2.toList) = false := by simpa using c123
                                  clear c123
                                  obtain rfl := Option.some.inj H
                                  have hnb132 := NB337_338.out
                                  have hnc132 := NB338_337.out
                                  have hnb133 := NB337_355.out
                                  have hnc133 := NB355_337.out
                                  have hcz134_0 : wr.cell? ⟨gb337, 0, none⟩ = some (.string a0_0) := (blk_cell BK337.out 0).trans rfl
                                  have hcz134_1 : wr.cell? ⟨gb337, 1, none⟩ = some (.int .i64 3) := (blk_cell BK337.out 1).trans rfl
                                  have hcz134_2 : wr.cell? ⟨gb337, 2, none⟩ = some (.string a0_2) := (blk_cell BK337.out 2).trans rfl
                                  have hcz134_3 : wr.cell? ⟨gb337, 3, none⟩ = some (.int .u8 a0_3) := (blk_cell BK337.out 3).trans rfl
                                  have hcz134_4 : wr.cell? ⟨gb337, 4, none⟩ = some (.int .u8 a0_4) := (blk_cell BK337.out 4).trans rfl
                                  have hcz134_5 : wr.cell? ⟨gb337, 5, none⟩ = some (.int .u8 a0_5) := (blk_cell BK337.out 5).trans rfl
                                  have hcz134_6 : wr.cell? ⟨gb337, 6, none⟩ = some (.int .u8 a0_6) := (blk_cell BK337.out 6).trans rfl
                                  have hcz134_7 : wr.cell? ⟨gb337, 7, none⟩ = some (.int .u64 a0_7) := (blk_cell BK337.out 7).trans rfl
                                  have hfz134_0 := blk_frozen BK337.out 0
                                  have hfz134_1 := blk_frozen BK337.out 1
                                  have hfz134_2 := blk_frozen BK337.out 2
                                  have hfz134_3 := blk_frozen BK337.out 3
                                  have hfz134_4 := blk_frozen BK337.out 4
                                  have hfz134_5 := blk_frozen BK337.out 5
                                  have hfz134_6 := blk_frozen BK337.out 6
                                  have hfz134_7 := blk_frozen BK337.out 7
                                  have hnb135 := NB338_355.out
                                  have hnc135 := NB355_338.out
                                  have hcz136_0 : wr.cell? ⟨gb338, 0, none⟩ = some (.string a1_0) := (blk_cell BK338.out 0).trans rfl
                                  have hcz136_1 : wr.cell? ⟨gb338, 1, none⟩ = some (.int .i64 3) := (blk_cell BK338.out 1).trans rfl
                                  have hcz136_2 : wr.cell? ⟨gb338, 2, none⟩ = some (.string a1_2) := (blk_cell BK338.out 2).trans rfl
                                  have hcz136_3 : wr.cell? ⟨gb338, 3, none⟩ = some (.int .u8 a1_3) := (blk_cell BK338.out 3).trans rfl
                                  have hcz136_4 : wr.cell? ⟨gb338, 4, none⟩ = some (.int .u8 a1_4) := (blk_cell BK338.out 4).trans rfl
                                  have hcz136_5 : wr.cell? ⟨gb338, 5, none⟩ = some (.int .u8 a1_5) := (blk_cell BK338.out 5).trans rfl
                                  have hcz136_6 : wr.cell? ⟨gb338, 6, none⟩ = some (.int .u8 a1_6) := (blk_cell BK338.out 6).trans rfl
                                  have hcz136_7 : wr.cell? ⟨gb338, 7, none⟩ = some (.int .u64 a1_7) := (blk_cell BK338.out 7).trans rfl
                                  have hfz136_0 := blk_frozen BK338.out 0
                                  have hfz136_1 := blk_frozen BK338.out 1
                                  have hfz136_2 := blk_frozen BK338.out 2
                                  have hfz136_3 := blk_frozen BK338.out 3
                                  have hfz136_4 := blk_frozen BK338.out 4
                                  have hfz136_5 := blk_frozen BK338.out 5
                                  have hfz136_6 := blk_frozen BK338.out 6
                                  have hfz136_7 := blk_frozen BK338.out 7
                                  go_wp2_with (first | ((with_reducible refine gate_callee (f := 6) rfl ?_); refine goesL_ (some 160) rfl rfl Tryd.func6 (by kernel_rfl) rfl #[] rfl (by (try simp only [List.map_toArray, List.map_cons, List.map_nil]); first | done | rfl | (simp only [List.length_drop, List.length_take]; rfl)) ?_; (with_reducible refine (cornucopialaw21_alive.calls k4  true _ A119.out).mono ?_); rintro e w137 ⟨rfl, hb⟩; refine ⟨_, rfl, ?_⟩; have n0_ := Aside0.mk (blk_below (g := gb337) (o := .cells #[.string a0_0, .int .i64 3, .string a0_2, .int .u8 a0_3, .int .u8 a0_4, .int .u8 a0_5, .int .u8 a0_6, .int .u64 a0_7] 29 (0, 0)) (by (with_reducible repeat (first | refine blk_drewN ?_ _ | refine blk_drew ?_ | refine blk_alloc ?_ _)); exact BK337.out) hb); have n1_ := Aside0.mk (blk_below (g := gb338) (o := .cells #[.string a1_0, .int .i64 3, .string a1_2, .int .u8 a1_3, .int .u8 a1_4, .int .u8 a1_5, .int .u8 a1_6, .int .u64 a1_7] 29 (0, 0)) (by (with_reducible repeat (first | refine blk_drewN ?_ _ | refine blk_drew ?_ | refine blk_alloc ?_ _)); exact BK338.out) hb); have n2_ := Aside0.mk (blk_below (g := gb355) (o := .cells #[.string t346, .int .i64 t347, .string t348, .int .u8 t349, .int .u8 t350, .int .u8 t351, .int .u8 t352, .int .u64 t353] 29 (0, 0)) (by (with_reducible repeat (first | refine blk_drewN ?_ _ | refine blk_drew ?_ | refine blk_alloc ?_ _)); exact BK355.out) hb); have n3_ := Aside0.mk (below_step (by repeat (first | (with_reducible first | exact HB.out | apply below_alloc | apply pw_below_drewN | apply below_drew1 | refine below_set ?_ GE337.out | refine below_set ?_ GE338.out | refine below_set ?_ GE355.out) | exact HB.out)) hb); clear BK337; clear BK338; clear BK355; clear HB; have BK337 := n0_; have BK338 := n1_; have BK355 := n2_; have HB := n3_; clear n0_ n1_ n2_ n3_; (try clear hb); (try clear hb2); (try clear hk); (try clear hi); have hcz138_0 : w137.cell? ⟨gb337, 0, none⟩ = some (.string a0_0) := (blk_cell BK337.out 0).trans rfl; have hcz138_1 : w137.cell? ⟨gb337, 1, none⟩ = some (.int .i64 3) := (blk_cell BK337.out 1).trans rfl; have hcz138_2 : w137.cell? ⟨gb337, 2, none⟩ = some (.string a0_2) := (blk_cell BK337.out 2).trans rfl; have hcz138_3 : w137.cell? ⟨gb337, 3, none⟩ = some (.int .u8 a0_3) := (blk_cell BK337.out 3).trans rfl; have hcz138_4 : w137.cell? ⟨gb337, 4, none⟩ = some (.int .u8 a0_4) := (blk_cell BK337.out 4).trans rfl; have hcz138_5 : w137.cell? ⟨gb337, 5, none⟩ = some (.int .u8 a0_5) := (blk_cell BK337.out 5).trans rfl; have hcz138_6 : w137.cell? ⟨gb337, 6, none⟩ = some (.int .u8 a0_6) := (blk_cell BK337.out 6).trans rfl; have hcz138_7 : w137.cell? ⟨gb337, 7, none⟩ = some (.int .u64 a0_7) := (blk_cell BK337.out 7).trans rfl; have hfz138_0 := blk_frozen BK337.out 0; have hfz138_1 := blk_frozen BK337.out 1; have hfz138_2 := blk_frozen BK337.out 2; have hfz138_3 := blk_frozen BK337.out 3; have hfz138_4 := blk_frozen BK337.out 4; have hfz138_5 := blk_frozen BK337.out 5; have hfz138_6 := blk_frozen BK337.out 6; have hfz138_7 := blk_frozen BK337.out 7; have hcz139_0 : w137.cell? ⟨gb338, 0, none⟩ = some (.string a1_0) := (blk_cell BK338.out 0).trans rfl; have hcz139_1 : w137.cell? ⟨gb338, 1, none⟩ = some (.int .i64 3) := (blk_cell BK338.out 1).trans rfl; have hcz139_2 : w137.cell? ⟨gb338, 2, none⟩ = some (.string a1_2) := (blk_cell BK338.out 2).trans rfl; have hcz139_3 : w137.cell? ⟨gb338, 3, none⟩ = some (.int .u8 a1_3) := (blk_cell BK338.out 3).trans rfl; have hcz139_4 : w137.cell? ⟨gb338, 4, none⟩ = some (.int .u8 a1_4) := (blk_cell BK338.out 4).trans rfl; have hcz139_5 : w137.cell? ⟨gb338, 5, none⟩ = some (.int .u8 a1_5) := (blk_cell BK338.out 5).trans rfl; have hcz139_6 : w137.cell? ⟨gb338, 6, none⟩ = some (.int .u8 a1_6) := (blk_cell BK338.out 6).trans rfl; have hcz139_7 : w137.cell? ⟨gb338, 7, none⟩ = some (.int .u64 a1_7) := (blk_cell BK338.out 7).trans rfl; have hfz139_0 := blk_frozen BK338.out 0; have hfz139_1 := blk_frozen BK338.out 1; have hfz139_2 := blk_frozen BK338.out 2; have hfz139_3 := blk_frozen BK338.out 3; have hfz139_4 := blk_frozen BK338.out 4; have hfz139_5 := blk_frozen BK338.out 5; have hfz139_6 := blk_frozen BK338.out 6; have hfz139_7 := blk_frozen BK338.out 7))
                                  go_ret
                                  exact ⟨by first | rfl | (simp [errW_none, errW_some] <;> rfl) | (simp [*, errW_none, errW_some] <;> rfl), by repeat (first | (with_reducible first | exact HB.out | apply below_alloc | apply pw_below_drewN | apply below_drew1 | refine below_set ?_ GE337.out | refine below_set ?_ GE338.out | refine below_set ?_ GE355.out) | exact HB.out)⟩
                              · rw [if_neg c122] at H
                                exact absurd H (by simp)
                            · rw [if_neg c121] at H
                              have c121b0 : (Op.bytesLess a0_2.toList a1_2.toList) = false := by simpa using c121
                              clear c121
                              by_cases c140 : ((Op.bytesLess a1_2.toList a0_2.toList) = true)
                              · rw [if_pos c140] at H
                                have c140b0 : (Op.bytesLess a1_2.toList a0_2.toList) = true := c140
                                clear c140
                                obtain rfl := Option.some.inj H
                                have hnb141 := NB337_338.out
                                have hnc141 := NB338_337.out
                                have hnb142 := NB337_355.out
                                have hnc142 := NB355_337.out
                                have hcz143_0 : wr.cell? ⟨gb337, 0, none⟩ = some (.string a0_0) := (blk_cell BK337.out 0).trans rfl
                                have hcz143_1 : wr.cell? ⟨gb337, 1, none⟩ = some (.int .i64 3) := (blk_cell BK337.out 1).trans rfl
                                have hcz143_2 : wr.cell? ⟨gb337, 2, none⟩ = some (.string a0_2) := (blk_cell BK337.out 2).trans rfl
                                have hcz143_3 : wr.cell? ⟨gb337, 3, none⟩ = some (.int .u8 a0_3) := (blk_cell BK337.out 3).trans rfl
                                have hcz143_4 : wr.cell? ⟨gb337, 4, none⟩ = some (.int .u8 a0_4) := (blk_cell BK337.out 4).trans rfl
                                have hcz143_5 : wr.cell? ⟨gb337, 5, none⟩ = some (.int .u8 a0_5) := (blk_cell BK337.out 5).trans rfl
                                have hcz143_6 : wr.cell? ⟨gb337, 6, none⟩ = some (.int .u8 a0_6) := (blk_cell BK337.out 6).trans rfl
                                have hcz143_7 : wr.cell? ⟨gb337, 7, none⟩ = some (.int .u64 a0_7) := (blk_cell BK337.out 7).trans rfl
                                have hfz143_0 := blk_frozen BK337.out 0
                                have hfz143_1 := blk_frozen BK337.out 1
                                have hfz143_2 := blk_frozen BK337.out 2
                                have hfz143_3 := blk_frozen BK337.out 3
                                have hfz143_4 := blk_frozen BK337.out 4
                                have hfz143_5 := blk_frozen BK337.out 5
                                have hfz143_6 := blk_frozen BK337.out 6
                                have hfz143_7 := blk_frozen BK337.out 7
                                have hnb144 := NB338_355.out
                                have hnc144 := NB355_338.out
                                have hcz145_0 : wr.cell? ⟨gb338, 0, none⟩ = some (.string a1_0) := (blk_cell BK338.out 0).trans rfl
                                have hcz145_1 : wr.cell? ⟨gb338, 1, none⟩ = some (.int .i64 3) := (blk_cell BK338.out 1).trans rfl
                                have hcz145_2 : wr.cell? ⟨gb338, 2, none⟩ = some (.string a1_2) := (blk_cell BK338.out 2).trans rfl
                                have hcz145_3 : wr.cell? ⟨gb338, 3, none⟩ = some (.int .u8 a1_3) := (blk_cell BK338.out 3).trans rfl
                                have hcz145_4 : wr.cell? ⟨gb338, 4, none⟩ = some (.int .u8 a1_4) := (blk_cell BK338.out 4).trans rfl
                                have hcz145_5 : wr.cell? ⟨gb338, 5, none⟩ = some (.int .u8 a1_5) := (blk_cell BK338.out 5).trans rfl
                                have hcz145_6 : wr.cell? ⟨gb338, 6, none⟩ = some (.int .u8 a1_6) := (blk_cell BK338.out 6).trans rfl
                                have hcz145_7 : wr.cell? ⟨gb338, 7, none⟩ = some (.int .u64 a1_7) := (blk_cell BK338.out 7).trans rfl
                                have hfz145_0 := blk_frozen BK338.out 0
                                have hfz145_1 := blk_frozen BK338.out 1
                                have hfz145_2 := blk_frozen BK338.out 2
                                have hfz145_3 := blk_frozen BK338.out 3
                                have hfz145_4 := blk_frozen BK338.out 4
                                have hfz145_5 := blk_frozen BK338.out 5
                                have hfz145_6 := blk_frozen BK338.out 6
                                have hfz145_7 := blk_frozen BK338.out 7
                                go_wp2_with (first | ((with_reducible refine gate_callee (f := 6) rfl ?_); refine goesL_ (some 160) rfl rfl Tryd.func6 (by kernel_rfl) rfl #[] rfl (by (try simp only [List.map_toArray, List.map_cons, List.map_nil]); first | done | rfl | (simp only [List.length_drop, List.length_take]; rfl)) ?_; (with_reducible refine (cornucopialaw21_alive.calls k4  true _ A119.out).mono ?_); rintro e w146 ⟨rfl, hb⟩; refine ⟨_, rfl, ?_⟩; have n0_ := Aside0.mk (blk_below (g := gb337) (o := .cells #[.string a0_0, .int .i64 3, .string a0_2, .int .u8 a0_3, .int .u8 a0_4, .int .u8 a0_5, .int .u8 a0_6, .int .u64 a0_7] 29 (0, 0)) (by (with_reducible repeat (first | refine blk_drewN ?_ _ | refine blk_drew ?_ | refine blk_alloc ?_ _)); exact BK337.out) hb); have n1_ := Aside0.mk (blk_below (g := gb338) (o := .cells #[.string a1_0, .int .i64 3, .string a1_2, .int .u8 a1_3, .int .u8 a1_4, .int .u8 a1_5, .int .u8 a1_6, .int .u64 a1_7] 29 (0, 0)) (by (with_reducible repeat (first | refine blk_drewN ?_ _ | refine blk_drew ?_ | refine blk_alloc ?_ _)); exact BK338.out) hb); have n2_ := Aside0.mk (blk_below (g := gb355) (o := .cells #[.string t346, .int .i64 t347, .string t348, .int .u8 t349, .int .u8 t350, .int .u8 t351, .int .u8 t352, .int .u64 t353] 29 (0, 0)) (by (with_reducible repeat (first | refine blk_drewN ?_ _ | refine blk_drew ?_ | refine blk_alloc ?_ _)); exact BK355.out) hb); have n3_ := Aside0.mk (below_step (by repeat (first | (with_reducible first | exact HB.out | apply below_alloc | apply pw_below_drewN | apply below_drew1 | refine below_set ?_ GE337.out | refine below_set ?_ GE338.out | refine below_set ?_ GE355.out) | exact HB.out)) hb); clear BK337; clear BK338; clear BK355; clear HB; have BK337 := n0_; have BK338 := n1_; have BK355 := n2_; have HB := n3_; clear n0_ n1_ n2_ n3_; (try clear hb); (try clear hb2); (try clear hk); (try clear hi); have hcz147_0 : w146.cell? ⟨gb337, 0, none⟩ = some (.string a0_0) := (blk_cell BK337.out 0).trans rfl; have hcz147_1 : w146.cell? ⟨gb337, 1, none⟩ = some (.int .i64 3) := (blk_cell BK337.out 1).trans rfl; have hcz147_2 : w146.cell? ⟨gb337, 2, none⟩ = some (.string a0_2) := (blk_cell BK337.out 2).trans rfl; have hcz147_3 : w146.cell? ⟨gb337, 3, none⟩ = some (.int .u8 a0_3) := (blk_cell BK337.out 3).trans rfl; have hcz147_4 : w146.cell? ⟨gb337, 4, none⟩ = some (.int .u8 a0_4) := (blk_cell BK337.out 4).trans rfl; have hcz147_5 : w146.cell? ⟨gb337, 5, none⟩ = some (.int .u8 a0_5) := (blk_cell BK337.out 5).trans rfl; have hcz147_6 : w146.cell? ⟨gb337, 6, none⟩ = some (.int .u8 a0_6) := (blk_cell BK337.out 6).trans rfl; have hcz147_7 : w146.cell? ⟨gb337, 7, none⟩ = some (.int .u64 a0_7) := (blk_cell BK337.out 7).trans rfl; have hfz147_0 := blk_frozen BK337.out 0; have hfz147_1 := blk_frozen BK337.out 1; have hfz147_2 := blk_frozen BK337.out 2; have hfz147_3 := blk_frozen BK337.out 3; have hfz147_4 := blk_frozen BK337.out 4; have hfz147_5 := blk_frozen BK337.out 5; have hfz147_6 := blk_frozen BK337.out 6; have hfz147_7 := blk_frozen BK337.out 7; have hcz148_0 : w146.cell? ⟨gb338, 0, none⟩ = some (.string a1_0) := (blk_cell BK338.out 0).trans rfl; have hcz148_1 : w146.cell? ⟨gb338, 1, none⟩ = some (.int .i64 3) := (blk_cell BK338.out 1).trans rfl; have hcz148_2 : w146.cell? ⟨gb338, 2, none⟩ = some (.string a1_2) := (blk_cell BK338.out 2).trans rfl; have hcz148_3 : w146.cell? ⟨gb338, 3, none⟩ = some (.int .u8 a1_3) := (blk_cell BK338.out 3).trans rfl; have hcz148_4 : w146.cell? ⟨gb338, 4, none⟩ = some (.int .u8 a1_4) := (blk_cell BK338.out 4).trans rfl; have hcz148_5 : w146.cell? ⟨gb338, 5, none⟩ = some (.int .u8 a1_5) := (blk_cell BK338.out 5).trans rfl; have hcz148_6 : w146.cell? ⟨gb338, 6, none⟩ = some (.int .u8 a1_6) := (blk_cell BK338.out 6).trans rfl; have hcz148_7 : w146.cell? ⟨gb338, 7, none⟩ = some (.int .u64 a1_7) := (blk_cell BK338.out 7).trans rfl; have hfz148_0 := blk_frozen BK338.out 0; have hfz148_1 := blk_frozen BK338.out 1; have hfz148_2 := blk_frozen BK338.out 2; have hfz148_3 := blk_frozen BK338.out 3; have hfz148_4 := blk_frozen BK338.out 4; have hfz148_5 := blk_frozen BK338.out 5; have hfz148_6 := blk_frozen BK338.out 6; have hfz148_7 := blk_frozen BK338.out 7))
                                go_ret
                                exact ⟨by first | rfl | (simp [errW_none, errW_some] <;> rfl) | (simp [*, errW_none, errW_some] <;> rfl), by repeat (first | (with_reducible first | exact HB.out | apply below_alloc | apply pw_below_drewN | apply below_drew1 | refine below_set ?_ GE337.out | refine below_set ?_ GE338.out | refine below_set ?_ GE355.out) | exact HB.out)⟩
                              · rw [if_neg c140] at H
                                have c140b0 : (Op.bytesLess a1_2.toList a0_2.toList) = false := by simpa using c140
                                clear c140
                                obtain rfl := Option.some.inj H
                                have hnb149 := NB337_338.out
                                have hnc149 := NB338_337.out
                                have hnb150 := NB337_355.out
                                have hnc150 := NB355_337.out
                                have hcz151_0 : wr.cell? ⟨gb337, 0, none⟩ = some (.string a0_0) := (blk_cell BK337.out 0).trans rfl
                                have hcz151_1 : wr.cell? ⟨gb337, 1, none⟩ = some (.int .i64 3) := (blk_cell BK337.out 1).trans rfl
                                have hcz151_2 : wr.cell? ⟨gb337, 2, none⟩ = some (.string a0_2) := (blk_cell BK337.out 2).trans rfl
                                have hcz151_3 : wr.cell? ⟨gb337, 3, none⟩ = some (.int .u8 a0_3) := (blk_cell BK337.out 3).trans rfl
                                have hcz151_4 : wr.cell? ⟨gb337, 4, none⟩ = some (.int .u8 a0_4) := (blk_cell BK337.out 4).trans rfl
                                have hcz151_5 : wr.cell? ⟨gb337, 5, none⟩ = some (.int .u8 a0_5) := (blk_cell BK337.out 5).trans rfl
                                have hcz151_6 : wr.cell? ⟨gb337, 6, none⟩ = some (.int .u8 a0_6) := (blk_cell BK337.out 6).trans rfl
                                have hcz151_7 : wr.cell? ⟨gb337, 7, none⟩ = some (.int .u64 a0_7) := (blk_cell BK337.out 7).trans rfl
                                have hfz151_0 := blk_frozen BK337.out 0
                                have hfz151_1 := blk_frozen BK337.out 1
                                have hfz151_2 := blk_frozen BK337.out 2
                                have hfz151_3 := blk_frozen BK337.out 3
                                have hfz151_4 := blk_frozen BK337.out 4
                                have hfz151_5 := blk_frozen BK337.out 5
                                have hfz151_6 := blk_frozen BK337.out 6
                                have hfz151_7 := blk_frozen BK337.out 7
                                have hnb152 := NB338_355.out
                                have hnc152 := NB355_338.out
                                have hcz153_0 : wr.cell? ⟨gb338, 0, none⟩ = some (.string a1_0) := (blk_cell BK338.out 0).trans rfl
                                have hcz153_1 : wr.cell? ⟨gb338, 1, none⟩ = some (.int .i64 3) := (blk_cell BK338.out 1).trans rfl
                                have hcz153_2 : wr.cell? ⟨gb338, 2, none⟩ = some (.string a1_2) := (blk_cell BK338.out 2).trans rfl
                                have hcz153_3 : wr.cell? ⟨gb338, 3, none⟩ = some (.int .u8 a1_3) := (blk_cell BK338.out 3).trans rfl
                                have hcz153_4 : wr.cell? ⟨gb338, 4, none⟩ = some (.int .u8 a1_4) := (blk_cell BK338.out 4).trans rfl
                                have hcz153_5 : wr.cell? ⟨gb338, 5, none⟩ = some (.int .u8 a1_5) := (blk_cell BK338.out 5).trans rfl
                                have hcz153_6 : wr.cell? ⟨gb338, 6, none⟩ = some (.int .u8 a1_6) := (blk_cell BK338.out 6).trans rfl
                                have hcz153_7 : wr.cell? ⟨gb338, 7, none⟩ = some (.int .u64 a1_7) := (blk_cell BK338.out 7).trans rfl
                                have hfz153_0 := blk_frozen BK338.out 0
                                have hfz153_1 := blk_frozen BK338.out 1
                                have hfz153_2 := blk_frozen BK338.out 2
                                have hfz153_3 := blk_frozen BK338.out 3
                                have hfz153_4 := blk_frozen BK338.out 4
                                have hfz153_5 := blk_frozen BK338.out 5
                                have hfz153_6 := blk_frozen BK338.out 6
                                have hfz153_7 := blk_frozen BK338.out 7
                                go_wp2_with (first | ((with_reducible refine gate_callee (f := 6) rfl ?_); refine goesL_ (some 160) rfl rfl Tryd.func6 (by kernel_rfl) rfl #[] rfl (by (try simp only [List.map_toArray, List.map_cons, List.map_nil]); first | done | rfl | (simp only [List.length_drop, List.length_take]; rfl)) ?_; (with_reducible refine (cornucopialaw21_alive.calls k4  true _ A119.out).mono ?_); rintro e w154 ⟨rfl, hb⟩; refine ⟨_, rfl, ?_⟩; have n0_ := Aside0.mk (blk_below (g := gb337) (o := .cells #[.string a0_0, .int .i64 3, .string a0_2, .int .u8 a0_3, .int .u8 a0_4, .int .u8 a0_5, .int .u8 a0_6, .int .u64 a0_7] 29 (0, 0)) (by (with_reducible repeat (first | refine blk_drewN ?_ _ | refine blk_drew ?_ | refine blk_alloc ?_ _)); exact BK337.out) hb); have n1_ := Aside0.mk (blk_below (g := gb338) (o := .cells #[.string a1_0, .int .i64 3, .string a1_2, .int .u8 a1_3, .int .u8 a1_4, .int .u8 a1_5, .int .u8 a1_6, .int .u64 a1_7] 29 (0, 0)) (by (with_reducible repeat (first | refine blk_drewN ?_ _ | refine blk_drew ?_ | refine blk_alloc ?_ _)); exact BK338.out) hb); have n2_ := Aside0.mk (blk_below (g := gb355) (o := .cells #[.string t346, .int .i64 t347, .string t348, .int .u8 t349, .int .u8 t350, .int .u8 t351, .int .u8 t352, .int .u64 t353] 29 (0, 0)) (by (with_reducible repeat (first | refine blk_drewN ?_ _ | refine blk_drew ?_ | refine blk_alloc ?_ _)); exact BK355.out) hb); have n3_ := Aside0.mk (below_step (by repeat (first | (with_reducible first | exact HB.out | apply below_alloc | apply pw_below_drewN | apply below_drew1 | refine below_set ?_ GE337.out | refine below_set ?_ GE338.out | refine below_set ?_ GE355.out) | exact HB.out)) hb); clear BK337; clear BK338; clear BK355; clear HB; have BK337 := n0_; have BK338 := n1_; have BK355 := n2_; have HB := n3_; clear n0_ n1_ n2_ n3_; (try clear hb); (try clear hb2); (try clear hk); (try clear hi); have hcz155_0 : w154.cell? ⟨gb337, 0, none⟩ = some (.string a0_0) := (blk_cell BK337.out 0).trans rfl; have hcz155_1 : w154.cell? ⟨gb337, 1, none⟩ = some (.int .i64 3) := (blk_cell BK337.out 1).trans rfl; have hcz155_2 : w154.cell? ⟨gb337, 2, none⟩ = some (.string a0_2) := (blk_cell BK337.out 2).trans rfl; have hcz155_3 : w154.cell? ⟨gb337, 3, none⟩ = some (.int .u8 a0_3) := (blk_cell BK337.out 3).trans rfl; have hcz155_4 : w154.cell? ⟨gb337, 4, none⟩ = some (.int .u8 a0_4) := (blk_cell BK337.out 4).trans rfl; have hcz155_5 : w154.cell? ⟨gb337, 5, none⟩ = some (.int .u8 a0_5) := (blk_cell BK337.out 5).trans rfl; have hcz155_6 : w154.cell? ⟨gb337, 6, none⟩ = some (.int .u8 a0_6) := (blk_cell BK337.out 6).trans rfl; have hcz155_7 : w154.cell? ⟨gb337, 7, none⟩ = some (.int .u64 a0_7) := (blk_cell BK337.out 7).trans rfl; have hfz155_0 := blk_frozen BK337.out 0; have hfz155_1 := blk_frozen BK337.out 1; have hfz155_2 := blk_frozen BK337.out 2; have hfz155_3 := blk_frozen BK337.out 3; have hfz155_4 := blk_frozen BK337.out 4; have hfz155_5 := blk_frozen BK337.out 5; have hfz155_6 := blk_frozen BK337.out 6; have hfz155_7 := blk_frozen BK337.out 7; have hcz156_0 : w154.cell? ⟨gb338, 0, none⟩ = some (.string a1_0) := (blk_cell BK338.out 0).trans rfl; have hcz156_1 : w154.cell? ⟨gb338, 1, none⟩ = some (.int .i64 3) := (blk_cell BK338.out 1).trans rfl; have hcz156_2 : w154.cell? ⟨gb338, 2, none⟩ = some (.string a1_2) := (blk_cell BK338.out 2).trans rfl; have hcz156_3 : w154.cell? ⟨gb338, 3, none⟩ = some (.int .u8 a1_3) := (blk_cell BK338.out 3).trans rfl; have hcz156_4 : w154.cell? ⟨gb338, 4, none⟩ = some (.int .u8 a1_4) := (blk_cell BK338.out 4).trans rfl; have hcz156_5 : w154.cell? ⟨gb338, 5, none⟩ = some (.int .u8 a1_5) := (blk_cell BK338.out 5).trans rfl; have hcz156_6 : w154.cell? ⟨gb338, 6, none⟩ = some (.int .u8 a1_6) := (blk_cell BK338.out 6).trans rfl; have hcz156_7 : w154.cell? ⟨gb338, 7, none⟩ = some (.int .u64 a1_7) := (blk_cell BK338.out 7).trans rfl; have hfz156_0 := blk_frozen BK338.out 0; have hfz156_1 := blk_frozen BK338.out 1; have hfz156_2 := blk_frozen BK338.out 2; have hfz156_3 := blk_frozen BK338.out 3; have hfz156_4 := blk_frozen BK338.out 4; have hfz156_5 := blk_frozen BK338.out 5; have hfz156_6 := blk_frozen BK338.out 6; have hfz156_7 := blk_frozen BK338.out 7))
                                go_ret
                                exact ⟨by first | rfl | (simp [errW_none, errW_some] <;> rfl) | (simp [*, errW_none, errW_some] <;> rfl), by repeat (first | (with_reducible first | exact HB.out | apply below_alloc | apply pw_below_drewN | apply below_drew1 | refine below_set ?_ GE337.out | refine below_set ?_ GE338.out | refine below_set ?_ GE355.out) | exact HB.out)⟩
                          · replace c120 := Bool.eq_false_iff.mpr c120
                            subst c120
                            have H1 : (none) = some r := by rw [if_neg (show ¬ (false = true) by decide)] at H; exact H
                            clear H
                            have H := H1
                            clear H1
                            exact absurd H (by simp)
                        · rw [if_neg c118] at H
                          have c118b0 : (a0_0.toList == a1_0.toList) = false := beq_eq_false_iff_ne.mpr c118
                          have c118b1 : (a0_0.toList != a1_0.toList) = true := bne_iff_ne.mpr c118
                          replace H := Option.bind_eq_some_iff.mp H
                          obtain ⟨t370, A1570, H⟩ := H
                          replace H : (some t370) = some r := H
                          have A157 := Aside0.mk A1570
                          clear A1570
                          obtain rfl := Option.some.inj H
                          have hnb158 := NB337_338.out
                          have hnc158 := NB338_337.out
                          have hnb159 := NB337_355.out
                          have hnc159 := NB355_337.out
                          have hcz160_0 : wr.cell? ⟨gb337, 0, none⟩ = some (.string a0_0) := (blk_cell BK337.out 0).trans rfl
                          have hcz160_1 : wr.cell? ⟨gb337, 1, none⟩ = some (.int .i64 3) := (blk_cell BK337.out 1).trans rfl
                          have hcz160_2 : wr.cell? ⟨gb337, 2, none⟩ = some (.string a0_2) := (blk_cell BK337.out 2).trans rfl
                          have hcz160_3 : wr.cell? ⟨gb337, 3, none⟩ = some (.int .u8 a0_3) := (blk_cell BK337.out 3).trans rfl
                          have hcz160_4 : wr.cell? ⟨gb337, 4, none⟩ = some (.int .u8 a0_4) := (blk_cell BK337.out 4).trans rfl
                          have hcz160_5 : wr.cell? ⟨gb337, 5, none⟩ = some (.int .u8 a0_5) := (blk_cell BK337.out 5).trans rfl
                          have hcz160_6 : wr.cell? ⟨gb337, 6, none⟩ = some (.int .u8 a0_6) := (blk_cell BK337.out 6).trans rfl
                          have hcz160_7 : wr.cell? ⟨gb337, 7, none⟩ = some (.int .u64 a0_7) := (blk_cell BK337.out 7).trans rfl
                          have hfz160_0 := blk_frozen BK337.out 0
                          have hfz160_1 := blk_frozen BK337.out 1
                          have hfz160_2 := blk_frozen BK337.out 2
                          have hfz160_3 := blk_frozen BK337.out 3
                          have hfz160_4 := blk_frozen BK337.out 4
                          have hfz160_5 := blk_frozen BK337.out 5
                          have hfz160_6 := blk_frozen BK337.out 6
                          have hfz160_7 := blk_frozen BK337.out 7
                          have hnb161 := NB338_355.out
                          have hnc161 := NB355_338.out
                          have hcz162_0 : wr.cell? ⟨gb338, 0, none⟩ = some (.string a1_0) := (blk_cell BK338.out 0).trans rfl
                          have hcz162_1 : wr.cell? ⟨gb338, 1, none⟩ = some (.int .i64 3) := (blk_cell BK338.out 1).trans rfl
                          have hcz162_2 : wr.cell? ⟨gb338, 2, none⟩ = some (.string a1_2) := (blk_cell BK338.out 2).trans rfl
                          have hcz162_3 : wr.cell? ⟨gb338, 3, none⟩ = some (.int .u8 a1_3) := (blk_cell BK338.out 3).trans rfl
                          have hcz162_4 : wr.cell? ⟨gb338, 4, none⟩ = some (.int .u8 a1_4) := (blk_cell BK338.out 4).trans rfl
                          have hcz162_5 : wr.cell? ⟨gb338, 5, none⟩ = some (.int .u8 a1_5) := (blk_cell BK338.out 5).trans rfl
                          have hcz162_6 : wr.cell? ⟨gb338, 6, none⟩ = some (.int .u8 a1_6) := (blk_cell BK338.out 6).trans rfl
                          have hcz162_7 : wr.cell? ⟨gb338, 7, none⟩ = some (.int .u64 a1_7) := (blk_cell BK338.out 7).trans rfl
                          have hfz162_0 := blk_frozen BK338.out 0
                          have hfz162_1 := blk_frozen BK338.out 1
                          have hfz162_2 := blk_frozen BK338.out 2
                          have hfz162_3 := blk_frozen BK338.out 3
                          have hfz162_4 := blk_frozen BK338.out 4
                          have hfz162_5 := blk_frozen BK338.out 5
                          have hfz162_6 := blk_frozen BK338.out 6
                          have hfz162_7 := blk_frozen BK338.out 7
                          go_wp2_with (first | ((with_reducible refine gate_callee (f := 6) rfl ?_); refine goesL_ (some 159) rfl rfl Tryd.func6 (by kernel_rfl) rfl #[] rfl (by (try simp only [List.map_toArray, List.map_cons, List.map_nil]); first | done | rfl | (simp only [List.length_drop, List.length_take]; rfl)) ?_; (with_reducible refine (cornucopialaw21_alive.calls k4  t370 _ A157.out).mono ?_); rintro e w163 ⟨rfl, hb⟩; refine ⟨_, rfl, ?_⟩; have n0_ := Aside0.mk (blk_below (g := gb337) (o := .cells #[.string a0_0, .int .i64 3, .string a0_2, .int .u8 a0_3, .int .u8 a0_4, .int .u8 a0_5, .int .u8 a0_6, .int .u64 a0_7] 29 (0, 0)) (by (with_reducible repeat (first | refine blk_drewN ?_ _ | refine blk_drew ?_ | refine blk_alloc ?_ _)); exact BK337.out) hb); have n1_ := Aside0.mk (blk_below (g := gb338) (o := .cells #[.string a1_0, .int .i64 3, .string a1_2, .int .u8 a1_3, .int .u8 a1_4, .int .u8 a1_5, .int .u8 a1_6, .int .u64 a1_7] 29 (0, 0)) (by (with_reducible repeat (first | refine blk_drewN ?_ _ | refine blk_drew ?_ | refine blk_alloc ?_ _)); exact BK338.out) hb); have n2_ := Aside0.mk (blk_below (g := gb355) (o := .cells #[.string t346, .int .i64 t347, .string t348, .int .u8 t349, .int .u8 t350, .int .u8 t351, .int .u8 t352, .int .u64 t353] 29 (0, 0)) (by (with_reducible repeat (first | refine blk_drewN ?_ _ | refine blk_drew ?_ | refine blk_alloc ?_ _)); exact BK355.out) hb); have n3_ := Aside0.mk (below_step (by repeat (first | (with_reducible first | exact HB.out | apply below_alloc | apply pw_below_drewN | apply below_drew1 | refine below_set ?_ GE337.out | refine below_set ?_ GE338.out | refine below_set ?_ GE355.out) | exact HB.out)) hb); clear BK337; clear BK338; clear BK355; clear HB; have BK337 := n0_; have BK338 := n1_; have BK355 := n2_; have HB := n3_; clear n0_ n1_ n2_ n3_; (try clear hb); (try clear hb2); (try clear hk); (try clear hi)))
                          go_ret
                          exact ⟨by first | rfl | (simp [errW_none, errW_some] <;> rfl) | (simp [*, errW_none, errW_some] <;> rfl), by repeat (first | (with_reducible first | exact HB.out | apply below_alloc | apply pw_below_drewN | apply below_drew1 | refine below_set ?_ GE337.out | refine below_set ?_ GE338.out | refine below_set ?_ GE355.out) | exact HB.out)⟩

end Go.Proofs.YtdigpaniganndaaDoor.PAll
