-- Printed by a program of this session (wip/drive.py, over the kit's print.py with its own changes). Lean checks it.
import Derived.Test.YtbejofbbmpmnfaaDoorPAllx0
import Derived.Test.YtbejofbbmpmnfaaDoorPAllx1
namespace Go.Proofs.YtbejofbbmpmnfaaDoor.PAll
open Go.RowKit Go.Proofs.YtbejofbbmpmnfaaDoorW.PrintWords Go.Proofs.YtbejofbbmpmnfaaDoorW.PrintLast Go.Proofs.YtbejofbbmpmnfaaDoorW.PrintMore
attribute [local go_sem] max2_int min2_int max_two min_two max_three min_three max_four min_four   -- for this text's walks alone
set_option linter.unusedVariables false
set_option linter.unusedSimpArgs false

/-! ### okey_text: function 25 -/
/-- A text read from its bytes: what is read so far, what is left to read. -/
def okey_text.g : List UInt8 → List UInt8 → ByteArray × ByteArray × Int
  | _, [] => (⟨#[]⟩, ⟨#[]⟩, 5)
  | acc, c :: l => if c = 0 then (match l with
      | [] => (⟨#[]⟩, ⟨#[]⟩, 5)
      | d :: l' => if d = 1 then (Pb.ba acc, Pb.ba l', 0) else if d = 255 then okey_text.g (acc ++ [0]) l' else (⟨#[]⟩, ⟨#[]⟩, 4)) else okey_text.g (acc ++ [c]) l
theorem okey_text.g_step (acc : List UInt8) (c : UInt8) (l : List UInt8) (h : c ≠ 0) : okey_text.g acc (c :: l) = okey_text.g (acc ++ [c]) l := by
  cases l <;> simp [okey_text.g, h]
theorem okey_text.g_zero (acc : List UInt8) (l : List UInt8) : okey_text.g acc (0 :: 255 :: l) = okey_text.g (acc ++ [0]) l := by
  simp [okey_text.g]
def okey_text.f (a0 : ByteArray) : Option (ByteArray × ByteArray × Int) := if a0.size ≤ 2000000000 then some (okey_text.g [] (Pb.ls a0)) else none
theorem builder_byte (B g : Nat) (acc : List UInt8) (x : UInt8) (w : World) (h : Lib.IsBuilder 49 5 B g (Lib.byteCells acc) w) (hl : acc.length + 1 ≤ 140737488355328) (hB : B ≤ w.heap.size) :
    Calls Tryd.prog 33 #[.pointer (some ⟨g, 0, none⟩), .int .u8 (x.toNat : Int)] w fun e w' => e = .returned .nilIface ∧ Lib.IsBuilder 49 5 B g (Lib.byteCells (acc ++ [x])) w' ∧ Below B w w' := by
  refine (Tryd.Builder_WriteByte B g (Lib.byteCells acc) (x.toNat : Int) w h (by rw [Lib.byteCells_length]; exact hl) hB).mono ?_
  rintro e w' ⟨he, hb, hbb⟩
  exact ⟨he, .inr (by simpa [Lib.byteCells] using hb), hbb⟩
theorem u8_ne (d : UInt8) (n : Nat) (hn : n < 256) (h : d ≠ UInt8.ofNat n) : (d.toNat : Int) ≠ (n : Int) := fun e => h (UInt8.toNat_inj.1 (by rw [UInt8.toNat_ofNat_of_lt' (by exact hn)]; omega))
theorem text_next (x n : Int) (h : 0 ≤ x) (h1 : x < n) (h2 : n ≤ 2000000000) : wrap64 (x + 1) = x + 1 ∧ (x + 1).toNat = x.toNat + 1 ∧ 0 ≤ x + 1 ∧ x + 1 ≤ n := ⟨wrap64_in ⟨by omega, by omega⟩, by omega, by omega, by omega⟩
set_option maxHeartbeats 8000000 in
set_option maxRecDepth 100000 in
theorem okey_text.calls (a0 : ByteArray) (r1 r2 : ByteArray) (r3 : Int) (w : World) (h : okey_text.f a0 = some (r1, r2, r3)) :
    Calls Tryd.prog 25 #[.string a0] w fun e w' => e = .returned (.tuple #[.string r1, .string r2, .int .i64 r3]) ∧ Below w.heap.size w w' := by
  unfold okey_text.f at h
  split at h
  case isFalse => cases h
  rename_i hs
  have HS := Aside0.mk hs
  have HR : Aside0 (okey_text.g [] ((Pb.ls a0).drop 0) = (r1, r2, r3)) := ⟨Option.some.inj h⟩
  have hlen := Pb.ls_length a0
  clear h hs
  have HB : Aside0 (Lib.IsBuilder 49 5 w.heap.size w.heap.size (Lib.byteCells []) (w.alloc (.cells #[.pointer none, .slice none 0 0] 49))) :=
    ⟨.inl ⟨Nat.le_refl _, .slice none 0 0, by simpa using heap_alloc_new w _, World.ownsRow_nil _ _ _ _, by simp [Value.ownBlock]⟩⟩
  have HW := Aside0.mk (below_alloc (Below.refl w.heap.size w) (.cells #[.pointer none, .slice none 0 0] 49))
  go_enter Tryd.func25, Tryd.ntmps25
  go_wp2
  go_loopw [6] (fun v6 wr => ∃ (x : Int) (acc : List UInt8), v6 = .int .i64 x ∧ Aside0 (0 ≤ x ∧ x ≤ (a0.size : Int)) ∧ Aside0 (okey_text.g acc ((Pb.ls a0).drop x.toNat) = (r1, r2, r3) ∧ acc.length ≤ x.toNat) ∧
    Aside0 (Lib.IsBuilder 49 5 w.heap.size w.heap.size (Lib.byteCells acc) wr) ∧ Aside0 (Below w.heap.size w wr)) (fun v6 _ => a0.size - (intOf v6).toNat)
  case atStart => exact ⟨0, [], rfl, ⟨by omega, by omega⟩, ⟨HR.out, by simp⟩, HB, HW⟩
  case round =>
    clear HR HB HW
    obtain ⟨x, acc, rfl, HX, HR, HB, HW⟩ := hrel
    by_cases hx : x < (a0.size : Int)
    · obtain ⟨hn1, hn2, hn3, hn4⟩ := text_next x a0.size HX.out.1 hx (by have := HS.out; omega)
      obtain ⟨c, hc⟩ : ∃ c, c = (Pb.ls a0).getD x.toNat 0 := ⟨_, rfl⟩
      have hbt : bt a0 x = (c.toNat : Int) := by rw [Pb.bt_ls, hc]
      have hx6 : ∀ h : x.toNat < a0.size, ((a0[x.toNat]'h).toNat : Int) = (c.toNat : Int) := fun h => (bt_at a0 x h).trans hbt
      have hdrop := Pb.drop_cons 0 (Pb.ls a0) x.toNat (by rw [hlen]; have := HX.out.1; omega)
      rw [← hc] at hdrop
      have p6 : 0 ≤ x := HX.out.1
      have d1 : decide (x < (a0.size : Int)) = true := decide_eq_true hx
      have d2 := eq_true hx
      have HC := Aside0.mk hc
      have HLT := Aside0.mk hx
      have hn1' := Aside0.mk hn1
      have hn2' := Aside0.mk hn2
      have hn3' := Aside0.mk hn3
      have hn4' := Aside0.mk hn4
      clear hc hn2 hn3 hn4
      by_cases c0 : c = 0
      · subst c0
        rw [hdrop] at HR
        clear hdrop
        by_cases hy : x + 1 < (a0.size : Int)
        · obtain ⟨hm1, hm2, hm3, hm4⟩ := text_next (x + 1) a0.size hn3'.out hy (by have := HS.out; omega)
          obtain ⟨d, hd⟩ : ∃ d, d = (Pb.ls a0).getD (x + 1).toNat 0 := ⟨_, rfl⟩
          have hbt2 : bt a0 (x + 1) = (d.toNat : Int) := by rw [Pb.bt_ls, hd]
          have hy6 : ∀ h : (x + 1).toNat < a0.size, ((a0[(x + 1).toNat]'h).toNat : Int) = (d.toNat : Int) := fun h => (bt_at a0 (x + 1) h).trans hbt2
          have hdrop := Pb.drop_cons 0 (Pb.ls a0) (x + 1).toNat (by rw [hlen]; have := hn3'.out; omega)
          rw [← hd, hn2'.out] at hdrop
          rw [hdrop] at HR
          have q6 : 0 ≤ x + 1 := hn3'.out
          have e1 : decide ((a0.size : Int) ≤ x + 1) = false := decide_eq_false (by omega)
          have e2 : decide (x + 1 ≥ (a0.size : Int)) = false := decide_eq_false (by omega)
          have e3 := eq_true hy
          have e4 := eq_false (show ¬ (a0.size : Int) ≤ x + 1 by omega)
          have HM := Aside0.mk hm1
          clear hd
          have HDL := Aside0.mk hdrop
          clear hdrop
          by_cases d1' : d = 1
          · subst d1'
            have HR2 : Aside0 (Pb.ba acc = r1 ∧ Pb.ba ((Pb.ls a0).drop (x.toNat + 1 + 1)) = r2 ∧ 0 = r3) := ⟨by have := HR.out.1; simp [okey_text.g] at this; exact this⟩
            obtain ⟨rfl, e6, rfl⟩ := HR2.out
            have HE := Aside0.mk e6
            clear HR HR2 e6
            have hs1 : x + 1 + 1 ≤ (a0.size : Int) := hm4
            have hs0 : 0 ≤ x + 1 + 1 := hm3
            have hb8 := Lib.IsBuilderF.of HB.out
            have HB8 : Aside0 (IsB 49 5 wr w.heap.size w.heap.size (Pb.ba acc)) := ⟨by unfold IsB; rw [show Lib.strCells (Pb.ba acc) = Lib.byteCells acc from rfl]; exact hb8⟩
            clear hb8
            have HEX : Aside0 (a0.extract (x + 1 + 1).toNat a0.size = r2) := ⟨by
              rw [← HE.out]
              apply Pb.ls_inj
              rw [Pb.ls_extract, Pb.ls_ba, hm2, hn2'.out]
              rw [List.take_of_length_le (by rw [Pb.ls_length]; exact Nat.le_refl _)]⟩
            clear hm2
            have s0 : IntKind.i64.wrap (x + 1 + 1) = x + 1 + 1 := by have h := hm1; unfold wrap64 at h; rw [IntKind.wrap_i64]; exact h
            have s1 := eq_true hs0
            have s2 := eq_true hs1
            have s3 : decide (0 ≤ x + 1 + 1) = true := decide_eq_true hs0
            have s4 : decide (x + 1 + 1 ≤ (a0.size : Int)) = true := decide_eq_true hs1
            go_wp2_with fail
            go_region_with (go_at_call 19; refine (builder_string _ _ _ _ (IsB.drew HB8.out) HW.out.size).mono ?_; rintro e w3 ⟨rfl, hb, hbb⟩)
            have HW3 : Aside0 (Below w.heap.size w _) := ⟨(below_drew1 HW.out).trans hbb⟩
            rw [HEX.out]
            clear hb hbb HB HW HB8
            go_wp2_with fail
            go_ret3
            exact ⟨rfl, HW3.out⟩
          · by_cases d2' : d = 255
            · subst d2'
              have HR2 : Aside0 (okey_text.g (acc ++ [0]) ((Pb.ls a0).drop (x + 1 + 1).toNat) = (r1, r2, r3) ∧ (acc ++ [0]).length ≤ (x + 1 + 1).toNat) := ⟨by have := HR.out.1; rw [okey_text.g_zero] at this; rw [hm2, hn2'.out]; exact this, by rw [List.length_append, hm2, hn2'.out]; have := HR.out.2; simp; omega⟩
              have HM2 := Aside0.mk hm2
              have HM3 := Aside0.mk hm3
              have HM4 := Aside0.mk hm4
              have HY := Aside0.mk hy
              clear HR hm2 hm3 hm4
              go_wp2_with fail
              refine (builder_byte _ _ _ 0 _ HB.out ?hl HW.out.size).mono ?_
              case hl => have := HR2.out.2; rw [List.length_append, HM2.out, hn2'.out] at this; have := HS.out; have := HX.out; have := HLT.out; simp at *; omega
              rintro e w2 ⟨rfl, hb, hbb⟩
              have HB2 := Aside0.mk hb
              have HW2 : Aside0 (Below w.heap.size w w2) := ⟨HW.out.trans hbb⟩
              clear hb hbb HB HW
              go_wp2_with fail
              go_roundw
              case measure =>
                rw [HM.out]
                simp only [intOf]
                have := hn2'.out
                have := HM2.out
                have := HX.out
                have := HLT.out
                omega
              case rel => exact ⟨x + 1 + 1, _, congrArg (Value.int .i64) HM.out, ⟨HM3.out, HM4.out⟩, HR2, HB2, HW2⟩
            · have g1 : ((d.toNat : Int) == 1) = false := beq_eq_false_iff_ne.2 (u8_ne d 1 (by decide) d1')
              have g2 : ((d.toNat : Int) != 255) = true := bne_iff_ne.2 (u8_ne d 255 (by decide) d2')
              have HR2 : Aside0 ((⟨#[]⟩ : ByteArray) = r1 ∧ (⟨#[]⟩ : ByteArray) = r2 ∧ 4 = r3) := ⟨by have := HR.out.1; simp [okey_text.g, d1', d2'] at this; exact this⟩
              obtain ⟨rfl, rfl, rfl⟩ := HR2.out
              clear HR HR2
              go_wp2_with fail
              go_ret3
              exact ⟨rfl, HW.out⟩
        · have e1 : decide ((a0.size : Int) ≤ x + 1) = true := decide_eq_true (by omega)
          have e2 : decide (x + 1 ≥ (a0.size : Int)) = true := decide_eq_true (by omega)
          have e3 := eq_false hy
          have e4 := eq_true (show (a0.size : Int) ≤ x + 1 by omega)
          have e5 : (Pb.ls a0).drop (x.toNat + 1) = [] := List.drop_eq_nil_of_le (by rw [hlen]; have := hn2'.out; omega)
          rw [e5] at HR
          have HR2 : Aside0 ((⟨#[]⟩ : ByteArray) = r1 ∧ (⟨#[]⟩ : ByteArray) = r2 ∧ 5 = r3) := ⟨by have := HR.out.1; simp [okey_text.g] at this; exact this⟩
          obtain ⟨rfl, rfl, rfl⟩ := HR2.out
          clear HR HR2 e5
          go_wp2_with fail
          go_ret3
          exact ⟨rfl, HW.out⟩
      · rw [hdrop] at HR
        have f1 : ((c.toNat : Int) != 0) = true := bne_iff_ne.2 (u8_ne c 0 (by decide) c0)
        have HR2 : Aside0 (okey_text.g (acc ++ [c]) ((Pb.ls a0).drop (x + 1).toNat) = (r1, r2, r3) ∧ (acc ++ [c]).length ≤ (x + 1).toNat) := ⟨by have := HR.out.1; rw [okey_text.g_step _ _ _ c0] at this; rw [hn2'.out]; exact this, by rw [List.length_append, hn2'.out]; have := HR.out.2; simp; omega⟩
        clear HR hdrop
        go_wp2_with fail
        refine (builder_byte _ _ _ _ _ HB.out ?hl HW.out.size).mono ?_
        case hl => have := HR2.out.2; rw [List.length_append, hn2'.out] at this; have := HS.out; have := HX.out; have := HLT.out; simp at *; omega
        rintro e w2 ⟨rfl, hb, hbb⟩
        have HB2 := Aside0.mk hb
        have HW2 : Aside0 (Below w.heap.size w w2) := ⟨HW.out.trans hbb⟩
        clear hb hbb HB HW
        go_wp2_with fail
        go_roundw
        case measure =>
          rw [hn1'.out]
          simp only [intOf]
          have := hn2'.out
          have := HX.out
          have := HLT.out
          omega
        case rel => exact ⟨x + 1, _, congrArg (Value.int .i64) hn1'.out, ⟨hn3'.out, hn4'.out⟩, HR2, HB2, HW2⟩
    · have d1 : decide (x < (a0.size : Int)) = false := decide_eq_false hx
      have d2 := eq_false hx
      have e5 : (Pb.ls a0).drop x.toNat = [] := List.drop_eq_nil_of_le (by rw [hlen]; have := HX.out; omega)
      rw [e5] at HR
      have HR2 : Aside0 ((⟨#[]⟩ : ByteArray) = r1 ∧ (⟨#[]⟩ : ByteArray) = r2 ∧ 5 = r3) := ⟨by have := HR.out.1; simp [okey_text.g] at this; exact this⟩
      obtain ⟨rfl, rfl, rfl⟩ := HR2.out
      clear HR HR2 e5
      go_wp2_with fail
      go_ret3
      exact ⟨rfl, HW.out⟩

/-! ### num_Unfix: function 26 -/
mutual
def num_Unfix.j0 : Nat → ByteArray → Int → Int → Bool → Option (Int × Int)
  | 0, _, _, _, _ => none
  | k + 1, x0, x1, x2, x10 => if x10 = true then (some (0, 1)) else (if x1 > (x0.size : Int) then (some (0, 5)) else (if (wrap64 ((x0.size : Int) - x1)) < x2 then (some (0, 5)) else (num_Unfix.l0 k x0 x1 0 x2 0)))
def num_Unfix.l0 : Nat → ByteArray → Int → Int → Int → Int → Option (Int × Int)
  | 0, _, _, _, _, _ => none
  | k + 1, x0, x1, x8, x34, x35 => if x35 < x34 then (if 0 ≤ (wrap64 (x1 + x35)) then (if (wrap64 (x1 + x35)) < (x0.size : Int) then (num_Unfix.l0 k x0 x1 (Go.bits .or .u64 (IntKind.u64.wrap (x8 * 256)) (IntKind.u64.wrap (bt x0 (wrap64 (x1 + x35))))) x34 (wrap64 (x35 + 1))) else (none)) else (none)) else (some (x8, 0))
end
def num_Unfix.f (k : Nat) (a0 : ByteArray) (a1 : Int) (a2 : Int) : Option (Int × Int) := if a2 < 1 then (num_Unfix.j0 k a0 a1 a2 true) else (if a2 > 8 then (num_Unfix.j0 k a0 a1 a2 true) else (num_Unfix.j0 k a0 a1 a2 (decide (a1 < 0))))
theorem num_Unfix.mono_l : ∀ k, (∀ y0 y1 y2 y3, LeO (num_Unfix.j0 k y0 y1 y2 y3) (num_Unfix.j0 (k + 1) y0 y1 y2 y3)) ∧ (∀ y0 y1 y2 y3 y4, LeO (num_Unfix.l0 k y0 y1 y2 y3 y4) (num_Unfix.l0 (k + 1) y0 y1 y2 y3 y4))
  | 0 => ⟨fun _ _ _ _ r h => by simp [num_Unfix.j0] at h, fun _ _ _ _ _ r h => by simp [num_Unfix.l0] at h⟩
  | k + 1 => by
    obtain ⟨ih0, ih1⟩ := num_Unfix.mono_l k
    refine ⟨?_, ?_⟩
    · intro y0 y1 y2 y3
      unfold num_Unfix.j0
      repeat' first
      | (with_reducible exact ih0 _ _ _ _)
      | (with_reducible exact ih1 _ _ _ _ _)
      | (with_reducible exact LeO.refl _)
      | (with_reducible exact LeO.none _)
      | (with_reducible refine LeO.ite ?_ ?_)
      | (with_reducible refine LeO.bind ?_ (fun _ => ?_))
      | exact ih0 _ _ _ _
      | exact ih1 _ _ _ _ _
      | exact LeO.none _
      | refine LeO.ite ?_ ?_
      | refine LeO.bind ?_ (fun _ => ?_)
    · intro y0 y1 y2 y3 y4
      unfold num_Unfix.l0
      repeat' first
      | (with_reducible exact ih0 _ _ _ _)
      | (with_reducible exact ih1 _ _ _ _ _)
      | (with_reducible exact LeO.refl _)
      | (with_reducible exact LeO.none _)
      | (with_reducible refine LeO.ite ?_ ?_)
      | (with_reducible refine LeO.bind ?_ (fun _ => ?_))
      | exact ih0 _ _ _ _
      | exact ih1 _ _ _ _ _
      | exact LeO.none _
      | refine LeO.ite ?_ ?_
      | refine LeO.bind ?_ (fun _ => ?_)
theorem num_Unfix.mono : ∀ a0 a1 a2 k, LeO (num_Unfix.f k a0 a1 a2) (num_Unfix.f (k + 1) a0 a1 a2) := by
  intro a0 a1 a2 k
  obtain ⟨ih0, ih1⟩ := num_Unfix.mono_l k
  unfold num_Unfix.f
  repeat' first
      | (with_reducible exact ih0 _ _ _ _)
      | (with_reducible exact ih1 _ _ _ _ _)
      | (with_reducible exact LeO.refl _)
      | (with_reducible exact LeO.none _)
      | (with_reducible refine LeO.ite ?_ ?_)
      | (with_reducible refine LeO.bind ?_ (fun _ => ?_))
      | exact ih0 _ _ _ _
      | exact ih1 _ _ _ _ _
      | exact LeO.none _
      | refine LeO.ite ?_ ?_
      | refine LeO.bind ?_ (fun _ => ?_)
set_option maxHeartbeats 8000000 in
set_option maxRecDepth 100000 in
theorem num_Unfix.calls (k : Nat) (a0 : ByteArray) (a1 : Int) (a2 : Int) (r1 : Int) (r2 : Int) (w : World) (h : num_Unfix.f k a0 a1 a2 = some (r1, r2)) :
    Calls Tryd.prog 26 #[.string a0, .int .i64 a1, .int .i64 a2] w fun e w' => e = .returned (.tuple #[.int .u64 r1, .int .i64 r2]) ∧ Drawn0 w w' := by
  have H : (if a2 < 1 then (num_Unfix.j0 k a0 a1 a2 true) else (if a2 > 8 then (num_Unfix.j0 k a0 a1 a2 true) else (num_Unfix.j0 k a0 a1 a2 (decide (a1 < 0))))) = some (r1, r2) := h
  clear h
  have HC4 := Aside0.mk H
  clear H
  go_enter Tryd.func26, Tryd.ntmps26
  go_upto_region 1 with (fail)
  go_cut [10] (fun v10 wc => ∃ (kq : Nat) (x10_3 : Bool), v10 = .bool x10_3 ∧ Aside0 (num_Unfix.j0 kq a0 a1 a2 x10_3 = some (r1, r2)) ∧ Aside0 (kq ≤ k) ∧ Drawn0 w wc)
  case first =>
    have H := HC4.out
    clear HC4
    by_cases c5 : a2 < 1
    · rw [if_pos c5] at H
      have c5b0 : decide (a2 < 1) = true := decide_eq_true c5
      clear c5
      (first | rw [c5b0] | (simp only [i64_w, i32_w]; rw [c5b0]) | skip)
      have H' := Aside0.mk H
      clear H
      go_wp2
      go_meet
      case rel => exact ⟨_, (true), (by first | rfl | (simp; done) | (simp [*]; done)), H', ⟨by first | omega | exact Nat.le_refl _⟩, by repeat (first | exact Drawn0.refl _ | apply Drawn0.step)⟩
    · rw [if_neg c5] at H
      have c5b0 : decide (a2 < 1) = false := decide_eq_false c5
      clear c5
      (first | rw [c5b0] | (simp only [i64_w, i32_w]; rw [c5b0]) | skip)
      by_cases c6 : a2 > 8
      · rw [if_pos c6] at H
        have c6b0 : decide (8 < a2) = true := decide_eq_true c6
        clear c6
        have H' := Aside0.mk H
        clear H
        go_wp2
        go_meet
        case rel => exact ⟨_, (true), (by first | rfl | (simp; done) | (simp [*]; done)), H', ⟨by first | omega | exact Nat.le_refl _⟩, by repeat (first | exact Drawn0.refl _ | apply Drawn0.step)⟩
      · rw [if_neg c6] at H
        have c6b0 : decide (8 < a2) = false := decide_eq_false c6
        clear c6
        have H' := Aside0.mk H
        clear H
        go_wp2
        go_meet
        case rel => exact ⟨_, (decide (a1 < 0)), (by first | rfl | (simp; done) | (simp [*]; done)), H', ⟨by first | omega | exact Nat.le_refl _⟩, by repeat (first | exact Drawn0.refl _ | apply Drawn0.step)⟩
  case rest =>
    clear HC4
    try clear c2
    try clear p2
    try clear c5
    try clear c5b0
    try clear c6
    try clear c6b0
    obtain ⟨kq, x10_3, rfl, HA, HJ3, ⟨mc3, rfl⟩⟩ := hcut
    cases kq with
    | zero => exact absurd HA.out (by simp [num_Unfix.j0])
    | succ kj3 =>
      have H := HA.out
      clear HA
      simp only [num_Unfix.j0] at H
      by_cases c7 : x10_3 = true
      · subst c7
        have H1 : (some (0, 1)) = some (r1, r2) := by rw [if_pos rfl] at H; exact H
        clear H
        have H := H1
        clear H1
        simp only [Option.some.injEq, Prod.mk.injEq] at H
        obtain ⟨rfl, rfl⟩ := H
        go_wp2
        go_ret2
        exact ⟨by first | rfl | (simp; done) | (simp [*]; done), by repeat (first | exact Drawn0.refl _ | apply Drawn0.step)⟩
      · replace c7 := Bool.eq_false_iff.mpr c7
        subst c7
        have H1 : (if a1 > (a0.size : Int) then (some (0, 5)) else (if (wrap64 ((a0.size : Int) - a1)) < a2 then (some (0, 5)) else (num_Unfix.l0 kj3 a0 a1 0 a2 0))) = some (r1, r2) := by rw [if_neg (show ¬ (false = true) by decide)] at H; exact H
        clear H
        have H := H1
        clear H1
        by_cases c8 : a1 > (a0.size : Int)
        · rw [if_pos c8] at H
          have c8b0 : decide ((a0.size : Int) < a1) = true := decide_eq_true c8
          clear c8
          simp only [Option.some.injEq, Prod.mk.injEq] at H
          obtain ⟨rfl, rfl⟩ := H
          go_wp2
          go_ret2
          exact ⟨by first | rfl | (simp; done) | (simp [*]; done), by repeat (first | exact Drawn0.refl _ | apply Drawn0.step)⟩
        · rw [if_neg c8] at H
          have c8b0 : decide ((a0.size : Int) < a1) = false := decide_eq_false c8
          clear c8
          by_cases c9 : (wrap64 ((a0.size : Int) - a1)) < a2
          · rw [if_pos c9] at H
            have c9b0 : decide ((wrap64 ((a0.size : Int) - a1)) < a2) = true := decide_eq_true c9
            clear c9
            simp only [Option.some.injEq, Prod.mk.injEq] at H
            obtain ⟨rfl, rfl⟩ := H
            go_wp2
            go_ret2
            exact ⟨by first | rfl | (simp; done) | (simp [*]; done), by repeat (first | exact Drawn0.refl _ | apply Drawn0.step)⟩
          · rw [if_neg c9] at H
            have c9b0 : decide ((wrap64 ((a0.size : Int) - a1)) < a2) = false := decide_eq_false c9
            clear c9
            have H' := Aside0.mk H
            clear H
            go_wp2
            go_loopg [8, 35] kj3 (fun kq v8 v35 w' => ∃ (x8_2 : Int) (x35_2 : Int), v8 = .int .u64 x8_2 ∧ v35 = .int .i64 x35_2 ∧ Aside0 (num_Unfix.l0 kq a0 a1 x8_2 a2 x35_2 = some (r1, r2)) ∧ Aside0 (kq ≤ kj3) ∧ Drawn0 w w')
            case atStart => exact ⟨(0), (0), (by first | rfl | (simp; done) | (simp [*]; done)), (by first | rfl | (simp; done) | (simp [*]; done)), H', ⟨Nat.le_refl _⟩, by repeat (first | exact Drawn0.refl _ | apply Drawn0.step)⟩
            case round =>
              clear H'
              try clear c2
              try clear p2
              try clear c3
              try clear c5
              try clear c5b0
              try clear c6
              try clear c6b0
              try clear p6
              try clear c7
              try clear c8
              try clear c8b0
              try clear c9
              try clear c9b0
              try clear p2
              obtain ⟨x8_2, x35_2, rfl, rfl, HA, HK2, ⟨m2, rfl⟩⟩ := hrel
              cases gk with
              | zero => exact absurd HA.out (by simp [num_Unfix.l0])
              | succ k2 =>
                have H := HA.out
                clear HA
                simp only [num_Unfix.l0] at H
                by_cases c10 : x35_2 < a2
                · rw [if_pos c10] at H
                  have c10b0 : decide (x35_2 < a2) = true := decide_eq_true c10
                  clear c10
                  obtain ⟨ji11, hji11⟩ : ∃ j_ : Int, (wrap64 (a1 + x35_2)) = j_ := ⟨_, rfl⟩
                  replace H : (if 0 ≤ (ji11) then (if (ji11) < (a0.size : Int) then (num_Unfix.l0 k2 a0 a1 (Go.bits .or .u64 (IntKind.u64.wrap (x8_2 * 256)) (IntKind.u64.wrap (bt a0 (ji11)))) a2 (wrap64 (x35_2 + 1))) else (none)) else (none)) = some (r1, r2) := by first | (rw [hji11] at H; exact H) | (simp only [hji11] at H ⊢; exact H)
                  have hji11w : (IntKind.i64.wrap (a1 + x35_2)) = ji11 := (i64_w _).trans hji11
                  by_cases c12 : 0 ≤ (ji11)
                  · rw [if_pos c12] at H
                    have c12b0 : decide (0 ≤ (ji11)) = true := decide_eq_true c12
                    clear c12
                    by_cases c13 : (ji11) < (a0.size : Int)
                    · rw [if_pos c13] at H
                      have c13b0 : decide ((ji11) < (a0.size : Int)) = true := decide_eq_true c13
                      clear c13
                      have H' := Aside0.mk H
                      clear H
                      have p14 : 0 ≤ ((ji11) : Int) := of_decide_eq_true (by first | (with_reducible assumption) | assumption)
                      have q14 : (ji11) < (a0.size : Int) := of_decide_eq_true (by first | (with_reducible assumption) | assumption)
                      have hx14 := bt_at a0 (ji11)
                      replace p14 := eq_true p14
                      replace q14 := eq_true q14
                      go_wp2
                      go_roundg k2
                      case measure => have := HJ3.out; have := HK2.out; omega
                      case rel => exact ⟨(Go.bits .or .u64 (IntKind.u64.wrap (x8_2 * 256)) (IntKind.u64.wrap (bt a0 (ji11)))), (wrap64 (x35_2 + 1)), (by first | rfl | (simp; done) | (simp only [← hji11] <;> (first | rfl | simp)) | (simp [*]; done)), (by first | rfl | (simp; done) | (simp [*]; done)), H', ⟨by have := HJ3.out; have := HK2.out; omega⟩, by repeat (first | exact Drawn0.refl _ | apply Drawn0.step)⟩
                    · rw [if_neg c13] at H
                      exact absurd H (by simp)
                  · rw [if_neg c12] at H
                    exact absurd H (by simp)
                · rw [if_neg c10] at H
                  have c10b0 : decide (x35_2 < a2) = false := decide_eq_false c10
                  clear c10
                  simp only [Option.some.injEq, Prod.mk.injEq] at H
                  obtain ⟨rfl, rfl⟩ := H
                  go_wp2
                  go_ret2
                  exact ⟨by first | rfl | (simp; done) | (simp [*]; done), by repeat (first | exact Drawn0.refl _ | apply Drawn0.step)⟩

end Go.Proofs.YtbejofbbmpmnfaaDoor.PAll
