-- Printed by a program of this session (wip/drive.py, over the kit's print.py with its own changes). Lean checks it.
import Derived.Test.YtdigpaniganndaaDoorPAllx0
namespace Go.Proofs.YtdigpaniganndaaDoor.PAll
open Go.RowKit Go.Proofs.YtdigpaniganndaaDoorW.PrintWords Go.Proofs.YtdigpaniganndaaDoorW.PrintLast Go.Proofs.YtdigpaniganndaaDoorW.PrintMore
attribute [local go_sem] max2_int min2_int max_two min_two max_three min_three max_four min_four   -- for this text's walks alone
set_option linter.unusedVariables false
set_option linter.unusedSimpArgs false

/-! ### layout_ValidName: function 17 -/
def layout_ValidName.f (a0 : ByteArray) : Option (Bool) := if a0.toList = ([] : List UInt8) then (some false) else (some (decide ((a0.size : Int) ≤ 40)))
set_option maxHeartbeats 8000000 in
set_option maxRecDepth 100000 in
theorem layout_ValidName.calls (a0 : ByteArray) (r : Bool) (w : World) (h : layout_ValidName.f a0 = some r) :
    Calls Tryd.prog 17 #[.string a0] w fun e w' => e = .returned (.bool r) ∧ Drawn0 w w' := by
  have H : (if a0.toList = ([] : List UInt8) then (some false) else (some (decide ((a0.size : Int) ≤ 40)))) = some r := h
  clear h
  by_cases c2 : a0.toList = ([] : List UInt8)
  · rw [if_pos c2] at H
    have c2b0 : (a0.toList == ([] : List UInt8)) = true := beq_iff_eq.mpr c2
    have c2b1 : (a0.toList != ([] : List UInt8)) = false := bne_eq_false_iff_eq.mpr c2
    clear c2
    obtain rfl := Option.some.inj H
    go_enter Tryd.func17, Tryd.ntmps17
    go_wp2
    go_ret
    exact ⟨by first | rfl | (simp; done) | (simp [*]; done), by repeat (first | exact Drawn0.refl _ | apply Drawn0.step)⟩
  · rw [if_neg c2] at H
    have c2b0 : (a0.toList == ([] : List UInt8)) = false := beq_eq_false_iff_ne.mpr c2
    have c2b1 : (a0.toList != ([] : List UInt8)) = true := bne_iff_ne.mpr c2
    obtain rfl := Option.some.inj H
    go_enter Tryd.func17, Tryd.ntmps17
    go_wp2
    go_ret
    exact ⟨by first | rfl | (simp; done) | (simp [*]; done), by repeat (first | exact Drawn0.refl _ | apply Drawn0.step)⟩

/-! ### stringslite_HasPrefix: function 42 -/
def stringslite_HasPrefix.f (a0 : ByteArray) (a1 : ByteArray) : Option (Bool) := if (a0.size : Int) ≥ (a1.size : Int) then (if 0 ≤ (a1.size : Int) then (if (a1.size : Int) ≤ (a0.size : Int) then (some ((a0.extract 0 ((a1.size : Int) : Int).toNat).toList == a1.toList)) else (none)) else (none)) else (some false)
set_option maxHeartbeats 8000000 in
set_option maxRecDepth 100000 in
theorem stringslite_HasPrefix.calls (a0 : ByteArray) (a1 : ByteArray) (r : Bool) (w : World) (h : stringslite_HasPrefix.f a0 a1 = some r) :
    Calls Tryd.prog 42 #[.string a0, .string a1] w fun e w' => e = .returned (.bool r) ∧ Drawn0 w w' := by
  have H : (if (a0.size : Int) ≥ (a1.size : Int) then (if 0 ≤ (a1.size : Int) then (if (a1.size : Int) ≤ (a0.size : Int) then (some ((a0.extract 0 ((a1.size : Int) : Int).toNat).toList == a1.toList)) else (none)) else (none)) else (some false)) = some r := h
  clear h
  by_cases c3 : (a0.size : Int) ≥ (a1.size : Int)
  · rw [if_pos c3] at H
    have c3b0 : decide ((a1.size : Int) ≤ (a0.size : Int)) = true := decide_eq_true c3
    have c3b1 : decide (a1.size ≤ a0.size) = true := decide_eq_true (Int.ofNat_le.mp c3)
    clear c3
    by_cases c4 : 0 ≤ (a1.size : Int)
    · rw [if_pos c4] at H
      have c4b0 := eq_true c4
      have c4b1 : decide (0 ≤ (a1.size : Int)) = true := decide_eq_true c4
      clear c4
      by_cases c5 : (a1.size : Int) ≤ (a0.size : Int)
      · rw [if_pos c5] at H
        have c5b0 := eq_true c5
        have c5b1 : decide ((a1.size : Int) ≤ (a0.size : Int)) = true := decide_eq_true c5
        clear c5
        obtain rfl := Option.some.inj H
        go_enter Tryd.func42, Tryd.ntmps42
        go_wp2
        go_ret
        exact ⟨by first | rfl | (simp; done) | (simp [*]; done), by repeat (first | exact Drawn0.refl _ | apply Drawn0.step)⟩
      · rw [if_neg c5] at H
        exact absurd H (by simp)
    · rw [if_neg c4] at H
      exact absurd H (by simp)
  · rw [if_neg c3] at H
    have c3b0 : decide ((a1.size : Int) ≤ (a0.size : Int)) = false := decide_eq_false c3
    have c3b1 : decide (a1.size ≤ a0.size) = false := decide_eq_false (fun h => c3 (Int.ofNat_le.mpr h))
    clear c3
    obtain rfl := Option.some.inj H
    go_enter Tryd.func42, Tryd.ntmps42
    go_wp2
    go_ret
    exact ⟨by first | rfl | (simp; done) | (simp [*]; done), by repeat (first | exact Drawn0.refl _ | apply Drawn0.step)⟩

/-! ### stringslite_CutPrefix: function 32 -/
def stringslite_CutPrefix.f (a0 : ByteArray) (a1 : ByteArray) : Option (ByteArray × Bool) := (stringslite_HasPrefix.f a0 a1).bind fun t101 => (if t101 = true then (if 0 ≤ (a1.size : Int) then (if (a1.size : Int) ≤ (a0.size : Int) then (some (a0.extract ((a1.size : Int) : Int).toNat a0.size, true)) else (none)) else (none)) else (some (a0, false)))
set_option maxHeartbeats 8000000 in
set_option maxRecDepth 100000 in
theorem stringslite_CutPrefix.calls (a0 : ByteArray) (a1 : ByteArray) (r1 : ByteArray) (r2 : Bool) (w : World) (h : stringslite_CutPrefix.f a0 a1 = some (r1, r2)) :
    Calls Tryd.prog 32 #[.string a0, .string a1] w fun e w' => e = .returned (.tuple #[.string r1, .bool r2]) ∧ Drawn0 w w' := by
  have H : ((stringslite_HasPrefix.f a0 a1).bind fun t101 => (if t101 = true then (if 0 ≤ (a1.size : Int) then (if (a1.size : Int) ≤ (a0.size : Int) then (some (a0.extract ((a1.size : Int) : Int).toNat a0.size, true)) else (none)) else (none)) else (some (a0, false)))) = some (r1, r2) := h
  clear h
  replace H := Option.bind_eq_some_iff.mp H
  obtain ⟨t101, A30, H⟩ := H
  replace H : (if t101 = true then (if 0 ≤ (a1.size : Int) then (if (a1.size : Int) ≤ (a0.size : Int) then (some (a0.extract ((a1.size : Int) : Int).toNat a0.size, true)) else (none)) else (none)) else (some (a0, false))) = some (r1, r2) := H
  have A3 := Aside0.mk A30
  clear A30
  by_cases c4 : t101 = true
  · subst c4
    have H1 : (if 0 ≤ (a1.size : Int) then (if (a1.size : Int) ≤ (a0.size : Int) then (some (a0.extract ((a1.size : Int) : Int).toNat a0.size, true)) else (none)) else (none)) = some (r1, r2) := by rw [if_pos rfl] at H; exact H
    clear H
    have H := H1
    clear H1
    by_cases c5 : 0 ≤ (a1.size : Int)
    · rw [if_pos c5] at H
      have c5b0 := eq_true c5
      have c5b1 : decide (0 ≤ (a1.size : Int)) = true := decide_eq_true c5
      clear c5
      by_cases c6 : (a1.size : Int) ≤ (a0.size : Int)
      · rw [if_pos c6] at H
        have c6b0 := eq_true c6
        have c6b1 : decide ((a1.size : Int) ≤ (a0.size : Int)) = true := decide_eq_true c6
        clear c6
        simp only [Option.some.injEq, Prod.mk.injEq] at H
        obtain ⟨rfl, rfl⟩ := H
        go_enter Tryd.func32, Tryd.ntmps32
        go_wp2_with (first | ((with_reducible refine gate_callee (f := 42) rfl ?_); refine goesL_ (some 8) rfl rfl Tryd.func42 (by kernel_rfl) rfl #[.string a0, .string a1] rfl (by (try simp only [List.map_toArray, List.map_cons, List.map_nil]); first | done | rfl | (simp only [List.length_drop, List.length_take]; rfl)) ?_; (with_reducible refine (stringslite_HasPrefix.calls a0 a1 true _ A3.out).mono ?_); rintro e w' ⟨rfl, ⟨nd, rfl⟩⟩; refine ⟨_, rfl, ?_⟩))
        go_ret2
        exact ⟨by first | rfl | (simp; done) | (simp [*]; done), by repeat (first | exact Drawn0.refl _ | apply Drawn0.step)⟩
      · rw [if_neg c6] at H
        exact absurd H (by simp)
    · rw [if_neg c5] at H
      exact absurd H (by simp)
  · replace c4 := Bool.eq_false_iff.mpr c4
    subst c4
    have H1 : (some (a0, false)) = some (r1, r2) := by rw [if_neg (show ¬ (false = true) by decide)] at H; exact H
    clear H
    have H := H1
    clear H1
    simp only [Option.some.injEq, Prod.mk.injEq] at H
    obtain ⟨rfl, rfl⟩ := H
    go_enter Tryd.func32, Tryd.ntmps32
    go_wp2_with (first | ((with_reducible refine gate_callee (f := 42) rfl ?_); refine goesL_ (some 8) rfl rfl Tryd.func42 (by kernel_rfl) rfl #[.string a0, .string a1] rfl (by (try simp only [List.map_toArray, List.map_cons, List.map_nil]); first | done | rfl | (simp only [List.length_drop, List.length_take]; rfl)) ?_; (with_reducible refine (stringslite_HasPrefix.calls a0 a1 false _ A3.out).mono ?_); rintro e w' ⟨rfl, ⟨nd, rfl⟩⟩; refine ⟨_, rfl, ?_⟩))
    go_ret2
    exact ⟨by first | rfl | (simp; done) | (simp [*]; done), by repeat (first | exact Drawn0.refl _ | apply Drawn0.step)⟩

/-! ### strings_CutPrefix: function 21 -/
def strings_CutPrefix.f (a0 : ByteArray) (a1 : ByteArray) : Option (ByteArray × Bool) := (stringslite_CutPrefix.f a0 a1).bind fun bt102 => (some (bt102.1, bt102.2))
set_option maxHeartbeats 8000000 in
set_option maxRecDepth 100000 in
theorem strings_CutPrefix.calls (a0 : ByteArray) (a1 : ByteArray) (r1 : ByteArray) (r2 : Bool) (w : World) (h : strings_CutPrefix.f a0 a1 = some (r1, r2)) :
    Calls Tryd.prog 21 #[.string a0, .string a1] w fun e w' => e = .returned (.tuple #[.string r1, .bool r2]) ∧ Drawn0 w w' := by
  have H : ((stringslite_CutPrefix.f a0 a1).bind fun bt102 => (some (bt102.1, bt102.2))) = some (r1, r2) := h
  clear h
  replace H := Option.bind_eq_some_iff.mp H
  obtain ⟨⟨t102, t103⟩, A30, H⟩ := H
  replace H : (some (t102, t103)) = some (r1, r2) := H
  have A3 := Aside0.mk A30
  clear A30
  simp only [Option.some.injEq, Prod.mk.injEq] at H
  obtain ⟨rfl, rfl⟩ := H
  go_enter Tryd.func21, Tryd.ntmps21
  go_wp2_with (first | ((with_reducible refine gate_callee (f := 32) rfl ?_); refine goesL_ (some 8) rfl rfl Tryd.func32 (by kernel_rfl) rfl #[.string a0, .string a1] rfl (by (try simp only [List.map_toArray, List.map_cons, List.map_nil]); first | done | rfl | (simp only [List.length_drop, List.length_take]; rfl)) ?_; (with_reducible refine (stringslite_CutPrefix.calls a0 a1 t102 t103 _ A3.out).mono ?_); rintro e w' ⟨rfl, ⟨nd, rfl⟩⟩; refine ⟨_, rfl, ?_⟩))
  go_ret2
  exact ⟨by first | rfl | (simp; done) | (simp [*]; done), by repeat (first | exact Drawn0.refl _ | apply Drawn0.step)⟩

/-! ### okey_isKind: function 33 -/
def okey_isKind.f (a0 : Int) : Option (Bool) := if a0 ≥ 1 then (some (decide (a0 ≤ 3))) else (some false)
set_option maxHeartbeats 8000000 in
set_option maxRecDepth 100000 in
theorem okey_isKind.calls (a0 : Int) (r : Bool) (w : World) (h : okey_isKind.f a0 = some r) :
    Calls Tryd.prog 33 #[.int .i64 a0] w fun e w' => e = .returned (.bool r) ∧ Drawn0 w w' := by
  have H : (if a0 ≥ 1 then (some (decide (a0 ≤ 3))) else (some false)) = some r := h
  clear h
  by_cases c2 : a0 ≥ 1
  · rw [if_pos c2] at H
    have c2b0 : decide (1 ≤ a0) = true := decide_eq_true c2
    clear c2
    obtain rfl := Option.some.inj H
    go_enter Tryd.func33, Tryd.ntmps33
    go_wp2
    go_ret
    exact ⟨by first | rfl | (simp; done) | (simp [*]; done), by repeat (first | exact Drawn0.refl _ | apply Drawn0.step)⟩
  · rw [if_neg c2] at H
    have c2b0 : decide (1 ≤ a0) = false := decide_eq_false c2
    clear c2
    obtain rfl := Option.some.inj H
    go_enter Tryd.func33, Tryd.ntmps33
    go_wp2
    go_ret
    exact ⟨by first | rfl | (simp; done) | (simp [*]; done), by repeat (first | exact Drawn0.refl _ | apply Drawn0.step)⟩

/-! ### strings_Builder_String: function 50 -/
theorem builder_string (B g : Nat) (acc : ByteArray) (w : World) (h : IsB 81 5 w B g acc) (hB : B ≤ w.heap.size) :
    Calls Tryd.prog 50 #[.pointer (some ⟨g, 0, none⟩)] w fun e w' => e = .returned (.string acc) ∧ IsB 81 5 w' B g acc ∧ Below B w w' := by
  refine (Tryd.Builder_String_any_f B g acc.data.toList w h hB).mono ?_
  rintro e w' ⟨he, hb, hbb⟩
  rw [ba_mk] at he
  exact ⟨he, hb, hbb⟩

/-! ### okey_text: function 43 -/
/-- A text read from its bytes: what is read so far, what is left to read. -/
def okey_text.g : List UInt8 → List UInt8 → ByteArray × ByteArray × Int
  | _, [] => (⟨#[]⟩, ⟨#[]⟩, 5)
  | acc, c :: l => if c = 0 then (match l with
      | [] => (⟨#[]⟩, ⟨#[]⟩, 5)
      | d :: l' => if d = 1 then (Pb.ba acc, Pb.ba l', 0) else if d = 255 then okey_text.g (acc ++ [0]) l' else (⟨#[]⟩, ⟨#[]⟩, 4)) else okey_text.g (acc ++ [c]) l
theorem okey_text.g_step (acc : List UInt8) (c : UInt8) (l : List UInt8) (h : c ≠ 0) : okey_text.g acc (c :: l) = okey_text.g (acc ++ [c]) l := by
  cases l <;> simp [okey_text.g, h]
theorem okey_text.g_zero (acc : List UInt8) (l : List UInt8) : okey_text.g acc (0 :: 255 :: l) = okey_text.g (acc ++ [0]) l := by
  simp [okey_text.g]
def okey_text.f (a0 : ByteArray) : Option (ByteArray × ByteArray × Int) := if a0.size ≤ 2000000000 then some (okey_text.g [] (Pb.ls a0)) else none
theorem builder_byte (B g : Nat) (acc : List UInt8) (x : UInt8) (w : World) (h : Lib.IsBuilder 81 5 B g (Lib.byteCells acc) w) (hl : acc.length + 1 ≤ 140737488355328) (hB : B ≤ w.heap.size) :
    Calls Tryd.prog 49 #[.pointer (some ⟨g, 0, none⟩), .int .u8 (x.toNat : Int)] w fun e w' => e = .returned .nilIface ∧ Lib.IsBuilder 81 5 B g (Lib.byteCells (acc ++ [x])) w' ∧ Below B w w' := by
  refine (Tryd.Builder_WriteByte B g (Lib.byteCells acc) (x.toNat : Int) w h (by rw [Lib.byteCells_length]; exact hl) hB).mono ?_
  rintro e w' ⟨he, hb, hbb⟩
  exact ⟨he, .inr (by simpa [Lib.byteCells] using hb), hbb⟩
theorem u8_ne (d : UInt8) (n : Nat) (hn : n < 256) (h : d ≠ UInt8.ofNat n) : (d.toNat : Int) ≠ (n : Int) := fun e => h (UInt8.toNat_inj.1 (by rw [UInt8.toNat_ofNat_of_lt' (by exact hn)]; omega))
theorem text_next (x n : Int) (h : 0 ≤ x) (h1 : x < n) (h2 : n ≤ 2000000000) : wrap64 (x + 1) = x + 1 ∧ (x + 1).toNat = x.toNat + 1 ∧ 0 ≤ x + 1 ∧ x + 1 ≤ n := ⟨IntWalk.wrap64_in _ ⟨by omega, by omega⟩, by omega, by omega, by omega⟩
set_option maxHeartbeats 8000000 in
set_option maxRecDepth 100000 in
theorem okey_text.calls (a0 : ByteArray) (r1 r2 : ByteArray) (r3 : Int) (w : World) (h : okey_text.f a0 = some (r1, r2, r3)) :
    Calls Tryd.prog 43 #[.string a0] w fun e w' => e = .returned (.tuple #[.string r1, .string r2, .int .i64 r3]) ∧ Below w.heap.size w w' := by
  unfold okey_text.f at h
  split at h
  case isFalse => cases h
  rename_i hs
  have HS := Aside0.mk hs
  have HR : Aside0 (okey_text.g [] ((Pb.ls a0).drop 0) = (r1, r2, r3)) := ⟨Option.some.inj h⟩
  have hlen := Pb.ls_length a0
  clear h hs
  have HB : Aside0 (Lib.IsBuilder 81 5 w.heap.size w.heap.size (Lib.byteCells []) (w.alloc (.cells #[.pointer none, .slice none 0 0] 81))) :=
    ⟨.inl ⟨Nat.le_refl _, .slice none 0 0, by simpa using heap_alloc_new w _, World.ownsRow_nil _ _ _ _, by simp [Value.ownBlock]⟩⟩
  have HW := Aside0.mk (below_alloc (Below.refl w.heap.size w) (.cells #[.pointer none, .slice none 0 0] 81))
  go_enter Tryd.func43, Tryd.ntmps43
  go_wp2
  go_loopw [6] (fun v6 wr => ∃ (x : Int) (acc : List UInt8), v6 = .int .i64 x ∧ Aside0 (0 ≤ x ∧ x ≤ (a0.size : Int)) ∧ Aside0 (okey_text.g acc ((Pb.ls a0).drop x.toNat) = (r1, r2, r3) ∧ acc.length ≤ x.toNat) ∧
    Aside0 (Lib.IsBuilder 81 5 w.heap.size w.heap.size (Lib.byteCells acc) wr) ∧ Aside0 (Below w.heap.size w wr)) (fun v6 _ => a0.size - (intOf v6).toNat)
  case atStart => exact ⟨0, [], rfl, ⟨by omega, by omega⟩, ⟨HR.out, by simp⟩, HB, HW⟩
  case round =>
    clear HR HB HW
    obtain ⟨x, acc, rfl, HX, HR, HB, HW⟩ := hrel
    by_cases hx : x < (a0.size : Int)
    · obtain ⟨hn1, hn2, hn3, hn4⟩ := text_next x a0.size HX.out.1 hx (by have := HS.out; omega)
      obtain ⟨c, hc⟩ : ∃ c, c = (Pb.ls a0).getD x.toNat 0 := ⟨_, rfl⟩
      have hbt : bt a0 x = (c.toNat : Int) := by rw [Pb.bt_ls, hc]
      have hx6 : ∀ h : x.toNat < a0.size, ((a0[x.toNat]'h).toNat : Int) = (c.toNat : Int) := fun h => (bt_at a0 x h).trans hbt
      have hdrop := Pb.drop_cons 0 (Pb.ls a0) x.toNat (by rw [hlen]; have := HX.out.1; omega)
      rw [← hc] at hdrop
      have p6 : 0 ≤ x := HX.out.1
      have d1 : decide (x < (a0.size : Int)) = true := decide_eq_true hx
      have d2 := eq_true hx
      have HC := Aside0.mk hc
      have HLT := Aside0.mk hx
      have hn1' := Aside0.mk hn1
      have hn2' := Aside0.mk hn2
      have hn3' := Aside0.mk hn3
      have hn4' := Aside0.mk hn4
      clear hc hn2 hn3 hn4
      by_cases c0 : c = 0
      · subst c0
        rw [hdrop] at HR
        clear hdrop
        by_cases hy : x + 1 < (a0.size : Int)
        · obtain ⟨hm1, hm2, hm3, hm4⟩ := text_next (x + 1) a0.size hn3'.out hy (by have := HS.out; omega)
          obtain ⟨d, hd⟩ : ∃ d, d = (Pb.ls a0).getD (x + 1).toNat 0 := ⟨_, rfl⟩
          have hbt2 : bt a0 (x + 1) = (d.toNat : Int) := by rw [Pb.bt_ls, hd]
          have hy6 : ∀ h : (x + 1).toNat < a0.size, ((a0[(x + 1).toNat]'h).toNat : Int) = (d.toNat : Int) := fun h => (bt_at a0 (x + 1) h).trans hbt2
          have hdrop := Pb.drop_cons 0 (Pb.ls a0) (x + 1).toNat (by rw [hlen]; have := hn3'.out; omega)
          rw [← hd, hn2'.out] at hdrop
          rw [hdrop] at HR
          have q6 : 0 ≤ x + 1 := hn3'.out
          have e1 : decide ((a0.size : Int) ≤ x + 1) = false := decide_eq_false (by omega)
          have e2 : decide (x + 1 ≥ (a0.size : Int)) = false := decide_eq_false (by omega)
          have e3 := eq_true hy
          have e4 := eq_false (show ¬ (a0.size : Int) ≤ x + 1 by omega)
          have HM := Aside0.mk hm1
          clear hd
          have HDL := Aside0.mk hdrop
          clear hdrop
          by_cases d1' : d = 1
          · subst d1'
            have HR2 : Aside0 (Pb.ba acc = r1 ∧ Pb.ba ((Pb.ls a0).drop (x.toNat + 1 + 1)) = r2 ∧ 0 = r3) := ⟨by have := HR.out.1; simp [okey_text.g] at this; exact this⟩
            obtain ⟨rfl, e6, rfl⟩ := HR2.out
            have HE := Aside0.mk e6
            clear HR HR2 e6
            have hs1 : x + 1 + 1 ≤ (a0.size : Int) := hm4
            have hs0 : 0 ≤ x + 1 + 1 := hm3
            have hb8 := Lib.IsBuilderF.of HB.out
            have HB8 : Aside0 (IsB 81 5 wr w.heap.size w.heap.size (Pb.ba acc)) := ⟨by unfold IsB; rw [show Lib.strCells (Pb.ba acc) = Lib.byteCells acc from rfl]; exact hb8⟩
            clear hb8
            have HEX : Aside0 (a0.extract (x + 1 + 1).toNat a0.size = r2) := ⟨by
              rw [← HE.out]
              apply Pb.ls_inj
              rw [Pb.ls_extract, Pb.ls_ba, hm2, hn2'.out]
              rw [List.take_of_length_le (by rw [Pb.ls_length]; exact Nat.le_refl _)]⟩
            clear hm2
            have s0 : IntKind.i64.wrap (x + 1 + 1) = x + 1 + 1 := by have h := hm1; unfold wrap64 at h; rw [IntKind.wrap_i64]; exact h
            have s1 := eq_true hs0
            have s2 := eq_true hs1
            have s3 : decide (0 ≤ x + 1 + 1) = true := decide_eq_true hs0
            have s4 : decide (x + 1 + 1 ≤ (a0.size : Int)) = true := decide_eq_true hs1
            go_wp2_with fail
            go_region_with (go_at_call 50; refine (builder_string _ _ _ _ (IsB.drew HB8.out) HW.out.size).mono ?_; rintro e w3 ⟨rfl, hb, hbb⟩)
            have HW3 : Aside0 (Below w.heap.size w _) := ⟨(below_drew1 HW.out).trans hbb⟩
            rw [HEX.out]
            clear hb hbb HB HW HB8
            go_wp2_with fail
            go_ret3
            exact ⟨rfl, HW3.out⟩
          · by_cases d2' : d = 255
            · subst d2'
              have HR2 : Aside0 (okey_text.g (acc ++ [0]) ((Pb.ls a0).drop (x + 1 + 1).toNat) = (r1, r2, r3) ∧ (acc ++ [0]).length ≤ (x + 1 + 1).toNat) := ⟨by have := HR.out.1; rw [okey_text.g_zero] at this; rw [hm2, hn2'.out]; exact this, by rw [List.length_append, hm2, hn2'.out]; have := HR.out.2; simp; omega⟩
              have HM2 := Aside0.mk hm2
              have HM3 := Aside0.mk hm3
              have HM4 := Aside0.mk hm4
              have HY := Aside0.mk hy
              clear HR hm2 hm3 hm4
              go_wp2_with fail
              refine (builder_byte _ _ _ 0 _ HB.out ?hl HW.out.size).mono ?_
              case hl => have := HR2.out.2; rw [List.length_append, HM2.out, hn2'.out] at this; have := HS.out; have := HX.out; have := HLT.out; simp at *; omega
              rintro e w2 ⟨rfl, hb, hbb⟩
              have HB2 := Aside0.mk hb
              have HW2 : Aside0 (Below w.heap.size w w2) := ⟨HW.out.trans hbb⟩
              clear hb hbb HB HW
              go_wp2_with fail
              go_roundw
              case measure =>
                rw [HM.out]
                simp only [intOf]
                have := hn2'.out
                have := HM2.out
                have := HX.out
                have := HLT.out
                omega
              case rel => exact ⟨x + 1 + 1, _, congrArg (Value.int .i64) HM.out, ⟨HM3.out, HM4.out⟩, HR2, HB2, HW2⟩
            · have g1 : ((d.toNat : Int) == 1) = false := beq_eq_false_iff_ne.2 (u8_ne d 1 (by decide) d1')
              have g2 : ((d.toNat : Int) != 255) = true := bne_iff_ne.2 (u8_ne d 255 (by decide) d2')
              have HR2 : Aside0 ((⟨#[]⟩ : ByteArray) = r1 ∧ (⟨#[]⟩ : ByteArray) = r2 ∧ 4 = r3) := ⟨by have := HR.out.1; simp [okey_text.g, d1', d2'] at this; exact this⟩
              obtain ⟨rfl, rfl, rfl⟩ := HR2.out
              clear HR HR2
              go_wp2_with fail
              go_ret3
              exact ⟨rfl, HW.out⟩
        · have e1 : decide ((a0.size : Int) ≤ x + 1) = true := decide_eq_true (by omega)
          have e2 : decide (x + 1 ≥ (a0.size : Int)) = true := decide_eq_true (by omega)
          have e3 := eq_false hy
          have e4 := eq_true (show (a0.size : Int) ≤ x + 1 by omega)
          have e5 : (Pb.ls a0).drop (x.toNat + 1) = [] := List.drop_eq_nil_of_le (by rw [hlen]; have := hn2'.out; omega)
          rw [e5] at HR
          have HR2 : Aside0 ((⟨#[]⟩ : ByteArray) = r1 ∧ (⟨#[]⟩ : ByteArray) = r2 ∧ 5 = r3) := ⟨by have := HR.out.1; simp [okey_text.g] at this; exact this⟩
          obtain ⟨rfl, rfl, rfl⟩ := HR2.out
          clear HR HR2 e5
          go_wp2_with fail
          go_ret3
          exact ⟨rfl, HW.out⟩
      · rw [hdrop] at HR
        have f1 : ((c.toNat : Int) != 0) = true := bne_iff_ne.2 (u8_ne c 0 (by decide) c0)
        have HR2 : Aside0 (okey_text.g (acc ++ [c]) ((Pb.ls a0).drop (x + 1).toNat) = (r1, r2, r3) ∧ (acc ++ [c]).length ≤ (x + 1).toNat) := ⟨by have := HR.out.1; rw [okey_text.g_step _ _ _ c0] at this; rw [hn2'.out]; exact this, by rw [List.length_append, hn2'.out]; have := HR.out.2; simp; omega⟩
        clear HR hdrop
        go_wp2_with fail
        refine (builder_byte _ _ _ _ _ HB.out ?hl HW.out.size).mono ?_
        case hl => have := HR2.out.2; rw [List.length_append, hn2'.out] at this; have := HS.out; have := HX.out; have := HLT.out; simp at *; omega
        rintro e w2 ⟨rfl, hb, hbb⟩
        have HB2 := Aside0.mk hb
        have HW2 : Aside0 (Below w.heap.size w w2) := ⟨HW.out.trans hbb⟩
        clear hb hbb HB HW
        go_wp2_with fail
        go_roundw
        case measure =>
          rw [hn1'.out]
          simp only [intOf]
          have := hn2'.out
          have := HX.out
          have := HLT.out
          omega
        case rel => exact ⟨x + 1, _, congrArg (Value.int .i64) hn1'.out, ⟨hn3'.out, hn4'.out⟩, HR2, HB2, HW2⟩
    · have d1 : decide (x < (a0.size : Int)) = false := decide_eq_false hx
      have d2 := eq_false hx
      have e5 : (Pb.ls a0).drop x.toNat = [] := List.drop_eq_nil_of_le (by rw [hlen]; have := HX.out; omega)
      rw [e5] at HR
      have HR2 : Aside0 ((⟨#[]⟩ : ByteArray) = r1 ∧ (⟨#[]⟩ : ByteArray) = r2 ∧ 5 = r3) := ⟨by have := HR.out.1; simp [okey_text.g] at this; exact this⟩
      obtain ⟨rfl, rfl, rfl⟩ := HR2.out
      clear HR HR2 e5
      go_wp2_with fail
      go_ret3
      exact ⟨rfl, HW.out⟩

end Go.Proofs.YtdigpaniganndaaDoor.PAll
