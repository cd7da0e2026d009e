/- OkeyBack: what is put is got, and what stands behind it is left. -/
import Derived.Test.YtbejofbbmpmnfaaDoorPAllx0
import Derived.Test.YtbejofbbmpmnfaaDoorPAllx2
import Derived.Test.YtbejofbbmpmnfaaDoorPAllx3
import Derived.Test.YtbejofbbmpmnfaaDoorPAllx4
import Derived.Test.YtbejofbbmpmnfaaDoorPAllx5
import Derived.Test.YtbejofbbmpmnfaaDoorPAllx7
import Derived.Test.YtbejofbbmpmnfaaDoorPAllx8
import Derived.Test.YtbejofbbmpmnfaaDoorPAllx9
import Derived.Test.YtbejofbbmpmnfaaDoorOkeyOrd
set_option linter.unusedSimpArgs false
set_option linter.unusedVariables false
namespace Go.Proofs.YtbejofbbmpmnfaaDoor.Pure
open Go.RowKit Go.Proofs.YtbejofbbmpmnfaaDoor.PAll Go.Proofs.YtbejofbbmpmnfaaDoorW.PrintWords Go.Proofs.YtbejofbbmpmnfaaDoorW.PrintMore Go.Proofs.YtbejofbbmpmnfaaDoor.Pb

theorem Room_ev (x n : Int) (hx : -1 ≤ x) (hx2 : x ≤ 1000000) (hn : 0 ≤ n) (hn2 : n ≤ 140737488355328) : Ev (fun k => cornucopiabook_Room.f k x [n]) (if x < 0 then -1 else if n > x then -1 else x - n) := by
  have hr : rd [n] 0 = n := rfl
  unfold cornucopiabook_Room.f
  by_cases c : x < 0
  · rw [if_pos c]
    exact Ev.step (fun k => (if_pos (by simp)).trans (if_pos c)) (Ev.now _)
  rw [if_neg c]
  by_cases c2 : n > x
  · rw [if_pos c2]
    exact Ev.step (fun k => (if_pos (by simp)).trans ((if_neg c).trans ((if_pos (by omega)).trans (if_pos (by rw [hr]; exact c2))))) (Ev.now _)
  rw [if_neg c2]
  refine Ev.step (fun k => (if_pos (by simp)).trans ((if_neg c).trans ((if_pos (by omega)).trans (if_neg (by rw [hr]; exact c2))))) ?_
  rw [hr, wrap64_id (x := x - n) (by omega) (by omega)]
  exact Ev.step (fun k => if_neg (by rw [wrap64_id (by omega) (by omega)]; simp)) (Ev.now _)
/-- What the law asks of a part that is handed in. -/
structure Sound (x : Pt) : Prop where
  s : x.f1.size ≤ 140737488355328
  n0 : 0 ≤ x.f2
  n1 : x.f2 < 18446744073709551616
  i0 : -9223372036854775808 ≤ x.f3
  i1 : x.f3 ≤ 9223372036854775807
theorem rd_eq (l : List Pt) (i : Nat) (h : i < l.length) : rd_T35 l (i : Int) = l[i] := by
  simp [rd_T35, h]
theorem drop_eq (l : List Pt) (i : Nat) (h : i < l.length) : l.drop i = l[i] :: l.drop (i + 1) := List.drop_eq_getElem_cons h
theorem small_l0 (l : List Pt) (hz : ∀ x ∈ l, Sound x) (hl : l.length ≤ 9223372036854775806) : ∀ (n i : Nat) (x : Int), i + n = l.length → -1 ≤ x → x ≤ 1000000 →
    ∃ b : Bool, Ev (fun k => cornucopialaw2_small.l0 k l x (i : Int)) b ∧ (b = true → l.length ≤ 60 ∧ 0 ≤ x ∧ ∀ y ∈ l.drop i, (y.f1.size : Int) ≤ x)
  | 0, i, x, hi, h1, h2 => by
    by_cases c : (l.length : Int) ≤ 60
    · refine ⟨decide (x ≥ 0), Ev.step (fun k => (if_neg (by omega)).trans (if_pos c)) (Ev.now _), fun h => ⟨by omega, by simpa using h, fun y hy => ?_⟩⟩
      rw [List.drop_of_length_le (by omega)] at hy
      simp at hy
    · exact ⟨false, Ev.step (fun k => (if_neg (by omega)).trans (if_neg c)) (Ev.now _), fun h => by cases h⟩
  | n + 1, i, x, hi, h1, h2 => by
    by_cases c : (i : Int) < 200
    · by_cases c2 : x ≥ 0
      · have hm := hz (l[i]'(by omega)) (List.getElem_mem _)
        have hr := Room_ev x ((l[i]'(by omega)).f1.size : Int) h1 h2 (by omega) (by have := hm.s; omega)
        rw [if_neg (by omega)] at hr
        have e1 : wrap64 ((i : Int) + 1) = ((i + 1 : Nat) : Int) := by rw [wrap64_id (by omega) (by omega)]; omega
        have st : ∀ {v : Int} {b : Bool}, Ev (fun k => cornucopiabook_Room.f k x [((l[i]'(by omega)).f1.size : Int)]) v → Ev (fun k => cornucopialaw2_small.l0 k l v ((i + 1 : Nat) : Int)) b → Ev (fun k => cornucopialaw2_small.l0 k l x (i : Int)) b := fun ha hb => by
          refine Ev.step (fun k => (if_pos (by omega)).trans ((if_pos c).trans ((if_pos c2).trans (if_pos (by omega))))) ?_
          rw [rd_eq l i (by omega), e1]
          exact Ev.bind ha hb
        by_cases c3 : ((l[i]'(by omega)).f1.size : Int) > x
        · rw [if_pos c3] at hr
          obtain ⟨b, hb, hb2⟩ := small_l0 l hz hl n (i + 1) (-1) (by omega) (by omega) (by omega)
          exact ⟨b, st hr hb, fun h => by have := (hb2 h).2.1; omega⟩
        · rw [if_neg c3] at hr
          obtain ⟨b, hb, hb2⟩ := small_l0 l hz hl n (i + 1) (x - ((l[i]'(by omega)).f1.size : Int)) (by omega) (by omega) (by omega)
          refine ⟨b, st hr hb, fun h => ⟨(hb2 h).1, by omega, fun y hy => ?_⟩⟩
          rw [drop_eq l i (by omega)] at hy
          rcases List.mem_cons.1 hy with rfl | hy
          · omega
          · have := (hb2 h).2.2 y hy
            omega
      · refine ⟨false, ?_, fun h => by cases h⟩
        have hd : decide (x ≥ 0) = false := decide_eq_false c2
        by_cases c4 : (l.length : Int) ≤ 60
        · refine Ev.step (fun k => (if_pos (by omega)).trans ((if_pos c).trans ((if_neg c2).trans (if_pos c4)))) ?_
          rw [hd]
          exact Ev.now _
        · exact Ev.step (fun k => (if_pos (by omega)).trans ((if_pos c).trans ((if_neg c2).trans (if_neg c4)))) (Ev.now _)
    · exact ⟨false, Ev.step (fun k => (if_pos (by omega)).trans ((if_neg c).trans (if_neg (by omega)))) (Ev.now _), fun h => by cases h⟩

/-! ### What Get answers -/
theorem text_g (r : List UInt8) : ∀ a acc : List UInt8, okey_text.g acc (tx a ++ r) = (ba (acc ++ a), ba r, 0)
  | [], acc => by simp [tx_nil, okey_text.g]
  | c :: a, acc => by
    by_cases c0 : c = 0
    · subst c0
      rw [tx_zero, List.cons_append, List.cons_append, okey_text.g_zero, text_g r a]
      simp
    · rw [tx_cons c a c0, List.cons_append, okey_text.g_step _ _ _ c0, text_g r a]
      simp
theorem unL8 (v : Nat) (hv : v < 18446744073709551616) (r : List UInt8) : unL 0 ((((be 8 v ++ r)).drop 0).take 8) = v := by
  rw [List.drop_zero, List.take_append_of_le_length (by simp), List.take_of_length_le (by simp), unL_be, Nat.zero_mul, Nat.zero_add]
  exact Nat.mod_eq_of_lt (by omega)
theorem down (i : Int) (h1 : -9223372036854775808 ≤ i) (h2 : i ≤ 9223372036854775807) : wrap64 (Go.bits .xor .u64 ((up i : Nat) : Int) 9223372036854775808) = i := by
  have h3 : up i < 18446744073709551616 := by unfold up; omega
  have e := u64_xor_nat (up i) (2 ^ 63) h3 (by omega)
  have e2 : Go.bits .xor .u64 ((up i : Nat) : Int) 9223372036854775808 = ((up i ^^^ 2 ^ 63 : Nat) : Int) := e
  rw [e2]
  by_cases c : 0 ≤ i
  · obtain ⟨n, hn⟩ : ∃ n : Nat, up i = 2 ^ 63 + n ∧ (n : Int) = i ∧ n < 2 ^ 63 := ⟨i.toNat, by unfold up; omega, by omega, by omega⟩
    rw [hn.1, xor_top' n hn.2.2, hn.2.1]
    exact wrap64_id h1 h2
  · have h4 : up i < 2 ^ 63 := by unfold up; omega
    rw [xor_top _ h4]
    unfold wrap64 up
    omega
/-- A part as it is got. -/
def norm (x : Pt) : Pt := if x.f0 = 1 then ⟨1, x.f1, 0, 0⟩ else if x.f0 = 2 then ⟨2, ⟨#[]⟩, x.f2, 0⟩ else ⟨3, ⟨#[]⟩, 0, x.f3⟩
theorem get_one (x : Pt) (h : Fine x) (r : List UInt8) (hr : r.length ≤ 1000000000) :
    Ev (fun k => okey_get.f k (ba (pt x ++ r)) x.f0) ((norm x).f0, (norm x).f1, (norm x).f2, (norm x).f3, ba r, 0) := by
  have hp := pt_length x h
  unfold okey_get.f
  by_cases c1 : x.f0 = 1
  · refine Ev.iteT c1 ?_
    have ht : okey_text.f (ba (pt x ++ r)) = some (x.f1, ba r, 0) := by
      unfold okey_text.f
      rw [if_pos (by rw [size_ba, List.length_append]; omega), ls_ba, pt, if_pos c1, text_g, List.nil_append, ba_ls]
    refine Ev.bindC ht ?_
    simp only [norm, if_pos c1]
    rw [c1]
    exact Ev.now _
  refine Ev.iteF c1 ?_
  have hs : (ba (pt x ++ r)).size ≤ 9223372036854775807 := by rw [size_ba, List.length_append]; omega
  have h8 : ∀ v, pt x = be 8 v → 8 ≤ (ba (pt x ++ r)).size := fun v hv => by rw [size_ba, List.length_append, hv, be_length]; omega
  have hx : ∀ v, pt x = be 8 v → (ba (pt x ++ r)).extract 8 (ba (pt x ++ r)).size = ba r := fun v hv => by
    apply ls_inj
    rw [ls_extract, ls_ba, ls_ba, List.take_of_length_le (by rw [size_ba]; exact Nat.le_refl _), hv]
    rw [List.drop_append_of_le_length (by simp), List.drop_of_length_le (by simp), List.nil_append]
  by_cases c2 : x.f0 = 2
  · have hv : pt x = be 8 x.f2.toNat := by rw [pt, if_neg c1, if_pos c2]
    have hu := Unfix_ev (ba (pt x ++ r)) 0 8 (by omega) (by omega) (by rw [Nat.zero_add]; exact h8 _ hv) hs
    rw [ls_ba, hv, unL8 _ (by have := h.n0; have := h.n1; omega), Int.toNat_of_nonneg h.n0, ← hv] at hu
    refine Ev.bind hu (Ev.iteT rfl (Ev.iteT c2 (Ev.iteT (by have := h8 _ hv; omega) ?_)))
    simp only [norm, if_neg c1, if_pos c2]
    rw [hx _ hv, c2]
    exact Ev.now _
  · have c3 : x.f0 = 3 := by have := h.k1; have := h.k3; omega
    have hv : pt x = be 8 (up x.f3) := by rw [pt, if_neg c1, if_neg c2]
    have hu := Unfix_ev (ba (pt x ++ r)) 0 8 (by omega) (by omega) (by rw [Nat.zero_add]; exact h8 _ hv) hs
    rw [ls_ba, hv, unL8 _ (by have := h.i0; have := h.i1; unfold up; omega), ← hv] at hu
    refine Ev.bind hu (Ev.iteT rfl (Ev.iteF c2 (Ev.iteT (by have := h8 _ hv; omega) ?_)))
    simp only [norm, if_neg c1, if_neg c2]
    rw [hx _ hv, c3, down x.f3 h.i0 h.i1]
    exact Ev.now _
theorem Get_l1 (l : List Pt) (hl : l.length ≤ 60) (hf : ∀ x ∈ l, Fine x) (rest : List UInt8) (hr : rest.length ≤ 1000000) (ks : List Int) : ∀ (m i : Nat), i + m = l.length →
    Ev (fun k => okey_Get.l1 k (ba ((l.drop i).flatMap pt ++ rest)) ((l.take i).map norm) (l.map (·.f0)) (l.length : Int) (i : Int)) (l.map norm, ba rest, 0)
  | 0, i, hi => by
    rw [List.drop_of_length_le (by omega), List.take_of_length_le (by omega)]
    refine Ev.step (fun k => if_neg (by omega)) ?_
    refine Ev.bindC (show strings_Clone.f _ = some _ from if_pos (by rw [size_ba]; simp; omega)) ?_
    exact Ev.now _
  | m + 1, i, hi => by
    have hil : i < l.length := by omega
    have hx := hf l[i] (List.getElem_mem hil)
    have e1 : wrap64 ((i : Int) + 1) = ((i + 1 : Nat) : Int) := by rw [wrap64_id (by omega) (by omega)]; omega
    have hrd : rd (l.map (·.f0)) (i : Int) = l[i].f0 := by
      show (l.map (·.f0)).getD (i : Int).toNat 0 = _
      rw [Int.toNat_natCast, List.getD_eq_getElem?_getD, List.getElem?_map, List.getElem?_eq_getElem hil]
      rfl
    have hlen : ∀ j : List Pt, (∀ x ∈ j, Fine x) → (j.flatMap pt).length ≤ j.length * 3000000 := by
      intro j
      induction j with
      | nil => intro _; simp
      | cons a j ih =>
        intro hj
        have h1 := ih fun x hx => hj x (by simp [hx])
        have h2 := pt_length a (hj a (by simp))
        rw [List.flatMap_cons, List.length_append, List.length_cons, Nat.succ_mul]
        omega
    have hd := hlen (l.drop (i + 1)) fun x hx => hf x (List.mem_of_mem_drop hx)
    have hd2 : (l.drop (i + 1)).length * 3000000 ≤ 180000000 := by
      rw [List.length_drop]
      have : l.length - (i + 1) ≤ 60 := by omega
      have := Nat.mul_le_mul_right 3000000 this
      omega
    have hg := get_one l[i] hx ((l.drop (i + 1)).flatMap pt ++ rest) (by rw [List.length_append]; omega)
    rw [← List.append_assoc, ← List.flatMap_cons, ← drop_eq l i hil] at hg
    refine Ev.step (fun k => (if_pos (by omega)).trans ((if_pos (by omega)).trans (if_pos (by rw [List.length_map]; omega)))) ?_
    rw [hrd, e1]
    refine Ev.bind hg (Ev.iteT rfl (Ev.iteT (by rw [List.length_map, List.length_take]; omega) ?_))
    have h := Get_l1 l hl hf rest hr ks m (i + 1) (by omega)
    rw [List.take_succ_eq_append_getElem hil, List.map_append] at h
    exact h
theorem Get_l0 (x0 : ByteArray) (ks : List Int) (hk : ∀ x ∈ ks, 1 ≤ x ∧ x ≤ 3) (hl : ks.length ≤ 1000) {r : List Pt × ByteArray × Int} (he : Ev (fun k => okey_Get.l1 k x0 [] ks (ks.length : Int) 0) r) : ∀ (m i : Nat), i + m = ks.length →
    Ev (fun k => okey_Get.l0 k x0 ks ks (ks.length : Int) (i : Int)) r
  | 0, i, hi => Ev.step (fun k => if_neg (by omega)) he
  | m + 1, i, hi => by
    have hil : i < ks.length := by omega
    have hx := hk ks[i] (List.getElem_mem hil)
    have e1 : wrap64 ((i : Int) + 1) = ((i + 1 : Nat) : Int) := by rw [wrap64_id (by omega) (by omega)]; omega
    have hrd : rd ks (i : Int) = ks[i] := by
      show ks.getD (i : Int).toNat 0 = _
      rw [Int.toNat_natCast, List.getD_eq_getElem?_getD, List.getElem?_eq_getElem hil]
      rfl
    refine Ev.step (fun k => (if_pos (by omega)).trans ((if_pos (by omega)).trans (if_pos (by omega)))) ?_
    rw [hrd, e1]
    refine Ev.bindC (show okey_isKind.f ks[i] = some true from (if_pos hx.1).trans (by rw [decide_eq_true hx.2])) (Ev.iteT rfl ?_)
    exact Get_l0 x0 ks hk hl he m (i + 1) (by omega)
theorem Get_ev (l : List Pt) (hl : l.length ≤ 60) (hf : ∀ x ∈ l, Fine x) (rest : List UInt8) (hr : rest.length ≤ 1000000) :
    Ev (fun k => okey_Get.f k (ba (l.flatMap pt ++ rest)) (l.map (·.f0))) (l.map norm, ba rest, 0) := by
  have h := Get_l1 l hl hf rest hr [] l.length 0 (by omega)
  rw [List.drop_zero, List.take_zero, List.map_nil] at h
  unfold okey_Get.f
  have hm : (l.map (·.f0)).length = l.length := List.length_map ..
  refine Get_l0 _ (l.map (·.f0)) (fun x hx => ?_) (by omega) ?_ l.length 0 (by omega)
  · obtain ⟨y, hy, rfl⟩ := List.mem_map.1 hx
    exact ⟨(hf y hy).k1, (hf y hy).k3⟩
  · rw [hm]; exact h

/-! ### Put where a kind is none -/
theorem Put_bad : ∀ (l : List Pt) (acc : ByteArray), (∀ x ∈ l, Sound x ∧ x.f1.size ≤ 1000000) → (∃ x ∈ l, x.f0 < 1 ∨ 3 < x.f0) → acc.size + l.length * 3000000 ≤ 140737488355328 → Ev (fun k => okey_Put.g k l acc) (⟨#[]⟩, 1)
  | [], acc, _, h, _ => by obtain ⟨x, hx, _⟩ := h; cases hx
  | x :: l, acc, hf, hb, hz => by
    obtain ⟨hx, hxs⟩ := hf x (by simp)
    by_cases c0 : x.f0 < 1 ∨ 3 < x.f0
    · exact Ev.congr (fun k => by rw [okey_Put.g, if_neg (by omega), if_neg (by omega), if_neg (by omega)]) (Ev.now _)
    · have hfx : Fine x := ⟨by omega, by omega, hxs, hx.n0, hx.n1, hx.i0, hx.i1⟩
      have hp := pt_length x hfx
      have hb' : ∃ y ∈ l, y.f0 < 1 ∨ 3 < y.f0 := by
        obtain ⟨y, hy, h⟩ := hb
        rcases List.mem_cons.1 hy with rfl | hy
        · exact absurd h c0
        · exact ⟨y, hy, h⟩
      have ih : ∀ t : ByteArray, ls t = pt x → Ev (fun k => if acc.size + t.size ≤ 140737488355328 then okey_Put.g k l (acc ++ t) else none) (⟨#[]⟩, 1) := by
        intro t ht
        have hts : t.size ≤ 3000000 := by rw [← ls_length, ht]; exact hp
        rw [List.length_cons, Nat.succ_mul] at hz
        exact Ev.iteT (by omega) (Put_bad l (acc ++ t) (fun y hy => hf y (by simp [hy])) hb' (by rw [ByteArray.size_append]; omega))
      by_cases c1 : x.f0 = 1
      · exact Ev.congr (fun k => by rw [okey_Put.g, if_pos c1]) (Ev.bindC (Text_eq x.f1 (by omega)) (ih _ (by rw [ls_ba, pt, if_pos c1])))
      by_cases c2 : x.f0 = 2
      · have hn := Num_ev x.f2.toNat (by have := hx.n0; have := hx.n1; omega)
        rw [Int.toNat_of_nonneg hx.n0] at hn
        exact Ev.congr (fun k => by rw [okey_Put.g, if_neg c1, if_pos c2]) (Ev.bind hn (ih _ (by rw [ls_ba, pt, if_neg c1, if_pos c2])))
      · have c3 : x.f0 = 3 := by omega
        exact Ev.congr (fun k => by rw [okey_Put.g, if_neg c1, if_neg c2, if_pos c3]) (Ev.bind (Int_ev x.f3 hx.i0 hx.i1) (ih _ (by rw [ls_ba, pt, if_neg c1, if_neg c2])))

/-! ### The law -/
theorem back_l1 (l : List Pt) (hl : l.length ≤ 60) (hf : ∀ x ∈ l, Fine x) : ∀ (m i : Nat), i + m = l.length → Ev (fun k => cornucopialaw2_OkeyBack.l1 k l (l.map norm) (i : Int)) true
  | 0, i, hi => Ev.step (fun k => if_neg (by omega)) (Ev.bind alive_ev (Ev.now _))
  | m + 1, i, hi => by
    have hil : i < l.length := by omega
    have hx := hf l[i] (List.getElem_mem hil)
    have e1 : wrap64 ((i : Int) + 1) = ((i + 1 : Nat) : Int) := by rw [wrap64_id (by omega) (by omega)]; omega
    have hn : rd_T35 (l.map norm) (i : Int) = norm l[i] := by rw [rd_eq _ i (by rw [List.length_map]; omega)]; simp
    have hr := rd_eq l i hil
    have ih := back_l1 l hl hf m (i + 1) (by omega)
    refine Ev.step (fun k => (if_pos (by omega)).trans ((if_pos (by omega)).trans (if_pos (by rw [List.length_map]; omega)))) ?_
    rw [hn, hr, e1]
    by_cases c1 : l[i].f0 = 1
    · have e : norm l[i] = ⟨1, l[i].f1, 0, 0⟩ := by rw [norm, if_pos c1]
      rw [e]
      dsimp only
      exact Ev.iteT c1.symm (Ev.iteT rfl (Ev.iteT rfl (Ev.iteF (by omega) (Ev.iteF (by omega) ih))))
    by_cases c2 : l[i].f0 = 2
    · have e : norm l[i] = ⟨2, ⟨#[]⟩, l[i].f2, 0⟩ := by rw [norm, if_neg c1, if_pos c2]
      rw [e]
      dsimp only
      exact Ev.iteT c2.symm (Ev.iteF (by omega) (Ev.iteT rfl (Ev.iteT rfl (Ev.iteF (by omega) ih))))
    · have c3 : l[i].f0 = 3 := by have := hx.k1; have := hx.k3; omega
      have e : norm l[i] = ⟨3, ⟨#[]⟩, 0, l[i].f3⟩ := by rw [norm, if_neg c1, if_neg c2]
      rw [e]
      dsimp only
      exact Ev.iteT c3.symm (Ev.iteF (by omega) (Ev.iteF (by omega) (Ev.iteT rfl (Ev.iteT rfl ih))))
theorem back_l0 (l : List Pt) (a1 : ByteArray) (hl : l.length ≤ 60) (hz : ∀ x ∈ l, Sound x) (hs : ∀ x ∈ l, x.f1.size ≤ 6000) (ha : a1.size ≤ 300) : ∀ (m i : Nat), i + m = l.length → (∀ x ∈ l.take i, 1 ≤ x.f0 ∧ x.f0 ≤ 3) →
    Ev (fun k => cornucopialaw2_OkeyBack.l0 k l a1 ((l.take i).map (·.f0)) (i : Int)) true
  | 0, i, hi, hk => by
    rw [List.take_of_length_le (by omega)] at hk ⊢
    have hf : ∀ x ∈ l, Fine x := fun x hx => ⟨(hk x hx).1, (hk x hx).2, by have := hs x hx; omega, (hz x hx).n0, (hz x hx).n1, (hz x hx).i0, (hz x hx).i1⟩
    refine Ev.step (fun k => if_neg (by omega)) ?_
    have hfl : ∀ j : List Pt, (∀ x ∈ j, Fine x) → (j.flatMap pt).length ≤ j.length * 3000000 := by
      intro j
      induction j with
      | nil => intro _; simp
      | cons a j ih =>
        intro hj
        have h1 := ih fun x hx => hj x (by simp [hx])
        have h2 := pt_length a (hj a (by simp))
        rw [List.flatMap_cons, List.length_append, List.length_cons, Nat.succ_mul]
        omega
    have hb := hfl l hf
    have hb2 : l.length * 3000000 ≤ 180000000 := by have := Nat.mul_le_mul_right 3000000 hl; omega
    have hg := Get_ev l hl hf (ls a1) (by rw [ls_length]; omega)
    rw [show ba (l.flatMap pt ++ ls a1) = ba (l.flatMap pt) ++ a1 from ls_inj (by simp), ba_ls] at hg
    refine Ev.bind (Put_ev l hf (by omega)) (Ev.iteT (by rw [size_ba]; omega) (Ev.bind hg (Ev.iteT rfl (Ev.iteT rfl (Ev.iteT rfl ?_)))))
    rw [show (((l.map norm).length : Int) != (l.length : Int)) = false by simp]
    exact Ev.step (fun k => (cornucopialaw2_OkeyBack.j3.eq_2 _ _ _ _).trans (if_neg (by simp))) (back_l1 l hl hf l.length 0 (by omega))
  | m + 1, i, hi, hk => by
    have hil : i < l.length := by omega
    have hx := hz l[i] (List.getElem_mem hil)
    have e1 : wrap64 ((i : Int) + 1) = ((i + 1 : Nat) : Int) := by rw [wrap64_id (by omega) (by omega)]; omega
    have hr := rd_eq l i hil
    have bad : (l[i].f0 < 1 ∨ 3 < l[i].f0) → Ev (fun k => cornucopialaw2_OkeyBack.j2 k l a1 ((l.take i).map (·.f0)) (i : Int) true) true := fun h => by
      refine Ev.step (fun k => (cornucopialaw2_OkeyBack.j2.eq_2 _ _ _ _ _ _).trans (if_pos rfl)) ?_
      have hp := Put_bad l ⟨#[]⟩ (fun x hx => ⟨hz x hx, by have := hs x hx; omega⟩) ⟨l[i], List.getElem_mem hil, h⟩ (by
        have := Nat.mul_le_mul_right 3000000 hl
        show 0 + _ ≤ _
        omega)
      exact Ev.bind (show Ev (fun k => okey_Put.f k l) (⟨#[]⟩, 1) from hp) (Ev.bind alive_ev (Ev.iteT rfl (Ev.now _)))
    refine Ev.step (fun k => (if_pos (by omega)).trans (if_pos (by omega))) ?_
    rw [hr]
    by_cases c1 : l[i].f0 < 1
    · exact Ev.iteT c1 (bad (.inl c1))
    refine Ev.iteF c1 ?_
    by_cases c2 : l[i].f0 > 3
    · rw [decide_eq_true c2]
      exact bad (.inr c2)
    rw [decide_eq_false c2]
    refine Ev.step (fun k => (cornucopialaw2_OkeyBack.j2.eq_2 _ _ _ _ _ _).trans ((if_neg (by simp)).trans ((if_pos (by omega)).trans ((if_pos (by omega)).trans (if_pos (by rw [List.length_map, List.length_take]; omega)))))) ?_
    rw [hr, e1]
    have h := back_l0 l a1 hl hz hs ha m (i + 1) (by omega) (by
      intro x hx
      rw [List.take_succ_eq_append_getElem hil] at hx
      rcases List.mem_append.1 hx with hx | hx
      · exact hk x hx
      · rw [List.mem_singleton.1 hx]; omega)
    rw [List.take_succ_eq_append_getElem hil, List.map_append] at h
    exact h
theorem OkeyBack_pure (l : List Pt) (a1 : ByteArray) (hl : l.length ≤ 9223372036854775806) (hz : ∀ x ∈ l, Sound x) : ∃ k, cornucopialaw2_OkeyBack.f k l a1 = some true := by
  refine Ev.rounds ?_
  have hal : Ev (fun k => cornucopialaw2_OkeyBack.j0 k l a1 true) true :=
    Ev.step (fun k => (cornucopialaw2_OkeyBack.j0.eq_2 _ _ _ _).trans (if_pos rfl)) (Ev.bind alive_ev (Ev.now _))
  obtain ⟨b, hb, hb2⟩ := small_l0 l hz hl l.length 0 6000 (by omega) (by omega) (by omega)
  refine Ev.bind (show Ev (fun k => cornucopialaw2_small.f k l) b from hb) ?_
  cases b with
  | false => exact Ev.iteF (by simp) hal
  | true =>
    refine Ev.iteT rfl ?_
    obtain ⟨h1, _, h3⟩ := hb2 rfl
    by_cases c : (a1.size : Int) > 300
    · rw [decide_eq_true c]
      exact hal
    rw [decide_eq_false c]
    refine Ev.step (fun k => (cornucopialaw2_OkeyBack.j0.eq_2 _ _ _ _).trans (if_neg (by simp))) ?_
    exact back_l0 l a1 h1 hz (fun x hx => by have := h3 x (by simpa using hx); omega) (by omega) l.length 0 (by omega) (by simp)
theorem wfu {n : Int} (h : (Lit.int .u64 n).wf = true) : 0 ≤ n ∧ n < 18446744073709551616 := by
  simp only [Lit.wf, IntKind.min, IntKind.max, IntKind.signed, IntKind.bits, Bool.and_eq_true, decide_eq_true_eq] at h
  simp at h
  omega
theorem wfi {n : Int} (h : (Lit.int .i64 n).wf = true) : -9223372036854775808 ≤ n ∧ n ≤ 9223372036854775807 := by
  simp only [Lit.wf, IntKind.min, IntKind.max, IntKind.signed, IntKind.bits, Bool.and_eq_true, decide_eq_true_eq] at h
  simp at h
  omega
end Go.Proofs.YtbejofbbmpmnfaaDoor.Pure
