/- NetMoves: walked. -/
import Derived.Test.YtbcgeajnmnnbhaaNetLs
set_option linter.unusedSimpArgs false
set_option linter.unusedVariables false
namespace Go.Proofs.Ytbcgeajnmnnbhaa.Nt
open Go.RowKit Go.Maps Go.Proofs.Ytbcgeajnmnnbhaa.PAll Go.Proofs.YtbcgeajnmnnbhaaW.PrintWords
attribute [local go_sem] put_fresh
attribute [-go_sem] Builtin.append_

abbrev no0 : Int → Int → Bool := fun _ _ => false
theorem pk_pen {j : Nat} (h : j < 1000) : (#[.int .i64 0, .int .i64 (j : Int), .string ⟨#[97, 98, 99]⟩] : Array Value).toList = [pk j].flatMap penc := by simp [penc, pk_a h, pk_b h, pk_s h]
theorem send_one {w : World} {base B : Nat} {m : Value} {j : Nat} (hN : NetAt w base B m (Lm j)) (hC : CutAt w B m 0 no0) (hj : j < 40) :
    Calls Try.prog 10 #[.pointer (some ⟨B, 0, none⟩), .slice (some ⟨w.heap.size, 0, none⟩) 1 1] (w.alloc (.cells #[.int .i64 0, .int .i64 (j : Int), .string ⟨#[97, 98, 99]⟩] 27)) fun e W' => e = .returned (.int .i64 1) ∧ NetAt W' base B m (Lm (j + 1)) ∧ CutAt W' B m 0 no0 ∧ Below base w W' := by
  have hbA := below_alloc (Below.refl w.heap.size w) (.cells (#[.int .i64 0, .int .i64 (j : Int), .string ⟨#[97, 98, 99]⟩] : Array Value) 27)
  have hS := send_c (hN.below hbA) (hC.below hbA) (by rw [Lm_len]; omega) _ [pk j] (prow_new hN [pk j] (pk_pen (by omega)) 1 rfl) (by simp) (by intro x hx; simp at hx; subst hx; rw [pk_s (by omega)]; decide)
  have hs : sent no0 (Lm j).length [pk j] = [pk j] := by
    simp [sent, Lm_len]
    omega
  rw [hs] at hS
  refine hS.mono ?_
  rintro e w' ⟨rfl, h1, h2, _, h4⟩
  have hb := hN.1
  have hl := hN.lt
  exact ⟨rfl, by rw [Lm_succ]; exact h1, h2, (hbA.mono (by omega)).trans h4⟩
theorem iw_succ (k : Nat) : Value.int .i64 ((k : Int) + 1) = Value.int .i64 ((k + 1 : Nat) : Int) := congrArg (Value.int .i64) (by omega)
theorem iw_meas {k n : Nat} (hk : k < n) : n - (intOf (Value.int .i64 ((k : Int) + 1))).toNat < n - (intOf (Value.int .i64 (k : Int))).toNat := by
  simp only [intOf]; omega
theorem spb_sz (s : ByteArray) (t : Nat) (b : Int) : (spb s t b).size = s.size := spb_size s t b
/-- A packet spoilt. -/
def sp1 (x : Pk) (a b : Int) : Pk := ⟨x.a, x.b, spb x.s (plc x.s.size a) b, x.ha, x.hb⟩
theorem sp1_twice (x : Pk) (a b : Int) : sp1 (sp1 x a b) a b = x := by
  cases x with
  | mk xa xb xs h1 h2 =>
    unfold sp1
    simp only [spb_sz, spb_twice]
theorem set_twice (L : List Pk) {z : Nat} (x : Pk) (hx : L[z]? = some x) (a b : Int) : (L.set z (sp1 x a b)).set z (sp1 (sp1 x a b) a b) = L := by
  rw [sp1_twice, List.set_set]
  apply List.ext_getElem?
  intro i
  have hl := (List.getElem?_eq_some_iff.1 hx).1
  by_cases e : z = i
  · subst e
    rw [List.getElem?_set_self hl, hx]
  · rw [List.getElem?_set_ne e]
/-- Which packet stands at i, once k was moved to z. -/
def fat (k z i : Nat) : Nat := (fun j => if j < k then j else j + 1) (if i < z then i else i - 1)
theorem fat_lt {k z i i' : Nat} (h : i < i') (h1 : i ≠ z) (h2 : i' ≠ z) : fat k z i < fat k z i' := by
  unfold fat
  dsimp only
  repeat' split
  all_goals omega
theorem fat_le {k z i n : Nat} (hi : i < n) (hz : z < n) (hk : k < n) (h1 : i ≠ z) : fat k z i < n := by
  unfold fat
  dsimp only
  repeat' split
  all_goals omega
theorem pk_val {j : Nat} (h : j < 1000) : pval (pk j) = .agg #[.int .i64 0, .int .i64 (j : Int), .string ⟨#[97, 98, 99]⟩] := by simp [pval, pk_a h, pk_b h, pk_s h]
set_option maxRecDepth 100000 in
set_option maxHeartbeats 8000000 in
theorem NetMoves_in (n k z : Nat) (a b : Int) (ha : I64 a) (hb : I64 b) (h1 : 1 ≤ n) (h40 : n ≤ 40) (hk : k < n) (hz : z < n) (W : World) : Calls Try.prog 3 #[.int .i64 n, .int .i64 k, .int .i64 z, .int .i64 a, .int .i64 b] W fun e W' => e = .returned (.bool true) ∧ Below W.heap.size W W' := by
  have i1 : (1 : Int) ≤ (n : Int) := by omega
  have i2 : (n : Int) ≤ 40 := by omega
  have i3 : (k : Int) < (n : Int) := by omega
  have i4 : (z : Int) < (n : Int) := by omega
  have i1' : 0 < n := h1
  go_enter Try.func3, Try.ntmps3
  go_wp2_with fail
  refine (new_c W).mono ?_
  rintro e w1 ⟨rfl, hN1, hC1, hb1⟩
  have H1 := Aside0.mk (And.intro hN1 (And.intro hC1 hb1))
  clear hN1 hC1 hb1
  go_wp2_with fail
  go_loopw [12] (fun i wr => ∃ j : Nat, j ≤ n ∧ i = .int .i64 j ∧ Aside0 (NetAt wr W.heap.size W.heap.size (.map none) (Lm j) ∧ CutAt wr W.heap.size (.map none) 0 no0 ∧ Below W.heap.size W wr)) (fun i _ => n - (intOf i).toNat)
  case atStart => exact ⟨0, Nat.zero_le _, rfl, ⟨H1.out⟩⟩
  case round =>
    obtain ⟨j, hj, rfl, H2⟩ := hrel
    by_cases hlt : j < n
    · have hwk := Aside0.mk (show wrap64 ((j : Int) + 1) = (j : Int) + 1 by unfold wrap64; omega)
      have hji : (j : Int) < (n : Int) := by omega
      go_wp2_with fail
      refine (send_one H2.out.1 H2.out.2.1 (by omega)).mono ?_
      rintro e w2 ⟨rfl, hN2, hC2, hb2⟩
      have H3 := Aside0.mk (And.intro hN2 (And.intro hC2 (H2.out.2.2.trans hb2)))
      clear hN2 hC2 hb2
      go_wp2_with fail
      exact ⟨⟨j + 1, hlt, iw_succ j, H3⟩, iw_meas hlt⟩
    · have hkl : j = n := by omega
      subst hkl
      have hd1 : decide ((j : Int) < (j : Int)) = false := decide_eq_false (Int.lt_irrefl _)
      go_wp2_with fail
      have hL3 := mv_len (Lm j) (pk k) (by rw [Lm_len]; exact hk) (by rw [Lm_len]; exact hz)
      have hx3 := mv_at (Lm j) (pk k) (by rw [Lm_len]; exact hk) (by rw [Lm_len]; exact hz)
      have hbk := mv_back (Lm j) (pk k) (Lm_at hk) (by rw [Lm_len]; exact hz)
      have hs3 : (pk k).s.size = 3 := by rw [pk_s (by omega)]; rfl
      have F := Aside0.mk (And.intro hL3 (And.intro hx3 (And.intro hbk hs3)))
      clear hL3 hx3 hbk hs3
      refine (move_in H2.out.1 H2.out.2.1 (by rw [Lm_len]; omega) k (pk k) (Lm_at hk) z (by rw [Lm_len]; exact hz)).mono ?_
      rintro e w3 ⟨rfl, hN3, hC3, _, hb3⟩
      have H3 := Aside0.mk (And.intro hN3 (And.intro hC3 (H2.out.2.2.trans hb3)))
      clear hN3 hC3 hb3
      go_wp2_with fail
      refine (spoil_in H3.out.1 H3.out.2.1 (by rw [F.out.1, Lm_len]; omega) z (pk k) F.out.2.1 a b ha hb (by rw [F.out.2.2.2]; decide) (by rw [F.out.2.2.2]; decide)).mono ?_
      rintro e w4 ⟨rfl, hN4, hC4, _, hb4⟩
      have H4 := Aside0.mk (And.intro hN4 (And.intro hC4 (H3.out.2.2.trans hb4)))
      clear hN4 hC4 hb4
      have hzl : z < (mv (Lm j) k (pk k) z).length := by rw [F.out.1, Lm_len]; exact hz
      have HS := Aside0.mk (spoil_in H4.out.1 H4.out.2.1 (by rw [List.length_set, F.out.1, Lm_len]; omega) z (sp1 (pk k) a b) (List.getElem?_set_self hzl) a b ha hb (by show 0 < (spb _ _ _).size; rw [spb_sz, F.out.2.2.2]; decide) (by show (spb _ _ _).size ≤ _; rw [spb_sz, F.out.2.2.2]; decide))
      go_wp2_with fail
      refine HS.out.mono ?_
      rintro e w5 ⟨rfl, hN5, hC5, _, hb5⟩
      have hst := set_twice _ _ F.out.2.1 a b
      have hN5' : NetAt w5 W.heap.size W.heap.size (.map none) (mv (Lm j) k (pk k) z) := by rw [← hst]; exact hN5
      have H5 := Aside0.mk (And.intro hN5' (And.intro hC5 (H4.out.2.2.trans hb5)))
      clear hN5 hN5' hC5 hb5 hst HS hzl
      go_wp2_with fail
      have HP5 := Aside0.mk (peek_in H5.out.1 z (pk k) F.out.2.1)
      rw [pk_val (by omega)] at HP5
      refine HP5.out.mono ?_
      rintro e w6 ⟨rfl, hb6⟩
      have hz5 := H5.out.2.2.size
      have H6 := Aside0.mk (And.intro (H5.out.1.below hb6) (And.intro (H5.out.2.1.below hb6) (H5.out.2.2.trans (hb6.mono hz5))))
      clear hb6 HP5 hz5
      have hbA6 := below_alloc (Below.refl w6.heap.size w6) (.cells (#[.int .i64 0, .int .i64 (k : Int), .string ⟨#[97, 98, 99]⟩] : Array Value) 27)
      have hz6 := H6.out.2.2.size
      have H7 := Aside0.mk (And.intro (H6.out.1.below hbA6) (And.intro (H6.out.2.1.below hbA6) (H6.out.2.2.trans (hbA6.mono hz6))))
      clear hbA6 hz6
      go_wp2_with fail
      go_loopw [15, 16] (fun l i wq => ∃ (q : Nat) (la : Int), q ≤ j ∧ i = .int .i64 q ∧ l = .int .i64 la ∧ Aside0 ((∀ i2, q ≤ i2 → i2 ≠ z → la < (fat k z i2 : Int)) ∧ NetAt wq W.heap.size W.heap.size (.map none) (mv (Lm j) k (pk k) z) ∧ CutAt wq W.heap.size (.map none) 0 no0 ∧ Below W.heap.size W wq)) (fun _ i _ => j - (intOf i).toNat)
      case atStart => exact ⟨0, -1, Nat.zero_le _, rfl, rfl, ⟨fun _ _ _ => by omega, H7.out⟩⟩
      case round =>
        obtain ⟨q, la, hq, rfl, rfl, H8⟩ := hrel
        by_cases hlq : q < j
        · have hqi : (q : Int) < (j : Int) := by omega
          by_cases hqz : q = z
          · subst hqz
            have HP8 := Aside0.mk (peek_in H8.out.2.1 q (pk k) F.out.2.1)
            rw [pk_val (by omega)] at HP8
            go_wp2_with fail
            refine HP8.out.mono ?_
            rintro e w9 ⟨rfl, hb9⟩
            have hz8 := H8.out.2.2.2.size
            have hb9' := below_alloc hb9 (.cells (#[.int .i64 0, .int .i64 (k : Int), .string ⟨#[97, 98, 99]⟩] : Array Value) 27)
            have H9 := Aside0.mk (And.intro (H8.out.2.1.below hb9') (And.intro (H8.out.2.2.1.below hb9') (H8.out.2.2.2.trans (hb9'.mono hz8))))
            clear hb9 hb9' hz8
            go_wp2_with fail
            exact ⟨⟨q + 1, la, hlq, iw_succ q, rfl, ⟨fun i2 h1 h2 => H8.out.1 i2 (by omega) h2, H9.out⟩⟩, iw_meas hlq⟩
          · have hfl := fat_le hlq hz hk hqz
            have hx8 : (mv (Lm j) k (pk k) z)[q]? = some (pk (fat k z q)) := (mv_other (Lm j) (pk k) (by rw [Lm_len]; exact hk) (by rw [Lm_len]; exact hz) hqz).trans (Lm_at hfl)
            have hgt := H8.out.1 q (Nat.le_refl _) hqz
            have HF8 := Aside0.mk (fun i2 (h1 : q < i2) (h2 : i2 ≠ z) => fat_lt (k := k) h1 hqz h2)
            have HP8 := Aside0.mk (peek_in H8.out.2.1 q _ hx8)
            rw [pk_val (by omega)] at HP8
            generalize fat k z q = f at *
            have hqz' : ¬ ((q : Int) = (z : Int)) := by omega
            have hgt' : ¬ ((f : Int) ≤ la) := by omega
            go_wp2_with fail
            refine HP8.out.mono ?_
            rintro e w9 ⟨rfl, hb9⟩
            have hz8 := H8.out.2.2.2.size
            have hb9' := below_alloc hb9 (.cells (#[.int .i64 0, .int .i64 (f : Int), .string ⟨#[97, 98, 99]⟩] : Array Value) 27)
            have H9 := Aside0.mk (And.intro (H8.out.2.1.below hb9') (And.intro (H8.out.2.2.1.below hb9') (H8.out.2.2.2.trans (hb9'.mono hz8))))
            clear hb9 hb9' hz8 hx8
            go_wp2_with fail
            exact ⟨⟨q + 1, f, hlq, iw_succ q, rfl, ⟨fun i2 h1 h2 => by have := HF8.out i2 (by omega) h2; omega, H9.out⟩⟩, iw_meas hlq⟩
        · have hql : q = j := by omega
          subst hql
          have hd2 : decide ((q : Int) < (q : Int)) = false := decide_eq_false (Int.lt_irrefl _)
          go_wp2_with fail
          have HMB := Aside0.mk (move_in H8.out.2.1 H8.out.2.2.1 (by rw [F.out.1, Lm_len]; omega) z (pk k) F.out.2.1 k (by rw [F.out.1, Lm_len]; exact hk))
          rw [F.out.2.2.1] at HMB
          refine HMB.out.mono ?_
          rintro e w10 ⟨rfl, hN10, hC10, _, hb10⟩
          have H10 := Aside0.mk (And.intro hN10 (And.intro hC10 (H8.out.2.2.2.trans hb10)))
          clear hN10 hC10 hb10 HMB
          go_wp2_with fail
          go_loopw [19] (fun i wq => ∃ r : Nat, r ≤ q ∧ i = .int .i64 r ∧ Aside0 (NetAt wq W.heap.size W.heap.size (.map none) ((Lm q).drop r) ∧ CutAt wq W.heap.size (.map none) 0 no0 ∧ Below W.heap.size W wq)) (fun i _ => q - (intOf i).toNat)
          case atStart => exact ⟨0, Nat.zero_le _, rfl, ⟨H10.out⟩⟩
          case round =>
            obtain ⟨r, hr, rfl, H11⟩ := hrel
            by_cases hlr : r < q
            · have hri : (r : Int) < (q : Int) := by omega
              have hxr : ((Lm q).drop r)[0]? = some (pk r) := by rw [List.getElem?_drop, Nat.add_zero]; exact Lm_at hlr
              have her : ((Lm q).drop r).eraseIdx 0 = (Lm q).drop (r + 1) := by rw [List.eraseIdx_zero, List.tail_drop]
              have HPL := Aside0.mk (pull_in H11.out.1 H11.out.2.1 (by rw [List.length_drop, Lm_len]; omega) 0 (pk r) hxr)
              rw [her, pk_val (by omega)] at HPL
              clear hxr her
              go_wp2_with fail
              refine HPL.out.mono ?_
              rintro e w12 ⟨rfl, hN12, hC12, _, hb12⟩
              have hbA := below_alloc (Below.refl w12.heap.size w12) (.cells (#[.int .i64 0, .int .i64 (r : Int), .string ⟨#[97, 98, 99]⟩] : Array Value) 27)
              have hbW := H11.out.2.2.trans hb12
              have H12 := Aside0.mk (And.intro (hN12.below hbA) (And.intro (hC12.below hbA) (hbW.trans (hbA.mono hbW.size))))
              clear hN12 hC12 hb12 hbA hbW HPL
              go_wp2_with fail
              exact ⟨⟨r + 1, hlr, iw_succ r, H12⟩, iw_meas hlr⟩
            · have hrq : r = q := by omega
              subst hrq
              have hd3 : decide ((r : Int) < (r : Int)) = false := decide_eq_false (Int.lt_irrefl _)
              go_wp2_with fail
              refine (alive_c _).mono ?_
              rintro e w13 ⟨rfl, hb13⟩
              have hz13 := H11.out.2.2.size
              have HL := Aside0.mk (len_c (H11.out.1.below hb13))
              rw [show ((Lm r).drop r).length = 0 by rw [List.length_drop, Lm_len, Nat.sub_self]] at HL
              have H13 := Aside0.mk (H11.out.2.2.trans (hb13.mono hz13))
              clear hb13 hz13
              go_wp2_with fail
              refine HL.out.mono ?_
              rintro e w' ⟨rfl, hww⟩
              subst w'
              go_wp2
              go_ret
              exact ⟨rfl, H13.out⟩
end Go.Proofs.Ytbcgeajnmnnbhaa.Nt
