/- NetOrders: walked. -/
import Derived.Test.YtbcgeajnmnnbhaaNetMvs
set_option linter.unusedSimpArgs false
set_option linter.unusedVariables false
namespace Go.Proofs.Ytbcgeajnmnnbhaa.Nt
open Go.RowKit Go.Maps Go.Proofs.Ytbcgeajnmnnbhaa.PAll Go.Proofs.YtbcgeajnmnnbhaaW.PrintWords
attribute [local go_sem] put_fresh
attribute [-go_sem] Builtin.append_

set_option maxRecDepth 100000 in
set_option maxHeartbeats 4000000 in
theorem spoil_empty {W : World} {base B : Nat} {m : Value} {L : List Pk} (hN : NetAt W base B m L) (k : Nat) (x : Pk) (hx : L[k]? = some x) (h0 : x.s = ⟨#[]⟩) (z b : Int) :
    Calls Try.prog 12 #[.pointer (some ⟨B, 0, none⟩), .int .i64 k, .int .i64 z, .int .i64 b] W fun e W' => e = .returned (.bool false) ∧ W' = W := by
  have hk : k < L.length := (List.getElem?_eq_some_iff.1 hx).1
  obtain ⟨p, c, hB, hr⟩ := net_v hN
  obtain ⟨g, x', rfl, hx', x0, x1, x2⟩ := own_at hr hk
  obtain rfl : x' = x := Option.some.inj (hx'.symm.trans hx)
  rw [h0] at x2
  have hc : W.cell? ⟨B, 0, none⟩ = some (.slice (some ⟨g, 0, none⟩) L.length c) := blk_cell hB 0
  have hki : (k : Int) < (L.length : Int) := by omega
  have hI := is_c hN (k : Int)
  rw [isB_nat hk] at hI
  have HI := Aside0.mk hI
  clear hr hB hx hx' hI hN
  go_enter Try.func12, Try.ntmps12
  go_wp2_with (go_at_call 33; refine HI.out.mono ?_; rintro e w' ⟨rfl, hww⟩; subst w')
  go_ret
  exact ⟨rfl, rfl⟩
def pe (i : Nat) : Pk := if h : i < 9223372036854775807 then ⟨0, i, ⟨#[]⟩, by constructor <;> decide, by constructor <;> omega⟩ else default
def Le (n : Nat) : List Pk := (List.range n).map pe
theorem Le_len (n : Nat) : (Le n).length = n := by simp [Le]
theorem Le_at {n i : Nat} (h : i < n) : (Le n)[i]? = some (pe i) := by simp [Le, h]
theorem Le_succ (n : Nat) : Le (n + 1) = Le n ++ [pe n] := by simp [Le, List.range_succ]
theorem pe_v {i : Nat} (h : i < 1000) : (pe i).a = 0 ∧ (pe i).b = i ∧ (pe i).s = ⟨#[]⟩ := by
  unfold pe
  rw [dif_pos (by omega)]
  exact ⟨rfl, rfl, rfl⟩
theorem pe_pen {j : Nat} (h : j < 1000) : (#[.int .i64 0, .int .i64 (j : Int), .string ⟨#[]⟩] : Array Value).toList = [pe j].flatMap penc := by simp [penc, pe_v h]
theorem pe_val {j : Nat} (h : j < 1000) : pval (pe j) = .agg #[.int .i64 0, .int .i64 (j : Int), .string ⟨#[]⟩] := by simp [pval, pe_v h]
theorem send_oe {w : World} {base B : Nat} {m : Value} {j : Nat} (hN : NetAt w base B m (Le j)) (hC : CutAt w B m 0 no0) (hj : j < 40) :
    Calls Try.prog 10 #[.pointer (some ⟨B, 0, none⟩), .slice (some ⟨w.heap.size, 0, none⟩) 1 1] (w.alloc (.cells #[.int .i64 0, .int .i64 (j : Int), .string ⟨#[]⟩] 27)) fun e W' => e = .returned (.int .i64 1) ∧ NetAt W' base B m (Le (j + 1)) ∧ CutAt W' B m 0 no0 ∧ Below base w W' := by
  have hbA := below_alloc (Below.refl w.heap.size w) (.cells (#[.int .i64 0, .int .i64 (j : Int), .string ⟨#[]⟩] : Array Value) 27)
  have hS := send_c (hN.below hbA) (hC.below hbA) (by rw [Le_len]; omega) _ [pe j] (prow_new hN [pe j] (pe_pen (by omega)) 1 rfl) (by simp) (by intro x hx; simp at hx; subst hx; rw [(pe_v (by omega)).2.2]; decide)
  have hs : sent no0 (Le j).length [pe j] = [pe j] := by
    simp [sent, Le_len]
    omega
  rw [hs] at hS
  refine hS.mono ?_
  rintro e w' ⟨rfl, h1, h2, _, h4⟩
  have hb := hN.1
  have hl := hN.lt
  exact ⟨rfl, by rw [Le_succ]; exact h1, h2, (hbA.mono (by omega)).trans h4⟩
/-- The row: k doubled, j taken out. -/
def Lo (n k j : Nat) : List Pk := (Le n ++ [pe k]).eraseIdx j
theorem Lo_len {n k j : Nat} (hj : j ≤ n) : (Lo n k j).length = n := by
  unfold Lo
  rw [List.length_eraseIdx_of_lt (by rw [List.length_append, Le_len]; simp; omega), List.length_append, Le_len]
  simp
theorem Lo_at {n k j i : Nat} (hi : i ≤ n) (hne : i ≠ j) : (Lo n k j)[if i < j then i else i - 1]? = some (pe (if i = n then k else i)) := by
  unfold Lo
  have e : (Le n ++ [pe k])[i]? = some (pe (if i = n then k else i)) := by
    by_cases h : i = n
    · subst h
      rw [List.getElem?_append_right (by rw [Le_len]; omega), Le_len, Nat.sub_self, if_pos rfl]
      rfl
    · rw [List.getElem?_append_left (by rw [Le_len]; omega), if_neg h]
      exact Le_at (by omega)
  by_cases h : i < j
  · rw [if_pos h, List.getElem?_eraseIdx_of_lt h, e]
  · rw [if_neg h, List.getElem?_eraseIdx_of_ge (by omega), show i - 1 + 1 = i by omega, e]
set_option maxRecDepth 100000 in
set_option maxHeartbeats 8000000 in
theorem NetOrders_in (n k z : Nat) (h1 : 1 ≤ n) (h40 : n ≤ 40) (hk : k < n) (hz : z ≤ n) (W : World) : Calls Try.prog 4 #[.int .i64 n, .int .i64 k, .int .i64 z] W fun e W' => e = .returned (.bool true) ∧ Below W.heap.size W W' := by
  have i1 : (1 : Int) ≤ (n : Int) := by omega
  have i2 : (n : Int) ≤ 40 := by omega
  have i3 : (k : Int) < (n : Int) := by omega
  have i4 : (z : Int) ≤ (n : Int) := by omega
  have i1' : 0 < n := h1
  go_enter Try.func4, Try.ntmps4
  go_wp2_with fail
  refine (new_c W).mono ?_
  rintro e w1 ⟨rfl, hN1, hC1, hb1⟩
  have H1 := Aside0.mk (And.intro hN1 (And.intro hC1 hb1))
  clear hN1 hC1 hb1
  go_wp2_with fail
  go_loopw [8] (fun i wr => ∃ j : Nat, j ≤ n ∧ i = .int .i64 j ∧ Aside0 (NetAt wr W.heap.size W.heap.size (.map none) (Le j) ∧ CutAt wr W.heap.size (.map none) 0 no0 ∧ Below W.heap.size W wr)) (fun i _ => n - (intOf i).toNat)
  case atStart => exact ⟨0, Nat.zero_le _, rfl, ⟨H1.out⟩⟩
  case round =>
    obtain ⟨j, hj, rfl, H2⟩ := hrel
    by_cases hlt : j < n
    · have hji : (j : Int) < (n : Int) := by omega
      go_wp2_with fail
      refine (send_oe H2.out.1 H2.out.2.1 (by omega)).mono ?_
      rintro e w2 ⟨rfl, hN2, hC2, hb2⟩
      have H3 := Aside0.mk (And.intro hN2 (And.intro hC2 (H2.out.2.2.trans hb2)))
      clear hN2 hC2 hb2
      go_wp2_with fail
      exact ⟨⟨j + 1, hlt, iw_succ j, H3⟩, iw_meas hlt⟩
    · have hkl : j = n := by omega
      subst hkl
      have hd1 : decide ((j : Int) < (j : Int)) = false := decide_eq_false (Int.lt_irrefl _)
      go_wp2_with fail
      refine (double_in H2.out.1 H2.out.2.1 (by rw [Le_len]; omega) k (pe k) (Le_at hk)).mono ?_
      rintro e w3 ⟨rfl, hN3, hC3, _, hb3⟩
      have hl3 : (Le j ++ [pe k]).length = j + 1 := by rw [List.length_append, Le_len]; rfl
      have hx3 : (Le j ++ [pe k])[z]? = some ((Le j ++ [pe k])[z]'(by omega)) := List.getElem?_eq_getElem (by omega)
      have HD := Aside0.mk (drop_in hN3 hC3 (by omega) z _ hx3)
      have hb3' := H2.out.2.2.trans hb3
      have H3 := Aside0.mk hb3'
      clear hN3 hC3 hb3 hl3 hx3 hb3'
      go_wp2_with fail
      refine HD.out.mono ?_
      rintro e w4 ⟨rfl, hN4, hC4, _, hb4⟩
      have H4 := Aside0.mk (show NetAt w4 W.heap.size W.heap.size (.map none) (Lo j k z) ∧ CutAt w4 W.heap.size (.map none) 0 no0 ∧ Below W.heap.size W w4 from ⟨hN4, hC4, H3.out.trans hb4⟩)
      clear hN4 hC4 hb4 HD
      go_wp2_with fail
      go_loopw [9, 10] (fun p i wq => ∃ q : Nat, q ≤ j + 1 ∧ i = .int .i64 q ∧ p = .int .i64 ((if q ≤ z then q else q - 1 : Nat) : Int) ∧ Aside0 (NetAt wq W.heap.size W.heap.size (.map none) (Lo j k z) ∧ CutAt wq W.heap.size (.map none) 0 no0 ∧ Below W.heap.size W wq)) (fun _ i _ => j + 1 - (intOf i).toNat)
      case atStart => exact ⟨0, Nat.zero_le _, rfl, by rw [if_pos (Nat.zero_le _)]; rfl, H4⟩
      case round =>
        obtain ⟨q, hq, rfl, rfl, H5⟩ := hrel
        by_cases hlq : q ≤ j
        · have hqi : (q : Int) ≤ (j : Int) := by omega
          by_cases hqz : q = z
          · subst hqz
            rw [if_pos (Nat.le_refl _)]
            go_wp2_with fail
            exact ⟨⟨q + 1, by omega, iw_succ q, by rw [if_neg (by omega)]; rfl, H5⟩, iw_meas (by omega)⟩
          · have hx := Lo_at (n := j) (k := k) (j := z) hlq hqz
            have hp : (if q ≤ z then q else q - 1) = (if q < z then q else q - 1) := by
              by_cases h : q < z
              · rw [if_pos h, if_pos (by omega)]
              · rw [if_neg h, if_neg (by omega)]
            have HQ := Aside0.mk (show (((if q ≤ z then q else q - 1 : Nat) : Int) + 1 = ((if q + 1 ≤ z then q + 1 else q + 1 - 1 : Nat) : Int)) by split <;> split <;> omega)
            rw [← hp] at hx
            have hpl : (if q ≤ z then q else q - 1) ≤ j := by split <;> omega
            generalize (if q ≤ z then q else q - 1) = p at *
            have hqz' : ¬ ((q : Int) = (z : Int)) := by omega
            have HPK := Aside0.mk (peek_in H5.out.1 p _ hx)
            clear hx hp
            have hz5 := H5.out.2.2.size
            by_cases hqj : q = j
            · rw [if_pos hqj, pe_val (by omega)] at HPK
              subst hqj
              go_wp2_with fail
              refine HPK.out.mono ?_
              rintro e w6 ⟨rfl, hb6⟩
              have hb6' := below_alloc hb6 (.cells (#[.int .i64 0, .int .i64 (k : Int), .string ⟨#[]⟩] : Array Value) 27)
              have H6 := Aside0.mk (And.intro (H5.out.1.below hb6') (And.intro (H5.out.2.1.below hb6') (H5.out.2.2.trans (hb6'.mono hz5))))
              clear hb6 hb6'
              go_wp2_with fail
              exact ⟨⟨q + 1, by omega, iw_succ q, congrArg (Value.int .i64) HQ.out, H6⟩, iw_meas (by omega)⟩
            · rw [if_neg hqj, pe_val (by omega)] at HPK
              have hqj' : ¬ ((q : Int) = (j : Int)) := by omega
              go_wp2_with fail
              refine HPK.out.mono ?_
              rintro e w6 ⟨rfl, hb6⟩
              have hb6' := below_alloc hb6 (.cells (#[.int .i64 0, .int .i64 (q : Int), .string ⟨#[]⟩] : Array Value) 27)
              have H6 := Aside0.mk (And.intro (H5.out.1.below hb6') (And.intro (H5.out.2.1.below hb6') (H5.out.2.2.trans (hb6'.mono hz5))))
              clear hb6 hb6'
              go_wp2_with fail
              exact ⟨⟨q + 1, by omega, iw_succ q, congrArg (Value.int .i64) HQ.out, H6⟩, iw_meas (by omega)⟩
        · have hqj : ¬ ((q : Int) ≤ (j : Int)) := by omega
          go_wp2_with fail
          have h0 : ∃ m, m < 1000 ∧ (Lo j k z)[0]? = some (pe m) := by
            by_cases hz0 : z = 0
            · have := Lo_at (n := j) (k := k) (j := z) (i := 1) (by omega) (by omega)
              rw [if_neg (by omega)] at this
              exact ⟨_, by split <;> omega, this⟩
            · have := Lo_at (n := j) (k := k) (j := z) (i := 0) (by omega) (by omega)
              rw [if_pos (by omega)] at this
              exact ⟨_, by split <;> omega, this⟩
          obtain ⟨m0, hm0, hx0⟩ := h0
          have hll := Lo_len (n := j) (k := k) (j := z) hz
          have HX := Aside0.mk (And.intro hx0 hll)
          have HI1 := Aside0.mk (show isB (Lo j k z) (j : Int) = false by simp [isB, hll])
          have HI2 := Aside0.mk (show isB (Lo j k z) (-1) = false by simp [isB])
          clear hx0 hll
          refine (alive_c _).mono ?_
          rintro e w7 ⟨rfl, hb7⟩
          have hz5 := H5.out.2.2.size
          have H7 := Aside0.mk (And.intro (H5.out.1.below hb7) (H5.out.2.2.trans (hb7.mono hz5)))
          have HL := Aside0.mk (len_c H7.out.1)
          rw [HX.out.2] at HL
          clear hb7 hz5
          go_wp2_with fail
          refine HL.out.mono ?_
          rintro e w' ⟨rfl, hww⟩
          subst w'
          go_wp2_with fail
          refine (drop_out H7.out.1 (j : Int) HI1.out).mono ?_
          rintro e w8 ⟨rfl, hb8⟩
          have hz7 := H7.out.2.size
          have H8 := Aside0.mk (And.intro (H7.out.1.below hb8) (H7.out.2.trans (hb8.mono hz7)))
          clear hb8 hz7
          go_wp2_with fail
          refine (double_no H8.out.1 (-1) (.inl HI2.out)).mono ?_
          rintro e w' ⟨rfl, hww⟩
          subst w'
          go_wp2_with fail
          refine (move_no H8.out.1 0 (j : Int) (.inr HI1.out)).mono ?_
          rintro e w' ⟨rfl, hww⟩
          subst w'
          go_wp2_with fail
          refine (spoil_empty H8.out.1 0 (pe m0) HX.out.1 (pe_v hm0).2.2 0 1).mono ?_
          rintro e w' ⟨rfl, hww⟩
          subst w'
          go_wp2
          go_ret
          exact ⟨rfl, H8.out.2⟩
set_option maxRecDepth 100000 in
set_option maxHeartbeats 4000000 in
theorem NetOrders_out (n k z : Int) (h : n < 1 ∨ (¬ n < 1 ∧ 40 < n) ∨ (¬ n < 1 ∧ ¬ 40 < n ∧ k < 0) ∨ (¬ n < 1 ∧ ¬ 40 < n ∧ ¬ k < 0 ∧ n ≤ k) ∨ (¬ n < 1 ∧ ¬ 40 < n ∧ ¬ k < 0 ∧ ¬ n ≤ k ∧ z < 0) ∨ (¬ n < 1 ∧ ¬ 40 < n ∧ ¬ k < 0 ∧ ¬ n ≤ k ∧ ¬ z < 0 ∧ n < z)) (W : World) : Calls Try.prog 4 #[.int .i64 n, .int .i64 k, .int .i64 z] W fun e W' => e = .returned (.bool true) ∧ Below W.heap.size W W' := by
  rcases h with c1 | ⟨c1, c2⟩ | ⟨c1, c2, c3⟩ | ⟨c1, c2, c3, c4⟩ | ⟨c1, c2, c3, c4, c5⟩ | ⟨c1, c2, c3, c4, c5, c6⟩
  all_goals
    go_enter Try.func4, Try.ntmps4
    go_wp2_with fail
    refine (alive_c _).mono ?_
    rintro e w1 ⟨rfl, hb1⟩
    have HB := Aside0.mk hb1
    clear hb1
    go_wp2
    go_ret
    exact ⟨rfl, HB.out⟩
theorem NetOrders_walk (n k z : Int) (W : World) : Calls Try.prog 4 #[.int .i64 n, .int .i64 k, .int .i64 z] W fun e W' => e = .returned (.bool true) ∧ Below W.heap.size W W' := by
  by_cases h : 1 ≤ n ∧ n ≤ 40 ∧ 0 ≤ k ∧ k < n ∧ 0 ≤ z ∧ z ≤ n
  · obtain ⟨h1, h2, h3, h4, h5, h6⟩ := h
    obtain ⟨n, rfl⟩ := Int.eq_ofNat_of_zero_le (show 0 ≤ n by omega)
    obtain ⟨k, rfl⟩ := Int.eq_ofNat_of_zero_le h3
    obtain ⟨z, rfl⟩ := Int.eq_ofNat_of_zero_le h5
    exact NetOrders_in n k z (by omega) (by omega) (by omega) (by omega) W
  · exact NetOrders_out n k z (by omega) W
end Go.Proofs.Ytbcgeajnmnnbhaa.Nt
