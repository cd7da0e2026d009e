/- NetCuts: walked. -/
import Derived.Test.YtbcgeajnmnnbhaaNetCut
import Derived.Laws.MakeOwn
set_option linter.unusedSimpArgs false
set_option linter.unusedVariables false
namespace Go.Proofs.Ytbcgeajnmnnbhaa.Nt
open Go.RowKit Go.Maps Go.Proofs.Ytbcgeajnmnnbhaa.PAll Go.Proofs.YtbcgeajnmnnbhaaW.PrintWords
attribute [local go_sem] put_fresh
attribute [-go_sem] Builtin.append_

/-- A packet with no data. -/
def pab (a b : Int) (ha : I64 a) (hb : I64 b) : Pk := ⟨a, b, ⟨#[]⟩, ha, hb⟩
def pz : Pk := ⟨0, 0, ⟨#[]⟩, by constructor <;> decide, by constructor <;> decide⟩
theorem mn_comm (a b : Int) : mn a b = mn b a := by unfold mn; split <;> split <;> omega
theorem mx_comm (a b : Int) : mx a b = mx b a := by unfold mx; split <;> split <;> omega
theorem cutp_no (p q : Int) : cutp no0 p q false = no0 := by funext x y; unfold cutp; split <;> rfl
theorem cut_far {a b c : Int} (hab : a ≠ b) (hac : a ≠ c) (hbc : b ≠ c) : cutp no0 (mn a b) (mx a b) true (mn a c) (mx a c) = false := by
  unfold cutp
  rw [if_neg]
  unfold mn mx
  rintro ⟨h1, h2⟩
  split at h1 <;> split at h1 <;> split at h2 <;> split at h2 <;> omega
theorem cut_near (p q : Int) : cutp no0 p q true p q = true := by unfold cutp; simp
theorem sent_no (n0 : Nat) : ∀ (k : Nat), n0 ≤ 800 → sent no0 n0 (List.replicate k pz) = List.replicate (min k (800 - n0)) pz
  | 0, _ => by simp [sent]
  | k + 1, h => by
    rw [List.replicate_succ', sent_snoc, sent_no n0 k h, List.length_replicate]
    by_cases hk : k < 800 - n0
    · rw [if_neg (by simp [no0]; omega), Nat.min_eq_left (by omega), Nat.min_eq_left (by omega), List.replicate_succ']
    · rw [if_pos (by simp [no0]; omega)]
      rw [show min k (800 - n0) = min (k + 1) (800 - n0) by omega]
theorem made_list : ∀ n : Nat, (madeCells #[.int .i64 0, .int .i64 0, .string ByteArray.empty] (n * 3)).toList = (List.replicate n pz).flatMap penc
  | 0 => by simp [madeCells]
  | n + 1 => by
    have ih := made_list n
    rw [List.replicate_succ', List.flatMap_append, ← ih, show (n + 1) * 3 = n * 3 + 1 + 1 + 1 by omega]
    unfold madeCells
    simp only [Array.toList_map, Array.toList_range, List.range_succ, List.map_append, List.map_cons, List.map_nil, List.append_assoc]
    refine congrArg _ ?_
    have e0 : (n * 3) % 3 = 0 := by omega
    have e1 : (n * 3 + 1) % 3 = 1 := by omega
    have e2 : (n * 3 + 1 + 1) % 3 = 2 := by omega
    simp [e0, e1, e2, penc, pz]
    rfl
theorem made_all (n : Nat) (hn : n ≤ 900) : ∃ Z : Array Value, Z.toList = (List.replicate n pz).flatMap penc ∧ ∀ w, (Instr.makeSlice 36 (.int .i64 (n : Int)) (.int .i64 (n : Int))).run Try.prog w = .ok (.slice (some ⟨w.heap.size, 0, none⟩) n n) (w.alloc (.cells Z 27)) := by
  obtain ⟨i0, hi, hz0, hz1, hz2⟩ := info_parts info_packet
  refine ⟨madeCells #[.int .i64 0, .int .i64 0, .string ByteArray.empty] (n * 3), ?_, fun w => ?_⟩
  · exact made_list n
  · have h := run_makeSlice (w := w) 36 27 i0 _ Try.underlying36 hi hz0 .i64 .i64 n n (by omega) (Int.le_refl _) (by rw [hz1]; omega) (by rw [hz2]; omega) (by omega)
    rw [hz1] at h
    rw [Int.toNat_natCast] at h
    exact h
/-- A row that was just laid is sent. -/
theorem send_row {w : World} {base B n : Nat} {m : Value} {C : Int → Int → Bool} {L : List Pk} (hN : NetAt w base B m L) (hC : CutAt w B m n C) (hL : L.length ≤ 800) (ps : List Pk) {cs : Array Value} (hcs : cs.toList = ps.flatMap penc) (k : Nat) (hk : ps.length = k) (hkl : k < 4611686018427387904) (hps : ∀ x ∈ ps, x.s.size ≤ 281474976710656) :
    Calls Try.prog 10 #[.pointer (some ⟨B, 0, none⟩), .slice (some ⟨w.heap.size, 0, none⟩) k k] (w.alloc (.cells cs 27)) fun e W' => e = .returned (.int .i64 (sent C L.length ps).length) ∧ NetAt W' base B m (L ++ sent C L.length ps) ∧ CutAt W' B m n C ∧ Below base w W' := by
  have hbA := below_alloc (Below.refl w.heap.size w) (.cells cs 27)
  refine (send_c (hN.below hbA) (hC.below hbA) hL _ ps (prow_new hN ps hcs k hk) (by omega) hps).mono ?_
  rintro e w' ⟨rfl, h1, h2, _, h4⟩
  have hb := hN.1
  have hl := hN.lt
  exact ⟨rfl, h1, h2, (hbA.mono (by omega)).trans h4⟩
set_option maxRecDepth 100000 in
set_option maxHeartbeats 8000000 in
theorem NetCuts_in (a b c : Int) (n : Nat) (ha : I64 a) (hb : I64 b) (hc : I64 c) (hn : n ≤ 900) (hab : a ≠ b) (hac : a ≠ c) (hbc : b ≠ c) (W : World) : Calls Try.prog 5 #[.int .i64 a, .int .i64 b, .int .i64 c, .int .i64 n] W fun e W' => e = .returned (.bool true) ∧ Below W.heap.size W W' := by
  have i0 : decide ((n : Int) < 0) = false := decide_eq_false (by omega)
  have i1 : decide ((900 : Int) < (n : Int)) = false := decide_eq_false (by omega)
  have i1' : decide (900 < n) = false := decide_eq_false (by omega)
  obtain ⟨Z, hZ, hmk⟩ := made_all n hn
  have e0 : (a == b) = false := by simpa using hab
  have e1 : (a == c) = false := by simpa using hac
  have e2 : (b == c) = false := by simpa using hbc
  go_enter Try.func5, Try.ntmps5
  go_wp2_with fail
  refine (new_c W).mono ?_
  rintro e w1 ⟨rfl, hN1, hC1, hb1⟩
  have H1 := Aside0.mk (And.intro hN1 (And.intro hC1 hb1))
  clear hN1 hC1 hb1
  go_wp2_with fail
  refine (cut_c H1.out.1 H1.out.2.1 (by decide) a b ha hb true).mono ?_
  rintro e w2 ⟨rfl, b2, hN2, hC2, hb2⟩
  have H2 := Aside0.mk (And.intro hN2 (And.intro hC2 (H1.out.2.2.trans hb2)))
  clear hN2 hC2 hb2
  go_wp2_with fail
  have hS2 := send_row H2.out.1 H2.out.2.1 (by decide) [pab a b ha hb, pab b a hb ha, pab a c ha hc] (cs := #[.int .i64 a, .int .i64 b, .string ⟨#[]⟩, .int .i64 b, .int .i64 a, .string ⟨#[]⟩, .int .i64 a, .int .i64 c, .string ⟨#[]⟩]) rfl 3 rfl (by decide) (by intro x hx; simp at hx; rcases hx with rfl | rfl | rfl <;> exact Nat.zero_le _)
  rw [show sent (cutp no0 (mn a b) (mx a b) true) ([] : List Pk).length [pab a b ha hb, pab b a hb ha, pab a c ha hc] = [pab a c ha hc] from by
    simp only [sent, List.foldl_cons, List.foldl_nil, pab, cut_near, cut_far hab hac hbc, mn_comm b a, mx_comm b a, Bool.true_or, Bool.false_or, if_true, List.length_nil]
    rfl] at hS2
  refine hS2.mono ?_
  clear hS2
  rintro e w3 ⟨rfl, hN3, hC3, hb3⟩
  have H3 := Aside0.mk (And.intro hN3 (And.intro hC3 (H2.out.2.2.trans hb3)))
  clear hN3 hC3 hb3 H1 H2
  go_wp2_with fail
  have hS3 := cut_c H3.out.1 H3.out.2.1 (by decide) b a hb ha false
  rw [mn_comm b a, mx_comm b a, cutp_twice, cutp_no] at hS3
  refine hS3.mono ?_
  clear hS3
  rintro e w4 ⟨rfl, b4, hN4, hC4, hb4⟩
  have H4 := Aside0.mk (And.intro hN4 (And.intro hC4 (H3.out.2.2.trans hb4)))
  clear hN4 hC4 hb4 H3
  go_wp2_with fail
  have hS4 := send_row H4.out.1 H4.out.2.1 (by simp) [pab a b ha hb] (cs := #[.int .i64 a, .int .i64 b, .string ⟨#[]⟩]) rfl 1 rfl (by decide) (by intro x hx; simp at hx; rcases hx with rfl; exact Nat.zero_le _)
  rw [show sent no0 ([] ++ [pab a c ha hc] : List Pk).length [pab a b ha hb] = [pab a b ha hb] from rfl] at hS4
  refine hS4.mono ?_
  clear hS4
  rintro e w5 ⟨rfl, hN5, hC5, hb5⟩
  have H5 := Aside0.mk (And.intro hN5 (And.intro hC5 (H4.out.2.2.trans hb5)))
  clear hN5 hC5 hb5 H4
  go_wp2_with fail
  have hS5 := send_row H5.out.1 H5.out.2.1 (by simp) (List.replicate n pz) hZ n List.length_replicate (by omega) (by intro x hx; rw [List.eq_of_mem_replicate hx]; exact Nat.zero_le _)
  rw [sent_no _ n (by simp)] at hS5
  obtain ⟨r, hr⟩ : ∃ r, min n 798 = r := ⟨_, rfl⟩
  rw [show min n (800 - ([] ++ [pab a c ha hc] ++ [pab a b ha hb] : List Pk).length) = r from hr, List.length_replicate] at hS5
  refine hS5.mono ?_
  clear hS5
  rintro e w6 ⟨rfl, hN6, hC6, hb6⟩
  have H6 := Aside0.mk (And.intro hN6 (And.intro hC6 (H5.out.2.2.trans hb6)))
  have hri : min (n : Int) 798 = (r : Int) := by omega
  have hr8 : (r : Int) ≤ 798 := by omega
  clear hN6 hC6 hb6 H5 hmk hZ hr
  go_wp2_with fail
  refine (alive_c _).mono ?_
  rintro e w7 ⟨rfl, hb7⟩
  have H7 := Aside0.mk (And.intro (H6.out.1.below hb7) (And.intro (H6.out.2.1.below hb7) (below_step H6.out.2.2 hb7)))
  clear hb7 H6
  go_wp2_with fail
  have HC := Aside0.mk (clear_c H7.out.1 H7.out.2.1)
  rw [show (([] ++ [pab a c ha hc] ++ [pab a b ha hb] ++ List.replicate r pz : List Pk).length : Int) = 2 + (r : Int) by simp; omega] at HC
  refine HC.out.mono ?_
  rintro e w8 ⟨rfl, hN8, hC8, _, hb8⟩
  have H8 := Aside0.mk (And.intro hN8 (H7.out.2.2.trans hb8))
  have HL := Aside0.mk (len_c hN8)
  clear hN8 hC8 hb8 H7 HC
  go_wp2_with fail
  refine HL.out.mono ?_
  rintro e w' ⟨rfl, hww⟩
  subst w'
  go_wp2
  go_ret
  exact ⟨rfl, H8.out.2⟩
set_option maxRecDepth 100000 in
set_option maxHeartbeats 4000000 in
theorem NetCuts_out (a b c n : Int) (h : n < 0 ∨ (¬ n < 0 ∧ 900 < n) ∨ (¬ n < 0 ∧ ¬ 900 < n ∧ a = b) ∨ (¬ n < 0 ∧ ¬ 900 < n ∧ a ≠ b ∧ a = c) ∨ (¬ n < 0 ∧ ¬ 900 < n ∧ a ≠ b ∧ a ≠ c ∧ b = c)) (W : World) : Calls Try.prog 5 #[.int .i64 a, .int .i64 b, .int .i64 c, .int .i64 n] W fun e W' => e = .returned (.bool true) ∧ Below W.heap.size W W' := by
  rcases h with c1 | ⟨c1, c2⟩ | ⟨c1, c2, c3⟩ | ⟨c1, c2, c3, c4⟩ | ⟨c1, c2, c3, c4, c5⟩
  · have d1 : decide (n < 0) = true := decide_eq_true c1
    go_enter Try.func5, Try.ntmps5
    go_wp2_with fail
    refine (alive_c _).mono ?_
    rintro e w1 ⟨rfl, hb1⟩
    have HB := Aside0.mk hb1
    clear hb1
    go_wp2
    go_ret
    exact ⟨rfl, HB.out⟩
  · have d1 : decide (n < 0) = false := decide_eq_false c1
    have d2 : decide (900 < n) = true := decide_eq_true c2
    go_enter Try.func5, Try.ntmps5
    go_wp2_with fail
    refine (alive_c _).mono ?_
    rintro e w1 ⟨rfl, hb1⟩
    have HB := Aside0.mk hb1
    clear hb1
    go_wp2
    go_ret
    exact ⟨rfl, HB.out⟩
  · have d1 : decide (n < 0) = false := decide_eq_false c1
    have d2 : decide (900 < n) = false := decide_eq_false c2
    have d3 : (a == b) = true := by simpa using c3
    go_enter Try.func5, Try.ntmps5
    go_wp2_with fail
    refine (alive_c _).mono ?_
    rintro e w1 ⟨rfl, hb1⟩
    have HB := Aside0.mk hb1
    clear hb1
    go_wp2
    go_ret
    exact ⟨rfl, HB.out⟩
  · have d1 : decide (n < 0) = false := decide_eq_false c1
    have d2 : decide (900 < n) = false := decide_eq_false c2
    have d3 : (a == b) = false := by simpa using c3
    have d4 : (a == c) = true := by simpa using c4
    go_enter Try.func5, Try.ntmps5
    go_wp2_with fail
    refine (alive_c _).mono ?_
    rintro e w1 ⟨rfl, hb1⟩
    have HB := Aside0.mk hb1
    clear hb1
    go_wp2
    go_ret
    exact ⟨rfl, HB.out⟩
  · have d1 : decide (n < 0) = false := decide_eq_false c1
    have d2 : decide (900 < n) = false := decide_eq_false c2
    have d3 : (a == b) = false := by simpa using c3
    have d4 : (a == c) = false := by simpa using c4
    have d5 : (b == c) = true := by simpa using c5
    go_enter Try.func5, Try.ntmps5
    go_wp2_with fail
    refine (alive_c _).mono ?_
    rintro e w1 ⟨rfl, hb1⟩
    have HB := Aside0.mk hb1
    clear hb1
    go_wp2
    go_ret
    exact ⟨rfl, HB.out⟩
theorem NetCuts_walk (a b c n : Int) (ha : I64 a) (hb : I64 b) (hc : I64 c) (W : World) : Calls Try.prog 5 #[.int .i64 a, .int .i64 b, .int .i64 c, .int .i64 n] W fun e W' => e = .returned (.bool true) ∧ Below W.heap.size W W' := by
  by_cases h : 0 ≤ n ∧ n ≤ 900 ∧ a ≠ b ∧ a ≠ c ∧ b ≠ c
  · obtain ⟨h1, h2, h3, h4, h5⟩ := h
    obtain ⟨n, rfl⟩ := Int.eq_ofNat_of_zero_le h1
    exact NetCuts_in a b c n ha hb hc (by omega) h3 h4 h5 W
  · exact NetCuts_out a b c n (by omega) W
end Go.Proofs.Ytbcgeajnmnnbhaa.Nt
