/- DropLongest: walked, where it goes on. -/
import Derived.Test.YtdfaoafeojoceaaDrL1
import Derived.Deep.DeepCutAuto
import Derived.Deep.CutBlock
set_option linter.unusedSimpArgs false
set_option linter.unusedVariables false
namespace Go.Proofs.Ytdfaoafeojoceaa.Dr
open Go.RowKit Go.Maps Go.Proofs Go.Proofs.Ytdfaoafeojoceaa.Rw Go.Proofs.Ytdfaoafeojoceaa.PAll Go.Proofs.YtdfaoafeojoceaaW.PrintWords Go.Proofs.Ytdfaoafeojoceaa.Pb Go.Proofs.Ytdfaoafeojoceaa.Pure
attribute [local go_sem] put_fresh
attribute [-go_sem] Builtin.append_

set_option maxRecDepth 100000 in
set_option maxHeartbeats 16000000 in
theorem longest_in (p more name : ByteArray) (a b c d n : Int) (x y : Bool) (W : World) (h : Dt a b c d n) (g1 : ¬ (100 : Int) < p.size) (g2 : ¬ (more.size : Int) < 1) (g3 : ¬ (100 : Int) < more.size) (g4 : ¬ (100 : Int) < name.size) (g5 : ¬ n = 0) : Calls Try.prog 6 #[.string p, .string more, .string name, .agg #[.int .u8 a, .int .u8 b, .int .u8 c, .int .u8 d, .int .u64 n], .bool x, .bool y] W fun e W' => e = .returned (.bool true) ∧ Below W.heap.size W W' := by
  have hbx := heap_alloc_new W (.cells #[.int .u8 a, .int .u8 b, .int .u8 c, .int .u8 d, .int .u64 n] 53)
  have d0 := blk_cell hbx 0
  have d1 := blk_cell hbx 1
  have d2 := blk_cell hbx 2
  have d3 := blk_cell hbx 3
  have d4 := blk_cell hbx 4
  simp only [List.getElem?_toArray, List.getElem?_cons_zero, List.getElem?_cons_succ] at d0 d1 d2 d3 d4
  have z1 : p.size ≤ 100 := by omega
  have z2 : 1 ≤ more.size ∧ more.size ≤ 100 := by omega
  have z4 : name.size ≤ 100 := by omega
  have HZ := Aside0.mk (And.intro z1 (And.intro z2 z4))
  have g1 : decide ((100 : Int) < p.size) = false := decide_eq_false g1
  have g2 : decide ((more.size : Int) < 1) = false := decide_eq_false g2
  have g3 : decide ((100 : Int) < more.size) = false := decide_eq_false g3
  have g4 : decide ((100 : Int) < name.size) = false := decide_eq_false g4
  have g5a : decide (n = 0) = false := decide_eq_false g5
  have g5b : (n == 0) = false := beq_eq_false_iff_ne.2 g5
  have d0' : (W.alloc (.cells #[.int .u8 a, .int .u8 b, .int .u8 c, .int .u8 d, .int .u64 n] 53)).drew.cell? ⟨W.heap.size, 0, none⟩ = some (.int .u8 a) := d0
  have HX := Aside0.mk hbx
  have H := Aside0.mk h
  have Hb := Aside0.mk (below_alloc (Below.refl W.heap.size W) (.cells #[.int .u8 a, .int .u8 b, .int .u8 c, .int .u8 d, .int .u64 n] 53))
  clear hbx h
  obtain ⟨KB, hKB⟩ := RBytes_ev H.out
  have hKB := hKB KB (Nat.le_refl _)
  have hbs := db_size a b c d n
  have HBS := Aside0.mk (show ba (db a b c d n) = ba (db a b c d n) from rfl)
  obtain ⟨bs, hbse⟩ : ∃ bs, bs = ba (db a b c d n) := ⟨_, rfl⟩
  rw [← hbse] at hKB hbs
  have HE := Aside0.mk hbse
  clear hbse HBS
  go_enter Try.func6, Try.ntmps6
  go_upto_region 3 with (fail)
  go_cut [13, 14] (fun s13 s14 wx => ∃ r1 r2, s13 = .slice (some ⟨r1, 0, none⟩) 1 1 ∧ s14 = .slice (some ⟨r2, 0, none⟩) 1 1 ∧ Aside0 (Reads KS wx (some ⟨r1, 0, none⟩) [⟨a, b, c, d, n, n⟩] ∧ Reads KS wx (some ⟨r2, 0, none⟩) [⟨a, b, c, d, n, n⟩] ∧ wx.heap[W.heap.size]? = some (.cells #[.int .u8 a, .int .u8 b, .int .u8 c, .int .u8 d, .int .u64 n] 53 (0, 0)) ∧ Below W.heap.size W wx))
  case first =>
    have hS1 : Reads KS (((W.alloc (.cells #[.int .u8 a, .int .u8 b, .int .u8 c, .int .u8 d, .int .u64 n] 53)).alloc (.cells #[.int .u8 a, .int .u8 b, .int .u8 c, .int .u8 d, .int .u64 n, .int .u64 n] 47)).alloc (.cells #[.int .u8 a, .int .u8 b, .int .u8 c, .int .u8 d, .int .u64 n, .int .u64 n] 47)).drew (some ⟨W.heap.size + 1, 0, none⟩) [⟨a, b, c, d, n, n⟩] := by
      have := Reads.new (K := KS) (L := [⟨a, b, c, d, n, n⟩]) (W := W.alloc (.cells #[.int .u8 a, .int .u8 b, .int .u8 c, .int .u8 d, .int .u64 n] 53)) (cs := #[.int .u8 a, .int .u8 b, .int .u8 c, .int .u8 d, .int .u64 n, .int .u64 n]) 47 rfl
      simp only [World.size_alloc] at this
      exact (this.below (below_alloc (Below.refl _ _) _)).below (below_drew1 (Below.refl _ _))
    have hS2 : Reads KS (((W.alloc (.cells #[.int .u8 a, .int .u8 b, .int .u8 c, .int .u8 d, .int .u64 n] 53)).alloc (.cells #[.int .u8 a, .int .u8 b, .int .u8 c, .int .u8 d, .int .u64 n, .int .u64 n] 47)).alloc (.cells #[.int .u8 a, .int .u8 b, .int .u8 c, .int .u8 d, .int .u64 n, .int .u64 n] 47)).drew (some ⟨W.heap.size + 1 + 1, 0, none⟩) [⟨a, b, c, d, n, n⟩] := by
      have := Reads.new (K := KS) (L := [⟨a, b, c, d, n, n⟩]) (W := (W.alloc (.cells #[.int .u8 a, .int .u8 b, .int .u8 c, .int .u8 d, .int .u64 n] 53)).alloc (.cells #[.int .u8 a, .int .u8 b, .int .u8 c, .int .u8 d, .int .u64 n, .int .u64 n] 47)) (cs := #[.int .u8 a, .int .u8 b, .int .u8 c, .int .u8 d, .int .u64 n, .int .u64 n]) 47 rfl
      simp only [World.size_alloc] at this
      exact this.below (below_drew1 (Below.refl _ _))
    have hX : (((W.alloc (.cells #[.int .u8 a, .int .u8 b, .int .u8 c, .int .u8 d, .int .u64 n] 53)).alloc (.cells #[.int .u8 a, .int .u8 b, .int .u8 c, .int .u8 d, .int .u64 n, .int .u64 n] 47)).alloc (.cells #[.int .u8 a, .int .u8 b, .int .u8 c, .int .u8 d, .int .u64 n, .int .u64 n] 47)).drew.heap[W.heap.size]? = some (.cells #[.int .u8 a, .int .u8 b, .int .u8 c, .int .u8 d, .int .u64 n] 53 (0, 0)) := (hao (by simp; omega)).trans ((hao (by simp)).trans HX.out)
    have H2 := Aside0.mk (And.intro hS1 (And.intro hS2 (And.intro hX (show Below W.heap.size W (((W.alloc (.cells #[.int .u8 a, .int .u8 b, .int .u8 c, .int .u8 d, .int .u64 n] 53)).alloc (.cells #[.int .u8 a, .int .u8 b, .int .u8 c, .int .u8 d, .int .u64 n, .int .u64 n] 47)).alloc (.cells #[.int .u8 a, .int .u8 b, .int .u8 c, .int .u8 d, .int .u64 n, .int .u64 n] 47)).drew from below_drew1 (below_alloc (below_alloc Hb.out _) _)))))
    clear hS1 hS2 hX
    go_region
    all_goals
      go_wp2_with fail
      go_meet
      case rel => first | exact ⟨_, _, rfl, rfl, H2⟩ | exact ⟨_, _, rfl, rfl, ⟨H2.out.2.1, H2.out.1, H2.out.2.2.1, H2.out.2.2.2⟩⟩
  case rest =>
  obtain ⟨r1, r2, rfl, rfl, H2⟩ := hcut
  clear d0 d1 d2 d3 d4 d0'
  go_upto_if 59 with (fail)
  go_cut [13] (fun s13 wx => ∃ A1 n1 c1, s13 = .slice A1 n1 c1 ∧ Aside0 (Reads KS wx A1 (lsp x ⟨a, b, c, d, n, n⟩) ∧ ((lsp x ⟨a, b, c, d, n, n⟩).length = n1 ∧ ∀ ad, A1 = some ad → ∃ g o, ad = ⟨g, o, none⟩) ∧ Reads KS wx (some ⟨r2, 0, none⟩) [⟨a, b, c, d, n, n⟩] ∧ wx.heap[W.heap.size]? = some (.cells #[.int .u8 a, .int .u8 b, .int .u8 c, .int .u8 d, .int .u64 n] 53 (0, 0)) ∧ Below W.heap.size W wx))
  case first =>
    cases x
    · go_wp2_with fail
      go_meet
      case rel => exact ⟨none, 0, 0, rfl, ⟨Reads.nil _ _, ⟨rfl, fun ad e => by cases e⟩, H2.out.2⟩⟩
    · go_wp2_with fail
      go_meet
      case rel => exact ⟨_, _, _, rfl, ⟨H2.out.1, ⟨rfl, fun ad e => ⟨_, _, (Option.some.inj e).symm⟩⟩, H2.out.2⟩⟩
  case rest =>
  clear H2
  obtain ⟨A1, n1, c1, rfl, H2⟩ := hcut
  go_upto_if 61 with (fail)
  go_cut [14] (fun s14 wx => ∃ A2 n2 c2, s14 = .slice A2 n2 c2 ∧ Aside0 (Reads KS wx A1 (lsp x ⟨a, b, c, d, n, n⟩) ∧ ((lsp x ⟨a, b, c, d, n, n⟩).length = n1 ∧ ∀ ad, A1 = some ad → ∃ g o, ad = ⟨g, o, none⟩) ∧ (Reads KS wx A2 (lsp y ⟨a, b, c, d, n, n⟩) ∧ ((lsp y ⟨a, b, c, d, n, n⟩).length = n2 ∧ ∀ ad, A2 = some ad → ∃ g o, ad = ⟨g, o, none⟩)) ∧ wx.heap[W.heap.size]? = some (.cells #[.int .u8 a, .int .u8 b, .int .u8 c, .int .u8 d, .int .u64 n] 53 (0, 0)) ∧ Below W.heap.size W wx))
  case first =>
    cases y
    · go_wp2_with fail
      go_meet
      case rel => exact ⟨none, 0, 0, rfl, ⟨H2.out.1, H2.out.2.1, ⟨Reads.nil _ _, rfl, fun ad e => by cases e⟩, H2.out.2.2.2⟩⟩
    · go_wp2_with fail
      go_meet
      case rel => exact ⟨_, _, _, rfl, ⟨H2.out.1, H2.out.2.1, ⟨H2.out.2.2.1, rfl, fun ad e => ⟨_, _, (Option.some.inj e).symm⟩⟩, H2.out.2.2.2⟩⟩
  case rest =>
  clear H2
  obtain ⟨A2, n2, c2, rfl, H2⟩ := hcut
  have q0 := blk_cell H2.out.2.2.2.1 0
  have q1 := blk_cell H2.out.2.2.2.1 1
  have q2 := blk_cell H2.out.2.2.2.1 2
  have q3 := blk_cell H2.out.2.2.2.1 3
  have q4 := blk_cell H2.out.2.2.2.1 4
  simp only [List.getElem?_toArray, List.getElem?_cons_zero, List.getElem?_cons_succ] at q0 q1 q2 q3 q4
  go_wp2_with fail
  refine (cornucopiaref17_Bytes.calls KB a b c d n bs _ hKB).mono ?_
  rintro e w3 ⟨rfl, hb3⟩
  have H3 := Aside0.mk (And.intro (H2.out.1.below hb3) (And.intro (H2.out.2.1) (And.intro (H2.out.2.2.1.1.below hb3) (And.intro H2.out.2.2.1.2 (H2.out.2.2.2.2.trans (hb3.mono H2.out.2.2.2.2.size))))))
  clear hb3 q0 q1 q2 q3 q4
  have hpm := app_sz p more
  go_wp2_with fail
  refine (new2 p (p ++ more) (lsp x ⟨a, b, c, d, n, n⟩) (lsp y ⟨a, b, c, d, n, n⟩) H3.out.2.1.1 H3.out.2.2.2.1.1 ⟨H3.out.1, H3.out.2.1.2⟩ ⟨H3.out.2.2.1, H3.out.2.2.2.1.2⟩ (by rw [← H3.out.2.1.1]; exact lsp_len x _) (by rw [← H3.out.2.2.2.1.1]; exact lsp_len y _) (by omega) (by omega) rfl rfl).mono ?_
  rintro e w4 ⟨rfl, hF4, hb4⟩
  rw [cnt_f z2.1] at hF4
  have H4 := Aside0.mk (And.intro (H3.out.1.below hb4) (And.intro (H3.out.2.1) (And.intro (H3.out.2.2.1.below hb4) (And.intro H3.out.2.2.2.1 (And.intro hF4 (H3.out.2.2.2.2.trans (hb4.mono H3.out.2.2.2.2.size)))))))
  clear hb4 hF4 H3
  go_wp2_with fail
  refine (new2 p p (lsp x ⟨a, b, c, d, n, n⟩) (lsp y ⟨a, b, c, d, n, n⟩) H4.out.2.1.1 H4.out.2.2.2.1.1 ⟨H4.out.1, H4.out.2.1.2⟩ ⟨H4.out.2.2.1, H4.out.2.2.2.1.2⟩ (by rw [← H4.out.2.1.1]; exact lsp_len x _) (by rw [← H4.out.2.2.2.1.1]; exact lsp_len y _) (by omega) (by omega) rfl rfl).mono ?_
  rintro e w5 ⟨rfl, hF5, hb5⟩
  rw [cnt_g] at hF5
  have H5 := Aside0.mk (And.intro (H4.out.2.2.2.2.1.below hb5) (And.intro hF5 (H4.out.2.2.2.2.2.trans (hb5.mono H4.out.2.2.2.2.2.size))))
  clear hb5 hF5 H4 hpm
  go_wp2_with fail
  refine (alive_c w5).mono ?_
  rintro e w6 ⟨rfl, hb6⟩
  have hks : (p ++ more ++ name ++ bs).size ≤ 1000000 := by rw [app_sz, app_sz, app_sz, hbs]; omega
  have hG := goes_c (H5.out.1.below hb6) hks (few_upd p (p ++ more) _ _ (lsp_len x _) (lsp_len y _))
  rw [HE.out, goes_f H.out p more name z2.1, ← HE.out] at hG
  have HG := Aside0.mk hG
  have H6 := Aside0.mk (And.intro (H5.out.1.below hb6) (And.intro (H5.out.2.1.below hb6) (H5.out.2.2.trans (hb6.mono H5.out.2.2.size))))
  clear hb6 hG H5
  go_wp2_with fail
  refine HG.out.mono ?_
  rintro e w7 ⟨rfl, hb7⟩
  have hG := goes_c (H6.out.2.1.below hb7) hks (few_upd p p _ _ (lsp_len x _) (lsp_len y _))
  rw [HE.out, goes_g H.out p more name, ← HE.out] at hG
  have HG2 := Aside0.mk hG
  have H7 := Aside0.mk (And.intro (H6.out.1.below hb7) (And.intro (H6.out.2.1.below hb7) (H6.out.2.2.trans (hb7.mono H6.out.2.2.size))))
  clear hb7 hG H6 HG
  go_wp2_with fail
  refine HG2.out.mono ?_
  rintro e w8 ⟨rfl, hb8⟩
  have HL1 := Aside0.mk (len_c (H7.out.1.below hb8))
  have HL2 := Aside0.mk (len_c (H7.out.2.1.below hb8))
  have H8 := Aside0.mk (H7.out.2.2.trans (hb8.mono H7.out.2.2.size))
  clear hb8 H7 HG2
  go_wp2_with fail
  refine HL1.out.mono ?_
  rintro e w9 ⟨rfl, hw9⟩
  subst w9
  go_wp2_with fail
  refine HL2.out.mono ?_
  rintro e w10 ⟨rfl, hw10⟩
  subst w10
  go_wp2
  go_ret
  exact ⟨rfl, H8.out⟩
end Go.Proofs.Ytdfaoafeojoceaa.Dr
