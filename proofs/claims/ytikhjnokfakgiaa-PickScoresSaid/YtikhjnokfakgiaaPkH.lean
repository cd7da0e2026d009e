/- PickScores: walked. -/
import Derived.Test.YtikhjnokfakgiaaPkG
set_option linter.unusedSimpArgs false
set_option linter.unusedVariables false
namespace Go.Proofs.Ytikhjnokfakgiaa.Pk
open Go.Sort Go.RowKit Go.Maps Go.Proofs Go.Proofs.Ytikhjnokfakgiaa.Rw Go.Proofs.Ytikhjnokfakgiaa.PAll Go.Proofs.YtikhjnokfakgiaaW.PrintWords Go.Proofs.Ytikhjnokfakgiaa.Pb
attribute [local go_sem] put_fresh
attribute [-go_sem] Builtin.append_
attribute [-go_sem] sliced

theorem sc3 (l : List Tb) : sc l 3 = 0 := rfl
theorem lw_ge (s : Nat → Int) (k : Nat) : 99 ≤ (lw s k).1 := by
  rcases nx_lw s k with ⟨_, h⟩ | ⟨h1, h, _⟩
  · rw [h]; decide
  · rw [h]; show 99 ≤ (nx s k).2; omega
theorem lw4 (l : List Tb) : lw (sc l) 4 = lw (sc l) 3 := by
  show (if (lw (sc l) 3).1 < sc l 3 then _ else lw (sc l) 3) = _
  have := lw_ge (sc l) 3
  rw [sc3]
  exact if_neg (by omega)
/-- What stays in a call of PickScores. -/
structure Lz (W : World) (A1 : Option Addr) (c1 : Nat) (L : List Tb) (V : Obj) (w : World) : Prop where
  bel : Below W.heap.size W w
  ver : w.heap[W.heap.size]? = some V
  own : Rw.Own KT 42 w (W.heap.size + 1) A1 c1 L
theorem Lz.step {W w w' : World} {A1 : Option Addr} {c1 : Nat} {L : List Tb} {V : Obj} (h : Lz W A1 c1 L V w) (hb : Below w.heap.size w w') : Lz W A1 c1 L V w' :=
  ⟨h.bel.trans (hb.mono h.bel.size), (hb.block _ (Array.getElem?_eq_some_iff.1 h.ver).1).trans h.ver, h.own.below hb⟩
structure Mz (W : World) (A1 A2 : Option Addr) (L R : List Tb) (b2 : Nat) (V V2 : Obj) (w : World) : Prop where
  bel : Below W.heap.size W w
  ver : w.heap[W.heap.size]? = some V
  ver2 : w.heap[b2]? = some V2
  row : Reads KT w A1 L
  row2 : Reads KT w A2 R
theorem Mz.step {W w w' : World} {A1 A2 : Option Addr} {L R : List Tb} {b2 : Nat} {V V2 : Obj} (h : Mz W A1 A2 L R b2 V V2 w) (hb : Below w.heap.size w w') : Mz W A1 A2 L R b2 V V2 w' :=
  ⟨h.bel.trans (hb.mono h.bel.size), (hb.block _ (Array.getElem?_eq_some_iff.1 h.ver).1).trans h.ver, (hb.block _ (Array.getElem?_eq_some_iff.1 h.ver2).1).trans h.ver2, h.row.below hb, h.row2.below hb⟩
theorem reads_set4 {w w' : World} {jb : Nat} {a b c d : Value} {t : TypeId} {A : Option Addr} {L : List Tb} (h : Reads KT w A L) (hj : w.heap[jb]? = some (.cells #[a, b, c, d] t (0, 0))) (hG : w.grownBy w' (some jb)) : Reads KT w' A L := fun h0 => by
  refine h.grown hG ?_ h0
  rintro g o rfl e
  obtain rfl : g = jb := by simpa using e
  obtain ⟨x, hx⟩ : ∃ x, L[0]? = some x := ⟨_, List.getElem?_eq_getElem h0⟩
  have h3 : w.cell? ⟨g, o + 0 * 5 + 4, none⟩ = some (.string x.f4) := h.at hx (i := 4) rfl
  rw [blk_cell hj] at h3
  have h4 := (Array.getElem?_eq_some_iff.1 h3).1
  simp at h4
  omega
theorem cut_0 (g c : Nat) : sliced (some ⟨g, 0, none⟩) 0 0 0 5 = .slice (some ⟨g, 0, none⟩) 0 0 := rfl
theorem sub_cut (L : List Tb) (k : Nat) : (L.take k ++ L.drop (k + 1)).Sublist L := by
  conv => rhs; rw [← List.take_append_drop k L]
  refine (List.Sublist.refl _).append ?_
  have := List.drop_sublist 1 (L.drop k)
  rwa [List.drop_drop] at this
theorem blk_b {w w' : World} {X : Obj} {b : Nat} (h : w.heap[b]? = some X) (hb : Below w.heap.size w w') : w'.heap[b]? = some X := (hb.block b (Array.getElem?_eq_some_iff.1 h).1).trans h
set_option maxRecDepth 100000 in
set_option maxHeartbeats 16000000 in
theorem PickScores_walk {A : Option Addr} {c : Nat} {l : List Tb} (x y z k : Int) (W : World) (hr : Kd.C k42 W A l.length l) (hc : l.length ≤ c) : Calls Try.prog 3 #[.agg #[.int .i64 x, .int .i64 y, .int .u64 z, .slice A l.length c], .int .i64 k] W fun e W' => e = .returned (.bool true) ∧ Below W.heap.size W W' := by
  have b0 := below_alloc (Below.refl W.heap.size W) (vbox x y z (.slice A l.length c))
  have hV := heap_alloc_new W (vbox x y z (.slice A l.length c))
  have v3 : (W.alloc (vbox x y z (.slice A l.length c))).cell? ⟨W.heap.size, 3, none⟩ = some (.slice A l.length c) := blk_cell hV 3
  have H0 := Aside0.mk (And.intro b0 (And.intro hV (of_kd hr)))
  have hsz : (W.alloc (vbox x y z (.slice A l.length c))).heap.size = W.heap.size + 1 := by simp
  have hlm := hr.2.1
  obtain ⟨r, ⟨K1, hS⟩, hr1⟩ := Small_ev l
  have HS := Aside0.mk (cornucopialaw12_Small.calls K1 A c l r _ (Kd.C_below hr b0) hc (hS K1 (Nat.le_refl _)))
  have HR := Aside0.mk hr1
  clear b0 hV hr hS hr1
  dsimp only [vbox] at H0 v3 HS hsz
  go_enter Try.func3, Try.ntmps3
  go_wp2_with fail
  refine HS.out.mono ?_
  rintro e w1 ⟨rfl, hb1⟩
  generalize W.alloc (.cells #[.int .i64 x, .int .i64 y, .int .u64 z, .slice A l.length c] 25) = w0 at *
  have H1 : Aside0 (Below W.heap.size W w1 ∧ w1.heap[W.heap.size]? = some (vbox x y z (.slice A l.length c)) ∧ Reads KT W A l) := ⟨⟨H0.out.1.trans (hb1.mono H0.out.1.size), (hb1.block _ (Array.getElem?_eq_some_iff.1 H0.out.2.1).1).trans H0.out.2.1, H0.out.2.2⟩⟩
  have hW1 : W.heap.size + 1 ≤ w1.heap.size := by have := hb1.size; omega
  clear hb1 HS H0 v3 hsz
  cases r with
  | false =>
    go_wp2_with fail
    refine (alive_c w1).mono ?_
    rintro e w2 ⟨rfl, hb2⟩
    have HB := Aside0.mk (below_step H1.out.1 hb2)
    clear hb2
    go_wp2
    go_ret
    exact ⟨rfl, HB.out⟩
  | true =>
    obtain ⟨hl, hs⟩ := HR.out rfl
    obtain ⟨v0, v1, v2, v3⟩ := ver_cells H1.out.2.1
    obtain ⟨r2, ⟨K2, hV2⟩, hf2⟩ := Valid_ev (l := l) hl hs x y z
    have hV2 := hV2 K2 (Nat.le_refl _)
    have HF := Aside0.mk (And.intro hs (And.intro hf2 hV2))
    clear hs hf2 hV2 HR
    go_wp2_with fail
    refine (plain_c w1 A l.length c x y z).mono ?_
    rintro e w2 ⟨rfl, hb2⟩
    have H2 : Aside0 (Below W.heap.size W w2 ∧ w2.heap[W.heap.size]? = some (vbox x y z (.slice A l.length c)) ∧ Reads KT W A l) := ⟨⟨H1.out.1.trans (hb2.mono H1.out.1.size), (hb2.block _ (Array.getElem?_eq_some_iff.1 H1.out.2.1).1).trans H1.out.2.1, H1.out.2.2⟩⟩
    have hW2 : W.heap.size + 1 ≤ w2.heap.size := by have := hb2.size; omega
    clear hb2 H1 v0 v1 v2 v3 hW1
    go_wp2_with fail
    refine (cornucopiaref12_Valid.calls K2 x y z A c l r2 w2 (to_kd (H2.out.2.2.below H2.out.1) hlm) hc HF.out.2.2).mono ?_
    rintro e w3 ⟨rfl, hb3⟩
    have H3 : Aside0 (Below W.heap.size W w3 ∧ w3.heap[W.heap.size]? = some (vbox x y z (.slice A l.length c)) ∧ Reads KT W A l) := ⟨⟨H2.out.1.trans (hb3.mono H2.out.1.size), (hb3.block _ (Array.getElem?_eq_some_iff.1 H2.out.2.1).1).trans H2.out.2.1, H2.out.2.2⟩⟩
    have hW3 : W.heap.size + 1 ≤ w3.heap.size := by have := hb3.size; omega
    clear hb3 H2 hW2
    cases r2 with
    | false =>
      go_wp2_with fail
      refine (alive_c w3).mono ?_
      rintro e w4 ⟨rfl, hb4⟩
      have HB := Aside0.mk (below_step H3.out.1 hb4)
      clear hb4
      go_wp2
      go_ret
      exact ⟨rfl, HB.out⟩
    | true =>
      have hfit : Fit l := HF.out.2.1 rfl
      have v3 : w3.cell? ⟨W.heap.size, 3, none⟩ = some (.slice A l.length c) := blk_cell H3.out.2.1 3
      have HO := Aside0.mk (ordered_c (c := c) (H3.out.2.2.below H3.out.1) (by omega) HF.out.1)
      have HF2 := Aside0.mk hfit
      clear hfit HF
      go_wp2_with fail
      refine HO.out.mono ?_
      rintro e w4 ⟨A1, c1, L, rfl, hL, ho4, hb4⟩
      have hV4 := (hb4.block _ (Array.getElem?_eq_some_iff.1 H3.out.2.1).1).trans H3.out.2.1
      have v4 : w4.cell? ⟨W.heap.size, 3, none⟩ = some (.slice A l.length c) := blk_cell hV4 3
      have f4 : w4.frozen? ⟨W.heap.size, 3, none⟩ = false := blk_frozen hV4 3
      have hV5 : (w4.setCell ⟨W.heap.size, 3, none⟩ (.slice A1 l.length c1)).heap[W.heap.size]? = some (vbox x y z (.slice A1 l.length c1)) := (set_blk (j := 3) (.slice A1 l.length c1) hV4).trans rfl
      have hG : w4.grownBy (w4.setCell ⟨W.heap.size, 3, none⟩ (.slice A1 l.length c1)) (some W.heap.size) := sets_grown [.slice A1 l.length c1] 3 w4
      have hB4 : Below W.heap.size W w4 := H3.out.1.trans (hb4.mono H3.out.1.size)
      have H5 : Aside0 (Lz W A1 c1 L (vbox x y z (.slice A1 l.length c1)) (w4.setCell ⟨W.heap.size, 3, none⟩ (.slice A1 l.length c1))) := ⟨⟨hB4.grown hG hB4.size (fun k e => by cases e; exact Nat.le_refl _), hV5, own_past (ho4.less hW3) hG (Nat.lt_succ_self _)⟩⟩
      have hcap := ho4.cap.1
      have HL : Aside0 (L.length = l.length ∧ Fit L) := ⟨hL.1, fun t ht => HF2.out t (hL.2 t ht)⟩
      rw [hL.1] at hcap
      clear hV4 hV5 hG hB4 ho4 hb4 hL HO v3 H3 hW3
      go_wp2_with fail
      generalize w4.setCell ⟨W.heap.size, 3, none⟩ (.slice A1 l.length c1) = w5 at *
      clear v4 f4
      obtain ⟨n, hn⟩ : ∃ n, n = l.length := ⟨_, rfl⟩
      rw [← hn] at H5 HL hcap hl ⊢
      clear hn HF2 hc hlm
      go_loopw [5, 6, 7] (fun b t i wr => ∃ j : Nat, j ≤ 4 ∧ i = .int .i64 j ∧ b = .int .i64 (lw (sc L) j).1 ∧ t = .int .i64 (lw (sc L) j).2 ∧ Aside0 (Lz W A1 c1 L (vbox x y z (.slice A1 n c1)) wr)) (fun _ _ i _ => 4 - (intOf i).toNat)
      case atStart => exact ⟨0, Nat.zero_le _, rfl, rfl, rfl, H5⟩
      case round =>
        obtain ⟨j, hj, rfl, rfl, rfl, H6⟩ := hrel
        obtain ⟨w6, hw6⟩ : ∃ w6, w6 = wr := ⟨_, rfl⟩
        subst wr
        clear H5
        obtain ⟨v0, v1, v2, v3⟩ := ver_cells H6.out.ver
        by_cases hlt : j < 4
        · have hd1 : decide ((j : Int) < 4) = true := decide_eq_true (by omega)
          have hd2 : decide (j < 4) = true := decide_eq_true hlt
          have hwj := Aside0.mk (show wrap64 ((j : Int) + 1) = (j : Int) + 1 by unfold wrap64; omega)
          have HS := Aside0.mk (score_c HL.out.1 H6.out.own.reads hcap hl HL.out.2 x y z (j : Int) (by omega))
          have HX := Aside0.mk (show lw (sc L) (j + 1) = if (lw (sc L) j).1 < sc L j then (sc L j, (j : Int)) else lw (sc L) j from rfl)
          have hsc : scoreP L (j : Int) = sc L j := rfl
          rw [hsc] at HS
          clear hsc
          go_wp2_with fail
          refine HS.out.mono ?_
          rintro e w7 ⟨rfl, hb7⟩
          have H7 := Aside0.mk (H6.out.step hb7)
          clear hb7 HS v0 v1 v2 v3 H6
          generalize lw (sc L) j = p at *
          generalize sc L j = s at *
          by_cases hs : p.1 < s
          · have e1 : decide (p.1 < s) = true := decide_eq_true hs
            have HX2 := Aside0.mk (HX.out.trans (if_pos hs))
            go_wp2_with fail
            exact ⟨⟨j + 1, hlt, by first | exact iw_succ j | exact iv_succ hwj.out, by rw [HX2.out], by rw [HX2.out], H7⟩, by first | exact iw_meas hlt | exact iv_meas hwj.out hlt⟩
          · have e1 : decide (p.1 < s) = false := decide_eq_false hs
            have HX2 := Aside0.mk (HX.out.trans (if_neg hs))
            go_wp2_with fail
            exact ⟨⟨j + 1, hlt, by first | exact iw_succ j | exact iv_succ hwj.out, by rw [HX2.out], by rw [HX2.out], H7⟩, by first | exact iw_meas hlt | exact iv_meas hwj.out hlt⟩
        · obtain rfl : j = 4 := by omega
          have HX := Aside0.mk (nx_lw (sc L) 3)
          have HN := Aside0.mk (next_c HL.out.1 H6.out.own.reads hcap hl HL.out.2 x y z)
          rw [lw4]
          unfold NextO at HN
          generalize nx (sc L) 3 = p at *
          generalize lw (sc L) 3 = q at *
          go_wp2_with fail
          refine HN.out.mono ?_
          rintro e w7 hno
          have hfin : ∃ (ok : Bool) (B1 B2 : Option Addr) (m1 m2 d1 d2 : Nat) (lv : Int), e = .returned (.tuple #[.agg #[.int .i64 lv, .slice B1 m1 d1, .slice B2 m2 d2], .bool ok]) ∧ Below w6.heap.size w6 w7 ∧ ((ok = false ∧ q.2 = -1) ∨ (ok = true ∧ 0 ≤ q.2 ∧ lv = q.2)) := by
            rcases HX.out with ⟨h1, h2⟩ | ⟨h1, h2, j, hj, h3, h4⟩
            · obtain ⟨rfl, hb⟩ := hno.1 h1
              exact ⟨false, _, _, _, _, _, _, _, rfl, hb, .inl ⟨rfl, by rw [h2]⟩⟩
            · obtain ⟨B1, d1, B2, d2, F, T, rfl, _, _, _, hb⟩ := hno.2 h1
              exact ⟨true, _, _, _, _, _, _, _, rfl, hb, .inr ⟨rfl, by rw [h2]; show 0 ≤ p.1; omega, by rw [h2]⟩⟩
          obtain ⟨ok, B1, B2, m1, m2, e1, e2, lv, rfl, hb7, hq⟩ := hfin
          clear hno HX HN v0 v1 v2 v3
          generalize q.2 = at2 at *
          have ba := below_alloc (Below.refl w7.heap.size w7) (jbox (.int .i64 lv) (.slice B1 m1 e1) (.slice B2 m2 e2))
          have H8 := Aside0.mk ((H6.out.step hb7).step ba)
          have j0 : (w7.alloc (jbox (.int .i64 lv) (.slice B1 m1 e1) (.slice B2 m2 e2))).cell? ⟨w7.heap.size, 0, none⟩ = some (.int .i64 lv) := blk_cell (heap_alloc_new w7 _) 0
          have v3 : (w7.alloc (jbox (.int .i64 lv) (.slice B1 m1 e1) (.slice B2 m2 e2))).cell? ⟨W.heap.size, 3, none⟩ = some (.slice A1 n c1) := blk_cell H8.out.ver 3
          dsimp only [jbox] at H8 j0 v3
          clear ba hb7 H6
          have hk3 : k < 0 ∨ (0 ≤ k ∧ (n : Int) ≤ k) ∨ ∃ kk : Nat, k = kk ∧ kk < n := by
            by_cases h1 : k < 0
            · exact .inl h1
            · by_cases h2 : (n : Int) ≤ k
              · exact .inr (.inl ⟨by omega, h2⟩)
              · exact .inr (.inr ⟨k.toNat, by omega, by omega⟩)
          rcases hk3 with hk1 | ⟨hk1, hk2⟩ | ⟨kk, rfl, hkn⟩
          · have g1 : decide (k < 0) = true := decide_eq_true hk1
            rcases hq with ⟨rfl, rfl⟩ | ⟨rfl, hq0, rfl⟩
            case' inl =>
              go_wp2_with fail
            case' inr =>
              have d0 : decide ((0 : Int) ≤ lv) = true := decide_eq_true hq0
              go_wp2_with fail
            all_goals
              refine (alive_c _).mono ?_
              rintro e w9 ⟨rfl, hb9⟩
              have HB := Aside0.mk (H8.out.step hb9).bel
              clear hb9
              go_wp2
              go_ret
              exact ⟨rfl, HB.out⟩
          · have g1 : decide (k < 0) = false := decide_eq_false (by omega)
            have g2 : decide ((n : Int) ≤ k) = true := decide_eq_true hk2
            rcases hq with ⟨rfl, rfl⟩ | ⟨rfl, hq0, rfl⟩
            case' inl =>
              go_wp2_with fail
            case' inr =>
              have d0 : decide ((0 : Int) ≤ lv) = true := decide_eq_true hq0
              go_wp2_with fail
            all_goals
              refine (alive_c _).mono ?_
              rintro e w9 ⟨rfl, hb9⟩
              have HB := Aside0.mk (H8.out.step hb9).bel
              clear hb9
              go_wp2
              go_ret
              exact ⟨rfl, HB.out⟩
          · have g1 : decide ((kk : Int) < 0) = false := decide_eq_false (by omega)
            have g2 : decide ((n : Int) ≤ (kk : Int)) = false := decide_eq_false (by omega)
            have g3 : decide (n ≤ kk) = false := decide_eq_false (by omega)
            have hkw : wrap64 ((kk : Int) + 1) = (kk : Int) + 1 := by unfold wrap64; omega
            have HV8 := Aside0.mk H8.out.ver
            obtain ⟨v0, v1, v2, _⟩ := ver_cells H8.out.ver
            rcases hq with ⟨rfl, rfl⟩ | ⟨rfl, hq0, rfl⟩
            case' inl =>
              go_upto_region 17 with (fail)
            case' inr =>
              have d0 : decide ((0 : Int) ≤ lv) = true := decide_eq_true hq0
              go_upto_region 17 with (fail)
            all_goals
              have bb := below_alloc (Below.refl (w7.alloc (jbox (.int .i64 lv) (.slice B1 m1 e1) (.slice B2 m2 e2))).heap.size (w7.alloc (jbox (.int .i64 lv) (.slice B1 m1 e1) (.slice B2 m2 e2)))) (vbox x y z (.slice A1 n c1))
              have hV2 : ((w7.alloc (jbox (.int .i64 lv) (.slice B1 m1 e1) (.slice B2 m2 e2))).alloc (vbox x y z (.slice A1 n c1))).heap[w7.heap.size + 1]? = some (vbox x y z (.slice A1 n c1)) := by have := heap_alloc_new (w7.alloc (jbox (.int .i64 lv) (.slice B1 m1 e1) (.slice B2 m2 e2))) (vbox x y z (.slice A1 n c1)); simpa using this
              have H9 := Aside0.mk (And.intro (H8.out.step bb) hV2)
              have hWl : W.heap.size < w7.heap.size + 1 := by have := (Array.getElem?_eq_some_iff.1 H8.out.ver).1; simpa using this
              obtain ⟨b2, hb2⟩ : ∃ b2, b2 = w7.heap.size + 1 := ⟨_, rfl⟩
              rw [← hb2] at H9 hWl
              dsimp only [jbox, vbox] at H9
              try rw [← hb2]
              clear bb hV2 H8 HV8 v0 v1 v2 v3 j0
              generalize (w7.alloc (.cells #[.int .i64 lv, .slice B1 m1 e1, .slice B2 m2 e2] 34)).alloc (.cells #[.int .i64 x, .int .i64 y, .int .u64 z, .slice A1 n c1] 25) = w9 at *
              clear hb2
              have hown := H9.out.1.own
              obtain ⟨g, o, rfl, hg⟩ := hown.reads.where (show kk < L.length by rw [HL.out.1]; exact hkn)
              obtain rfl : o = 0 := hown.lt.2.2
              obtain ⟨A4, c4, hs4, r4⟩ := cut_l hown (show kk ≤ L.length by rw [HL.out.1]; omega)
              obtain ⟨A5, c5, hs5, r5⟩ := cut_r hown (show kk + 1 ≤ L.length by rw [HL.out.1]; omega)
              rw [HL.out.1] at hs5
              have bd : Below w9.heap.size w9 w9.drew := below_drew1 (Below.refl _ _)
              obtain ⟨p1, k1, u1, p2, k2, u2, r1, r2, bu1, bu2, hR, hk2⟩ := two_cut (w := w9.drew) (b := ⟨g, 0, none⟩) (n := kk) (m := n - (kk + 1)) (by rw [List.length_take, HL.out.1]; omega) (by rw [List.length_drop, HL.out.1]) (r4.below bd) (r5.below bd) c4 c5 (by omega)
              have hs0 := cut_0 g c1
              have hB1 : Below w9.heap.size w9 u1 := bd.trans bu1
              have hB2 : Below w9.heap.size w9 u2 := bd.trans bu2
              have hW9 := H9.out.1.ver
              have hX9 := H9.out.2
              have hW1 := blk_b hW9 hB1
              have hX2 := blk_b hX9 hB2
              have hW2 := blk_b hW9 hB2
              have v3 : w9.cell? ⟨W.heap.size, 3, none⟩ = some (.slice (some ⟨g, 0, none⟩) n c1) := blk_cell hW9 3
              have x3 : w9.cell? ⟨b2, 3, none⟩ = some (.slice (some ⟨g, 0, none⟩) n c1) := blk_cell hX9 3
              have v31 : u1.cell? ⟨W.heap.size, 3, none⟩ = some (.slice (some ⟨g, 0, none⟩) n c1) := blk_cell hW1 3
              have x32 : u2.cell? ⟨b2, 3, none⟩ = some (.slice (some ⟨g, 0, none⟩) n c1) := blk_cell hX2 3
              have fz : u2.frozen? ⟨b2, 3, none⟩ = false := blk_frozen hX2 3
              obtain ⟨N, hN⟩ : ∃ N, N = kk + (n - (kk + 1)) := ⟨_, rfl⟩
              rw [← hN] at r2 hk2
              have hG : u2.grownBy (u2.setCell ⟨b2, 3, none⟩ (.slice p2 N k2)) (some b2) := sets_grown [.slice p2 N k2] 3 u2
              have hX3 : (u2.setCell ⟨b2, 3, none⟩ (.slice p2 N k2)).heap[b2]? = some (vbox x y z (.slice p2 N k2)) := (set_blk (j := 3) (.slice p2 N k2) hX2).trans rfl
              have hbl := H9.out.1.bel.trans (hB2.mono H9.out.1.bel.size)
              have HM : Aside0 (Mz W (some ⟨g, 0, none⟩) p2 L (L.take kk ++ L.drop (kk + 1)) b2 (vbox x y z (.slice (some ⟨g, 0, none⟩) n c1)) (vbox x y z (.slice p2 N k2)) (u2.setCell ⟨b2, 3, none⟩ (.slice p2 N k2))) := ⟨⟨hbl.grown hG hbl.size (fun k e => by cases e; omega), (hG.block _ (Array.getElem?_eq_some_iff.1 hW2).1 (by simp; omega)).trans hW2, hX3, reads_set4 (hown.reads.below hB2) hX2 hG, reads_set4 hR hX2 hG⟩⟩
              have HQ := Aside0.mk (And.intro (sub_cut L kk) (And.intro (show (L.take kk ++ L.drop (kk + 1)).length = N by rw [List.length_append, List.length_take, List.length_drop, HL.out.1]; omega) (And.intro hk2 (show N ≤ 40 by omega))))
              have hkc : (kk : Int) ≤ (c1 : Int) := by omega
              have hkn2 : (kk : Int) + 1 ≤ (n : Int) := by omega
              have hnc : (n : Int) ≤ (c1 : Int) := by omega
              have hc0 : (0 : Int) ≤ (c1 : Int) := by omega
              clear hown hg r4 r5 bd bu1 bu2 hR hk2 hB1 hB2 hW9 hX9 hW1 hX2 hW2 hG hX3 hbl hN H9
              go_region
              clear v3 x3 v31 x32 fz r1 r2 hs0 hs4 hs5
              generalize u2.setCell ⟨b2, 3, none⟩ (.slice p2 N k2) = u3 at *
              generalize L.take kk ++ L.drop (kk + 1) = R at *
              go_wp2_with fail
              go_loopw [12] (fun i wr => ∃ j : Nat, j ≤ 4 ∧ i = .int .i64 j ∧ Aside0 (Mz W (some ⟨g, 0, none⟩) p2 L R b2 (vbox x y z (.slice (some ⟨g, 0, none⟩) n c1)) (vbox x y z (.slice p2 N k2)) wr)) (fun i _ => 4 - (intOf i).toNat)
              case atStart => exact ⟨0, Nat.zero_le _, rfl, HM⟩
              case round =>
                obtain ⟨j, hj4, rfl, H10⟩ := hrel
                obtain ⟨w10, hw10⟩ : ∃ w10, w10 = wr := ⟨_, rfl⟩
                subst wr
                clear HM
                by_cases hlt : j < 4
                · have hd1 : decide ((j : Int) < 4) = true := decide_eq_true (by omega)
                  have hd2 : decide (j < 4) = true := decide_eq_true hlt
                  have hwj := Aside0.mk (show wrap64 ((j : Int) + 1) = (j : Int) + 1 by unfold wrap64; omega)
                  have hfR : Fit R := fun t ht => HL.out.2 t (HQ.out.1.subset ht)
                  have SC1 : Aside0 (∀ w', Mz W (some ⟨g, 0, none⟩) p2 L R b2 (vbox x y z (.slice (some ⟨g, 0, none⟩) n c1)) (vbox x y z (.slice p2 N k2)) w' → Calls Try.prog 11 #[.agg #[.int .i64 x, .int .i64 y, .int .u64 z, .slice p2 N k2], .int .i64 (j : Int)] w' fun e w'' => e = .returned (.int .i64 (scoreP R (j : Int))) ∧ Below w'.heap.size w' w'') := ⟨fun w' h => score_c HQ.out.2.1 h.row2 HQ.out.2.2.1 HQ.out.2.2.2 hfR x y z (j : Int) (by omega)⟩
                  have SC2 : Aside0 (∀ w', Mz W (some ⟨g, 0, none⟩) p2 L R b2 (vbox x y z (.slice (some ⟨g, 0, none⟩) n c1)) (vbox x y z (.slice p2 N k2)) w' → Calls Try.prog 11 #[.agg #[.int .i64 x, .int .i64 y, .int .u64 z, .slice (some ⟨g, 0, none⟩) n c1], .int .i64 (j : Int)] w' fun e w'' => e = .returned (.int .i64 (scoreP L (j : Int))) ∧ Below w'.heap.size w' w'') := ⟨fun w' h => score_c HL.out.1 h.row hcap hl HL.out.2 x y z (j : Int) (by omega)⟩
                  have hsc := score_sub HQ.out.1 HL.out.2 (j : Int)
                  have e5 : decide (scoreP L (j : Int) < scoreP R (j : Int)) = false := decide_eq_false (by omega)
                  generalize scoreP L (j : Int) = sL at *
                  generalize scoreP R (j : Int) = sR at *
                  have HS : Aside0 (∀ w', Mz W (some ⟨g, 0, none⟩) p2 L R b2 (vbox x y z (.slice (some ⟨g, 0, none⟩) n c1)) (vbox x y z (.slice p2 N k2)) w' → (w'.cell? ⟨W.heap.size, 0, none⟩ = some (.int .i64 x) ∧ w'.cell? ⟨W.heap.size, 1, none⟩ = some (.int .i64 y) ∧ w'.cell? ⟨W.heap.size, 2, none⟩ = some (.int .u64 z) ∧ w'.cell? ⟨W.heap.size, 3, none⟩ = some (.slice (some ⟨g, 0, none⟩) n c1) ∧ w'.cell? ⟨b2, 0, none⟩ = some (.int .i64 x) ∧ w'.cell? ⟨b2, 1, none⟩ = some (.int .i64 y) ∧ w'.cell? ⟨b2, 2, none⟩ = some (.int .u64 z) ∧ w'.cell? ⟨b2, 3, none⟩ = some (.slice p2 N k2) ∧ Aside0 (Mz W (some ⟨g, 0, none⟩) p2 L R b2 (vbox x y z (.slice (some ⟨g, 0, none⟩) n c1)) (vbox x y z (.slice p2 N k2)) w'))) := ⟨fun w' h => ⟨blk_cell h.ver 0, blk_cell h.ver 1, blk_cell h.ver 2, blk_cell h.ver 3, blk_cell h.ver2 0, blk_cell h.ver2 1, blk_cell h.ver2 2, blk_cell h.ver2 3, ⟨h⟩⟩⟩
                  clear hfR
                  go_upto_region 21 with (fail)
                  go_region_held3 (fun w' => w'.cell? ⟨W.heap.size, 0, none⟩ = some (.int .i64 x) ∧ w'.cell? ⟨W.heap.size, 1, none⟩ = some (.int .i64 y) ∧ w'.cell? ⟨W.heap.size, 2, none⟩ = some (.int .u64 z) ∧ w'.cell? ⟨W.heap.size, 3, none⟩ = some (.slice (some ⟨g, 0, none⟩) n c1) ∧ w'.cell? ⟨b2, 0, none⟩ = some (.int .i64 x) ∧ w'.cell? ⟨b2, 1, none⟩ = some (.int .i64 y) ∧ w'.cell? ⟨b2, 2, none⟩ = some (.int .u64 z) ∧ w'.cell? ⟨b2, 3, none⟩ = some (.slice p2 N k2) ∧ Aside0 (Mz W (some ⟨g, 0, none⟩) p2 L R b2 (vbox x y z (.slice (some ⟨g, 0, none⟩) n c1)) (vbox x y z (.slice p2 N k2)) w'))
                    (first
                      | (refine HS.out _ (Mz.step H10.out ?_); exact below_drew1 (Below.refl _ _))
                      | (go_split_ands
                         first
                         | (refine HS.out _ (Aside0.out ?_); assumption)
                         | (refine HS.out _ (Mz.step (Aside0.out ?_) hb11); assumption)
                         | (refine HS.out _ (Mz.step (Aside0.out ?_) hb12); assumption)
                         | (refine HS.out _ (Mz.step (Aside0.out ?_) (below_drew1 (Below.refl _ _))); assumption)))
                    (first
                    | (go_at_call_of 11 (Value.slice p2 N k2); go_split_ands; refine (SC1.out _ (Aside0.out ?_)).mono ?_; assumption; rintro e w11 ⟨rfl, hb11⟩)
                    | (go_at_call_of 11 (Value.slice (some (Addr.mk g 0 none)) n c1); go_split_ands; refine (SC2.out _ (Aside0.out ?_)).mono ?_; assumption; rintro e w12 ⟨rfl, hb12⟩))
                  all_goals
                    go_split_ands
                    clear SC1 SC2 HS
                    go_wp2_with fail
                    refine ⟨⟨j + 1, hlt, by first | exact iw_succ j | exact iv_succ hwj.out, ?_⟩, by first | exact iw_meas hlt | exact iv_meas hwj.out hlt⟩
                    assumption
                · obtain rfl : j = 4 := by omega
                  go_wp2_with fail
                  refine (alive_c _).mono ?_
                  rintro e w11 ⟨rfl, hb11⟩
                  have HB := Aside0.mk (H10.out.step hb11).bel
                  clear hb11
                  go_wp2
                  go_ret
                  exact ⟨rfl, HB.out⟩
end Go.Proofs.Ytikhjnokfakgiaa.Pk
