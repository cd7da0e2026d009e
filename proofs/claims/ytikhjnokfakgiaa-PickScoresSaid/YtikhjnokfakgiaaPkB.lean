/- pick.Of, pick.Next: walked. -/
import Derived.Test.YtikhjnokfakgiaaPkA
set_option linter.unusedSimpArgs false
set_option linter.unusedVariables false
namespace Go.Proofs.Ytikhjnokfakgiaa.Pk
open Go.Sort Go.RowKit Go.Maps Go.Proofs Go.Proofs.Ytikhjnokfakgiaa.Rw Go.Proofs.Ytikhjnokfakgiaa.PAll Go.Proofs.YtikhjnokfakgiaaW.PrintWords Go.Proofs.Ytikhjnokfakgiaa.Pb
attribute [local go_sem] put_fresh
attribute [-go_sem] Builtin.append_

theorem on_c {w : World} {A : Option Addr} {c n : Nat} {l : List Tb} (hn : l.length = n) (hr : Reads KT w A l) (hc : n ≤ c) (hl : n ≤ 100000) (x y z v : Int) :
    Calls Try.prog 22 #[.agg #[.int .i64 x, .int .i64 y, .int .u64 z, .slice A n c], .int .i64 v] w fun e w' => ∃ A' c', e = .returned (.slice A' (onP l v).length c') ∧ (Reads KT w' A' (onP l v) ∧ (onP l v).length ≤ c') ∧ Below w.heap.size w w' := by
  subst hn
  obtain ⟨K, hK⟩ := On_ev x y z l v hl
  refine (pick_on.calls K x y z A c l v _ w (to_kd hr (by omega)) hc (hK K (Nat.le_refl _))).mono ?_
  rintro e w' ⟨v0, rfl, hR, hb⟩
  obtain ⟨A', c', rfl⟩ := Kd.R_slice hR
  have h := Kd.R_reads' hR
  exact ⟨A', c', rfl, ⟨of_kd h.2.2, h.2.1⟩, hb⟩
theorem score_c {w : World} {A : Option Addr} {c n : Nat} {l : List Tb} (hn : l.length = n) (hr : Reads KT w A l) (hc : n ≤ c) (hl : n ≤ 40) (hf : Fit l) (x y z v : Int) (hv : v = 0 ∨ v = 1 ∨ v = 2 ∨ v = 3) :
    Calls Try.prog 11 #[.agg #[.int .i64 x, .int .i64 y, .int .u64 z, .slice A n c], .int .i64 v] w fun e w' => e = .returned (.int .i64 (scoreP l v)) ∧ Below w.heap.size w w' := by
  subst hn
  obtain ⟨K, hK⟩ := Score_ev x y z l v hl hf hv
  exact pick_Score.calls K x y z A c l v _ w (to_kd hr (by omega)) hc (hK K (Nat.le_refl _))
/-! ### a job's block is written -/
abbrev jbox (a b c : Value) : Obj := .cells #[a, b, c] 34 (0, 0)
theorem job_set {w : World} {jb : Nat} {a b c : Value} (h : w.heap[jb]? = some (jbox a b c)) (x y z : Value) :
    w.cell? ⟨jb, 0, none⟩ = some a ∧ w.frozen? ⟨jb, 0, none⟩ = false ∧ (w.setCell ⟨jb, 0, none⟩ x).cell? ⟨jb, 1, none⟩ = some b ∧ (w.setCell ⟨jb, 0, none⟩ x).frozen? ⟨jb, 1, none⟩ = false ∧ ((w.setCell ⟨jb, 0, none⟩ x).setCell ⟨jb, 1, none⟩ y).cell? ⟨jb, 2, none⟩ = some c ∧ ((w.setCell ⟨jb, 0, none⟩ x).setCell ⟨jb, 1, none⟩ y).frozen? ⟨jb, 2, none⟩ = false ∧
    (((w.setCell ⟨jb, 0, none⟩ x).setCell ⟨jb, 1, none⟩ y).setCell ⟨jb, 2, none⟩ z).heap[jb]? = some (jbox x y z) ∧ w.grownBy (((w.setCell ⟨jb, 0, none⟩ x).setCell ⟨jb, 1, none⟩ y).setCell ⟨jb, 2, none⟩ z) (some jb) := by
  have s1 := set_blk (j := 0) x h
  have s2 := set_blk (j := 1) y s1
  have s3 := set_blk (j := 2) z s2
  exact ⟨blk_cell h 0, blk_frozen h 0, blk_cell s1 1, blk_frozen s1 1, blk_cell s2 2, blk_frozen s2 2, s3.trans rfl, sets_grown [x, y, z] 0 w⟩
abbrev vbox (x y z : Int) (s : Value) : Obj := .cells #[.int .i64 x, .int .i64 y, .int .u64 z, s] 25
theorem ver_cells {w : World} {b : Nat} {x y z : Int} {s : Value} (h : w.heap[b]? = some (vbox x y z s)) : w.cell? ⟨b, 0, none⟩ = some (.int .i64 x) ∧ w.cell? ⟨b, 1, none⟩ = some (.int .i64 y) ∧ w.cell? ⟨b, 2, none⟩ = some (.int .u64 z) ∧ w.cell? ⟨b, 3, none⟩ = some s :=
  ⟨blk_cell h 0, blk_cell h 1, blk_cell h 2, blk_cell h 3⟩
theorem reads_set {w w' : World} {jb : Nat} {a b c : Value} {A : Option Addr} {L : List Tb} (h : Reads KT w A L) (hj : w.heap[jb]? = some (jbox a b c)) (hG : w.grownBy w' (some jb)) : Reads KT w' A L := fun h0 => by
  refine h.grown hG ?_ h0
  rintro g o rfl e
  obtain rfl : g = jb := by simpa using e
  obtain ⟨x, hx⟩ : ∃ x, L[0]? = some x := ⟨_, List.getElem?_eq_getElem h0⟩
  have h3 : w.cell? ⟨g, o + 0 * 5 + 3, none⟩ = some (.string x.f3) := h.at hx (i := 3) rfl
  rw [blk_cell hj] at h3
  have h4 := (Array.getElem?_eq_some_iff.1 h3).1
  simp at h4
  omega
theorem grown_below {base jb : Nat} {W w w' : World} (h : Below base W w) (hG : w.grownBy w' (some jb)) (hj : base ≤ jb) (hb : base ≤ w.heap.size) : Below base W w' := h.grown hG hb (fun k e => by cases e; exact hj)
/-- What stays in a call of Of, of Next. -/
structure Oz (W : World) (A : Option Addr) (l : List Tb) (V : Obj) (w : World) : Prop where
  bel : Below W.heap.size W w
  ver : w.heap[W.heap.size]? = some V
  job : w.heap[W.heap.size + 1]? = some (jbox (.int .i64 0) (.slice none 0 0) (.slice none 0 0))
  row : Reads KT w A l
theorem Oz.step {W w w' : World} {A : Option Addr} {l : List Tb} {V : Obj} (h : Oz W A l V w) (hb : Below w.heap.size w w') : Oz W A l V w' :=
  ⟨h.bel.trans (hb.mono h.bel.size), (hb.block _ (Array.getElem?_eq_some_iff.1 h.ver).1).trans h.ver, (hb.block _ (Array.getElem?_eq_some_iff.1 h.job).1).trans h.job, h.row.below hb⟩
/-- What a job of a level is. -/
def OfO (W : World) (l : List Tb) (v : Int) (e : Ending) (w' : World) : Prop := ∃ A1 c1 A2 c2 F T, e = .returned (.tuple #[.agg #[.int .i64 v, .slice A1 (List.length F) c1, .slice A2 (List.length T) c2], .bool true]) ∧ (Reads KT w' A1 F ∧ Reads KT w' A2 T ∧ F ≠ [] ∧ (v = 0 → F = onP l 0) ∧ F.length ≤ l.length + 1) ∧ (∀ x ∈ T, x ∈ onP l (v + 1)) ∧ T.length ≤ l.length ∧ Below W.heap.size W w'
set_option maxRecDepth 100000 in
set_option maxHeartbeats 8000000 in
theorem of_c {W : World} {A : Option Addr} {c n : Nat} {l : List Tb} (hn : l.length = n) (hr : Reads KT W A l) (hc : n ≤ c) (hl : n ≤ 100) (x y z v : Int) (hv : v = 0 ∨ v = 1 ∨ v = 2) (ho : onP l v ≠ []) :
    Calls Try.prog 13 #[.agg #[.int .i64 x, .int .i64 y, .int .u64 z, .slice A n c], .int .i64 v] W (OfO W l v) := by
  have hlen := on_len l v
  have hlen2 := on_len l (v + 1)
  have hpos : 0 < (onP l v).length := List.length_pos_iff.2 ho
  have b1 := below_alloc (Below.refl W.heap.size W) (vbox x y z (.slice A n c))
  have b2 := below_alloc b1 (jbox (.int .i64 0) (.slice none 0 0) (.slice none 0 0))
  have hV : ((W.alloc (vbox x y z (.slice A n c))).alloc (jbox (.int .i64 0) (.slice none 0 0) (.slice none 0 0))).heap[W.heap.size]? = some (vbox x y z (.slice A n c)) := (heap_alloc_old _ _ (by simp)).trans (heap_alloc_new W _)
  have hJ : ((W.alloc (vbox x y z (.slice A n c))).alloc (jbox (.int .i64 0) (.slice none 0 0) (.slice none 0 0))).heap[W.heap.size + 1]? = some (jbox (.int .i64 0) (.slice none 0 0) (.slice none 0 0)) := by have := heap_alloc_new (W.alloc (vbox x y z (.slice A n c))) (jbox (.int .i64 0) (.slice none 0 0) (.slice none 0 0)); simpa using this
  have H0 : Aside0 (Oz W A l (vbox x y z (.slice A n c)) _) := ⟨⟨b2, hV, hJ, hr.below b2⟩⟩
  obtain ⟨v0, v1, v2, v3⟩ := ver_cells hV
  have hsz : ((W.alloc (vbox x y z (.slice A n c))).alloc (jbox (.int .i64 0) (.slice none 0 0) (.slice none 0 0))).heap.size = W.heap.size + 2 := by simp
  have HON := Aside0.mk ho
  clear b1 b2 hV hJ hr ho
  go_enter Try.func13, Try.ntmps13
  go_wp2_with fail
  generalize (W.alloc (.cells #[.int .i64 x, .int .i64 y, .int .u64 z, .slice A n c] 25)).alloc (.cells #[.int .i64 0, .slice none 0 0, .slice none 0 0] 34) = w0 at *
  refine (on_c hn H0.out.row hc (by omega) x y z v).mono ?_
  rintro e w1 ⟨A1, c1, rfl, h1, hb1⟩
  have H1 := Aside0.mk (And.intro (H0.out.step hb1) h1)
  have d1 : decide (v < 0) = false := decide_eq_false (by omega)
  have d2 : decide (2 < v) = false := decide_eq_false (by omega)
  have d3 : (((onP l v).length : Int) == 0) = false := by rw [beq_eq_false_iff_ne]; omega
  clear h1 hb1 v0 v1 v2 v3 H0
  rcases (by omega : v = 0 ∨ 0 < v) with hv0 | hv0
  case' inl =>
    have d4 : decide (0 < v) = false := decide_eq_false (by omega)
    obtain ⟨F, hF⟩ : ∃ F, F = onP l v := ⟨_, rfl⟩
    rw [← hF] at H1 d3 hpos hlen ⊢
    have HF : Aside0 ((v = 0 → F = onP l 0) ∧ F.length ≤ l.length + 1 ∧ 0 < F.length) := ⟨⟨fun e => by rw [hF, e], by omega, hpos⟩⟩
    have HV := Aside0.mk hv0
    obtain ⟨w2, hw2⟩ : ∃ w2, w2 = w1 := ⟨_, rfl⟩
    subst w1
    have H2 := H1
    clear hv0 hF hpos H1
    go_wp2_with fail
  case' inr =>
    have d4 : decide (0 < v) = true := decide_eq_true (by omega)
    have HV := Aside0.mk hv0
    clear hv0
    have HM := Aside0.mk (minf_c (c := c1) (to_kd H1.out.2.1 (by omega)) hpos (by omega))
    go_wp2_with fail
    refine HM.out.mono ?_
    rintro e w3 ⟨t, rfl, hb3⟩
    have H3 := Aside0.mk (H1.out.1.step hb3)
    clear hb3 HM H1
    have ba := below_alloc (Below.refl w3.heap.size w3) (boxE t)
    have HX : Aside0 (Oz W A l (vbox x y z (.slice A n c)) (w3.alloc (boxE t)) ∧ Reads KT (w3.alloc (boxE t)) (some ⟨w3.heap.size, 0, none⟩) [t] ∧ [t].length ≤ 1) := ⟨⟨H3.out.step ba, reads_box (heap_alloc_new w3 (boxE t)), Nat.le_refl _⟩⟩
    dsimp only [boxE, tval] at HX ⊢
    clear ba
    go_wp2_with fail
    generalize w3.alloc (.cells #[.int .i64 t.f0, .int .i64 t.f1, .int .i64 t.f2, .string t.f3, .string t.f4] 42) = w2 at *
    obtain ⟨F, hF⟩ : ∃ F, F = [t] := ⟨_, rfl⟩
    obtain ⟨A1, hA1⟩ : ∃ A1 : Option Addr, A1 = some ⟨w3.heap.size, 0, none⟩ := ⟨_, rfl⟩
    obtain ⟨nF, hnF⟩ : ∃ nF, nF = F.length := ⟨_, rfl⟩
    obtain ⟨c1, hc1⟩ : ∃ c1, c1 = 1 := ⟨_, rfl⟩
    have hn1 : nF = 1 := by rw [hnF, hF]; rfl
    have HF : Aside0 ((v = 0 → F = onP l 0) ∧ F.length ≤ l.length + 1 ∧ 0 < F.length) := ⟨⟨fun e => by have := HV.out; omega, by rw [hF]; simp, by rw [hF]; simp⟩⟩
    have H2 : Aside0 (Oz W A l (vbox x y z (.slice A n c)) w2 ∧ Reads KT w2 A1 F ∧ F.length ≤ c1) := ⟨⟨HX.out.1, by rw [hA1, hF]; exact HX.out.2.1, by rw [hF, hc1]; exact HX.out.2.2⟩⟩
    rw [← hA1]
    have hsl : Value.slice A1 1 1 = Value.slice A1 F.length c1 := by rw [hF, hc1]; rfl
    rw [hsl]
    clear hF hA1 hc1 hsl HX H3 hn1 hnF
  all_goals
    have hFl := HF.out.2.1
    have hF0 := HF.out.2.2
    have HE := Aside0.mk (ends_c (c := c1) (to_kd H2.out.2.1 (by omega)) hF0 (by omega))
    refine HE.out.mono ?_
    rintro e w4 ⟨s1, s2, rfl, hb4⟩
    have H4 := Aside0.mk (And.intro (H2.out.1.step hb4) (H2.out.2.1.below hb4))
    clear hb4 HE H2
    obtain ⟨v0, v1, v2, v3⟩ := ver_cells H4.out.1.ver
    have hv1 : wrap64 (v + 1) = v + 1 := by unfold wrap64; omega
    have HO := Aside0.mk (on_c hn H4.out.1.row hc (by omega) x y z (v + 1))
    go_wp2_with fail
    refine HO.out.mono ?_
    rintro e w5 ⟨A5, c5, rfl, h5, hb5⟩
    have H5 := Aside0.mk (And.intro (H4.out.1.step hb5) (And.intro (H4.out.2.below hb5) h5))
    clear h5 hb5 HO H4 v0 v1 v2 v3
    have HU := Aside0.mk (over_c (c := c5) (to_kd H5.out.2.2.1 (by omega)) (by omega) s1 s2)
    go_wp2_with fail
    refine HU.out.mono ?_
    rintro e w6 ⟨A6, c6, T, rfl, hT, hO6, hb6⟩
    have H6 := Aside0.mk (And.intro (H5.out.1.step hb6) (And.intro (H5.out.2.1.below hb6) (And.intro (Rw.Own.reads (K := KT) hO6) hT)))
    clear hT hO6 hb6 HU H5
    obtain ⟨j0, f0, j1, f1, j2, f2, hJ, hG⟩ := job_set H6.out.1.job (.int .i64 v) (.slice A1 F.length c1) (.slice A6 T.length c6)
    have HJ := Aside0.mk (And.intro hJ hG)
    clear hJ hG
    go_wp2_with fail
    generalize ((w6.setCell ⟨W.heap.size + 1, 0, none⟩ (.int .i64 v)).setCell ⟨W.heap.size + 1, 1, none⟩ (.slice A1 F.length c1)).setCell ⟨W.heap.size + 1, 2, none⟩ (.slice A6 T.length c6) = w7 at *
    have z0 : w7.cell? ⟨W.heap.size + 1, 0, none⟩ = some (.int .i64 v) := blk_cell HJ.out.1 0
    have z1 : w7.cell? ⟨W.heap.size + 1, 1, none⟩ = some (.slice A1 F.length c1) := blk_cell HJ.out.1 1
    have z2 : w7.cell? ⟨W.heap.size + 1, 2, none⟩ = some (.slice A6 T.length c6) := blk_cell HJ.out.1 2
    have hF := reads_set H6.out.2.1 H6.out.1.job HJ.out.2
    have hT := reads_set H6.out.2.2.1 H6.out.1.job HJ.out.2
    have hB := grown_below H6.out.1.bel HJ.out.2 (Nat.le_succ _) H6.out.1.bel.size
    exact bodyPost_ret (v := .tuple #[.agg #[.int .i64 v, .slice A1 F.length c1, .slice A6 T.length c6], .bool true]) (by simp [results, Try.results13, go_sem, z0, z1, z2]) rfl ⟨A1, c1, A6, c6, F, T, rfl, ⟨hF, hT, List.ne_nil_of_length_pos hF0, HF.out.1, HF.out.2.1⟩, H6.out.2.2.2.2, Nat.le_trans H6.out.2.2.2.1 hlen2, hB⟩
def sc (l : List Tb) (k : Nat) : Int := scoreP l (k : Int)
/-- What Next answers. -/
def NextO (W : World) (l : List Tb) (e : Ending) (w' : World) : Prop := ((nx (sc l) 3).2 < 100 → e = .returned (.tuple #[.agg #[.int .i64 0, .slice none 0 0, .slice none 0 0], .bool false]) ∧ Below W.heap.size W w') ∧ (100 ≤ (nx (sc l) 3).2 → OfO W l (nx (sc l) 3).1 e w')
set_option maxRecDepth 100000 in
set_option maxHeartbeats 8000000 in
theorem next_c {W : World} {A : Option Addr} {c n : Nat} {l : List Tb} (hn : l.length = n) (hr : Reads KT W A l) (hc : n ≤ c) (hl : n ≤ 40) (hf : Fit l) (x y z : Int) :
    Calls Try.prog 12 #[.agg #[.int .i64 x, .int .i64 y, .int .u64 z, .slice A n c]] W (NextO W l) := by
  have b1 := below_alloc (Below.refl W.heap.size W) (vbox x y z (.slice A n c))
  have b2 := below_alloc b1 (jbox (.int .i64 0) (.slice none 0 0) (.slice none 0 0))
  have hV : ((W.alloc (vbox x y z (.slice A n c))).alloc (jbox (.int .i64 0) (.slice none 0 0) (.slice none 0 0))).heap[W.heap.size]? = some (vbox x y z (.slice A n c)) := (heap_alloc_old _ _ (by simp)).trans (heap_alloc_new W _)
  have hJ : ((W.alloc (vbox x y z (.slice A n c))).alloc (jbox (.int .i64 0) (.slice none 0 0) (.slice none 0 0))).heap[W.heap.size + 1]? = some (jbox (.int .i64 0) (.slice none 0 0) (.slice none 0 0)) := by have := heap_alloc_new (W.alloc (vbox x y z (.slice A n c))) (jbox (.int .i64 0) (.slice none 0 0) (.slice none 0 0)); simpa using this
  have H0 : Aside0 (Oz W A l (vbox x y z (.slice A n c)) _) := ⟨⟨b2, hV, hJ, hr.below b2⟩⟩
  have HN := Aside0.mk (And.intro hn (And.intro hc (And.intro hl hf)))
  have hsz : ((W.alloc (vbox x y z (.slice A n c))).alloc (jbox (.int .i64 0) (.slice none 0 0) (.slice none 0 0))).heap.size = W.heap.size + 2 := by simp
  clear b1 b2 hV hJ hr hn hc hl hf
  go_enter Try.func12, Try.ntmps12
  go_wp2_with fail
  generalize (W.alloc (.cells #[.int .i64 x, .int .i64 y, .int .u64 z, .slice A n c] 25)).alloc (.cells #[.int .i64 0, .slice none 0 0, .slice none 0 0] 34) = w0 at *
  go_loopw [4, 5, 8] (fun b t i wr => ∃ k : Nat, k ≤ 3 ∧ i = .int .i64 k ∧ b = .int .i64 (nx (sc l) k).1 ∧ t = .int .i64 (nx (sc l) k).2 ∧ Aside0 (Oz W A l (vbox x y z (.slice A n c)) wr)) (fun _ _ i _ => 3 - (intOf i).toNat)
  case atStart => exact ⟨0, Nat.zero_le _, rfl, rfl, rfl, H0⟩
  case round =>
    obtain ⟨k, hk, rfl, rfl, rfl, H1⟩ := hrel
    obtain ⟨w1, hw1⟩ : ∃ w1, w1 = wr := ⟨_, rfl⟩
    subst wr
    obtain ⟨v0, v1, v2, v3⟩ := ver_cells H1.out.ver
    by_cases hlt : k < 3
    · have hd1 : decide ((k : Int) < 3) = true := decide_eq_true (by omega)
      have hd2 : decide (k < 3) = true := decide_eq_true hlt
      have hwk := Aside0.mk (show wrap64 ((k : Int) + 1) = (k : Int) + 1 by unfold wrap64; omega)
      have HS := Aside0.mk (score_c HN.out.1 H1.out.row HN.out.2.1 HN.out.2.2.1 HN.out.2.2.2 x y z (k : Int) (by omega))
      have HX := Aside0.mk (show nx (sc l) (k + 1) = if (nx (sc l) k).2 < sc l k then ((k : Int), sc l k) else nx (sc l) k from rfl)
      have hsc : scoreP l (k : Int) = sc l k := rfl
      rw [hsc] at HS
      clear hsc
      go_wp2_with fail
      refine HS.out.mono ?_
      rintro e w2 ⟨rfl, hb2⟩
      have H2 := Aside0.mk (H1.out.step hb2)
      clear hb2 HS v0 v1 v2 v3 H1
      generalize nx (sc l) k = p at *
      generalize sc l k = s at *
      by_cases hs : p.2 < s
      · have e1 : decide (p.2 < s) = true := decide_eq_true hs
        have HX2 := Aside0.mk (HX.out.trans (if_pos hs))
        go_wp2_with fail
        exact ⟨⟨k + 1, hlt, by first | exact iw_succ k | exact iv_succ hwk.out, by rw [HX2.out], by rw [HX2.out], H2⟩, by first | exact iw_meas hlt | exact iv_meas hwk.out hlt⟩
      · have e1 : decide (p.2 < s) = false := decide_eq_false hs
        have HX2 := Aside0.mk (HX.out.trans (if_neg hs))
        go_wp2_with fail
        exact ⟨⟨k + 1, hlt, by first | exact iw_succ k | exact iv_succ hwk.out, by rw [HX2.out], by rw [HX2.out], H2⟩, by first | exact iw_meas hlt | exact iv_meas hwk.out hlt⟩
    · obtain rfl : k = 3 := by omega
      have HX := Aside0.mk (nx_lw (sc l) 3)
      generalize hpp : nx (sc l) 3 = p at *
      have HPP := Aside0.mk hpp
      by_cases hs : p.2 < 100
      · have e1 : decide (p.2 < 100) = true := decide_eq_true hs
        obtain ⟨j0, f0, j1, f1, j2, f2, hJ, hG⟩ := job_set H1.out.job (.int .i64 0) (.slice none 0 0) (.slice none 0 0)
        have HJ := Aside0.mk (And.intro hJ hG)
        clear hJ hG v0 v1 v2 v3
        have HB := Aside0.mk (grown_below H1.out.bel HJ.out.2 (Nat.le_succ _) H1.out.bel.size)
        go_wp2_with fail
        generalize ((w1.setCell ⟨W.heap.size + 1, 0, none⟩ (.int .i64 0)).setCell ⟨W.heap.size + 1, 1, none⟩ (.slice none 0 0)).setCell ⟨W.heap.size + 1, 2, none⟩ (.slice none 0 0) = w7 at *
        have z0 : w7.cell? ⟨W.heap.size + 1, 0, none⟩ = some (.int .i64 0) := blk_cell HJ.out.1 0
        have z1 : w7.cell? ⟨W.heap.size + 1, 1, none⟩ = some (.slice none 0 0) := blk_cell HJ.out.1 1
        have z2 : w7.cell? ⟨W.heap.size + 1, 2, none⟩ = some (.slice none 0 0) := blk_cell HJ.out.1 2
        exact bodyPost_ret (v := .tuple #[.agg #[.int .i64 0, .slice none 0 0, .slice none 0 0], .bool false]) (by simp [results, Try.results12, go_sem, z0, z1, z2]) rfl (by unfold NextO; rw [HPP.out]; exact ⟨fun _ => ⟨rfl, HB.out⟩, fun h => by omega⟩)
      · have e1 : decide (p.2 < 100) = false := decide_eq_false hs
        obtain ⟨h1, _, j, hj, hp1, hp2⟩ := HX.out.resolve_left (fun h => hs h.1)
        have hon : onP l (j : Int) ≠ [] := score_on (by show 100 ≤ sc l j; omega)
        have HO := Aside0.mk (of_c HN.out.1 H1.out.row HN.out.2.1 (by have := HN.out.2.2.1; omega) x y z (j : Int) (by omega) hon)
        rw [← hp1] at HO
        have HP := Aside0.mk (And.intro h1 hs)
        clear hon hj hp1 hp2 h1 hs HX hpp
        go_wp2_with fail
        refine HO.out.mono ?_
        rintro e w2 ⟨A1, c1, A2, c2, F, T, rfl, hF, hT, hTl, hb2⟩
        have H2 := Aside0.mk (H1.out.step hb2)
        have HF := Aside0.mk (And.intro hF (And.intro hT hTl))
        clear hF hT hTl hb2 v0 v1 v2 v3 HO
        obtain ⟨j0, f0, j1, f1, j2, f2, hJ, hG⟩ := job_set H2.out.job (.int .i64 p.1) (.slice A1 F.length c1) (.slice A2 T.length c2)
        have HJ := Aside0.mk (And.intro hJ hG)
        clear hJ hG
        go_wp2_with fail
        generalize ((w2.setCell ⟨W.heap.size + 1, 0, none⟩ (.int .i64 p.1)).setCell ⟨W.heap.size + 1, 1, none⟩ (.slice A1 F.length c1)).setCell ⟨W.heap.size + 1, 2, none⟩ (.slice A2 T.length c2) = w7 at *
        have z0 : w7.cell? ⟨W.heap.size + 1, 0, none⟩ = some (.int .i64 p.1) := blk_cell HJ.out.1 0
        have z1 : w7.cell? ⟨W.heap.size + 1, 1, none⟩ = some (.slice A1 F.length c1) := blk_cell HJ.out.1 1
        have z2 : w7.cell? ⟨W.heap.size + 1, 2, none⟩ = some (.slice A2 T.length c2) := blk_cell HJ.out.1 2
        have hF := reads_set HF.out.1.1 H2.out.job HJ.out.2
        have hT := reads_set HF.out.1.2.1 H2.out.job HJ.out.2
        have hB := grown_below H2.out.bel HJ.out.2 (Nat.le_succ _) H2.out.bel.size
        exact bodyPost_ret (v := .tuple #[.agg #[.int .i64 p.1, .slice A1 F.length c1, .slice A2 T.length c2], .bool true]) (by simp [results, Try.results12, go_sem, z0, z1, z2]) rfl (by unfold NextO; rw [HPP.out]; exact ⟨fun h => by have := HP.out.1; omega, fun _ => ⟨A1, c1, A2, c2, F, T, rfl, ⟨hF, hT, HF.out.1.2.2⟩, HF.out.2.1, HF.out.2.2, hB⟩⟩)
end Go.Proofs.Ytikhjnokfakgiaa.Pk
