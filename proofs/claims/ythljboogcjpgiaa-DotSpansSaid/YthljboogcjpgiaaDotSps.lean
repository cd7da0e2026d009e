/- DotSpans: spans have just a set's dots, in order, none beside another one; the order of adding plays no part: walked. -/
import Derived.Test.YthljboogcjpgiaaDotSwp
set_option linter.unusedSimpArgs false
set_option linter.unusedVariables false
namespace Go.Proofs.Ythljboogcjpgiaa.Ds
open Go.RowKit Go.Maps Go.Sort Go.Shelf Go.Proofs Go.Proofs.Ythljboogcjpgiaa.PAll Go.Proofs.YthljboogcjpgiaaW.PrintWords

theorem setCell_drew (w : World) (a : Addr) (v : Value) : (w.setCell a v).drew = w.drew.setCell a v := rfl
theorem five (w : World) (g o : Nat) (v0 v1 v2 v3 v4 : Value) : w.setCells g o [v0, v1, v2, v3, v4] = ((((w.setCell ⟨g, o, none⟩ v0).setCell ⟨g, o + 1, none⟩ v1).setCell ⟨g, o + 2, none⟩ v2).setCell ⟨g, o + 3, none⟩ v3).setCell ⟨g, o + 4, none⟩ v4 := by
  simp only [World.setCells, Nat.add_assoc, Nat.reduceAdd]
theorem chain10 (w : World) (g a b : Nat) (x y : Vd) : (((((((((((w.setCell ⟨g, a, none⟩ (.int .u8 y.1.f0.f0)).setCell ⟨g, a + 1, none⟩ (.int .u8 y.1.f0.f1)).setCell ⟨g, a + 2, none⟩ (.int .u8 y.1.f0.f2)).setCell ⟨g, a + 3, none⟩ (.int .u8 y.1.f0.f3)).setCell ⟨g, a + 4, none⟩ (.int .u64 y.1.f1)).setCell ⟨g, b, none⟩ (.int .u8 x.1.f0.f0)).setCell ⟨g, b + 1, none⟩ (.int .u8 x.1.f0.f1)).setCell ⟨g, b + 2, none⟩ (.int .u8 x.1.f0.f2)).setCell ⟨g, b + 3, none⟩ (.int .u8 x.1.f0.f3)).setCell ⟨g, b + 4, none⟩ (.int .u64 x.1.f1))).drew = (w.drew.setCells g a (venc y)).setCells g b (venc x) := by
  simp only [venc, dcells, five, setCell_drew]
theorem owns_slice {w : World} {base : Nat} {e : TypeId} {size n : Nat} {v : Value} {xs : List Value} (h : w.ownsRow base e size v n xs) : ∃ p c, v = .slice p n c := by
  rcases h.2 with ⟨rfl, rfl⟩ | ⟨g, cap, cur, rfl, _⟩
  · exact ⟨none, 0, rfl⟩
  · exact ⟨_, _, rfl⟩
theorem spans_at {W : World} {base : Nat} {A : Option Addr} {cap : Nat} {L : List Sp} (h : W.ownsRow base 45 6 (.slice A L.length cap) L.length (L.flatMap scells)) {k : Nat} (hk : k < L.length) : ∃ g x, A = some ⟨g, 0, none⟩ ∧ L[k]? = some x ∧
    W.cell? ⟨g, k * 6, none⟩ = some (.int .u8 x.f0.f0) ∧ W.cell? ⟨g, k * 6 + 1, none⟩ = some (.int .u8 x.f0.f1) ∧ W.cell? ⟨g, k * 6 + 2, none⟩ = some (.int .u8 x.f0.f2) ∧ W.cell? ⟨g, k * 6 + 3, none⟩ = some (.int .u8 x.f0.f3) ∧ W.cell? ⟨g, k * 6 + 4, none⟩ = some (.int .u64 x.f1) ∧ W.cell? ⟨g, k * 6 + 5, none⟩ = some (.int .u64 x.f2) := by
  obtain ⟨x, hx⟩ : ∃ x, L[k]? = some x := ⟨_, List.getElem?_eq_getElem hk⟩
  rcases h.2 with ⟨h0, hz⟩ | ⟨g, cap', cur, hv, hg, hb, hn, hcp, hz, ht⟩
  · omega
  · cases hv
    have key : ∀ i, i < 6 → W.cell? ⟨g, k * 6 + i, none⟩ = (scells x)[i]? := fun i hi => by
      rw [blk_cell hb, ← Array.getElem?_toList]
      have h1 : (cur.toList.take (L.length * 6))[k * 6 + i]? = (L.flatMap scells)[k * 6 + i]? := by rw [ht]
      rw [List.getElem?_take_of_lt (by omega)] at h1
      show cur.toList[k * 6 + i]? = _
      rw [h1]
      have hL : L = L.take k ++ x :: L.drop (k + 1) := by
        obtain ⟨_, e⟩ := List.getElem?_eq_some_iff.1 hx
        rw [← e, List.getElem_cons_drop, List.take_append_drop]
      conv => lhs; rw [hL]
      rw [List.flatMap_append, List.flatMap_cons, List.getElem?_append_right (by rw [smap_len, List.length_take]; omega), smap_len, List.length_take, Nat.min_eq_left (by omega), List.getElem?_append_left (by rw [scells_length]; omega), show k * 6 + i - k * 6 = i by omega]
    exact ⟨g, x, rfl, hx, key 0 (by decide), key 1 (by decide), key 2 (by decide), key 3 (by decide), key 4 (by decide), key 5 (by decide)⟩
/-- The actors' words. -/
def actB (x y : S23) : Bool := x.f0 == y.f0 && (x.f1 == y.f1 && (x.f2 == y.f2 && (x.f3 == y.f3)))
theorem actB_iff (x y : S23) : actB x y = true ↔ x = y := by
  obtain ⟨a, b, c, d⟩ := x
  obtain ⟨a', b', c', d'⟩ := y
  simp [actB]
theorem addAll_nil_eq {l m : List Vd} (h : ∀ x, x ∈ m ↔ x ∈ l) : addAll [] m = addAll [] l := by
  refine rising_unique (rising_addAll _ _ (by simp [Rising])) (rising_addAll _ _ (by simp [Rising])) fun x => ?_
  rw [mem_addAll, mem_addAll, h x]
/-- What the first half leaves: a row of the same dots. -/
def Mid (W : World) (v1 : Value) (l : List Vd) (w : World) : Prop := ∃ l' : List Vd, w.ownsRow W.heap.size 26 5 v1 l.length (l'.flatMap venc) ∧ l'.Perm l ∧ Below W.heap.size W w
set_option maxRecDepth 100000 in
set_option maxHeartbeats 8000000 in
theorem dspans_c (v : Value) (l : List Vd) (a b : Int) (W : World) (hl : DRow W v l (fun q => W.heap.size ≤ q)) (hll : l.length < 4611686018427387904) :
    Calls Try.prog 5 #[v, .int .i64 a, .int .i64 b] W fun e w' => e = .returned (.bool true) ∧ Below W.heap.size W w' := by
  have HL := Aside0.mk hl
  obtain ⟨p, cap, rfl, hrow⟩ := hl
  clear hrow
  by_cases c1 : (l.length : Int) > 60
  · go_enter Try.func5, Try.ntmps5
    go_wp2_with (go_at_call 8; refine (alive_c _).mono ?_; rintro e w1 ⟨rfl, hb1⟩)
    go_ret
    exact ⟨rfl, hb1⟩
  have K1 : Aside0 (l.length ≤ 60) := ⟨by omega⟩
  clear hll
  have HD := Aside0.mk (HL.out.to (no := fun _ => False) (Below.refl _ _) (fun q h => h.elim))
  go_enter Try.func5, Try.ntmps5
  go_upto_region 4 with (at_builtin; refine wpList_append_d rfl _ _ rfl W.heap.size (.slice none 0 0) 0 [] rfl (World.ownsRow_nil _ _ _ _) (.slice p l.length cap) l (fun _ => False) rfl HD.out (by have := K1.out; omega) (Nat.le_refl _) ?_; intro v1 w1 hown1 hgrow1)
  rw [Nat.zero_add, List.nil_append] at hown1
  have hB1 : Below W.heap.size W w1 := ⟨hgrow1.os, hgrow1.tape, hgrow1.output, hgrow1.size, fun j hj => hgrow1.block j hj (fun e => by simp [Value.ownBlock] at e)⟩
  obtain ⟨p1, c1', hv1, _⟩ := drow_owns hown1
  subst hv1
  have H1 := Aside0.mk (And.intro hown1 hB1)
  clear hown1 hgrow1 hB1
  go_cut [37] (fun s37 wx => ∃ c : Bool, s37 = .bool c ∧ (c = true → ((0 ≤ a ∧ 0 ≤ b) ∧ (a < l.length ∧ b < l.length))) ∧ w1 = wx)
  case first =>
    by_cases ha : 0 ≤ a
    · by_cases hb : 0 ≤ b
      · by_cases ha2 : a < l.length
        · by_cases hb2 : b < l.length
          · go_wp2
            go_meet
            exact ⟨true, rfl, fun _ => ⟨⟨ha, hb⟩, ha2, hb2⟩, rfl⟩
          · go_wp2
            go_meet
            exact ⟨false, rfl, (fun h => by cases h), rfl⟩
        · go_wp2
          go_meet
          exact ⟨false, rfl, (fun h => by cases h), rfl⟩
      · go_wp2
        go_meet
        exact ⟨false, rfl, (fun h => by cases h), rfl⟩
    · go_wp2
      go_meet
      exact ⟨false, rfl, (fun h => by cases h), rfl⟩
  case rest =>
    obtain ⟨c, rfl, hcc, rfl⟩ := hcut
    have HC := Aside0.mk hcc
    clear hcc
    go_upto_if 37 with (fail)
    go_cut [] (fun wx => Mid W (.slice p1 l.length c1') l wx)
    case first =>
      cases c with
      | true =>
        obtain ⟨⟨ha, hb⟩, ha2, hb2⟩ := HC.out rfl
        obtain ⟨i, rfl⟩ := Int.eq_ofNat_of_zero_le ha
        obtain ⟨j, rfl⟩ := Int.eq_ofNat_of_zero_le hb
        have hi : i < l.length := by omega
        have hj : j < l.length := by omega
        rcases H1.out.1.2 with ⟨h0, hz⟩ | ⟨g, cap', cur, hv, hg, hbb, hn, hcp, hz, ht⟩
        · omega
        cases hv
        have hH : HoldsK venc 5 w1 g 0 l.toArray := holdsK_block hbb ht
        have hgl : g < w1.heap.size := (Array.getElem?_eq_some_iff.1 hbb).1
        have R : RowK venc 5 w1 g 0 l.toArray := ⟨venc_length, venc_one, hH, hgl⟩
        have S1 : SWK venc 5 w1 g 0 l.toArray w1 := SWK.start hH
        have hi' : i < l.toArray.size := by simpa using hi
        have hj' : j < l.toArray.size := by simpa using hj
        have HS := Aside0.mk (S1.swapped R i j hi' hj')
        have st1 := run_store_d (S1.st1 R rfl Try.prog i hi' l.toArray[j]!)
        have st2 := run_store_d (S1.st2 R rfl Try.prog i j hi' hj' l.toArray[j]! l.toArray[i]!)
        obtain ⟨q, off, x, e1, hx, hq, x0, x1, x2, x3, x4⟩ := (drow_owns H1.out.1).at hi
        cases e1
        obtain ⟨q, off, y, e1, hy, hq', y0, y1, y2, y3, y4⟩ := (drow_owns H1.out.1).at hj
        cases e1
        have ex : l.toArray[i]! = x := by
          obtain ⟨_, e⟩ := List.getElem?_eq_some_iff.1 hx
          rw [getElem!_pos l.toArray i hi']; simpa using e
        have ey : l.toArray[j]! = y := by
          obtain ⟨_, e⟩ := List.getElem?_eq_some_iff.1 hy
          rw [getElem!_pos l.toArray j hj']; simpa using e
        rw [ex, ey] at HS st2
        rw [ey] at st1
        simp only [Nat.zero_add] at x0 x1 x2 x3 x4 y0 y1 y2 y3 y4 st1 st2 HS
        have hex : ∀ c, c < 5 → ∃ u, (w1.setCells g (i * 5) (venc y)).cell? ⟨g, j * 5 + c, none⟩ = some u := fun c hc => by
          have hS0 := holds_setCells_c hH (i * 5) (venc y) (by rw [venc_length, size_flatK]; exact rowK_bnd l.toArray 5 i hi')
          have ht0 : j * 5 + c < (setMany (flatK venc 5 l.toArray) (i * 5) (venc y)).size := by
            rw [size_setMany, size_flatK]
            have := rowK_bnd l.toArray 5 j hj'
            omega
          have h3 := hS0 (j * 5 + c) ht0
          rw [Nat.zero_add, Nat.zero_add] at h3
          exact ⟨_, h3.1⟩
        have ST1 := Aside0.mk st1
        have ST2 := Aside0.mk st2
        have HG := Aside0.mk (And.intro hg (And.intro hbb (And.intro hn (And.intro hcp (And.intro hz (And.intro hi' hj'))))))
        clear R S1 hH st1 st2 hbb ht ex ey hx hy hg hn hcp hz hi' hj'
        have hfz : ∀ o, w1.frozen? ⟨g, o, none⟩ = false := fun o => blk_frozen HG.out.2.1 o
        obtain ⟨u0, hu0⟩ := hex 0 (by decide)
        have hv0 : (((((w1.setCell ⟨g, i * 5, none⟩ (.int .u8 y.1.f0.f0)).setCell ⟨g, i * 5 + 1, none⟩ (.int .u8 y.1.f0.f1)).setCell ⟨g, i * 5 + 2, none⟩ (.int .u8 y.1.f0.f2)).setCell ⟨g, i * 5 + 3, none⟩ (.int .u8 y.1.f0.f3)).setCell ⟨g, i * 5 + 4, none⟩ (.int .u64 y.1.f1)).cell? ⟨g, j * 5, none⟩ = some u0 := hu0
        obtain ⟨u1, hu1⟩ := hex 1 (by decide)
        have hv1 : (((((w1.setCell ⟨g, i * 5, none⟩ (.int .u8 y.1.f0.f0)).setCell ⟨g, i * 5 + 1, none⟩ (.int .u8 y.1.f0.f1)).setCell ⟨g, i * 5 + 2, none⟩ (.int .u8 y.1.f0.f2)).setCell ⟨g, i * 5 + 3, none⟩ (.int .u8 y.1.f0.f3)).setCell ⟨g, i * 5 + 4, none⟩ (.int .u64 y.1.f1)).cell? ⟨g, j * 5 + 1, none⟩ = some u1 := hu1
        obtain ⟨u2, hu2⟩ := hex 2 (by decide)
        have hv2 : (((((w1.setCell ⟨g, i * 5, none⟩ (.int .u8 y.1.f0.f0)).setCell ⟨g, i * 5 + 1, none⟩ (.int .u8 y.1.f0.f1)).setCell ⟨g, i * 5 + 2, none⟩ (.int .u8 y.1.f0.f2)).setCell ⟨g, i * 5 + 3, none⟩ (.int .u8 y.1.f0.f3)).setCell ⟨g, i * 5 + 4, none⟩ (.int .u64 y.1.f1)).cell? ⟨g, j * 5 + 2, none⟩ = some u2 := hu2
        obtain ⟨u3, hu3⟩ := hex 3 (by decide)
        have hv3 : (((((w1.setCell ⟨g, i * 5, none⟩ (.int .u8 y.1.f0.f0)).setCell ⟨g, i * 5 + 1, none⟩ (.int .u8 y.1.f0.f1)).setCell ⟨g, i * 5 + 2, none⟩ (.int .u8 y.1.f0.f2)).setCell ⟨g, i * 5 + 3, none⟩ (.int .u8 y.1.f0.f3)).setCell ⟨g, i * 5 + 4, none⟩ (.int .u64 y.1.f1)).cell? ⟨g, j * 5 + 3, none⟩ = some u3 := hu3
        obtain ⟨u4, hu4⟩ := hex 4 (by decide)
        have hv4 : (((((w1.setCell ⟨g, i * 5, none⟩ (.int .u8 y.1.f0.f0)).setCell ⟨g, i * 5 + 1, none⟩ (.int .u8 y.1.f0.f1)).setCell ⟨g, i * 5 + 2, none⟩ (.int .u8 y.1.f0.f2)).setCell ⟨g, i * 5 + 3, none⟩ (.int .u8 y.1.f0.f3)).setCell ⟨g, i * 5 + 4, none⟩ (.int .u64 y.1.f1)).cell? ⟨g, j * 5 + 4, none⟩ = some u4 := hu4
        clear hex hu0 hu1 hu2 hu3 hu4
        go_upto_region 5 with (fail)
        go_region
        all_goals
          go_wp2_with fail
          go_meet
          have hM : Mid W (.slice (some ⟨g, 0, none⟩) l.length c1') l ((w1.drew.setCells g (i * 5) (venc y)).setCells g (j * 5) (venc x)) := by
            obtain ⟨nn, os, hW⟩ := HS.out
            obtain ⟨hg, hbb, hn, hcp, hz, hi', hj'⟩ := HG.out
            have hlen : (swp l.toArray i j).toList.length = l.length := by simpa using (swp_perm hi' hj').length_eq
            refine ⟨(swp l.toArray i j).toList, ?_, by simpa using swp_perm hi' hj', ?_⟩
            · rw [hW]
              have h9 := ownsRow_sortedK (n := nn) (os := os) (ts := (swp l.toArray i j).toList) (ss := l) hlen hg hbb hn hcp hz
              rw [Array.toArray_toList] at h9
              exact h9
            · rw [hW]
              exact H1.out.2.grown (grownBy_sortedK _) H1.out.2.size (fun k hk => by cases hk; exact hg)
          rw [← chain10 w1 g (i * 5) (j * 5) x y] at hM
          exact hM
      | false =>
        go_wp2
        go_meet
        exact ⟨l, H1.out.1, List.Perm.refl _, H1.out.2⟩
    case rest =>
      clear HC
      generalize wc = w2 at *
      obtain ⟨l', hown2, hperm, hB2⟩ := hcut
      have hl' : l'.length = l.length := hperm.length_eq
      have hD2 : DRow w2 (.slice p1 l.length c1') l' (fun q => q < W.heap.size) := by
        have h := hown2
        rw [← hl'] at h
        have h := drow_owns h
        rw [hl'] at h
        exact h
      have hSe := addAll_nil_eq (l := l) (m := l' ++ l') fun x => by rw [List.mem_append, or_self]; exact hperm.mem_iff
      have hN1 := new_c (.slice p l.length cap) l w2 (HL.out.to hB2 (fun q h => h.elim)) (Nat.lt_of_le_of_lt K1.out (by decide))
      have hSl : (addAll [] l).length ≤ 60 := by have := addAll_length [] l; have := K1.out; simp at *; omega
      have hSr := rising_addAll l [] (by simp [Rising])
      have hSm : ∀ d ∈ addAll [] l, d ∈ l ∧ 1 ≤ d.1.f1 := fun d hd => by
        rcases (mem_addAll d l []).1 hd with h | h
        · cases h
        · exact h
      generalize addAll [] l = S at *
      have HS := Aside0.mk (And.intro hSe (And.intro hSl (And.intro hSr hSm)))
      have H2 := Aside0.mk (And.intro hown2 (And.intro hB2 (And.intro hl' hD2)))
      have HN1 := Aside0.mk hN1
      clear hSe hSl hSr hSm hown2 hB2 hl' hD2 hN1 hperm c1
      go_wp2_with fail
      refine HN1.out.mono ?_
      rintro e w3 ⟨B, bs, rfl, hS3, hb3, hB, hb⟩
      have H3 := Aside0.mk (And.intro hS3 (And.intro hb3 (And.intro hB hb)))
      clear hS3 hb3 hB hb
      go_wp2_with (at_builtin; go_loud (refine wpList_append_d rfl _ _ rfl W.heap.size (.slice p1 l.length c1') l.length (l'.flatMap venc) rfl (own_bel H2.out.1 H3.out.2.1) (.slice p1 l.length c1') l' (fun _ => False) rfl (H2.out.2.2.2.below H3.out.2.1 (fun q _ _ h => h)) (by have := K1.out; have := H2.out.2.2.1; omega) (Nat.le_trans H2.out.2.1.size H3.out.2.1.size) ?_; intro v5 w5 hown5 hg5))
      have el : l.length + l'.length = (l' ++ l').length := by rw [List.length_append]; have := H2.out.2.2.1; omega
      rw [el, ← List.flatMap_append] at hown5
      clear el
      obtain ⟨p5, c5, hv5⟩ := owns_slice hown5
      subst hv5
      have hD5 := drow_owns hown5
      have hN2 := new_c _ (l' ++ l') w5 (hD5.below (Below.refl _ _) (no' := fun _ => False) (fun q _ _ h => h)) (Nat.lt_of_le_of_lt (show (l' ++ l').length ≤ 120 by rw [List.length_append]; have := H2.out.2.2.1; have := K1.out; omega) (by decide))
      rw [HS.out.1] at hN2
      have hzB := H3.out.1.ltB
      have hzb := H3.out.1.ltb
      have hS5 : SetAt w5 B bs l.length S := H3.out.1.keep (hg5.block B hzB (fun e => by have h := own_lt H2.out.1 _ e.symm; have := H3.out.2.2.1; omega)) (hg5.block bs hzb (fun e => by have h := own_lt H2.out.1 _ e.symm; have := H3.out.2.2.2; omega))
      have hB5 : Below W.heap.size W w5 := (below_step H2.out.2.1 H3.out.2.1).grown hg5 (below_step H2.out.2.1 H3.out.2.1).size (fun j e => (own_lt H2.out.1 _ e).1)
      have H5 := Aside0.mk (And.intro hS5 hB5)
      clear hS5 hB5 hown5 hg5 hD5 hzB hzb
      refine hN2.mono ?_
      rintro e w6 ⟨B2, b2, rfl, hS6, hb6, hB6, hb6'⟩
      clear hN2
      have hSl := HS.out.2.1
      have hC6 := spans_c B bs l.length S w6 (H5.out.1.below hb6) (by omega)
      have hXl := spansOf_len S
      have hXg := fun i y z => @spans_gap S HS.out.2.2.1 i y z
      have hXs := fun s => @spans_start S HS.out.2.2.1 s
      have hC2 := fun w (h : SetAt w B2 b2 (l' ++ l').length S) => spans_c B2 b2 _ S w h (by omega)
      generalize spansOf S = X at *
      have H6 := Aside0.mk (And.intro hS6 hb6)
      have HX := Aside0.mk (And.intro hXl (And.intro hXg (And.intro hXs hC2)))
      have HC6 := Aside0.mk hC6
      clear hS6 hb6 hB6 hb6' hSl hC6 hXl hXg hXs hC2
      go_wp2_with fail
      refine HC6.out.mono ?_
      rintro e w7 ⟨vx, rfl, hrx, _, hb7⟩
      obtain ⟨px, cx, hvx⟩ := owns_slice hrx
      subst hvx
      have H7 := Aside0.mk (And.intro hrx hb7)
      clear hrx hb7
      go_wp2_with fail
      go_loopw [11, 12] (fun n i wr => ∃ k : Nat, k ≤ X.length ∧ i = .int .i64 k ∧ n = .int .i64 k ∧ Below w7.heap.size w7 wr) (fun _ i _ => X.length - (intOf i).toNat)
      case atStart => exact ⟨0, Nat.zero_le _, rfl, rfl, Below.refl _ _⟩
      case round =>
        obtain ⟨k, hk, rfl, rfl, hbk⟩ := hrel
        generalize wr = w8 at *
        have H8 := Aside0.mk hbk
        clear hbk
        by_cases hlt : k < X.length
        · have hwk := Aside0.mk (wrap_k k X.length hlt (by have := HX.out.1; have := HS.out.2.1; omega))
          obtain ⟨gx, s, rfl, hs, s0, s1, s2, s3, s4, s5⟩ := spans_at (own_bel H7.out.1 H8.out) hlt
          obtain ⟨ds, hds, hda, hdn⟩ := HX.out.2.2.1 s (List.mem_of_getElem? hs)
          have hSS := Aside0.mk (And.intro hs (And.intro hds (And.intro hda hdn)))
          clear hs hds hda hdn
          go_upto_region 14 with (fail)
          go_cut [102] (fun s102 wx => s102 = .bool false ∧ Below w8.heap.size w8 wx)
          case first =>
            by_cases h0 : k = 0
            · have hd0 : decide ((0 : Int) < (k : Int)) = false := decide_eq_false (by omega)
              clear s0 s1 s2 s3 s4 s5
              repeat (go_quiet (fail); try go_wp2_with fail)
              go_meet
              exact ⟨rfl, pw_below_drewN (Below.refl _ _) _⟩
            · obtain ⟨m, hkm⟩ : ∃ m, k = m + 1 := ⟨k - 1, by omega⟩
              have hm : m < X.length := by omega
              obtain ⟨gz, z, e1, hz, z0, z1, z2, z3, z4, z5⟩ := spans_at (own_bel H7.out.1 H8.out) hm
              cases e1
              have hgap := HX.out.2.1 m s z hz (by rw [← hkm]; exact hSS.out.1)
              have hst : 1 ≤ s.f1 := by
                rw [← hSS.out.2.2.2]
                exact (HS.out.2.2.2 ds hSS.out.2.1).2
              have hsr : s.f1 < 18446744073709551616 := by
                rw [← hSS.out.2.2.2]
                exact ds.2.n.2
              have hd0 : decide ((0 : Int) < (k : Int)) = true := decide_eq_true (by omega)
              have hd0' : decide (0 < k) = true := decide_eq_true (by omega)
              have hd0'' : 0 < k := by omega
              have hwi : IntKind.i64.wrap ((k : Int) - 1) = m := by rw [IntKind.wrap_i64]; have := HX.out.1; have := HS.out.2.1; omega
              have hp0 : (0 : Int) ≤ (m : Int) := by omega
              have hp1 : (k : Int) < (X.length : Int) := by omega
              have hp2 : (m : Int) < (X.length : Int) := by omega
              have hd1 : decide ((k : Int) < (X.length : Int)) = true := decide_eq_true hp1
              have hd2 : decide ((m : Int) < (X.length : Int)) = true := decide_eq_true hp2
              have hq : ∀ w, (binOp .eql 23 (.agg #[.int .u8 s.f0.f0, .int .u8 s.f0.f1, .int .u8 s.f0.f2, .int .u8 s.f0.f3]) (.agg #[.int .u8 z.f0.f0, .int .u8 z.f0.f1, .int .u8 z.f0.f2, .int .u8 z.f0.f3])).run Try.prog w = .ok (.bool (actB s.f0 z.f0)) w := fun w => eq_actor w _ _ _ _ _ _ _ _
              obtain ⟨u, hu⟩ : ∃ u : Int, u = s.f1 - 1 := ⟨_, rfl⟩
              have hwu : IntKind.u64.wrap (s.f1 - 1) = u := by
                rw [hu]
                simp only [IntKind.wrap, IntKind.bits, IntKind.signed]
                simp
                omega
              have hle : actB s.f0 z.f0 = true → decide (u ≤ z.f2) = false := fun h => decide_eq_false (by have := hgap ((actB_iff _ _).1 h); omega)
              generalize actB s.f0 z.f0 = t at *
              clear hgap hst hsr hu hz h0 hkm hm
              cases t with
              | false =>
                clear hle
                go_quiet (fail)
                go_wp2_with fail
                go_meet
                exact ⟨rfl, pw_below_drewN (Below.refl _ _) _⟩
              | true =>
                have hle' := hle rfl
                clear hle
                go_quiet (fail)
                go_wp2_with fail
                go_meet
                exact ⟨rfl, pw_below_drewN (Below.refl _ _) _⟩
          case rest =>
            obtain ⟨rfl, hbc⟩ := hcut
            clear s0 s1 s2 s3 s4 s5
            generalize wc = w9 at *
            have H9 := Aside0.mk (below_step H8.out hbc)
            clear hbc
            go_wp2_with fail
            go_loopw [11, 13] (fun n j wr => ∃ t : Nat, t ≤ l.length ∧ j = .int .i64 t ∧ n = .int .i64 k ∧ (∀ d ∈ l.take t, ¬ (d.1.f0 = s.f0 ∧ d.1.f1 = s.f1)) ∧ Below w9.heap.size w9 wr) (fun _ j _ => l.length - (intOf j).toNat)
            case atStart => exact ⟨0, Nat.zero_le _, rfl, rfl, fun d hd => by simp at hd, Below.refl _ _⟩
            case round =>
              obtain ⟨t, ht, rfl, rfl, hno, hbt⟩ := hrel
              generalize wr = w10 at *
              have H10 := Aside0.mk (below_step H9.out hbt)
              have HB10 := Aside0.mk hbt
              have HNO := Aside0.mk hno
              clear hno hbt
              by_cases hlt2 : t < l.length
              · have hwt := Aside0.mk (wrap_k t l.length hlt2 (by have := K1.out; omega))
                obtain ⟨q, off, d, rfl, hd, hq, d0, d1, d2, d3, d4⟩ := (HL.out.to (no := fun _ => False) (below_step (below_step (below_step H5.out.2 H6.out.2) H7.out.2) H10.out) (fun q h => h.elim)).at hlt2
                obtain ⟨gx2, s', e1, hs', s0, s1, s2, s3, s4, s5⟩ := spans_at (own_bel H7.out.1 H10.out) hlt
                cases e1
                obtain rfl : s' = s := Option.some.inj (hs'.symm.trans hSS.out.1)
                clear hs'
                have hq1 : ∀ w, (binOp .eql 23 (.agg #[.int .u8 d.1.f0.f0, .int .u8 d.1.f0.f1, .int .u8 d.1.f0.f2, .int .u8 d.1.f0.f3]) (.agg #[.int .u8 s'.f0.f0, .int .u8 s'.f0.f1, .int .u8 s'.f0.f2, .int .u8 s'.f0.f3])).run Try.prog w = .ok (.bool (actB d.1.f0 s'.f0)) w := fun w => eq_actor w _ _ _ _ _ _ _ _
                have hpt : (t : Int) < (l.length : Int) := by omega
                have hpk : (k : Int) < (X.length : Int) := by omega
                have hd1 : decide ((k : Int) < (X.length : Int)) = true := decide_eq_true hpk
                have hd2 : decide ((t : Int) < (l.length : Int)) = true := decide_eq_true hpt
                have hHit := Aside0.mk (show actB d.1.f0 s'.f0 = true → (d.1.f1 == s'.f1) = true → d.1.f0 = s'.f0 ∧ d.1.f1 = s'.f1 from fun h1 h2 => ⟨(actB_iff _ _).1 h1, beq_iff_eq.1 h2⟩)
                have hMiss := Aside0.mk (show (actB d.1.f0 s'.f0 && (d.1.f1 == s'.f1)) = false → ∀ x ∈ l.take (t + 1), ¬ (x.1.f0 = s'.f0 ∧ x.1.f1 = s'.f1) from fun h x hx => by
                  rw [List.take_add_one, hd, List.mem_append] at hx
                  rcases hx with hx | hx
                  · exact HNO.out x hx
                  · have hx' : x = d := by simpa using hx
                    subst hx'
                    rintro ⟨e1, e2⟩
                    rw [(actB_iff _ _).2 e1, beq_iff_eq.2 e2] at h
                    cases h)
                generalize hzn : (d.1.f1 == s'.f1) = zn at *
                generalize actB d.1.f0 s'.f0 = za at *
                clear hd
                cases za with
                | false =>
                  clear hzn
                  go_wp2_with fail
                  go_quiet (fail)
                  go_wp2_with fail
                  exact ⟨⟨t + 1, Nat.succ_le_of_lt hlt2, by first | exact iv_succ hwt.out | exact iv_cast _, rfl, hMiss.out rfl, pw_below_drewN HB10.out _⟩, by first | exact iv_meas hwt.out hlt2 | exact iv_meas2 hlt2⟩
                | true =>
                  cases zn with
                  | false =>
                    go_wp2_with fail
                    go_quiet (fail)
                    go_wp2_with fail
                    exact ⟨⟨t + 1, Nat.succ_le_of_lt hlt2, by first | exact iv_succ hwt.out | exact iv_cast _, rfl, hMiss.out rfl, pw_below_drewN HB10.out _⟩, by first | exact iv_meas hwt.out hlt2 | exact iv_meas2 hlt2⟩
                  | true =>
                    go_wp2_with fail
                    go_quiet (fail)
                    go_wp2_with fail
                    exact ⟨⟨k + 1, Nat.succ_le_of_lt hlt, iv_succ hwk.out, iv_succ hwk.out, pw_below_drewN H10.out _⟩, iv_meas hwk.out hlt⟩
              · exfalso
                have htl : t = l.length := by omega
                subst htl
                exact HNO.out ds (by rw [List.take_length]; exact (HS.out.2.2.2 ds hSS.out.2.1).1) ⟨hSS.out.2.2.1, hSS.out.2.2.2⟩
        · have hkX : k = X.length := by omega
          subst hkX
          have hd1 : decide ((X.length : Int) < (X.length : Int)) = false := decide_eq_false (Int.lt_irrefl _)
          go_wp2_with fail
          refine (alive_c _).mono ?_
          rintro e w9 ⟨rfl, hb9⟩
          have hS9 := ((H6.out.1.below H7.out.2).below H8.out).below hb9
          have HC9 := Aside0.mk (HX.out.2.2.2 w9 hS9)
          have H9 := Aside0.mk (And.intro hS9 hb9)
          clear hS9 hb9
          go_wp2_with fail
          refine HC9.out.mono ?_
          rintro e w10 ⟨vx2, rfl, hrx2, _, hb10⟩
          obtain ⟨px2, cx2, hv2⟩ := owns_slice hrx2
          subst hv2
          have HSP := Aside0.mk (sameSpans_c (own_bel H7.out.1 (below_step (below_step H8.out H9.out.2) hb10)) hrx2 (Nat.lt_of_le_of_lt (show X.length ≤ 60 from Nat.le_trans HX.out.1 HS.out.2.1) (by decide)))
          have H10 := Aside0.mk hb10
          clear hrx2 hb10 HC9
          go_wp2_with fail
          refine HSP.out.mono ?_
          rintro e w11 ⟨rfl, nq, rfl⟩
          have hS11 : SetAt (w10.drewN nq) B bs l.length S := (((((H5.out.1.below H6.out.2).below H7.out.2).below H8.out).below H9.out.2).below H10.out).below (pw_below_drewN (Below.refl _ _) nq)
          have hT11 : SetAt (w10.drewN nq) B2 b2 (l' ++ l').length S := (H9.out.1.below H10.out).below (pw_below_drewN (Below.refl _ _) nq)
          have HLi := Aside0.mk (list_c B bs _ S _ hS11 (by have := HS.out.2.1; omega))
          have HT := Aside0.mk hT11
          clear hS11 hT11 HSP
          go_wp2_with fail
          refine HLi.out.mono ?_
          rintro e w12 ⟨va, rfl, hra, _, hb12⟩
          obtain ⟨pa, ca, hva⟩ := owns_slice hra
          subst hva
          have HLt := Aside0.mk (list_c B2 b2 _ S w12 (HT.out.below hb12) (by have := HS.out.2.1; omega))
          have H12 := Aside0.mk (And.intro hra hb12)
          clear hra hb12 HLi
          go_wp2_with fail
          refine HLt.out.mono ?_
          rintro e w13 ⟨vb, rfl, hrb, _, hb13⟩
          obtain ⟨pb, cb, hvb⟩ := owns_slice hrb
          subst hvb
          have HSD := Aside0.mk (sameDots_c (own_bel H12.out.1 hb13) hrb (Nat.lt_of_le_of_lt HS.out.2.1 (by decide)))
          have H13 := Aside0.mk hb13
          clear hrb hb13 HLt
          go_wp2_with fail
          refine HSD.out.mono ?_
          rintro e w14 ⟨rfl, nq2, rfl⟩
          clear HSD
          go_wp2_with fail
          go_ret
          exact ⟨rfl, pw_below_drewN (below_step (below_step (pw_below_drewN (below_step (below_step (below_step (below_step (below_step H5.out.2 H6.out.2) H7.out.2) H8.out) H9.out.2) H10.out) nq) H12.out.2) H13.out) nq2⟩
end Go.Proofs.Ythljboogcjpgiaa.Ds
