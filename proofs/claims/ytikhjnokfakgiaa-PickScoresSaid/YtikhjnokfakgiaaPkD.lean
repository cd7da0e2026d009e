/- pick.Bottom: walked. -/
import Derived.Test.YtikhjnokfakgiaaPkC
import Derived.KernelRfl
set_option linter.unusedSimpArgs false
set_option linter.unusedVariables false
namespace Go.Proofs.Ytikhjnokfakgiaa.Pk
open Go.Sort Go.RowKit Go.Maps Go.Proofs Go.Proofs.Ytikhjnokfakgiaa.Rw Go.Proofs.Ytikhjnokfakgiaa.PAll Go.Proofs.YtikhjnokfakgiaaW.PrintWords Go.Proofs.Ytikhjnokfakgiaa.Pb
attribute [local go_sem] put_fresh
attribute [-go_sem] Builtin.append_

/-! ### a set of numbers in the heap -/
theorem nkeyed : Keyed Try.prog 3 := int_keyed Try.underlying3
def NSet (W : World) (b N : Nat) (S : Int → Bool) : Prop := ∃ D : DataW Unit, W.ownsMap Try.prog 3 unitElem b N D ∧ ∀ p, (Lit.int .i64 p).wf = true → has D (.int .i64 p) = S p
theorem zero_unit (w : World) : (zeroValue 67).run Try.prog w = .ok (.agg #[]) w := by kernel_rfl
theorem NSet.lt {W : World} {b N : Nat} {S : Int → Bool} (h : NSet W b N S) : b < W.heap.size := by
  obtain ⟨D, hD, _⟩ := h
  exact hD.lt
theorem NSet.keep {W W' : World} {b N : Nat} {S : Int → Bool} (h : NSet W b N S) (hb : W'.heap[b]? = W.heap[b]?) : NSet W' b N S := by
  obtain ⟨D, ⟨es, clock, hh, F, hn, e⟩, hS⟩ := h
  exact ⟨D, ⟨es, clock, hb.trans hh, F, hn, e⟩, hS⟩
theorem NSet.below {W W' : World} {b N : Nat} {S : Int → Bool} (h : NSet W b N S) (hb : Below W.heap.size W W') : NSet W' b N S := h.keep (hb.block b h.lt)
theorem NSet.more {W : World} {b N N' : Nat} {S : Int → Bool} (h : NSet W b N S) (hn : N ≤ N') : NSet W b N' S := by
  obtain ⟨D, hD, hS⟩ := h
  exact ⟨D, hD.mono hn, hS⟩
theorem NSet.look {W : World} {b N : Nat} {S : Int → Bool} (h : NSet W b N S) {p : Int} (hp : (Lit.int .i64 p).wf = true) :
    (Instr.lookup 66 (.map (some b)) (.int .i64 p) true).run Try.prog W = .ok (.tuple #[.agg #[], .bool (S p)]) W := by
  obtain ⟨D, hD, hS⟩ := h
  obtain ⟨v, ps, hup, hv⟩ := hD.look_ok nkeyed Try.underlying66 (zero_unit W) (unitElem_mk (H := Unit)) (keyOf_int_mk Try.underlying3 hp)
  obtain rfl := (unitElem_inv hv).1
  rw [hup, hS p hp]
theorem NSet.put {W : World} {b N : Nat} {S : Int → Bool} (h : NSet W b N S) (hN : N < maxLen) {p : Int} (hp : (Lit.int .i64 p).wf = true) :
    ∃ W', (Instr.mapUpdate 66 (.map (some b)) (.int .i64 p) (.agg #[])).run Try.prog W = .ok () W' ∧ NSet W' b (N + 1) (fun q => q == p || S q) ∧ W.grownBy W' (some b) := by
  obtain ⟨D, hD, hS⟩ := h
  obtain ⟨W', hup, hw, hg⟩ := hD.update nkeyed Try.underlying66 hN (keyOf_int_mk Try.underlying3 hp) (val := .agg #[]) (unitElem_mk (H := Unit))
  have ht := hD.tidy nkeyed
  refine ⟨W', hup, ⟨_, hw, fun q hq => ?_⟩, hg⟩
  by_cases e : q = p
  · subst e
    rw [has_put_same ht.isMap (by simp [WideAt.IsKeyLit])]
    simp
  · rw [has_put_other (by simpa using e), hS q hq]
    simp [e]
theorem NSet.new (W : World) : NSet (W.alloc (.map #[] 0)) W.heap.size 0 (fun _ => false) := ⟨_, World.ownsMap_made W _ _ _, fun _ _ => rfl⟩

theorem NSet.eq {W : World} {b N : Nat} {S S' : Int → Bool} (h : NSet W b N S) (e : ∀ p, S p = S' p) : NSet W b N S' := by
  obtain ⟨D, hD, hS⟩ := h
  exact ⟨D, hD, fun p hp => (hS p hp).trans (e p)⟩
/-- A row's block is not the map's. -/
theorem reads_map {w w' : World} {mb N : Nat} {S : Int → Bool} {A : Option Addr} {L : List Tb} (h : Reads KT w A L) (hm : NSet w mb N S) (hG : w.grownBy w' (some mb)) : Reads KT w' A L := fun h0 => by
  refine h.grown hG ?_ h0
  rintro g o rfl e
  obtain rfl : g = mb := by simpa using e
  obtain ⟨x, hx⟩ : ∃ x, L[0]? = some x := ⟨_, List.getElem?_eq_getElem h0⟩
  have h3 : w.cell? ⟨g, o + 0 * 5 + 3, none⟩ = some (.string x.f3) := h.at hx (i := 3) rfl
  obtain ⟨D, ⟨es, clock, hh, _⟩, _⟩ := hm
  simp [World.cell?, hh] at h3
def hasN (L : List Tb) (p : Int) : Bool := L.any fun x => x.f0 == p
theorem hasN_snoc (L : List Tb) (x : Tb) (p : Int) : hasN (L ++ [x]) p = (p == x.f0 || hasN L p) := by
  unfold hasN
  rw [List.any_append, List.any_cons, List.any_nil, Bool.or_false, Bool.or_comm, Bool.beq_comm]
/-- What stays in a call of Bottom. -/
structure Bz (W : World) (A A3 : Option Addr) (l all : List Tb) (V : Obj) (w : World) : Prop where
  bel : Below W.heap.size W w
  ver : w.heap[W.heap.size]? = some V
  row : Reads KT w A l
  all : Reads KT w A3 all
theorem Bz.step {W w w' : World} {A A3 : Option Addr} {l all : List Tb} {V : Obj} (h : Bz W A A3 l all V w) (hb : Below w.heap.size w w') : Bz W A A3 l all V w' :=
  ⟨h.bel.trans (hb.mono h.bel.size), (hb.block _ (Array.getElem?_eq_some_iff.1 h.ver).1).trans h.ver, h.row.below hb, h.all.below hb⟩
theorem Bz.map {W w w' : World} {A A3 : Option Addr} {l all : List Tb} {cs : Array Value} {t : TypeId} {mb N : Nat} {S : Int → Bool} (h : Bz W A A3 l all (.cells cs t (0, 0)) w) (hm : NSet w mb N S) (hW : W.heap.size ≤ mb) (hG : w.grownBy w' (some mb)) : Bz W A A3 l all (.cells cs t (0, 0)) w' := by
  have hne : W.heap.size ≠ mb := by
    rintro rfl
    obtain ⟨D, ⟨es, clock, hh, _⟩, _⟩ := hm
    have := h.ver
    rw [hh] at this
    cases this
  exact ⟨h.bel.grown hG h.bel.size (fun k e => by cases e; exact hW), (hG.block _ (Array.getElem?_eq_some_iff.1 h.ver).1 (by simpa using hne)).trans h.ver, reads_map h.row hm hG, reads_map h.all hm hG⟩
set_option maxRecDepth 100000 in
set_option maxHeartbeats 8000000 in
theorem bottom_c {W : World} {A A1 A2 : Option Addr} {c c1 c2 n m q : Nat} {l F T : List Tb} (hn : F.length = n) (hm : T.length = m) (hq : l.length = q) (hr : Reads KT W A l) (hF : Reads KT W A1 F) (hT : Reads KT W A2 T) (h1 : n ≤ 500) (h2 : m ≤ 500) (h3 : q ≤ 500) (hp : 0 < n) (hnum : ∀ x ∈ l, hasN (F ++ T) x.f0 = true) (hw : ∀ x ∈ F ++ T, (Lit.int .i64 x.f0).wf = true) (hwl : ∀ x ∈ l, (Lit.int .i64 x.f0).wf = true) (x y z v : Int) :
    Calls Try.prog 20 #[.agg #[.int .i64 x, .int .i64 y, .int .u64 z, .slice A q c], .agg #[.int .i64 v, .slice A1 n c1, .slice A2 m c2]] W fun e w' => e = .returned (.bool true) ∧ Below W.heap.size W w' := by
  have b1 := below_alloc (Below.refl W.heap.size W) (vbox x y z (.slice A q c))
  have b2 := below_alloc b1 (jbox (.int .i64 v) (.slice A1 n c1) (.slice A2 m c2))
  have hV : ((W.alloc (vbox x y z (.slice A q c))).alloc (jbox (.int .i64 v) (.slice A1 n c1) (.slice A2 m c2))).heap[W.heap.size]? = some (vbox x y z (.slice A q c)) := (heap_alloc_old _ _ (by simp)).trans (heap_alloc_new W _)
  have hJ : ((W.alloc (vbox x y z (.slice A q c))).alloc (jbox (.int .i64 v) (.slice A1 n c1) (.slice A2 m c2))).heap[W.heap.size + 1]? = some (jbox (.int .i64 v) (.slice A1 n c1) (.slice A2 m c2)) := by have := heap_alloc_new (W.alloc (vbox x y z (.slice A q c))) (jbox (.int .i64 v) (.slice A1 n c1) (.slice A2 m c2)); simpa using this
  have hsz : ((W.alloc (vbox x y z (.slice A q c))).alloc (jbox (.int .i64 v) (.slice A1 n c1) (.slice A2 m c2))).heap.size = W.heap.size + 2 := by simp
  have j1 : ((W.alloc (vbox x y z (.slice A q c))).alloc (jbox (.int .i64 v) (.slice A1 n c1) (.slice A2 m c2))).cell? ⟨W.heap.size + 1, 1, none⟩ = some (.slice A1 n c1) := blk_cell hJ 1
  have j2 : ((W.alloc (vbox x y z (.slice A q c))).alloc (jbox (.int .i64 v) (.slice A1 n c1) (.slice A2 m c2))).cell? ⟨W.heap.size + 1, 2, none⟩ = some (.slice A2 m c2) := blk_cell hJ 2
  have H0 := Aside0.mk (And.intro b2 (And.intro hV (And.intro (hr.below b2) (And.intro (hF.below b2) (hT.below b2)))))
  have HN := Aside0.mk (And.intro hn (And.intro hm (And.intro hq (And.intro hnum (And.intro hw hwl)))))
  have hmm := @run_makeMap Try.prog
  clear b1 b2 hV hJ hr hF hT hn hm hq hnum hw hwl
  go_enter Try.func20, Try.ntmps20
  go_wp2_with fail
  generalize hw0 : (W.alloc (.cells #[.int .i64 x, .int .i64 y, .int .u64 z, .slice A q c] 25)).alloc (.cells #[.int .i64 v, .slice A1 n c1, .slice A2 m c2] 34) = w0 at *
  have ba := below_alloc (Below.refl w0.heap.size w0) (.cells #[.slice A1 n c1, .slice A2 m c2] 23)
  have hbk : (w0.alloc (.cells #[.slice A1 n c1, .slice A2 m c2] 23)).heap[W.heap.size + 2]? = some (.cells #[.slice A1 n c1, .slice A2 m c2] 23 (0, 0)) := by rw [← hsz]; exact heap_alloc_new w0 _
  have HC := Aside0.mk (concat_c (b := W.heap.size + 2) HN.out.1 HN.out.2.1 hbk (H0.out.2.2.2.1.below ba) (H0.out.2.2.2.2.below ba) (by omega) (by omega))
  have H1 := Aside0.mk (And.intro (H0.out.1.trans (ba.mono H0.out.1.size)) (And.intro ((ba.block _ (Array.getElem?_eq_some_iff.1 H0.out.2.1).1).trans H0.out.2.1) (H0.out.2.2.1.below ba)))
  clear ba hw0 hbk hsz j1 j2 H0
  refine HC.out.mono ?_
  rintro e w1 ⟨A3, c3, rfl, ho1, hb1⟩
  have hlen : (F ++ T).length = n + m := by rw [List.length_append, HN.out.1, HN.out.2.1]
  have HQ := Aside0.mk (And.intro HN.out.2.2.1 (And.intro HN.out.2.2.2.1 (And.intro HN.out.2.2.2.2.1 HN.out.2.2.2.2.2)))
  obtain ⟨N, hN⟩ : ∃ N, N = n + m := ⟨_, rfl⟩
  have hN1 : N ≤ 1000 := by omega
  have hN0 : 0 < N := by omega
  have hb2 := H1.out.1.trans (hb1.mono H1.out.1.size)
  have H2 : Aside0 (Bz W A A3 l (F ++ T) (vbox x y z (.slice A q c)) w1) := ⟨⟨hb2, (hb1.block _ (Array.getElem?_eq_some_iff.1 H1.out.2.1).1).trans H1.out.2.1, H1.out.2.2.below hb1, ho1.reads⟩⟩
  rw [← hN] at hlen ⊢
  have d0 : ((N : Int) == 0) = false := by rw [beq_eq_false_iff_ne]; omega
  generalize F ++ T = all at *
  clear hN hb2 ho1 hb1 HC H1 HN h1 h2 hp
  have HL := Aside0.mk hlen
  clear hlen
  have bm := below_alloc (Below.refl w1.heap.size w1) (.map #[] 0)
  have HM0 : Aside0 (NSet (w1.alloc (.map #[] 0)) w1.heap.size 0 (hasN (all.take 0)) ∧ Bz W A A3 l all (vbox x y z (.slice A q c)) (w1.alloc (.map #[] 0)) ∧ W.heap.size ≤ w1.heap.size) := ⟨⟨(NSet.new w1).eq (fun p => rfl), H2.out.step bm, H2.out.bel.size⟩⟩
  clear bm
  go_wp2_with fail
  clear hmm
  obtain ⟨mb, hmb⟩ : ∃ mb, mb = w1.heap.size := ⟨_, rfl⟩
  rw [← hmb] at HM0 ⊢
  generalize w1.alloc (.map #[] 0) = w2 at *
  clear H2 hmb
  go_loopw [27] (fun i wr => ∃ k : Nat, k ≤ N ∧ i = .int .i64 k ∧ Aside0 (NSet wr mb k (hasN (all.take k)) ∧ Bz W A A3 l all (vbox x y z (.slice A q c)) wr ∧ W.heap.size ≤ mb)) (fun i _ => N - (intOf i).toNat)
  case atStart => exact ⟨0, Nat.zero_le _, rfl, HM0⟩
  case round =>
    obtain ⟨k, hk, rfl, H3⟩ := hrel
    obtain ⟨w3, hw3⟩ : ∃ w3, w3 = wr := ⟨_, rfl⟩
    subst wr
    clear HM0
    by_cases hlt : k < N
    · have hwk := Aside0.mk (show wrap64 ((k : Int) + 1) = (k : Int) + 1 by unfold wrap64; omega)
      have hd1 : decide ((k : Int) < (N : Int)) = true := decide_eq_true (by omega)
      have hd2 : decide (k < N) = true := decide_eq_true hlt
      have hR := H3.out.2.1.all
      obtain ⟨g, o, rfl, hg⟩ := hR.where (show k < all.length by rw [HL.out]; exact hlt)
      obtain ⟨t, ht⟩ : ∃ t, all[k]? = some t := ⟨_, List.getElem?_eq_getElem (by rw [HL.out]; exact hlt)⟩
      have t0 : w3.cell? ⟨g, o + k * 5, none⟩ = some (.int .i64 t.f0) := hR.at ht (i := 0) rfl
      have t1 : w3.cell? ⟨g, o + k * 5 + 1, none⟩ = some (.int .i64 t.f1) := hR.at ht (i := 1) rfl
      have t2 : w3.cell? ⟨g, o + k * 5 + 2, none⟩ = some (.int .i64 t.f2) := hR.at ht (i := 2) rfl
      have t3 : w3.cell? ⟨g, o + k * 5 + 3, none⟩ = some (.string t.f3) := hR.at ht (i := 3) rfl
      have t4 : w3.cell? ⟨g, o + k * 5 + 4, none⟩ = some (.string t.f4) := hR.at ht (i := 4) rfl
      have bt := below_alloc (Below.refl w3.heap.size w3) (boxE t)
      have z0 : (w3.alloc (boxE t)).cell? ⟨w3.heap.size, 0, none⟩ = some (.int .i64 t.f0) := blk_cell (heap_alloc_new w3 (boxE t)) 0
      obtain ⟨w4, hup, hN4, hG4⟩ := (H3.out.1.below bt).put (by unfold maxLen; omega) (HQ.out.2.2.1 t (List.mem_of_getElem? ht))
      have H4 : Aside0 (NSet w4 mb (k + 1) (hasN (all.take (k + 1))) ∧ Bz W A (some ⟨g, o, none⟩) l all (vbox x y z (.slice A q c)) w4 ∧ W.heap.size ≤ mb) := ⟨⟨hN4.eq (fun p => by
        have : all.take (k + 1) = all.take k ++ [t] := by rw [List.take_add_one, ht]; rfl
        rw [this, hasN_snoc]), (H3.out.2.1.step bt).map (H3.out.1.below bt) H3.out.2.2 hG4, H3.out.2.2⟩⟩
      dsimp only [boxE] at hup z0
      clear hR hg ht bt hN4 hG4
      go_wp2_with fail
      exact ⟨⟨k + 1, hlt, by first | exact iw_succ k | exact iv_succ hwk.out, H4⟩, by first | exact iw_meas hlt | exact iv_meas hwk.out hlt⟩
    · obtain rfl : k = N := by omega
      have hd1 : decide ((k : Int) < (k : Int)) = false := decide_eq_false (Int.lt_irrefl _)
      have HE := Aside0.mk (ends_c (c := c3) (to_kd H3.out.2.1.all (by rw [HL.out]; omega)) (by rw [HL.out]; exact hN0) (by rw [HL.out]; omega))
      rw [HL.out] at HE
      go_wp2_with fail
      refine HE.out.mono ?_
      rintro e w5 ⟨s1, s2, rfl, hb5⟩
      have H5 : Aside0 (NSet w5 mb k (hasN all) ∧ Bz W A A3 l all (vbox x y z (.slice A q c)) w5) := ⟨⟨by have := H3.out.1.below hb5; rwa [List.take_of_length_le (by rw [HL.out]; exact Nat.le_refl _)] at this, H3.out.2.1.step hb5⟩⟩
      clear hb5 HE H3
      have v3 : w5.cell? ⟨W.heap.size, 3, none⟩ = some (.slice A q c) := blk_cell H5.out.2.ver 3
      have HU := Aside0.mk (over_c (c := c) (to_kd H5.out.2.row (by rw [HQ.out.1]; omega)) (by rw [HQ.out.1]; omega) s1 s2)
      rw [HQ.out.1] at HU
      go_wp2_with fail
      refine HU.out.mono ?_
      rintro e w6 ⟨A6, c6, M, rfl, hM, hO6, hb6⟩
      have H6 : Aside0 (NSet w6 mb k (hasN all) ∧ Below W.heap.size W w6 ∧ Reads KT w6 A6 M ∧ ∀ x ∈ M, x ∈ l) := ⟨⟨H5.out.1.below hb6, (H5.out.2.step hb6).bel, Rw.Own.reads (K := KT) hO6, hM.2⟩⟩
      have hMl := hM.1
      clear hM hO6 hb6 HU H5 v3
      go_wp2_with fail
      go_loopw [47] (fun i wr => ∃ j : Nat, j ≤ M.length ∧ i = .int .i64 j ∧ Aside0 (NSet wr mb k (hasN all) ∧ Below W.heap.size W wr ∧ Reads KT wr A6 M)) (fun i _ => M.length - (intOf i).toNat)
      case atStart => exact ⟨0, Nat.zero_le _, rfl, ⟨H6.out.1, H6.out.2.1, H6.out.2.2.1⟩⟩
      case round =>
        obtain ⟨j, hj, rfl, H7⟩ := hrel
        obtain ⟨w7, hw7⟩ : ∃ w7, w7 = wr := ⟨_, rfl⟩
        subst wr
        by_cases hlj : j < M.length
        · have hwj := Aside0.mk (show wrap64 ((j : Int) + 1) = (j : Int) + 1 by unfold wrap64; omega)
          have hd3 : decide ((j : Int) < (M.length : Int)) = true := decide_eq_true (by omega)
          have hd4 : decide (j < M.length) = true := decide_eq_true hlj
          have hR := H7.out.2.2
          obtain ⟨g, o, rfl, hg⟩ := hR.where hlj
          obtain ⟨t, ht⟩ : ∃ t, M[j]? = some t := ⟨_, List.getElem?_eq_getElem hlj⟩
          have htl := H6.out.2.2.2 t (List.mem_of_getElem? ht)
          have t0 : w7.cell? ⟨g, o + j * 5, none⟩ = some (.int .i64 t.f0) := hR.at ht (i := 0) rfl
          have t1 : w7.cell? ⟨g, o + j * 5 + 1, none⟩ = some (.int .i64 t.f1) := hR.at ht (i := 1) rfl
          have t2 : w7.cell? ⟨g, o + j * 5 + 2, none⟩ = some (.int .i64 t.f2) := hR.at ht (i := 2) rfl
          have t3 : w7.cell? ⟨g, o + j * 5 + 3, none⟩ = some (.string t.f3) := hR.at ht (i := 3) rfl
          have t4 : w7.cell? ⟨g, o + j * 5 + 4, none⟩ = some (.string t.f4) := hR.at ht (i := 4) rfl
          have bt := below_alloc (Below.refl w7.heap.size w7) (boxE t)
          have bu := below_alloc bt (.cells #[] 67)
          have z0 : (w7.alloc (boxE t)).cell? ⟨w7.heap.size, 0, none⟩ = some (.int .i64 t.f0) := blk_cell (heap_alloc_new w7 (boxE t)) 0
          have hlk := (H7.out.1.below bt).look (HQ.out.2.2.2 t htl)
          rw [HQ.out.2.1 t htl] at hlk
          have H8 : Aside0 (NSet ((w7.alloc (boxE t)).alloc (.cells #[] 67)) mb k (hasN all) ∧ Below W.heap.size W ((w7.alloc (boxE t)).alloc (.cells #[] 67)) ∧ Reads KT ((w7.alloc (boxE t)).alloc (.cells #[] 67)) (some ⟨g, o, none⟩) M) := ⟨⟨H7.out.1.below bu, H7.out.2.1.trans (bu.mono H7.out.2.1.size), hR.below bu⟩⟩
          dsimp only [boxE] at hlk z0 H8
          clear hR hg ht bt bu htl
          go_wp2_with fail
          exact ⟨⟨j + 1, hlj, by first | exact iw_succ j | exact iv_succ hwj.out, H8⟩, by first | exact iw_meas hlj | exact iv_meas hwj.out hlj⟩
        · obtain rfl : j = M.length := by omega
          have hd3 : decide ((M.length : Int) < (M.length : Int)) = false := decide_eq_false (Int.lt_irrefl _)
          go_wp2
          go_ret
          exact ⟨rfl, H7.out.2.1⟩
end Go.Proofs.Ytikhjnokfakgiaa.Pk
