/- NetSt, NetLt, NetPn, NetOk, NetEq: these texts as one. -/
import Derived.Test.YtbcgeajnmnnbhaaNetR
import Derived.Test.YtbcgeajnmnnbhaaPAllx4
import Derived.Test.YtbcgeajnmnnbhaaPAllx2
import Derived.Test.YtbcgeajnmnnbhaaPAllx3
import Derived.Test.YtbcgeajnmnnbhaaRoS
import Derived.Test.YtbcgeajnmnnbhaaPAllx1
set_option linter.unusedSimpArgs false
set_option linter.unusedVariables false
namespace Go.Proofs.Ytbcgeajnmnnbhaa.Nt
open Go.RowKit Go.Maps Go.Proofs.Ytbcgeajnmnnbhaa.PAll Go.Proofs.YtbcgeajnmnnbhaaW.PrintWords
attribute [local go_sem] put_fresh
attribute [-go_sem] Builtin.append_

/-! ### NetSt -/
/-- Both nets in the heap. -/
structure St (W w : World) (B R : Nat) (Ln Lr : List Pk) (C : Int → Int → Bool) (Cs : List (Int × Int)) (i : Nat) : Prop where
  net : ∃ m n, NetAt w W.heap.size B m Ln ∧ CutAt w B m n C ∧ n ≤ i
  ref : RefAt w W.heap.size R Lr Cs
  bel : Below W.heap.size W w
/-- The box of an operation stays. -/
def Fo (w w' : World) : Prop := ∀ (o : Nat) (oc : Array Value), w.heap[o]? = some (.cells oc 48 (0, 0)) → w'.heap[o]? = some (.cells oc 48 (0, 0))
theorem Fo.refl (w : World) : Fo w w := fun _ _ h => h
theorem Fo.trans {w w' w'' : World} (h : Fo w w') (h' : Fo w' w'') : Fo w w'' := fun o oc ho => h' o oc (h o oc ho)
theorem Fo.below {w w' : World} (h : Below w.heap.size w w') : Fo w w' := fun o oc ho => (h.block o (Array.getElem?_eq_some_iff.1 ho).1).trans ho
theorem not_owns {w : World} {base B : Nat} {m : Value} {L : List Pk} (h : NetAt w base B m L) {q : Nat} {cs : Array Value} {t : TypeId} (hq : w.heap[q]? = some (.cells cs t (0, 0))) (h1 : t ≠ 46) (h2 : t ≠ 27) : ¬ Owns w B q := by
  obtain ⟨p, c, hB, hr⟩ := net_v h
  rintro (rfl | ⟨v, m', hb, hv⟩)
  · rw [hB] at hq
    cases hq
    exact h1 rfl
  · rw [hB] at hb
    cases hb
    obtain ⟨cells, hcs⟩ := own_typed hr q hv
    rw [hcs] at hq
    cases hq
    exact h2 rfl
/-- What the document's net needs of a step. -/
theorem ref_keep {w w' : World} {base R : Nat} {L : List Pk} {Cs : List (Int × Int)} (h : RefAt w base R L Cs) (hk : ∀ (q : Nat) (cs : Array Value) (t : TypeId), w.heap[q]? = some (.cells cs t (0, 0)) → t = 43 ∨ t = 54 ∨ t = 61 → w'.heap[q]? = w.heap[q]?) : RefAt w' base R L Cs := by
  obtain ⟨h0, p, c, q, e, hR, h1, h2⟩ := h
  refine ⟨h0, p, c, q, e, (hk R _ _ hR (.inl rfl)).trans hR, own_move h1 fun j hj => ?_, own_move h2 fun j hj => ?_⟩
  · obtain ⟨cells, hcs⟩ := own_typed h1 j hj
    exact hk j _ _ hcs (.inr (.inl rfl))
  · obtain ⟨cells, hcs⟩ := own_typed h2 j hj
    exact hk j _ _ hcs (.inr (.inr rfl))
theorem St.netK {W w w' : World} {B R i i' n : Nat} {m : Value} {Ln Ln' Lr : List Pk} {C C' : Int → Int → Bool} {Cs : List (Int × Int)} (H : St W w B R Ln Lr C Cs i) (h1 : NetAt w' W.heap.size B m Ln') (h2 : CutAt w' B m n C') (hn : n ≤ i') (hK : Kp w w' B) (hb : Below W.heap.size w w') : St W w' B R Ln' Lr C' Cs i' ∧ Fo w w' := by
  obtain ⟨⟨m0, n0, hN, hC, _⟩, hR, hB⟩ := H
  have key : ∀ (q : Nat) (cs : Array Value) (t : TypeId), w.heap[q]? = some (.cells cs t (0, 0)) → t ≠ 46 → t ≠ 27 → w'.heap[q]? = w.heap[q]? := fun q cs t hq h1 h2 => (hK q (Array.getElem?_eq_some_iff.1 hq).1 (not_owns hN hq h1 h2)).1
  refine ⟨⟨⟨m, n, h1, h2, hn⟩, ref_keep hR fun q cs t hq ht => key q cs t hq ?_ ?_, hB.trans hb⟩, fun o oc ho => (key o oc _ ho (by decide) (by decide)).trans ho⟩
  · rcases ht with rfl | rfl | rfl <;> decide
  · rcases ht with rfl | rfl | rfl <;> decide
theorem St.refG {W w w' : World} {B R i : Nat} {Ln Lr Lr' : List Pk} {C : Int → Int → Bool} {Cs Cs' : List (Int × Int)} (H : St W w B R Ln Lr C Cs i) (h1 : RefAt w' W.heap.size R Lr' Cs') (hg : w.grownBy w' (some R)) : St W w' B R Ln Lr' C Cs' i ∧ Fo w w' := by
  obtain ⟨⟨m, n, hN, hC, hn⟩, hR, hB⟩ := H
  have hR0 := hR
  obtain ⟨h0, p, c, q, e, hRb, _⟩ := hR0
  have key : ∀ (q : Nat) (o : Obj), w.heap[q]? = some o → (∀ cs, o ≠ .cells cs 43 (0, 0)) → w'.heap[q]? = w.heap[q]? := fun q o hq ho => hg.block q (Array.getElem?_eq_some_iff.1 hq).1 (fun e => by
    have e' := Option.some.inj e
    subst e'
    rw [hRb] at hq
    cases hq
    exact ho _ rfl)
  obtain ⟨p2, c2, hNb, hr⟩ := net_v hN
  refine ⟨⟨⟨m, n, ⟨hN.1, _, (key B _ hNb (by intro cs h; cases h)).trans hNb, own_move hr fun j hj => ?_⟩, hC.keep fun b hm => ?_, hn⟩, h1, hB.grown hg hB.size (fun k e => by cases e; exact h0)⟩, fun o oc ho => (key o _ ho (by intro cs h; cases h)).trans ho⟩
  · obtain ⟨cells, hcs⟩ := own_typed hr j hj
    exact key j _ hcs (by intro cs h; cases h)
  · obtain ⟨es, clock, hmap⟩ := hC.isMap hm
    exact key b _ hmap (by intro cs h; cases h)
theorem St.below {W w w' : World} {B R i : Nat} {Ln Lr : List Pk} {C : Int → Int → Bool} {Cs : List (Int × Int)} (H : St W w B R Ln Lr C Cs i) (hb : Below w.heap.size w w') : St W w' B R Ln Lr C Cs i ∧ Fo w w' := by
  obtain ⟨⟨m, n, hN, hC, hn⟩, hR, hB⟩ := H
  exact ⟨⟨⟨m, n, hN.below hb, hC.below hb, hn⟩, hR.below hb, hB.trans (hb.mono hB.size)⟩, Fo.below hb⟩
theorem St.more {W w : World} {B R i i' : Nat} {Ln Lr : List Pk} {C : Int → Int → Bool} {Cs : List (Int × Int)} (H : St W w B R Ln Lr C Cs i) (h : i ≤ i') : St W w B R Ln Lr C Cs i' := by
  obtain ⟨⟨m, n, hN, hC, hn⟩, hR, hB⟩ := H
  exact ⟨⟨m, n, hN, hC, by omega⟩, hR, hB⟩
theorem St.refR {W w : World} {B R i : Nat} {Ln Lr : List Pk} {C : Int → Int → Bool} {Cs : List (Int × Int)} (H : St W w B R Ln Lr C Cs i) : ∃ p c, w.cell? ⟨R, 0, none⟩ = some (.slice p Lr.length c) ∧ w.frozen? ⟨R, 0, none⟩ = false := by
  obtain ⟨_, p, c, q, e, hR, _⟩ := H.ref
  exact ⟨p, c, blk_cell hR 0, blk_frozen hR 0⟩
/-- The packet at a place; none there: a zero one. -/
def pkA (L : List Pk) (k : Int) : Pk := if isB L k then (L[k.toNat]?).getD default else default
theorem pkA_out {L : List Pk} {k : Int} (h : isB L k = false) : pval (pkA L k) = noPk := by unfold pkA; rw [if_neg (by rw [h]; decide)]; rfl
theorem isB_in {L : List Pk} {k : Int} (h : isB L k = true) : ∃ j : Nat, k = j ∧ L[j]? = some (pkA L k) := by
  have h' := h
  unfold isB at h'
  simp at h'
  obtain ⟨j, rfl⟩ := Int.eq_ofNat_of_zero_le h'.1
  refine ⟨j, rfl, ?_⟩
  have hj : j < L.length := by omega
  unfold pkA
  rw [if_pos h, Int.toNat_natCast, List.getElem?_eq_getElem hj]
  rfl
def plL (L : List Pk) (k : Int) : List Pk := if isB L k then L.eraseIdx k.toNat else L
def dbB (L : List Pk) (k : Int) : Bool := isB L k && decide (L.length < 800)
def dbL (L : List Pk) (k : Int) : List Pk := if dbB L k then L ++ [pkA L k] else L
def mvB (L : List Pk) (k z : Int) : Bool := isB L k && isB L z
def mvL (L : List Pk) (k z : Int) : List Pk := if mvB L k z then mv L k.toNat (pkA L k) z.toNat else L
def spB (L : List Pk) (k : Int) : Bool := isB L k && decide (0 < (pkA L k).s.size)
def spL (L : List Pk) (k z b : Int) : List Pk := if spB L k then L.set k.toNat ⟨(pkA L k).a, (pkA L k).b, spb (pkA L k).s (plc (pkA L k).s.size z) b, (pkA L k).ha, (pkA L k).hb⟩ else L
section
variable {W w : World} {B R i : Nat} {Ln Lr : List Pk} {C : Int → Int → Bool} {Cs : List (Int × Int)}
theorem n_pull (H : St W w B R Ln Lr C Cs i) (hL : Ln.length ≤ 800) (k : Int) : Calls Try.prog 14 #[.pointer (some ⟨B, 0, none⟩), .int .i64 k] w fun e w' => e = .returned (.tuple #[pval (pkA Ln k), .bool (isB Ln k)]) ∧ St W w' B R (plL Ln k) Lr C Cs i ∧ Fo w w' := by
  obtain ⟨m, n, hN, hC, hn⟩ := H.net
  cases hk : isB Ln k with
  | false =>
    refine (pull_out hN k hk).mono ?_
    rintro e w' ⟨rfl, hb⟩
    rw [pkA_out hk, show plL Ln k = Ln by unfold plL; rw [if_neg (by rw [hk]; decide)]]
    exact ⟨rfl, H.below hb⟩
  | true =>
    obtain ⟨j, hj, hx⟩ := isB_in hk
    rw [show plL Ln k = Ln.eraseIdx j by unfold plL; rw [if_pos hk, hj, Int.toNat_natCast]]
    generalize pkA Ln k = x at *
    subst hj
    refine (pull_in hN hC hL j x hx).mono ?_
    rintro e w' ⟨rfl, h1, h2, h3, h4⟩
    exact ⟨rfl, H.netK h1 h2 hn h3 h4⟩
theorem r_pull (H : St W w B R Ln Lr C Cs i) (hL : Lr.length ≤ 800) (k : Int) : Calls Try.prog 25 #[.pointer (some ⟨R, 0, none⟩), .int .i64 k] w fun e w' => e = .returned (.tuple #[pval (pkA Lr k), .bool (isB Lr k)]) ∧ St W w' B R Ln (plL Lr k) C Cs i ∧ Fo w w' ∧ w.grownBy w' (some R) := by
  cases hk : isB Lr k with
  | false =>
    refine (rpull_out H.ref k hk).mono ?_
    rintro e w' ⟨rfl, hb⟩
    rw [pkA_out hk, show plL Lr k = Lr by unfold plL; rw [if_neg (by rw [hk]; decide)]]
    exact ⟨rfl, (H.below hb).1, (H.below hb).2, grown_below ⟨rfl, rfl, rfl, Nat.le_refl _, fun _ _ _ => rfl⟩ hb⟩
  | true =>
    obtain ⟨j, hj, hx⟩ := isB_in hk
    rw [show plL Lr k = Lr.eraseIdx j by unfold plL; rw [if_pos hk, hj, Int.toNat_natCast]]
    generalize pkA Lr k = x at *
    subst hj
    refine (rpull_in H.ref hL j x hx).mono ?_
    rintro e w' ⟨rfl, h1, h2⟩
    exact ⟨rfl, (H.refG h1 h2).1, (H.refG h1 h2).2, h2⟩
theorem n_drop (H : St W w B R Ln Lr C Cs i) (hL : Ln.length ≤ 800) (k : Int) : Calls Try.prog 17 #[.pointer (some ⟨B, 0, none⟩), .int .i64 k] w fun e w' => e = .returned (.bool (isB Ln k)) ∧ St W w' B R (plL Ln k) Lr C Cs i ∧ Fo w w' := by
  obtain ⟨m, n, hN, hC, hn⟩ := H.net
  cases hk : isB Ln k with
  | false =>
    refine (drop_out hN k hk).mono ?_
    rintro e w' ⟨rfl, hb⟩
    rw [show plL Ln k = Ln by unfold plL; rw [if_neg (by rw [hk]; decide)]]
    exact ⟨rfl, H.below hb⟩
  | true =>
    obtain ⟨j, hj, hx⟩ := isB_in hk
    rw [show plL Ln k = Ln.eraseIdx j by unfold plL; rw [if_pos hk, hj, Int.toNat_natCast]]
    generalize pkA Ln k = x at *
    subst hj
    refine (drop_in hN hC hL j x hx).mono ?_
    rintro e w' ⟨rfl, h1, h2, h3, h4⟩
    exact ⟨rfl, H.netK h1 h2 hn h3 h4⟩
theorem dbB_no {L : List Pk} {k : Int} (h : dbB L k = false) : isB L k = false ∨ 800 ≤ L.length := by
  unfold dbB at h
  rw [Bool.and_eq_false_iff, decide_eq_false_iff_not] at h
  exact h.imp id fun h => by omega
theorem dbB_yes {L : List Pk} {k : Int} (h : dbB L k = true) : isB L k = true ∧ L.length < 800 := by
  unfold dbB at h
  rw [Bool.and_eq_true, decide_eq_true_iff] at h
  exact h
theorem n_double (H : St W w B R Ln Lr C Cs i) (k : Int) : Calls Try.prog 16 #[.pointer (some ⟨B, 0, none⟩), .int .i64 k] w fun e w' => e = .returned (.bool (dbB Ln k)) ∧ St W w' B R (dbL Ln k) Lr C Cs i ∧ Fo w w' := by
  obtain ⟨m, n, hN, hC, hn⟩ := H.net
  cases hk : dbB Ln k with
  | false =>
    refine (double_no hN k (dbB_no hk)).mono ?_
    rintro e w' ⟨rfl, hw⟩
    subst w'
    rw [show dbL Ln k = Ln by unfold dbL; rw [if_neg (by rw [hk]; decide)]]
    exact ⟨rfl, H, Fo.refl _⟩
  | true =>
    obtain ⟨hk1, hk2⟩ := dbB_yes hk
    obtain ⟨j, hj, hx⟩ := isB_in hk1
    rw [show dbL Ln k = Ln ++ [pkA Ln k] by unfold dbL; rw [if_pos hk]]
    generalize pkA Ln k = x at *
    subst hj
    refine (double_in hN hC hk2 j x hx).mono ?_
    rintro e w' ⟨rfl, h1, h2, h3, h4⟩
    exact ⟨rfl, H.netK h1 h2 hn h3 h4⟩
theorem r_double (H : St W w B R Ln Lr C Cs i) (k : Int) : Calls Try.prog 27 #[.pointer (some ⟨R, 0, none⟩), .int .i64 k] w fun e w' => e = .returned (.bool (dbB Lr k)) ∧ St W w' B R Ln (dbL Lr k) C Cs i ∧ Fo w w' := by
  cases hk : dbB Lr k with
  | false =>
    refine (rdouble_no H.ref k (dbB_no hk)).mono ?_
    rintro e w' ⟨rfl, hw⟩
    subst w'
    rw [show dbL Lr k = Lr by unfold dbL; rw [if_neg (by rw [hk]; decide)]]
    exact ⟨rfl, H, Fo.refl _⟩
  | true =>
    obtain ⟨hk1, hk2⟩ := dbB_yes hk
    obtain ⟨j, hj, hx⟩ := isB_in hk1
    rw [show dbL Lr k = Lr ++ [pkA Lr k] by unfold dbL; rw [if_pos hk]]
    generalize pkA Lr k = x at *
    subst hj
    refine (rdouble_in H.ref hk2 j x hx).mono ?_
    rintro e w' ⟨rfl, h1, h2⟩
    exact ⟨rfl, H.refG h1 h2⟩
theorem mvB_no {L : List Pk} {k z : Int} (h : mvB L k z = false) : isB L k = false ∨ isB L z = false := by
  unfold mvB at h
  rw [Bool.and_eq_false_iff] at h
  exact h
theorem isB_nat' {L : List Pk} {z : Int} (h : isB L z = true) : ∃ j : Nat, z = j ∧ j < L.length := by
  obtain ⟨j, hj, hx⟩ := isB_in h
  exact ⟨j, hj, (List.getElem?_eq_some_iff.1 hx).1⟩
theorem n_move (H : St W w B R Ln Lr C Cs i) (hL : Ln.length ≤ 800) (k z : Int) : Calls Try.prog 11 #[.pointer (some ⟨B, 0, none⟩), .int .i64 k, .int .i64 z] w fun e w' => e = .returned (.bool (mvB Ln k z)) ∧ St W w' B R (mvL Ln k z) Lr C Cs i ∧ Fo w w' := by
  obtain ⟨m, n, hN, hC, hn⟩ := H.net
  cases hk : mvB Ln k z with
  | false =>
    refine (move_no hN k z (mvB_no hk)).mono ?_
    rintro e w' ⟨rfl, hw⟩
    subst w'
    rw [show mvL Ln k z = Ln by unfold mvL; rw [if_neg (by rw [hk]; decide)]]
    exact ⟨rfl, H, Fo.refl _⟩
  | true =>
    have hkz := hk
    unfold mvB at hkz
    rw [Bool.and_eq_true] at hkz
    obtain ⟨j, hj, hx⟩ := isB_in hkz.1
    obtain ⟨l, hl, hlz⟩ := isB_nat' hkz.2
    rw [show mvL Ln k z = mv Ln j (pkA Ln k) l by unfold mvL; rw [if_pos hk, hl]; conv => lhs; rw [show k.toNat = j by omega, Int.toNat_natCast]]
    generalize pkA Ln k = x at *
    subst hj
    subst hl
    refine (move_in hN hC hL j x hx l hlz).mono ?_
    rintro e w' ⟨rfl, h1, h2, h3, h4⟩
    exact ⟨rfl, H.netK h1 h2 hn h3 h4⟩
theorem r_move (H : St W w B R Ln Lr C Cs i) (hL : Lr.length ≤ 800) (k z : Int) : Calls Try.prog 28 #[.pointer (some ⟨R, 0, none⟩), .int .i64 k, .int .i64 z] w fun e w' => e = .returned (.bool (mvB Lr k z)) ∧ St W w' B R Ln (mvL Lr k z) C Cs i ∧ Fo w w' := by
  cases hk : mvB Lr k z with
  | false =>
    refine (rmove_no H.ref k z (mvB_no hk)).mono ?_
    rintro e w' ⟨rfl, hw⟩
    subst w'
    rw [show mvL Lr k z = Lr by unfold mvL; rw [if_neg (by rw [hk]; decide)]]
    exact ⟨rfl, H, Fo.refl _⟩
  | true =>
    have hkz := hk
    unfold mvB at hkz
    rw [Bool.and_eq_true] at hkz
    obtain ⟨j, hj, hx⟩ := isB_in hkz.1
    obtain ⟨l, hl, hlz⟩ := isB_nat' hkz.2
    rw [show mvL Lr k z = mv Lr j (pkA Lr k) l by unfold mvL; rw [if_pos hk, hl]; conv => lhs; rw [show k.toNat = j by omega, Int.toNat_natCast]]
    generalize pkA Lr k = x at *
    subst hj
    subst hl
    refine (rmove_in H.ref hL j x hx l hlz).mono ?_
    rintro e w' ⟨rfl, h1, h2⟩
    exact ⟨rfl, H.refG h1 h2⟩
theorem size_zero {s : ByteArray} (h : ¬ 0 < s.size) : s = ⟨#[]⟩ := by
  cases s with
  | mk d =>
    have : d.size = 0 := by have h' : ¬ 0 < d.size := h; omega
    rw [Array.eq_empty_of_size_eq_zero this]
theorem n_spoil (H : St W w B R Ln Lr C Cs i) (hL : Ln.length ≤ 800) (hs : ∀ x ∈ Ln, x.s.size ≤ 140737488351232) (k z b : Int) (hz : I64 z) (hb : I64 b) : Calls Try.prog 12 #[.pointer (some ⟨B, 0, none⟩), .int .i64 k, .int .i64 z, .int .i64 b] w fun e w' => e = .returned (.bool (spB Ln k)) ∧ St W w' B R (spL Ln k z b) Lr C Cs i ∧ Fo w w' := by
  obtain ⟨m, n, hN, hC, hn⟩ := H.net
  cases hk : spB Ln k with
  | false =>
    have hkz := hk
    unfold spB at hkz
    rw [Bool.and_eq_false_iff, decide_eq_false_iff_not] at hkz
    rw [show spL Ln k z b = Ln by unfold spL; rw [if_neg (by rw [hk]; decide)]]
    cases hB : isB Ln k with
    | false =>
      refine (spoil_no hN k z b hB).mono ?_
      rintro e w' ⟨rfl, hw⟩
      subst w'
      exact ⟨rfl, H, Fo.refl _⟩
    | true =>
      obtain ⟨j, hj, hx⟩ := isB_in hB
      have h0 := size_zero (hkz.resolve_left (by rw [hB]; decide))
      generalize pkA Ln k = x at *
      subst hj
      refine (spoil_empty hN j x hx h0 z b).mono ?_
      rintro e w' ⟨rfl, hw⟩
      subst w'
      exact ⟨rfl, H, Fo.refl _⟩
  | true =>
    have hkz := hk
    unfold spB at hkz
    rw [Bool.and_eq_true, decide_eq_true_iff] at hkz
    obtain ⟨j, hj, hx⟩ := isB_in hkz.1
    have hkn : k.toNat = j := by omega
    unfold spL
    rw [if_pos hk, hkn]
    subst hj
    have hsz := hs _ (List.mem_of_getElem? hx)
    refine (spoil_in hN hC hL j _ hx z b hz hb hkz.2 (by omega)).mono ?_
    rintro e w' ⟨rfl, h1, h2, h3, h4⟩
    exact ⟨rfl, H.netK h1 h2 hn h3 h4⟩
theorem r_spoil (H : St W w B R Ln Lr C Cs i) (hL : Lr.length ≤ 800) (hs : ∀ x ∈ Lr, x.s.size ≤ 140737488351232) (k z b : Int) (hz : I64 z) (hb : I64 b) : Calls Try.prog 29 #[.pointer (some ⟨R, 0, none⟩), .int .i64 k, .int .i64 z, .int .i64 b] w fun e w' => e = .returned (.bool (spB Lr k)) ∧ St W w' B R Ln (spL Lr k z b) C Cs i ∧ Fo w w' := by
  cases hk : spB Lr k with
  | false =>
    have hkz := hk
    unfold spB at hkz
    rw [Bool.and_eq_false_iff, decide_eq_false_iff_not] at hkz
    rw [show spL Lr k z b = Lr by unfold spL; rw [if_neg (by rw [hk]; decide)]]
    cases hB : isB Lr k with
    | false =>
      refine (rspoil_no H.ref k z b hB).mono ?_
      rintro e w' ⟨rfl, hw⟩
      subst w'
      exact ⟨rfl, H, Fo.refl _⟩
    | true =>
      obtain ⟨j, hj, hx⟩ := isB_in hB
      have h0 := size_zero (hkz.resolve_left (by rw [hB]; decide))
      generalize pkA Lr k = x at *
      subst hj
      refine (rspoil_empty H.ref j x hx h0 z b).mono ?_
      rintro e w' ⟨rfl, hw⟩
      subst w'
      exact ⟨rfl, H, Fo.refl _⟩
  | true =>
    have hkz := hk
    unfold spB at hkz
    rw [Bool.and_eq_true, decide_eq_true_iff] at hkz
    obtain ⟨j, hj, hx⟩ := isB_in hkz.1
    have hkn : k.toNat = j := by omega
    unfold spL
    rw [if_pos hk, hkn]
    subst hj
    have hsz := hs _ (List.mem_of_getElem? hx)
    refine (rspoil_in H.ref hL j _ hx z b hz hb hkz.2 (by omega)).mono ?_
    rintro e w' ⟨rfl, h1, h2⟩
    exact ⟨rfl, H.refG h1 h2⟩
theorem n_cut (H : St W w B R Ln Lr C Cs i) (hi : i < 1000) (x y : Int) (hx : I64 x) (hy : I64 y) (o : Bool) : Calls Try.prog 18 #[.pointer (some ⟨B, 0, none⟩), .int .i64 x, .int .i64 y, .bool o] w fun e w' => e = .returned (.tuple #[]) ∧ St W w' B R Ln Lr (cutp C (mn x y) (mx x y) o) Cs (i + 1) ∧ Fo w w' := by
  obtain ⟨m, n, hN, hC, hn⟩ := H.net
  refine (cut_k hN hC (by omega) x y hx hy o).mono ?_
  rintro e w' ⟨rfl, b, h1, h2, h3, h4, h5⟩
  have hbm : ∀ (q : Nat) (o : Obj), w.heap[q]? = some o → (∀ es clock, o ≠ .map es clock) → q ≠ b := fun q o hq ho e => by
    subst e
    rcases h5 with rfl | h5
    · obtain ⟨es, clock, hmap⟩ := hC.isMap rfl
      rw [hmap] at hq
      cases hq
      exact ho _ _ rfl
    · have := (Array.getElem?_eq_some_iff.1 hq).1
      omega
  obtain ⟨p2, c2, hNb, hr⟩ := net_v hN
  have key : ∀ (q : Nat) (cs : Array Value) (t : TypeId), w.heap[q]? = some (.cells cs t (0, 0)) → t ≠ 46 → w'.heap[q]? = w.heap[q]? := fun q cs t hq ht => h4 q (Array.getElem?_eq_some_iff.1 hq).1 (fun e => by subst e; rw [hNb] at hq; cases hq; exact ht rfl) (hbm q _ hq (by intro es clock h; cases h))
  exact ⟨rfl, ⟨⟨_, _, h1, h2, by omega⟩, ref_keep H.ref fun q cs t hq ht => key q cs t hq (by rcases ht with rfl | rfl | rfl <;> decide), H.bel.trans h3⟩, fun o oc ho => (key o oc _ ho (by decide)).trans ho⟩
theorem r_cut (H : St W w B R Ln Lr C Cs i) (hl : Cs.length < 1000) (x y : Int) (o : Bool) : Calls Try.prog 30 #[.pointer (some ⟨R, 0, none⟩), .int .i64 x, .int .i64 y, .bool o] w fun e w' => e = .returned (.tuple #[]) ∧ St W w' B R Ln Lr C (cutL Cs x y o) i ∧ Fo w w' := by
  refine (rcutp_c H.ref (by omega) x y o).mono ?_
  rintro e w' ⟨rfl, h1, h2⟩
  exact ⟨rfl, H.refG h1 h2⟩
theorem n_clear (H : St W w B R Ln Lr C Cs i) : Calls Try.prog 19 #[.pointer (some ⟨B, 0, none⟩)] w fun e w' => e = .returned (.int .i64 Ln.length) ∧ St W w' B R [] Lr C Cs i ∧ Fo w w' := by
  obtain ⟨m, n, hN, hC, hn⟩ := H.net
  refine (clear_c hN hC).mono ?_
  rintro e w' ⟨rfl, h1, h2, h3, h4⟩
  exact ⟨rfl, H.netK h1 h2 hn h3 h4⟩
theorem n_len (H : St W w B R Ln Lr C Cs i) : Calls Try.prog 15 #[.pointer (some ⟨B, 0, none⟩)] w fun e w' => e = .returned (.int .i64 Ln.length) ∧ w' = w := by
  obtain ⟨m, n, hN, hC, hn⟩ := H.net
  exact len_c hN
theorem n_peek (H : St W w B R Ln Lr C Cs i) (k : Int) : Calls Try.prog 13 #[.pointer (some ⟨B, 0, none⟩), .int .i64 k] w fun e w' => e = .returned (.tuple #[pval (pkA Ln k), .bool (isB Ln k)]) ∧ Below w.heap.size w w' := by
  obtain ⟨m, n, hN, hC, hn⟩ := H.net
  cases hk : isB Ln k with
  | false =>
    rw [pkA_out hk]
    exact peek_out hN k hk
  | true =>
    obtain ⟨j, hj, hx⟩ := isB_in hk
    generalize pkA Ln k = x at *
    subst hj
    exact peek_in hN j x hx
theorem n_send (H : St W w B R Ln Lr C Cs i) (hL : Ln.length ≤ 800) (v : Value) (ps : List Pk) (hp : PRow w v ps (Owns w B)) (hpl : ps.length < 4611686018427387904) (hps : ∀ x ∈ ps, x.s.size ≤ 140737488351232) : Calls Try.prog 10 #[.pointer (some ⟨B, 0, none⟩), v] w fun e w' => e = .returned (.int .i64 (sent C Ln.length ps).length) ∧ St W w' B R (Ln ++ sent C Ln.length ps) Lr C Cs i ∧ Fo w w' ∧ Kp w w' B ∧ w.heap.size ≤ w'.heap.size := by
  obtain ⟨m, n, hN, hC, hn⟩ := H.net
  refine (send_c hN hC hL v ps hp hpl (fun x hx => by have := hps x hx; omega)).mono ?_
  rintro e w' ⟨rfl, h1, h2, h3, h4⟩
  obtain ⟨h5, h6⟩ := H.netK h1 h2 hn h3 h4
  exact ⟨rfl, h5, h6, h3, h4.size⟩
theorem r_send (H : St W w B R Ln Lr C Cs i) (hL : Lr.length ≤ 800) (hl : Cs.length < 1000) (v : Value) (ps : List Pk) (hp : PRow w v ps (fun q => q = R)) (hpl : ps.length < 4611686018427387904) : Calls Try.prog 22 #[.pointer (some ⟨R, 0, none⟩), v] w fun e w' => e = .returned (.int .i64 (sent (Cc Cs) Lr.length ps).length) ∧ St W w' B R Ln (Lr ++ sent (Cc Cs) Lr.length ps) C Cs i ∧ Fo w w' ∧ w.grownBy w' (some R) := by
  refine (rsend_c H.ref hL (by omega) v ps hp hpl).mono ?_
  rintro e w' ⟨rfl, h1, h2⟩
  obtain ⟨h5, h6⟩ := H.refG h1 h2
  exact ⟨rfl, h5, h6, h2⟩
end

/-! ### NetLt -/
abbrev S0 := S27
def Wf (x : S0) : Prop := I64 x.f0 ∧ I64 x.f1
instance (x : S0) : Decidable (Wf x) := by unfold Wf I64; infer_instance
def toK (x : S0) : Pk := if h : Wf x then ⟨x.f0, x.f1, x.f2, h.1, h.2⟩ else default
theorem toK_v {x : S0} (h : Wf x) : (toK x).a = x.f0 ∧ (toK x).b = x.f1 ∧ (toK x).s = x.f2 := by
  unfold toK
  rw [dif_pos h]
  exact ⟨rfl, rfl, rfl⟩
theorem penc_toK {x : S0} (h : Wf x) : penc (toK x) = [.int .i64 x.f0, .int .i64 x.f1, .string x.f2] := by
  obtain ⟨h1, h2, h3⟩ := toK_v h
  unfold penc
  rw [h1, h2, h3]
theorem fm_at (K : List Pk) (q : Nat) (x : Pk) (hx : K[q]? = some x) (c : Nat) (hc : c < 3) : (K.flatMap penc)[q * 3 + c]? = (penc x)[c]? := by
  have hq := (List.getElem?_eq_some_iff.1 hx).1
  have hL : K = K.take q ++ x :: K.drop (q + 1) := by
    obtain ⟨_, e⟩ := List.getElem?_eq_some_iff.1 hx
    rw [← e, List.getElem_cons_drop, List.take_append_drop]
  conv => lhs; rw [hL]
  rw [List.flatMap_append, List.flatMap_cons, List.getElem?_append_right (by rw [pmap_len, List.length_take]; omega), pmap_len, List.length_take, Nat.min_eq_left (by omega), List.getElem?_append_left (by rw [penc_length]; omega), show q * 3 + c - q * 3 = c by omega]
theorem fm_get {K : List Pk} {j : Nat} {u : Value} (h : (K.flatMap penc)[j]? = some u) : ∃ x, K[j / 3]? = some x ∧ (penc x)[j % 3]? = some u := by
  have hj := (List.getElem?_eq_some_iff.1 h).1
  rw [pmap_len] at hj
  have hlt : j / 3 < K.length := by omega
  obtain ⟨x, hx⟩ : ∃ x, K[j / 3]? = some x := ⟨_, List.getElem?_eq_getElem hlt⟩
  have e := fm_at K (j / 3) x hx (j % 3) (by omega)
  rw [show j / 3 * 3 + j % 3 = j by omega] at e
  exact ⟨x, hx, e.symm.trans h⟩
theorem cell_plain {w : World} {a : Addr} {u : Value} (h : w.cell? a = some u) : ∃ b o, a = ⟨b, o, none⟩ ∧ b < w.heap.size := by
  obtain ⟨b, o, x⟩ := a
  cases x with
  | none => exact ⟨b, o, rfl, World.block_lt_of_cell? w _ h⟩
  | some y =>
    simp [World.cell?] at h
    split at h <;> cases h
theorem src_of_C {W : World} {A : Option Addr} {l : List S0} (hr : Kd.C k27 W A l.length l) (h : ∀ x ∈ l, Wf x) : Src W A (l.map toK) := fun h0 => by
  rw [List.length_map] at h0
  have hpos : 0 < l.length := by omega
  obtain ⟨ad, rfl, hc⟩ := hr.2.2 hpos
  have key : ∀ j x, l[j]? = some x → ∀ c, c < 3 → W.cell? (ad.add (j * 3 + c)) = (penc (toK x))[c]? := fun j x hx c hc5 => by
    obtain ⟨cs, hl, hK, hcell⟩ := hc j x hx
    obtain rfl := k27_open hK
    rw [penc_toK (h x (List.mem_of_getElem? hx))]
    have hcc : c = 0 ∨ c = 1 ∨ c = 2 := by omega
    rcases hcc with rfl | rfl | rfl <;> exact hcell _ _ rfl
  obtain ⟨x0, hx0⟩ : ∃ x, l[0]? = some x := ⟨_, List.getElem?_eq_getElem hpos⟩
  have h0' := key 0 x0 hx0 0 (by decide)
  rw [Nat.zero_mul, Nat.zero_add] at h0'
  obtain ⟨b, o, hb, hlt⟩ := cell_plain (u := .int .i64 (toK x0).a) h0'
  obtain rfl : ad = ⟨b, o, none⟩ := hb
  refine ⟨b, o, rfl, hlt, fun j u hu => ?_⟩
  obtain ⟨x, hx, hp⟩ := fm_get hu
  rw [List.getElem?_map] at hx
  obtain ⟨y, hy, rfl⟩ := Option.map_eq_some_iff.1 hx
  have := key (j / 3) y hy (j % 3) (by omega)
  rw [add_o, show j / 3 * 3 + j % 3 = j by omega] at this
  exact this.trans hp
theorem C_of_src {W : World} {A : Option Addr} {l : List S0} (hs : Src W A (l.map toK)) (h : ∀ x ∈ l, Wf x) (hl : l.length < 4611686018427387904) : Kd.C k27 W A l.length l := by
  have hml : 4611686018427387904 ≤ maxLen := by decide
  refine ⟨rfl, by first | omega | (simp; omega), fun hp => ?_⟩
  obtain ⟨g, o, rfl, hg, hc⟩ := hs (by rw [List.length_map]; omega)
  refine ⟨_, rfl, fun j x hx => ⟨_, rfl, k27_mk W x, fun i u hu => ?_⟩⟩
  have hi : i < 3 := (List.getElem?_eq_some_iff.1 hu).1
  rw [← penc_toK (h x (List.mem_of_getElem? hx))] at hu
  have e := fm_at (l.map toK) j (toK x) (by rw [List.getElem?_map, hx]; rfl) i hi
  rw [add_o]
  exact hc (j * 3 + i) u (e.trans hu)
theorem prow_of_src {w : World} {A : Option Addr} {ps : List Pk} (hs : Src w A ps) (c : Nat) (no : Nat → Prop) (hno : ∀ g o, A = some ⟨g, o, none⟩ → g < w.heap.size → ¬ no g) : PRow w (.slice A ps.length c) ps no := by
  refine ⟨A, c, rfl, fun hne => ?_⟩
  obtain ⟨g, o, rfl, hg, hc⟩ := hs (fun e => hne (List.length_eq_zero_iff.1 e))
  refine ⟨g, o, rfl, hg, hno g o rfl hg, fun j x hx => ?_⟩
  have key : ∀ i u, i < 3 → (penc x)[i]? = some u → w.cell? ⟨g, o + j * 3 + i, none⟩ = some u := fun i u hi hu => by
    rw [Nat.add_assoc]
    exact hc (j * 3 + i) u ((fm_at ps j x hx i hi).trans hu)
  exact ⟨key 0 _ (by decide) rfl, key 1 _ (by decide) rfl, key 2 _ (by decide) rfl⟩
/-- An append of packets (rep's). -/
theorem app_k {d : World} {base cn : Nat} {A0 : Option Addr} {A : Option Addr} {L M : List Pk} (hown : d.ownsRow base 27 3 (.slice A0 L.length cn) L.length (L.flatMap penc)) (hs : Src d A M) (c : Nat) (hl : (L.length + M.length) * 32 ≤ 140737488355328) (hbase : base ≤ d.heap.size) :
    ∃ p2 c2 w2, (∀ ty, (Builtin.append_ #[36, 36] ty #[.slice A0 L.length cn, .slice A M.length c]).run Try.prog d = .ok (.slice p2 (L.length + M.length) c2) w2) ∧
      w2.ownsRow base 27 3 (.slice p2 (L.length + M.length) c2) (L.length + M.length) ((L ++ M).flatMap penc) ∧ d.grownBy w2 (Value.slice A0 L.length cn).ownBlock := by
  obtain ⟨i0, hi, hz0, hz1, hz2⟩ := info_parts info_packet
  have hml : 4611686018427387904 ≤ maxLen := by decide
  by_cases h0 : M.length = 0
  · obtain rfl := List.length_eq_zero_iff.1 h0
    refine ⟨A0, cn, d, fun ty => ?_, by simpa using hown, ⟨rfl, rfl, rfl, Nat.le_refl _, fun _ _ _ => rfl⟩⟩
    have hle : L.length ≤ cn := by
      rcases hown.2 with ⟨h1, h2⟩ | ⟨g, cap', cur, hv, hg, hb, hn, _⟩
      · omega
      · cases hv; exact hn
    cases A <;> cases A0 <;> simp [Builtin.append_, run_underlying Try.underlying36, sizeOf, typeInfo, hi, Builtin.lenOf, Builtin.firstCells, loadCells, loadCellsFrom, hle, storeCells]
  · obtain ⟨g, o, rfl, hg, hc⟩ := hs h0
    have key := fun ty => run_append_own d base 36 ty 27 i0 _ 3 32 Try.underlying36 hi hz0 hz1 hz2 rfl (by decide) _ L.length _ hown ⟨g, o, none⟩ M.length c (M.flatMap penc) (pmap_len M) (fun j u hu => by rw [add_o]; exact hc j u hu) (pmap_one M) (by omega) hl hbase
    obtain ⟨v', w', hr, ho, hgr, _⟩ := key 0
    obtain ⟨p2, c2, rfl⟩ := owns_slice ho
    rw [← List.flatMap_append] at ho
    exact ⟨p2, c2, w', fun ty => hr, ho, hgr⟩
def pmk : Pk := ⟨-77, 0, ⟨#[]⟩, by constructor <;> decide, by constructor <;> decide⟩
theorem own_src {d : World} {base : Nat} {e : TypeId} {A : Option Addr} {n cap : Nat} {L : List Pk} (hn : n = L.length) (h : d.ownsRow base e 3 (.slice A n cap) n (L.flatMap penc)) : Src d A L := by
  subst hn
  exact Src.of_own h
set_option maxRecDepth 100000 in
set_option maxHeartbeats 4000000 in
theorem lent_c {w : World} {A : Option Addr} {c : Nat} {ps : List Pk} (hs : Src w A ps) (hl : (ps.length + 1) * 32 ≤ 140737488355328) :
    Calls Try.prog 21 #[.slice A ps.length c] w fun e w' => ∃ g c', e = .returned (.slice (some ⟨g, 0, none⟩) ps.length c') ∧ w'.ownsRow w.heap.size 27 3 (.slice (some ⟨g, 0, none⟩) (ps.length + 1) c') (ps.length + 1) ((ps ++ [pmk]).flatMap penc) ∧ Below w.heap.size w w' := by
  obtain ⟨p1, c1, w1, r1, o1, g1⟩ := app_k (L := []) (A0 := none) (cn := 0) (World.ownsRow_nil w w.heap.size 27 3) hs c (by simp; omega) (Nat.le_refl _)
  simp only [List.length_nil, Nat.zero_add, List.nil_append] at r1 o1
  have b1 : Below w.heap.size w w1 := (Below.refl _ _).grown g1 (Nat.le_refl _) (fun k e => by cases e)
  have bA := below_alloc (Below.refl w1.heap.size w1) (.cells (#[.int .i64 (-77), .int .i64 0, .string ⟨#[]⟩] : Array Value) 27)
  have hsb : Src (w1.alloc (.cells (#[.int .i64 (-77), .int .i64 0, .string ⟨#[]⟩] : Array Value) 27)) (some ⟨w1.heap.size, 0, none⟩) [pmk] := fun _ => by
    have h := heap_alloc_new w1 (.cells (#[.int .i64 (-77), .int .i64 0, .string ⟨#[]⟩] : Array Value) 27)
    refine ⟨_, 0, rfl, (Array.getElem?_eq_some_iff.1 h).1, fun j u hu => ?_⟩
    rw [Nat.zero_add, blk_cell h, ← hu]
    simp [penc, pmk]
  obtain ⟨p2, c2, w2, r2, o2, g2⟩ := app_k (own_bel o1 bA) hsb 1 hl (by have := b1.size; simp; omega)
  have b2 : Below w.heap.size w w2 := (below_alloc b1 _).grown g2 (by have := b1.size; simp; omega) (fun k e => (own_lt o1 k e).1)
  have e1 : (ps ++ [pmk]).length = ps.length + 1 := by simp
  obtain ⟨g, rfl, _⟩ := own_at' (k := ps.length) (x := pmk) (by rw [e1]; exact o2) (by simp)
  have hcl := cap_le o2
  have hcl2 : ps.length ≤ c2 := by simp at hcl; omega
  have H := Aside0.mk (And.intro o2 b2)
  simp only [List.length_cons, List.length_nil, Nat.zero_add] at r2
  clear o1 g1 b1 bA hsb o2 g2 b2 e1 hcl hs hl
  go_enter Try.func21, Try.ntmps21
  go_wp2
  go_ret
  exact ⟨g, c2, rfl, H.out.1, H.out.2⟩
theorem same_c (x : Pk) (w : World) : Calls Try.prog 26 #[.agg #[.int .i64 x.a, .int .i64 x.b, .string x.s], .agg #[.int .i64 x.a, .int .i64 x.b, .string x.s]] w fun e w' => e = .returned (.bool true) ∧ Below w.heap.size w w' := by
  refine cornucopialaw29_same.calls x.a x.b x.s x.a x.b x.s true w ?_
  unfold cornucopialaw29_same.f
  rw [if_pos rfl, if_pos rfl]
  simp
theorem ite_ev {α : Type} (c : Prop) [Decidable c] (a b : Option α) (ha : ∃ r, a = some r) (hb : ∃ r, b = some r) : ∃ r, (if c then a else b) = some r := by
  by_cases h : c
  · rw [if_pos h]; exact ha
  · rw [if_neg h]; exact hb
theorem room_ev (k : Nat) (x n : Int) : ∃ r, cornucopiabook_Room.f (k + 2) x [n] = some r := by
  have e : ∀ y : Int, ∃ r, cornucopiabook_Room.l0 (k + 1) y [n] (wrap64 ((0 : Int) + 1)) = some r := fun y => by
    have e1 : wrap64 ((0 : Int) + 1) = 1 := by unfold wrap64; omega
    rw [e1, cornucopiabook_Room.l0, if_neg (by simp)]
    exact ⟨_, rfl⟩
  unfold cornucopiabook_Room.f
  rw [cornucopiabook_Room.l0]
  rw [if_pos (by simp)]
  refine ite_ev _ _ _ ⟨_, rfl⟩ ?_
  rw [if_pos (Int.le_refl 0)]
  exact ite_ev _ _ _ ⟨_, rfl⟩ (e _)
theorem wr_succ (i : Nat) (h : i < 4611686018427387904) : wrap64 ((i : Int) + 1) = ((i + 1 : Nat) : Int) := by unfold wrap64; omega
/-- The printed 'small' answers; what is small is short. -/
def SmQ (l : List S0) (o : Option Bool) : Prop := ∃ r, o = some r ∧ (r = true → l.length ≤ 60)
theorem smq_ite {l : List S0} (c : Prop) [Decidable c] (a b : Option Bool) (ha : SmQ l a) (hb : SmQ l b) : SmQ l (if c then a else b) := by
  by_cases h : c
  · rw [if_pos h]; exact ha
  · rw [if_neg h]; exact hb
theorem smq_fin (l : List S0) (x : Int) : SmQ l (if (l.length : Int) ≤ 60 then (some (decide (x ≥ 0))) else (some false)) := by
  by_cases h : (l.length : Int) ≤ 60
  · rw [if_pos h]; exact ⟨_, rfl, fun _ => by omega⟩
  · rw [if_neg h]; exact ⟨_, rfl, fun h => by cases h⟩
theorem small_step (l : List S0) (k i : Nat) (x : Int) (hl : l.length < 4611686018427387904) (hi : i < l.length) (hk : ∀ t, SmQ l (cornucopialaw29_small.l0 (k + 2) l t ((i + 1 : Nat) : Int))) : SmQ l (cornucopialaw29_small.l0 (k + 2 + 1) l x (i : Int)) := by
  have hlt : (i : Int) < (l.length : Int) := by omega
  have h0 : (0 : Int) ≤ (i : Int) := by omega
  rw [cornucopialaw29_small.l0, if_pos hlt]
  refine smq_ite _ _ _ (smq_ite _ _ _ ?_ (smq_fin l x)) (smq_fin l x)
  rw [if_pos h0, wr_succ i (Nat.lt_trans hi hl)]
  obtain ⟨t, ht⟩ := room_ev k x ((rd_T27 l (i : Int)).f2.size : Int)
  rw [ht, Option.bind_some]
  exact hk t
theorem small_go (l : List S0) (hl : l.length < 4611686018427387904) : ∀ (m i : Nat) (x : Int), i + m = l.length → SmQ l (cornucopialaw29_small.l0 (m + 2 + 1) l x (i : Int))
  | 0, i, x, hi => by
    have hlt : ¬ (i : Int) < (l.length : Int) := by omega
    rw [cornucopialaw29_small.l0, if_neg hlt]
    exact smq_fin l x
  | m + 1, i, x, hi => small_step l (m + 1) i x hl (by omega) fun t => small_go l hl m (i + 1) t (by omega)
theorem small_ev (l : List S0) (hl : l.length < 4611686018427387904) : ∃ k, SmQ l (cornucopialaw29_small.f k l) :=
  ⟨_, small_go l hl l.length 0 6000 (Nat.zero_add _)⟩
theorem small_c {w : World} {A : Option Addr} {c : Nat} {l : List S0} (hr : Kd.C k27 w A l.length l) (hc : l.length ≤ c) (hl : l.length < 4611686018427387904) : ∃ r, (r = true → l.length ≤ 60) ∧ Calls Try.prog 20 #[.slice A l.length c] w fun e w' => e = .returned (.bool r) ∧ Below w.heap.size w w' := by
  obtain ⟨k, r, h, hr60⟩ := small_ev l hl
  exact ⟨r, hr60, (cornucopialaw29_small.calls k A c l r w hr hc h).mono fun e w' h => by
    first
      | exact h
      | exact ⟨h.1, h.2.below⟩⟩
theorem samePk_ev (l : List S0) (hl : l.length < 4611686018427387904) : ∃ k, cornucopiabook_SamePackets.f k l l = some true := by
  have go : ∀ (m i : Nat), i + m = l.length → cornucopiabook_SamePackets.l0 (m + 1) l l (i : Int) = some true := by
    intro m
    induction m with
    | zero =>
      intro i hi
      rw [cornucopiabook_SamePackets.l0, if_neg (by omega)]
    | succ m ih =>
      intro i hi
      rw [cornucopiabook_SamePackets.l0, if_pos (by omega), if_pos (by omega), if_pos (by omega), if_pos (by simp)]
      have e : wrap64 ((i : Int) + 1) = ((i + 1 : Nat) : Int) := by unfold wrap64; omega
      rw [e]
      exact ih (i + 1) (by omega)
  refine ⟨l.length + 1, ?_⟩
  unfold cornucopiabook_SamePackets.f
  rw [if_pos rfl]
  exact go l.length 0 (by omega)

/-! ### NetPn -/
set_option maxRecDepth 100000 in
set_option maxHeartbeats 8000000 in
theorem plain_c {w : World} {A : Option Addr} {c : Nat} {ps : List Pk} (hs : Src w A ps) (hl : ps.length ≤ 60) :
    Calls Try.prog 23 #[.slice A ps.length c] w fun e w' => ∃ p c', e = .returned (.slice p ps.length c') ∧ w'.ownsRow w.heap.size 54 3 (.slice p ps.length c') ps.length (ps.flatMap penc) ∧ Below w.heap.size w w' := by
  have HS := Aside0.mk hs
  clear hs
  go_enter Try.func23, Try.ntmps23
  go_wp2
  go_loopw [3, 4] (fun v i wr => ∃ k : Nat, k ≤ ps.length ∧ i = .int .i64 k ∧ ∃ p1 c1, v = .slice p1 k c1 ∧ Aside0 (wr.ownsRow w.heap.size 54 3 (.slice p1 k c1) k ((ps.take k).flatMap penc) ∧ Below w.heap.size w wr)) (fun _ i _ => ps.length - (intOf i).toNat)
  case atStart => exact ⟨0, Nat.zero_le _, rfl, none, 0, rfl, ⟨World.ownsRow_nil _ _ _ _, Below.refl _ _⟩⟩
  case round =>
    obtain ⟨k, hk, rfl, p1, c1, rfl, H1⟩ := hrel
    by_cases hlt : k < ps.length
    · obtain ⟨q, off, rfl, hq, hc⟩ := HS.out (by omega)
      obtain ⟨x, hx⟩ : ∃ x, ps[k]? = some x := ⟨_, List.getElem?_eq_getElem hlt⟩
      have hcx : ∀ i u, i < 3 → (penc x)[i]? = some u → w.cell? ⟨q, off + k * 3 + i, none⟩ = some u := fun i u hi hu => by
        rw [Nat.add_assoc]
        exact hc (k * 3 + i) u ((fm_at ps k x hx i hi).trans hu)
      have key : ∀ w', Below wr.heap.size wr w' → w'.heap[q]? = w.heap[q]? := fun w' hw' => (hw'.block q (Nat.lt_of_lt_of_le hq H1.out.2.size)).trans (H1.out.2.block q hq)
      have x0 : wr.drew.cell? ⟨q, off + k * 3, none⟩ = some (.int .i64 x.a) := (World.cell?_of_block (a := ⟨q, off + k * 3, none⟩) (key _ (below_drew1 (Below.refl _ _)))).trans (hcx 0 _ (by decide) rfl)
      have x1 : wr.drew.cell? ⟨q, off + k * 3 + 1, none⟩ = some (.int .i64 x.b) := (World.cell?_of_block (a := ⟨q, off + k * 3 + 1, none⟩) (key _ (below_drew1 (Below.refl _ _)))).trans (hcx 1 _ (by decide) rfl)
      have x2 : wr.drew.cell? ⟨q, off + k * 3 + 2, none⟩ = some (.string x.s) := (World.cell?_of_block (a := ⟨q, off + k * 3 + 2, none⟩) (key _ (below_drew1 (Below.refl _ _)))).trans (hcx 2 _ (by decide) rfl)
      have htk : ps.take (k + 1) = ps.take k ++ [x] := by rw [List.take_add_one, hx]; rfl
      have htl : (ps.take k).length = k := by rw [List.length_take]; omega
      have hwk := Aside0.mk (show wrap64 ((k : Int) + 1) = (k : Int) + 1 by unfold wrap64; omega)
      have b0 : Below wr.heap.size wr (wr.alloc (box x)).drew := below_drew1 (below_alloc (Below.refl _ _) _)
      have hbx : (wr.alloc (box x)).drew.heap[wr.heap.size]? = some (box x) := heap_alloc_new wr (box x)
      have hz : (wr.alloc (box x)).drew.heap.size = wr.heap.size + 1 := by show (wr.alloc (box x)).heap.size = _; simp
      obtain ⟨p2, c2, w2, r2, o2, g2⟩ := app_any (L := ps.take k) (A0 := p1) (cn := c1) (base := w.heap.size) (by rw [htl]; exact own_bel H1.out.1 b0) (src_box hbx) 1 (by rw [htl]; simp; omega) (by have := H1.out.2.size; omega)
      rw [htl] at r2 o2 g2
      simp only [List.length_cons, List.length_nil, Nat.zero_add] at r2 o2
      rw [← htk] at o2
      have b2 : Below w.heap.size w w2 := (H1.out.2.trans (b0.mono H1.out.2.size)).grown g2 (by have := H1.out.2.size; omega) (fun j e => (own_lt H1.out.1 j e).1)
      have HG := Aside0.mk (And.intro o2 b2)
      dsimp only [box] at r2
      clear hc hcx key hx htk htl b0 hbx hz o2 g2 b2
      go_wp2_with fail
      go_region
      all_goals
        go_wp2_with fail
        exact ⟨⟨k + 1, Nat.succ_le_of_lt hlt, by first | exact iw_succ k | exact iv_succ hwk.out, p2, c2, rfl, HG⟩, by first | exact iw_meas hlt | exact iv_meas hwk.out hlt⟩
    · have hkl : k = ps.length := by omega
      subst hkl
      have hd1 : decide ((ps.length : Int) < (ps.length : Int)) = false := decide_eq_false (Int.lt_irrefl _)
      rw [List.take_length] at *
      go_wp2
      go_ret
      exact ⟨p1, c1, rfl, H1.out⟩
set_option maxRecDepth 100000 in
set_option maxHeartbeats 8000000 in
theorem stays_c {w : World} {base g c' c : Nat} {A : Option Addr} {l : List S0} (hwf : ∀ x ∈ l, Wf x) (hl : l.length ≤ 60) (hm : w.ownsRow base 27 3 (.slice (some ⟨g, 0, none⟩) (l.length + 1) c') (l.length + 1) ((l.map toK ++ [pmk]).flatMap penc)) (hA : Src w A (l.map toK)) (hc : l.length ≤ c) :
    Calls Try.prog 24 #[.slice (some ⟨g, 0, none⟩) l.length c', .slice A l.length c] w fun e w' => e = .returned (.bool true) ∧ Below w.heap.size w w' := by
  have e1 : (l.map toK ++ [pmk]).length = l.length + 1 := by simp
  have hsm : Src w (some ⟨g, 0, none⟩) (l.map toK) := by
    have := (own_src e1.symm hm).head l.length
    rwa [List.take_left' (by simp)] at this
  have hcl := cap_le hm
  obtain ⟨g', hg', m0, m1, m2⟩ := own_at' (k := l.length) (x := pmk) (by rw [e1]; exact hm) (by simp)
  cases hg'
  obtain ⟨k, hk⟩ := samePk_ev l (by omega)
  have HC := Aside0.mk (fun w' (hb : Below w.heap.size w w') => cornucopiabook_SamePackets.calls k (some ⟨g, 0, none⟩) c' l A c l true w' (C_of_src (hsm.below hb) hwf (by omega)) (by omega) (C_of_src (hA.below hb) hwf (by omega)) hc hk)
  have hmv : pmk.a = -77 := rfl
  rw [hmv] at m0
  have i1 : (l.length : Int) ≤ 60 := by omega
  have i2 : l.length + 1 ≤ c' := hcl
  clear hm hsm hA m1 m2 hk hmv e1 hcl hwf
  go_enter Try.func24, Try.ntmps24
  go_wp2_with fail
  refine (HC.out w (Below.refl _ _)).mono ?_
  rintro e w' ⟨rfl, hd⟩
  have hb := hd.below
  have m0' : w'.cell? ⟨g, l.length * 3, none⟩ = some (.int .i64 (-77)) := (World.cell?_of_block (a := ⟨g, l.length * 3, none⟩) (hb.block g (World.block_lt_of_cell? w _ m0))).trans m0
  have HB := Aside0.mk hb
  clear hb hd m0
  go_wp2
  go_ret
  exact ⟨rfl, HB.out⟩

/-! ### NetOk -/
def Ok (L : List Pk) : Prop := L.length ≤ 800 ∧ ∀ x ∈ L, x.s.size ≤ 140737488351232
theorem ok_nil : Ok [] := ⟨by decide, by simp⟩
theorem ok_sub {L M : List Pk} (h : Ok L) (hl : M.length ≤ 800) (hm : ∀ x ∈ M, x ∈ L) : Ok M := ⟨hl, fun x hx => h.2 x (hm x hx)⟩
theorem pkA_sz {L : List Pk} (h : Ok L) (k : Int) : (pkA L k).s.size ≤ 140737488351232 := by
  cases hk : isB L k with
  | true =>
    obtain ⟨j, hj, hx⟩ := isB_in hk
    exact h.2 _ (List.mem_of_getElem? hx)
  | false =>
    unfold pkA
    rw [if_neg (by rw [hk]; decide)]
    exact Nat.zero_le _
theorem ok_pl {L : List Pk} (h : Ok L) (k : Int) : Ok (plL L k) := by
  unfold plL
  split
  · exact ok_sub h (Nat.le_trans (List.length_eraseIdx_le _ _) h.1) fun x hx => List.mem_of_mem_eraseIdx hx
  · exact h
theorem ok_db {L : List Pk} (h : Ok L) (k : Int) : Ok (dbL L k) := by
  unfold dbL
  cases hk : dbB L k with
  | true =>
    have h2 := (dbB_yes hk).2
    rw [if_pos rfl]
    refine ⟨by simp; omega, fun x hx => ?_⟩
    rcases List.mem_append.1 hx with hx | hx
    · exact h.2 x hx
    · rw [List.mem_singleton.1 hx]
      exact pkA_sz h k
  | false =>
    rw [if_neg (by decide)]
    exact h
theorem ok_mv {L : List Pk} (h : Ok L) (k z : Int) : Ok (mvL L k z) := by
  unfold mvL
  cases hk : mvB L k z with
  | true =>
    rw [if_pos rfl]
    unfold mvB at hk
    rw [Bool.and_eq_true] at hk
    obtain ⟨j, hj, hx⟩ := isB_in hk.1
    have hjl := (List.getElem?_eq_some_iff.1 hx).1
    have hkj : k.toNat = j := by omega
    rw [hkj]
    have hle : (L.eraseIdx j).length = L.length - 1 := List.length_eraseIdx_of_lt hjl
    unfold mv
    refine ⟨?_, fun x hx => ?_⟩
    · rw [List.length_append, List.length_cons, List.length_take, List.length_drop]
      have := h.1
      omega
    · rcases List.mem_append.1 hx with hx | hx
      · exact h.2 x (List.mem_of_mem_eraseIdx (List.mem_of_mem_take hx))
      · rcases List.mem_cons.1 hx with rfl | hx
        · exact pkA_sz h k
        · exact h.2 x (List.mem_of_mem_eraseIdx (List.mem_of_mem_drop hx))
  | false =>
    rw [if_neg (by decide)]
    exact h
theorem ok_sp {L : List Pk} (h : Ok L) (k z b : Int) : Ok (spL L k z b) := by
  unfold spL
  cases hk : spB L k with
  | true =>
    rw [if_pos rfl]
    refine ⟨by rw [List.length_set]; exact h.1, fun x hx => ?_⟩
    rcases List.mem_or_eq_of_mem_set hx with hx | rfl
    · exact h.2 x hx
    · show (spb _ _ _).size ≤ _
      rw [spb_sz]
      exact pkA_sz h k
  | false =>
    rw [if_neg (by decide)]
    exact h
theorem sent_mem (C : Int → Int → Bool) (n0 : Nat) (ps : List Pk) : ∀ x ∈ sent C n0 ps, x ∈ ps := by
  have go : ∀ (ps acc : List Pk) (x : Pk), x ∈ ps.foldl (fun acc x => if C (mn x.a x.b) (mx x.a x.b) || decide (800 ≤ n0 + acc.length) then acc else acc ++ [x]) acc → x ∈ acc ∨ x ∈ ps := by
    intro ps
    induction ps with
    | nil => intro acc x h; exact .inl h
    | cons y r ih =>
      intro acc x h
      rcases ih _ x h with h | h
      · dsimp only at h
        split at h
        · exact .inl h
        · rcases List.mem_append.1 h with h | h
          · exact .inl h
          · rw [List.mem_singleton.1 h]
            exact .inr List.mem_cons_self
      · exact .inr (List.mem_cons_of_mem _ h)
  intro x hx
  rcases go ps [] x hx with h | h
  · cases h
  · exact h
theorem ok_sent {L ps : List Pk} (C : Int → Int → Bool) (h : Ok L) (hp : ∀ x ∈ ps, x.s.size ≤ 140737488351232) : Ok (L ++ sent C L.length ps) := by
  refine ⟨by rw [List.length_append]; exact sent_le C L.length h.1 ps, fun x hx => ?_⟩
  rcases List.mem_append.1 hx with hx | hx
  · exact h.2 x hx
  · exact hp x (sent_mem C _ ps x hx)
/-- The operations that come in, and their bounds. -/
abbrev Sop := RoS.S48
def OpOk (x : Sop) : Prop := I64 x.f0 ∧ I64 x.f1 ∧ I64 x.f2 ∧ I64 x.f3 ∧ (∀ y ∈ x.f4, Wf y ∧ y.f2.size ≤ 140737488351232) ∧ (x.f4.length + 1) * 32 ≤ 140737488355328
theorem opok_of {x : Sop} (h : (Lit.int .i64 x.f0).wf = true ∧ (Lit.int .i64 x.f1).wf = true ∧ (Lit.int .i64 x.f2).wf = true ∧ (Lit.int .i64 x.f3).wf = true ∧ (x.f4.length * Try.prog.bytesOf 27 ≤ 140737488351232 ∧ ∀ q_ ∈ x.f4, ((Lit.int .i64 q_.f0).wf = true ∧ (Lit.int .i64 q_.f1).wf = true ∧ q_.f2.size ≤ 140737488351232))) : OpOk x := by
  obtain ⟨h0, h1, h2, h3, h4, h5⟩ := h
  have hb : Try.prog.bytesOf 27 = 32 := by kernel_rfl
  rw [hb] at h4
  exact ⟨(wf_i _).1 h0, (wf_i _).1 h1, (wf_i _).1 h2, (wf_i _).1 h3, fun y hy => ⟨⟨(wf_i _).1 (h5 y hy).1, (wf_i _).1 (h5 y hy).2.1⟩, (h5 y hy).2.2⟩, by omega⟩
theorem op_open {w : World} {x : Sop} {cs : List Value} (h : RoS.k48.K w x cs) : ∃ P c, cs = [.int .i64 x.f0, .int .i64 x.f1, .int .i64 x.f2, .int .i64 x.f3, .slice P x.f4.length c] ∧ x.f4.length ≤ c ∧ Kd.C k27 w P x.f4.length x.f4 := by
  obtain ⟨_, _, rfl, rfl, ⟨_, _, rfl, rfl, ⟨_, _, rfl, rfl, ⟨_, _, rfl, rfl, ⟨P, c, rfl, h1, h2⟩⟩⟩⟩⟩ := h
  exact ⟨P, c, rfl, h1, h2⟩
theorem op_at {W : World} {A : Option Addr} {l : List Sop} (hr : Kd.C RoS.k48 W A l.length l) {k : Nat} {x : Sop} (hx : l[k]? = some x) : ∃ q off P c, A = some ⟨q, off, none⟩ ∧ q < W.heap.size ∧ x.f4.length ≤ c ∧ Kd.C k27 W P x.f4.length x.f4 ∧
    W.cell? ⟨q, off + k * 5, none⟩ = some (.int .i64 x.f0) ∧ W.cell? ⟨q, off + k * 5 + 1, none⟩ = some (.int .i64 x.f1) ∧ W.cell? ⟨q, off + k * 5 + 2, none⟩ = some (.int .i64 x.f2) ∧ W.cell? ⟨q, off + k * 5 + 3, none⟩ = some (.int .i64 x.f3) ∧ W.cell? ⟨q, off + k * 5 + 4, none⟩ = some (.slice P x.f4.length c) := by
  have hk := (List.getElem?_eq_some_iff.1 hx).1
  obtain ⟨ad, rfl, hc⟩ := hr.2.2 (by omega)
  obtain ⟨x0, hx0⟩ : ∃ x, l[0]? = some x := ⟨_, List.getElem?_eq_getElem (by omega)⟩
  obtain ⟨cs0, _, hK0, hcell0⟩ := hc 0 x0 hx0
  obtain ⟨P0, c0, rfl, _, _⟩ := op_open hK0
  have h0' := hcell0 0 _ rfl
  rw [Nat.zero_mul, Nat.zero_add] at h0'
  obtain ⟨q, off, hb, hlt⟩ := cell_plain (u := .int .i64 x0.f0) h0'
  obtain rfl : ad = ⟨q, off, none⟩ := hb
  obtain ⟨cs, hl, hK, hcell⟩ := hc k x hx
  obtain ⟨P, c, rfl, h1, h2⟩ := op_open hK
  have key : ∀ i u, [Value.int .i64 x.f0, .int .i64 x.f1, .int .i64 x.f2, .int .i64 x.f3, .slice P x.f4.length c][i]? = some u → W.cell? ((⟨q, off, none⟩ : Addr).add (k * 5 + i)) = some u := fun i u hu => hcell i u hu
  have key2 : ∀ i u, [Value.int .i64 x.f0, .int .i64 x.f1, .int .i64 x.f2, .int .i64 x.f3, .slice P x.f4.length c][i]? = some u → W.cell? ⟨q, off + k * 5 + i, none⟩ = some u := fun i u hu => by
    have := key i u hu
    rwa [add_o, ← Nat.add_assoc] at this
  exact ⟨q, off, P, c, rfl, hlt, h1, h2, key2 0 _ rfl, key2 1 _ rfl, key2 2 _ rfl, key2 3 _ rfl, key2 4 _ rfl⟩

/-! ### NetEq -/
theorem neq_pk (a b : Int) (s : ByteArray) (w : World) : (binOp .neq 27 (.agg #[.int .i64 a, .int .i64 b, .string s]) (.agg #[.int .i64 a, .int .i64 b, .string s])).run Try.prog w = .ok (.bool false) w := by
  simp only [binOp]
  show (do let b ← Op.equalIn (9998 + 2) 27 (.agg #[.int .i64 a, .int .i64 b, .string s]) (.agg #[.int .i64 a, .int .i64 b, .string s]); pure (Value.bool (!b))).run Try.prog w = _
  rw [Sem.run_bind, eqA27]
  simp
end Go.Proofs.Ytbcgeajnmnnbhaa.Nt
