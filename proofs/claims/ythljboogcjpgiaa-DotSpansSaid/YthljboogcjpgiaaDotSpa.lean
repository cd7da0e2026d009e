/- What spans say of a set's dots, in plain words; rows of dots and of spans appended and compared. -/
import Derived.Test.YthljboogcjpgiaaDotRem
import Derived.Laws.AppendOwnNone
set_option linter.unusedSimpArgs false
set_option linter.unusedVariables false
namespace Go.Proofs.Ythljboogcjpgiaa.Ds
open Go.RowKit Go.Maps Go.Sort Go.Shelf Go.Proofs.Ythljboogcjpgiaa.PAll Go.Proofs.YthljboogcjpgiaaW.PrintWords

/-- Of two spans that stand side by side (the later one first), of one actor, there is a gap between. -/
def chain : List Sp → Prop
  | y :: z :: r => (y.f0 = z.f0 → z.f2 + 1 < y.f1) ∧ chain (z :: r)
  | _ => True
theorem chain_at : ∀ (R : List Sp), chain R → ∀ j y z, R[j]? = some y → R[j + 1]? = some z → y.f0 = z.f0 → z.f2 + 1 < y.f1
  | [], _, j, y, z, h, _, _ => by simp at h
  | [_], _, j, y, z, _, h, _ => by simp at h
  | a :: b :: r, h, 0, y, z, h1, h2, e => by
    simp at h1 h2
    subst h1 h2
    exact h.1 e
  | a :: b :: r, h, j + 1, y, z, h1, h2, e => chain_at (b :: r) h.2 j y z (by simpa using h1) (by simpa using h2) e
theorem chain_tail {y : Sp} {r : List Sp} (h : chain (y :: r)) (n : Int) : chain (⟨y.f0, y.f1, n⟩ :: r) := by
  cases r with
  | nil => trivial
  | cons z r => exact ⟨h.1, h.2⟩
theorem rk_actor {x y : Vd} (h : x.1.f0 = y.1.f0) : rkv x < rkv y ↔ x.1.f1 < y.1.f1 := by
  unfold rkv rk
  rw [h]
  omega
/-- How the spans of a set's dots stand. -/
def Good (L : List Vd) : Prop := (∀ s ∈ spansR L, ∃ d ∈ L, d.1.f0 = s.f0 ∧ d.1.f1 = s.f1) ∧ chain (spansR L) ∧ ∀ x, L.getLast? = some x → ∃ y r, spansR L = y :: r ∧ y.f0 = x.1.f0 ∧ y.f2 = x.1.f1
theorem good_snoc {L : List Vd} {x : Vd} (h : Good L) (hr : Rising (L ++ [x])) : Good (L ++ [x]) := by
  obtain ⟨h1, h2, h3⟩ := h
  have hx : ∀ d ∈ L, rkv d < rkv x := fun d hd => (List.pairwise_append.1 hr).2.2 d hd x (by simp)
  unfold Good
  rw [spansR_snoc]
  rcases List.eq_nil_or_concat L with rfl | ⟨L', z, hL⟩
  · refine ⟨fun s hs => ?_, trivial, fun y hy => ?_⟩
    · have : s = newSp x.1 := by simpa [spansR, stepR] using hs
      subst this
      exact ⟨x, by simp, rfl, rfl⟩
    · have : x = y := by simpa using hy
      subst this
      exact ⟨newSp x.1, [], rfl, rfl, rfl⟩
  · rw [List.concat_eq_append] at hL
    obtain ⟨y, r, e, e0, e2⟩ := h3 z (by rw [hL]; simp)
    have hz := hx z (by rw [hL]; simp)
    rw [e] at h1 h2
    rw [e]
    have hlast : ∀ w, (L ++ [x]).getLast? = some w → w = x := fun w hw => by simpa using hw.symm
    cases hj : joins y x.1 with
    | true =>
      have es : stepR (y :: r) x.1 = ⟨y.f0, y.f1, x.1.f1⟩ :: r := by simp [stepR, hj]
      unfold joins at hj
      simp only [Bool.and_eq_true, beq_iff_eq, bne_iff_ne] at hj
      obtain ⟨⟨⟨⟨⟨a, b⟩, c⟩, d⟩, _⟩, _⟩ := hj
      rw [es]
      refine ⟨fun s hs => ?_, chain_tail h2 _, fun w hw => ?_⟩
      · rcases List.mem_cons.1 hs with rfl | hs
        · obtain ⟨dd, hd, g⟩ := h1 y (by simp)
          exact ⟨dd, List.mem_append_left _ hd, g⟩
        · obtain ⟨dd, hd, g⟩ := h1 s (List.mem_cons_of_mem _ hs)
          exact ⟨dd, List.mem_append_left _ hd, g⟩
      · obtain rfl := hlast w hw
        refine ⟨_, _, rfl, ?_, rfl⟩
        show y.f0 = w.1.f0
        obtain ⟨⟨y0, y1, y2, y3⟩, _, _⟩ := y
        obtain ⟨⟨⟨w0, w1, w2, w3⟩, _⟩, _⟩ := w
        simp only at a b c d ⊢
        rw [a, b, c, d]
    | false =>
      have es : stepR (y :: r) x.1 = newSp x.1 :: y :: r := by simp [stepR, hj]
      rw [es]
      refine ⟨fun s hs => ?_, ⟨fun he => ?_, h2⟩, fun w hw => ?_⟩
      · rcases List.mem_cons.1 hs with rfl | hs
        · exact ⟨x, by simp, rfl, rfl⟩
        · obtain ⟨dd, hd, g⟩ := h1 s hs
          exact ⟨dd, List.mem_append_left _ hd, g⟩
      · have he' : x.1.f0 = y.f0 := he
        show y.f2 + 1 < x.1.f1
        have hzx : z.1.f1 < x.1.f1 := (rk_actor (e0.symm.trans he'.symm)).1 hz
        have hxn := x.2.n
        have hne : ¬ (y.f2 + 1 = x.1.f1) := fun h => by
          unfold joins at hj
          rw [← he'] at hj
          have h5 : (y.f2 != 18446744073709551615) = true := by rw [bne_iff_ne]; omega
          have h6 : (y.f2 + 1 == x.1.f1) = true := by rw [beq_iff_eq]; exact h
          rw [h5, h6] at hj
          simp at hj
        omega
      · obtain rfl := hlast w hw
        exact ⟨_, _, rfl, rfl, rfl⟩
theorem good_all : ∀ (n : Nat) (L : List Vd), L.length = n → Rising L → Good L
  | 0, L, h, _ => by
    have : L = [] := List.length_eq_zero_iff.1 h
    subst this
    exact ⟨fun s hs => by simp [spansR] at hs, trivial, fun x hx => by simp at hx⟩
  | n + 1, L, h, hr => by
    rcases List.eq_nil_or_concat L with rfl | ⟨L', x, hL⟩
    · simp at h
    · rw [List.concat_eq_append] at hL
      subst hL
      exact good_snoc (good_all n L' (by simp at h; exact h) (List.pairwise_append.1 hr).1) hr
/-- Two spans of a set side by side. -/
theorem spans_gap {S : List Vd} (h : Rising S) {i : Nat} {y z : Sp} (hz : (spansOf S)[i]? = some z) (hy : (spansOf S)[i + 1]? = some y) (e : y.f0 = z.f0) : z.f2 + 1 < y.f1 := by
  have hg := (good_all _ S rfl h).2.1
  unfold spansOf at hz hy
  have hl : i + 1 < (spansR S).length := by
    have := (List.getElem?_eq_some_iff.1 hy).1
    simpa using this
  rw [List.getElem?_reverse (by omega)] at hz hy
  refine chain_at _ hg ((spansR S).length - 1 - (i + 1)) y z hy ?_ e
  rw [show (spansR S).length - 1 - (i + 1) + 1 = (spansR S).length - 1 - i by omega]
  exact hz
theorem spans_start {S : List Vd} (h : Rising S) {s : Sp} (hs : s ∈ spansOf S) : ∃ d ∈ S, d.1.f0 = s.f0 ∧ d.1.f1 = s.f1 :=
  (good_all _ S rfl h).1 s (List.mem_reverse.1 hs)
theorem spansOf_len (S : List Vd) : (spansOf S).length ≤ S.length := by
  unfold spansOf
  rw [List.length_reverse]
  have go : ∀ (L : List Vd) (R : List Sp), (L.foldl (fun R x => stepR R x.1) R).length ≤ R.length + L.length := by
    intro L
    induction L with
    | nil => intro R; simp
    | cons x L ih =>
      intro R
      have h1 := ih (stepR R x.1)
      have h2 : (stepR R x.1).length ≤ R.length + 1 := by
        unfold stepR
        split
        · simp
        · split <;> simp
      simp only [List.foldl_cons, List.length_cons]
      omega
  have := go S []
  simpa [spansR] using this
/-! ### rows of spans -/
theorem C_of_spans {W : World} {base : Nat} {A : Option Addr} {cap : Nat} {L : List Sp} (h : W.ownsRow base 45 6 (.slice A L.length cap) L.length (L.flatMap scells)) : Kd.C k45 W A L.length L ∧ L.length ≤ cap := by
  rcases h.2 with ⟨h0, hz⟩ | ⟨g, cap', cur, hv, hg, hb, hn, hcp, hz, ht⟩
  · rw [hz] at h0
    cases h0
    exact ⟨⟨rfl, by omega, fun hp => by omega⟩, by omega⟩
  · cases hv
    refine ⟨⟨rfl, by unfold maxLen at hcp; omega, fun hp => ⟨_, rfl, fun j x hx => ⟨scells x, rfl, k45_mk W x, fun i u hu => ?_⟩⟩⟩, hn⟩
    have hi : i < 6 := (List.getElem?_eq_some_iff.1 hu).1
    have hj : j < L.length := (List.getElem?_eq_some_iff.1 hx).1
    rw [add_o, Nat.zero_add, blk_cell hb, ← Array.getElem?_toList]
    have h1 : (cur.toList.take (L.length * 6))[j * 6 + i]? = (L.flatMap scells)[j * 6 + i]? := by rw [ht]
    rw [List.getElem?_take_of_lt (by omega)] at h1
    show cur.toList[j * 6 + i]? = _
    rw [h1]
    have hL : L = L.take j ++ x :: L.drop (j + 1) := by
      obtain ⟨_, e⟩ := List.getElem?_eq_some_iff.1 hx
      rw [← e, List.getElem_cons_drop, List.take_append_drop]
    rw [hL, List.flatMap_append, List.flatMap_cons, List.getElem?_append_right (by rw [smap_len, List.length_take]; omega), smap_len, List.length_take, Nat.min_eq_left (by omega), List.getElem?_append_left (by rw [scells_length]; omega), show j * 6 + i - j * 6 = i by omega]
    exact hu
theorem sameSpans_true (l : List Sp) (hl : l.length < 4611686018427387904) : ∃ k, cornucopiabook_SameSpans.f k l l = some true := by
  have go : ∀ (m i : Nat), i + m = l.length → cornucopiabook_SameSpans.l0 (m + 1) l l (i : Int) = some true := by
    intro m
    induction m with
    | zero =>
      intro i hi
      rw [cornucopiabook_SameSpans.l0, if_neg (by omega)]
    | succ m ih =>
      intro i hi
      rw [cornucopiabook_SameSpans.l0, if_pos (by omega), if_pos (by omega), if_pos (by omega), if_pos (by simp)]
      have e : wrap64 ((i : Int) + 1) = ((i + 1 : Nat) : Int) := by unfold wrap64; omega
      rw [e]
      exact ih (i + 1) (by omega)
  refine ⟨l.length + 1, ?_⟩
  unfold cornucopiabook_SameSpans.f
  rw [if_pos rfl]
  exact go l.length 0 (by omega)
theorem sameSpans_c {W : World} {base base' : Nat} {A A' : Option Addr} {cap cap' : Nat} {L : List Sp} (h : W.ownsRow base 45 6 (.slice A L.length cap) L.length (L.flatMap scells)) (h' : W.ownsRow base' 45 6 (.slice A' L.length cap') L.length (L.flatMap scells)) (hL : L.length < 4611686018427387904) :
    Calls Try.prog 22 #[.slice A L.length cap, .slice A' L.length cap'] W fun e w' => e = .returned (.bool true) ∧ ∃ n, w' = W.drewN n := by
  obtain ⟨k, hk⟩ := sameSpans_true L hL
  have c1 := C_of_spans h
  have c2 := C_of_spans h'
  exact (cornucopiabook_SameSpans.calls k A cap L A' cap' L true W c1.1 c1.2 c2.1 c2.2 hk).mono fun e w' ⟨h1, h2⟩ => ⟨h1, h2.out⟩
/-! ### a row of dots appended -/
theorem info_dot5 : (Try.prog.info? 26).map (fun i => (i.zero, i.size, i.bytes)) = some (some (.agg #[.int .u8 0, .int .u8 0, .int .u8 0, .int .u8 0, .int .u64 0]), 5, 16) := by kernel_rfl
theorem run_append_none {w : World} (base : Nat) (ty : TypeId) (c : Nat) (v : Value) (n : Nat) (xs : List Value) (hown : w.ownsRow base 26 5 v n xs) :
    (Builtin.append_ #[39, 39] ty #[v, .slice none 0 c]).run Try.prog w = .ok v w := by
  obtain ⟨i, hi, _⟩ := info_parts info_dot5
  have ht := Try.underlying39
  rcases hown.2 with ⟨rfl, rfl⟩ | ⟨g, cap, cur, rfl, _, _, hnc, _⟩
  · simp [Builtin.append_, run_underlying ht, sizeOf, typeInfo, hi, Builtin.lenOf, Builtin.firstCells]
  · simp [Builtin.append_, run_underlying ht, sizeOf, typeInfo, hi, Builtin.lenOf, Builtin.firstCells, hnc, storeCells]
theorem wpList_append_d {w : World} {ops : Array Oper} {rest : List Oper} {o : Oper} {a : Act} {Q : Exit → Act → World → Prop} (hgd : o.guard = none) (s x : Operand)
    (ho : o.op = .call { callee := .builtin .append, args := #[s, x], argTypes := #[39, 39] }) (base : Nat) (v : Value) (n : Nat) (xs : List Value) (hs : a.eval s = v) (hown : w.ownsRow base 26 5 v n xs)
    (u : Value) (l : List Vd) (no : Nat → Prop) (hx : a.eval x = u) (hl : DRow w u l no) (hb : n + l.length ≤ 1000000) (hbase : base ≤ w.heap.size)
    (h : ∀ v' w', w'.ownsRow base 26 5 v' (n + l.length) (xs ++ l.flatMap venc) → w.grownBy w' v.ownBlock → wpList Try.prog ops Q rest (a.put o.dst v') w') : wpList Try.prog ops Q (o :: rest) a w := by
  obtain ⟨i, hi, hz0, hz1, hz2⟩ := info_parts info_dot5
  obtain ⟨p, c, rfl, hr⟩ := hl
  cases p with
  | none =>
    have hl0 : l = [] := Classical.byContradiction fun hne => by
      obtain ⟨q, off, e, _⟩ := hr hne
      cases e
    subst hl0
    refine wpList_plain hgd fun K hK => ?_
    have hrun := run_append_none (w := w) base o.type c v n xs hown
    unfold Oper.wp
    simp [execOp, ho, resolve, invoke, builtin, hs, hx, hrun, Result.andThen]
    exact hK _ _ (h v w (by simpa using hown) ⟨rfl, rfl, rfl, Nat.le_refl _, fun _ _ _ => rfl⟩)
  | some ad =>
    refine wpList_append_own w hgd s x _ ho base 26 i _ 5 16 Try.underlying39 hi hz0 hz1 hz2 rfl (by decide) v n xs hs hown ad l.length c (l.flatMap venc) hx (flatMap_len l) (fun j u hj => ?_) (fun u hu => ?_) (by unfold maxLen; omega) (by omega) hbase fun v' w' h1 h2 _ => h v' w' h1 h2
    · have hne : l ≠ [] := fun e => by rw [e] at hj; simp at hj
      obtain ⟨q, off, e, hq, hno, hc⟩ := hr hne
      cases e
      have hjl : j < l.length * 5 := by rw [← flatMap_len l]; exact (List.getElem?_eq_some_iff.1 hj).1
      have h1 := flatMap_get l j hjl
      rw [hj] at h1
      have hd : j / 5 < l.length := by omega
      have h2 : l[j / 5]? = some (l.toArray[j / 5]!) := by
        rw [List.getElem?_eq_getElem hd, getElem!_pos l.toArray (j / 5) (by simpa using hd)]
        simp
      have h3 := hc (j / 5) _ h2 (j % 5) (by omega)
      rw [add_o, show off + j = off + j / 5 * 5 + j % 5 by omega, h3, ← h1]
    · obtain ⟨y, _, hy⟩ := List.mem_flatMap.1 hu
      exact venc_one y u hy
end Go.Proofs.Ythljboogcjpgiaa.Ds
