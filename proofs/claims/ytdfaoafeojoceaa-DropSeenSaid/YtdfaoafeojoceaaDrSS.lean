/- DrT, DrTo, DrTl, DrTm, DrTn, DrTp, DrTq, DrSn: these texts as one. -/
import Derived.Test.YtdfaoafeojoceaaDrI
import Derived.Deep.DeepCutAuto
import Derived.Deep.CutBlock
import Derived.Test.YtdfaoafeojoceaaPAllx10
import Derived.Test.YtdfaoafeojoceaaPAllx11
import Derived.Deep.RegionHeld3
set_option linter.unusedSimpArgs false
set_option linter.unusedVariables false
namespace Go.Proofs.Ytdfaoafeojoceaa.Dr
open Go.Maps Go.Proofs Go.Proofs.Ytdfaoafeojoceaa.PAll Go.Proofs.Ytdfaoafeojoceaa.Pb Go.Proofs.Ytdfaoafeojoceaa.Pure Go.Proofs.Ytdfaoafeojoceaa.Rw Go.Proofs.YtdfaoafeojoceaaW.PrintMore Go.Proofs.YtdfaoafeojoceaaW.PrintWords Go.RowKit Go.Sort

attribute [local go_sem] put_fresh max2_int max_two
attribute [-go_sem] Builtin.append_
/-! ### DrT -/
theorem insK_all (l : List En) (x : En) (h : ∀ y ∈ l, cmpE y x < 0) : insK l x = l.length := by
  induction l with
  | nil => rfl
  | cons y r ih =>
    unfold insK
    rw [if_pos (h y (List.mem_cons_self ..)), ih (fun z hz => h z (List.mem_cons_of_mem _ hz)), List.length_cons]
theorem insL_all (l : List En) (x : En) (h : ∀ y ∈ l, cmpE y x < 0) : insL l x = l ++ [x] := by
  unfold insL
  rw [insK_all l x h, if_neg (fun h => Nat.lt_irrefl _ h.1), List.take_length, List.drop_length, List.append_nil]
/-- In order. -/
abbrev Inc (l : List En) : Prop := l.Pairwise (fun x y => cmpE x y < 0)
theorem inc_take {l : List En} (h : Inc l) {k : Nat} {x : En} (hx : l[k]? = some x) : insL (l.take k) x = l.take (k + 1) := by
  have e := split_at hx
  unfold Inc at h
  rw [e, List.pairwise_append] at h
  rw [insL_all _ _ (fun y hy => h.2.2 y hy x (List.mem_cons_self ..)), List.take_add_one, hx]
  rfl
set_option maxRecDepth 100000 in
set_option maxHeartbeats 1600000 in
theorem all_c {W : World} {B c : Nat} {A : Option Addr} {l : List En} {t : TypeId} (hB : W.heap[B]? = some (.cells #[.slice A l.length c] t (0, 0))) (hr : Reads KE W A l) (hl : l.length ≤ 10000) (hk : ∀ y ∈ l, y.f0.size ≤ 1000000) (ho : Inc l) :
    Calls Try.prog 30 #[.slice (some ⟨B, 0, none⟩) 1 1] W fun e w' => ∃ A' c', e = .returned (.slice A' l.length c') ∧ Rw.Own KE 37 w' W.heap.size A' c' l ∧ Below W.heap.size W w' := by
  have HR := Aside0.mk (And.intro hr (And.intro hk (And.intro ho hB)))
  clear hr hk ho hB
  go_enter Try.func30, Try.ntmps30
  go_wp2
  go_loopw [3, 4] (fun s3 i wr => ∃ (k : Nat) (A1 : Option Addr) (c1 : Nat) (L : List En), k ≤ 1 ∧ i = .int .i64 k ∧ s3 = .slice A1 L.length c1 ∧ L = l.take (k * l.length) ∧ Aside0 (Rw.Own KE 37 wr W.heap.size A1 c1 L ∧ Below W.heap.size W wr)) (fun _ i _ => 1 - (intOf i).toNat)
  case atStart => exact ⟨0, none, 0, [], Nat.zero_le _, rfl, rfl, by simp, ⟨⟨Rw.Own.nil _ _ _ _, Below.refl _ _⟩⟩⟩
  case round =>
    obtain ⟨k, A1, c1, L, hk, rfl, rfl, hL, H1⟩ := hrel
    obtain ⟨w1, hw1⟩ : ∃ w1, w1 = wr := ⟨_, rfl⟩
    subst wr
    rcases (by omega : k = 0 ∨ k = 1) with rfl | rfl
    · obtain rfl : L = [] := by rw [hL]; simp
      go_wp2
      go_loopw [3, 5] (fun s3 i wr => ∃ (j : Nat) (A2 : Option Addr) (c2 : Nat), j ≤ l.length ∧ i = .int .i64 j ∧ s3 = .slice A2 j c2 ∧ Aside0 (Rw.Own KE 37 wr W.heap.size A2 c2 (l.take j) ∧ Below W.heap.size W wr)) (fun _ i _ => l.length - (intOf i).toNat)
      case atStart => exact ⟨0, A1, c1, Nat.zero_le _, rfl, rfl, ⟨⟨by rw [List.take_zero]; exact H1.out.1, H1.out.2⟩⟩⟩
      case round =>
        obtain ⟨j, A2, c2, hj, rfl, rfl, H2⟩ := hrel
        obtain ⟨w2, hw2⟩ : ∃ w2, w2 = wr := ⟨_, rfl⟩
        subst wr
        have hBw := (H2.out.2.block B (Array.getElem?_eq_some_iff.1 HR.out.2.2.2).1).trans HR.out.2.2.2
        have b0 : w2.cell? ⟨B, 0, none⟩ = some (.slice A l.length c) := blk_cell hBw 0
        clear hBw
        by_cases hlt : j < l.length
        · have hwk := Aside0.mk (show wrap64 ((j : Int) + 1) = (j : Int) + 1 by unfold wrap64; omega)
          have hR := HR.out.1.below H2.out.2
          obtain ⟨g, o, rfl, hg⟩ := hR.where hlt
          obtain ⟨y, hy⟩ : ∃ y, l[j]? = some y := ⟨_, List.getElem?_eq_getElem hlt⟩
          have y0 : w2.cell? ⟨g, o + j * 4, none⟩ = some (.string y.f0) := hR.at hy (i := 0) rfl
          have y1 : w2.cell? ⟨g, o + j * 4 + 1, none⟩ = some (.int .u64 y.f1) := hR.at hy (i := 1) rfl
          have y2 : w2.cell? ⟨g, o + j * 4 + 2, none⟩ = some (.int .i64 y.f2) := hR.at hy (i := 2) rfl
          have y3 : w2.cell? ⟨g, o + j * 4 + 3, none⟩ = some (.string y.f3) := hR.at hy (i := 3) rfl
          have HI := Aside0.mk (inc_take HR.out.2.2.1 hy)
          have HY := Aside0.mk hy
          clear hR hg hy
          go_wp2_with fail
          have hc := insert_c H2.out.1 (by rw [List.length_take]; omega) y (fun z hz => HR.out.2.1 z (List.mem_of_mem_take hz)) (HR.out.2.1 y (List.mem_of_getElem? HY.out)) H2.out.2.size
          rw [List.length_take, Nat.min_eq_left hj] at hc
          refine hc.mono ?_
          rintro e w4 ⟨A4, c4, v, rfl, ho4, hb4⟩
          have hle : (insL (l.take j) y).length = j + 1 := by rw [HI.out, List.length_take, Nat.min_eq_left hlt]
          rw [HI.out] at ho4
          have H4 := Aside0.mk (And.intro ho4 (H2.out.2.trans (hb4.mono H2.out.2.size)))
          rw [hle]
          clear hc ho4 hb4 hle y0 y1 y2 y3 b0
          go_wp2_with fail
          refine ⟨?_, by first | exact iw_meas hlt | exact iv_meas hwk.out hlt⟩
          repeat apply Exists.intro
          refine And.intro ?_ rfl
          exact ⟨j + 1, A4, c4, hlt, by first | exact iw_succ j | exact iv_succ hwk.out, rfl, H4⟩
        · have hjl : j = l.length := by omega
          subst hjl
          have hd1 : decide ((l.length : Int) < (l.length : Int)) = false := decide_eq_false (Int.lt_irrefl _)
          go_wp2_with fail
          exact ⟨⟨1, A2, c2, l, Nat.le_refl _, rfl, rfl, by simp, by rw [List.take_length] at H2; exact H2⟩, by simp [intOf]⟩
    · obtain rfl : L = l := by rw [hL]; simp
      go_wp2
      go_ret
      exact ⟨_, _, rfl, H1.out⟩

/-! ### DrTo -/
theorem cmp_neg (x y : En) : cmpE x y < 0 ↔ (ls x.f0 < ls y.f0 ∨ (ls x.f0 = ls y.f0 ∧ y.f1 < x.f1)) := by
  unfold cmpE
  by_cases h1 : ls x.f0 < ls y.f0
  · simp [h1]
  · by_cases h2 : ls y.f0 < ls x.f0
    · rw [if_neg h1, if_pos h2]
      constructor
      · intro h; omega
      · rintro (h | ⟨h, _⟩)
        · exact absurd h h1
        · rw [h] at h2; exact absurd h2 (List.lt_irrefl _)
    · have e : ls x.f0 = ls y.f0 := List.le_antisymm (List.not_lt.1 h2) (List.not_lt.1 h1)
      rw [if_neg h1, if_neg h2]
      by_cases h3 : x.f1 > y.f1
      · rw [if_pos h3]; simp [e]; omega
      · rw [if_neg h3]
        constructor
        · intro h; split at h <;> omega
        · rintro (h | ⟨_, h⟩)
          · exact absurd h h1
          · omega
theorem cmp_trans {x y z : En} (h1 : cmpE x y < 0) (h2 : cmpE y z < 0) : cmpE x z < 0 := by
  rw [cmp_neg] at *
  rcases h1 with h1 | ⟨e1, h1⟩
  · rcases h2 with h2 | ⟨e2, h2⟩
    · exact .inl (List.lt_trans h1 h2)
    · exact .inl (e2 ▸ h1)
  · rcases h2 with h2 | ⟨e2, h2⟩
    · exact .inl (e1 ▸ h2)
    · exact .inr ⟨e1.trans e2, by omega⟩
theorem inc_of {l : List En} (h : ∀ j, 1 ≤ j → j < l.length → cmpE (enAt l (j - 1)) (enAt l j) < 0) : Inc l := by
  have key : ∀ d i, i + d + 1 < l.length → cmpE (enAt l i) (enAt l (i + d + 1)) < 0 := by
    intro d
    induction d with
    | zero => intro i hi; exact h (i + 1) (by omega) hi
    | succ d ih =>
      intro i hi
      exact cmp_trans (ih i (by omega)) (h (i + (d + 1) + 1) (by omega) hi)
  refine List.pairwise_iff_getElem.2 fun i j hi hj hij => ?_
  have := key (j - i - 1) i (by omega)
  rw [show i + (j - i - 1) + 1 = j by omega] at this
  rwa [enAt_eq (List.getElem?_eq_getElem hi), enAt_eq (List.getElem?_eq_getElem hj)] at this
theorem inc_sub {l m : List En} (h : Inc l) (hs : m.Sublist l) : Inc m := List.Pairwise.sublist hs h
theorem shN_sub (l : List En) (pins : List Int) : ∀ k, k ≤ l.length → (shN l pins k).Sublist (l.take k)
  | 0, _ => List.nil_sublist _
  | k + 1, hk => by
    have ih := shN_sub l pins k (by omega)
    have e : l.take (k + 1) = l.take k ++ [enAt l k] := by
      obtain ⟨x, hx⟩ : ∃ x, l[k]? = some x := ⟨_, List.getElem?_eq_getElem (by omega)⟩
      rw [List.take_add_one, hx, enAt_eq hx]; rfl
    rw [e]
    unfold shN
    split
    · exact ih.append (List.Sublist.refl _)
    · exact ih.trans (List.sublist_append_left _ _)
theorem shadow_sub (l : List En) (pins : List Int) : (shadowP l pins).Sublist l := by
  have := shN_sub l pins l.length (Nat.le_refl _)
  rwa [List.take_length] at this
theorem skOf_sub (pins : List Int) (l : List En) : (skOf pins l).Sublist l := by
  have key : ∀ (l out : List En), (l.foldl (skStep pins) out).Sublist (out ++ l) := by
    intro l
    induction l with
    | nil => intro out; rw [List.append_nil]; exact List.Sublist.refl _
    | cons y r ih =>
      intro out
      refine (ih _).trans ?_
      unfold skStep
      split
      · exact (List.Sublist.refl out).append (List.sublist_cons_self y r)
      · rw [List.append_assoc]; exact List.Sublist.refl _
  have := key l []
  rwa [List.nil_append] at this
theorem sunk_sub (l : List En) (pins : List Int) : (sunkP l pins).Sublist l := by
  have := (skOf_sub pins l.reverse).reverse
  rwa [List.reverse_reverse] at this
theorem mid_sub (l : List En) (bottom : Bool) (pins : List Int) : (midP l bottom pins).Sublist l := by
  unfold midP
  cases bottom
  · exact shadow_sub l pins
  · exact (sunk_sub _ _).trans (shadow_sub l pins)
theorem inc_mid {l : List En} (h : Inc l) (bottom : Bool) (pins : List Int) : Inc (midP l bottom pins) := inc_sub h (mid_sub l bottom pins)

/-! ### DrTl -/
abbrev Pr := S73
def KP : Lie Pr := ⟨fun x => [.string x.f0, .string x.f1], 2, by decide, fun _ => rfl, fun x u hu => by
  simp only [List.mem_cons, List.not_mem_nil, or_false] at hu
  rcases hu with rfl | rfl <;> rfl⟩
theorem IP : Info Try.prog KP 39 73 32 := Info.mk' (z := .agg #[.string ByteArray.empty, .string ByteArray.empty]) Try.underlying39 (by kernel_rfl) rfl
/-- Is the version at k passed over? -/
def skipL (q : Int) (l : List En) (k : Nat) : Bool := decide (q < (enAt l k).f1) || (!firstAt l k && decide ((enAt l (k - 1)).f1 ≤ q))
def latN (q : Int) (l : List En) : Nat → List Pr
  | 0 => []
  | k + 1 => if skipL q l k || decide ((enAt l k).f2 = 2) then latN q l k else latN q l k ++ [⟨(enAt l k).f0, (enAt l k).f3⟩]
def latP (q : Int) (l : List En) : List Pr := latN q l l.length
theorem latN_le (q : Int) (l : List En) : ∀ k, (latN q l k).length ≤ k
  | 0 => Nat.le_refl _
  | k + 1 => by
    have := latN_le q l k
    unfold latN
    split
    · omega
    · rw [List.length_append]; simp; omega

/-! ### DrTm -/
theorem own_geP {W : World} {base c k : Nat} {A : Option Addr} {e : TypeId} {L : List Pr} {n : Nat} (h : Rw.Own KP e W base A c L) (hk : (Value.slice A n c).ownBlock = some k) : base ≤ k := by
  rcases h.2 with ⟨h0, h1⟩ | ⟨g, c', cur, hv, hg, hb, _⟩
  · simp at h0; rw [h0.1] at hk; cases hk
  · cases hv
    obtain rfl : g = k := by simpa [Value.ownBlock] using hk
    exact hg
abbrev boxP (x : Pr) : Obj := .cells #[.string x.f0, .string x.f1] 73
/-- append(L, x): the pair just laid. -/
theorem one_P {w : World} {base n cn : Nat} {A0 : Option Addr} {L : List Pr} (hL : L.length = n) (ho : Rw.Own KP 73 w base A0 cn L) (x : Pr) (hl : n ≤ 10000) (hb : base ≤ w.heap.size) :
    ∃ p c2 w2, (∀ ty, (Builtin.append_ #[39, 39] ty #[.slice A0 n cn, .slice (some ⟨w.heap.size, 0, none⟩) 1 1]).run Try.prog (w.alloc (boxP x)).drew = .ok (.slice p (n + 1) c2) w2) ∧ Rw.Own KP 73 w2 base p c2 (L ++ [x]) ∧ Below base w w2 := by
  subst hL
  have b0 : Below w.heap.size w (w.alloc (boxP x)).drew := below_drew1 (below_alloc (Below.refl _ _) _)
  have hx : Reads KP (w.alloc (boxP x)).drew (some ⟨w.heap.size, 0, none⟩) [x] := Reads.blk (heap_alloc_new w (boxP x)) rfl
  obtain ⟨p, c2, w2, h1, h2, h3, _⟩ := app IP (ho.below b0) hx 1 (by simp; omega) (by simp [maxLen]; omega) (Nat.le_trans hb b0.size)
  exact ⟨p, c2, w2, h1, h2, (b0.mono hb).grown h3 (Nat.le_trans hb b0.size) (fun k e => own_geP ho e)⟩

/-! ### DrTn -/
open Go.Sort Go.RowKit Go.Maps Go.Proofs Go.Proofs.Ytdfaoafeojoceaa.Rw Go.Proofs.Ytdfaoafeojoceaa.PAll Go.Proofs.YtdfaoafeojoceaaW.PrintWords Go.Proofs.Ytdfaoafeojoceaa.Pb Go.Proofs.Ytdfaoafeojoceaa.Pure
def pr (x : En) : Pr := ⟨x.f0, x.f3⟩
theorem latN_skip {q : Int} {l : List En} {k : Nat} (h : skipL q l k = true) : latN q l (k + 1) = latN q l k := by
  conv => lhs; unfold latN
  rw [h]
  rfl
theorem latN_del {q : Int} {l : List En} {k : Nat} (h : (enAt l k).f2 = 2) : latN q l (k + 1) = latN q l k := by
  conv => lhs; unfold latN
  rw [decide_eq_true h, Bool.or_true]
  rfl
theorem latN_put {q : Int} {l : List En} {k : Nat} (h : skipL q l k = false) (h2 : ¬ (enAt l k).f2 = 2) : latN q l (k + 1) = latN q l k ++ [pr (enAt l k)] := by
  conv => lhs; unfold latN
  rw [h, decide_eq_false h2]
  rfl
set_option maxRecDepth 100000 in
set_option maxHeartbeats 1600000 in
theorem latest_c {W : World} {B c : Nat} {A : Option Addr} {l : List En} {t : TypeId} (q : Int) (hB : W.heap[B]? = some (.cells #[.slice A l.length c] t (0, 0))) (hr : Reads KE W A l) (hl : l.length ≤ 10000) (hk : ∀ y ∈ l, y.f0.size ≤ 1000000) (ho : Inc l) :
    Calls Try.prog 15 #[.int .u64 q, .slice (some ⟨B, 0, none⟩) 1 1] W fun e w' => ∃ A' c', e = .returned (.slice A' (latP q l).length c') ∧ Rw.Own KP 73 w' W.heap.size A' c' (latP q l) ∧ Below W.heap.size W w' := by
  have HA := Aside0.mk (all_c hB hr hl hk ho)
  clear hB hr hk ho
  go_enter Try.func15, Try.ntmps15
  go_wp2_with fail
  refine HA.out.mono ?_
  rintro e w1 ⟨A1, c1, rfl, ho1, hb1⟩
  have HO := Aside0.mk (And.intro ho1 hb1)
  clear ho1 hb1 HA
  go_wp2_with fail
  go_loopw [6, 7] (fun s6 i wr => ∃ (k : Nat) (A2 : Option Addr) (c2 : Nat), k ≤ l.length ∧ i = .int .i64 k ∧ s6 = .slice A2 (latN q l k).length c2 ∧ Aside0 (Rw.Own KP 73 wr w1.heap.size A2 c2 (latN q l k) ∧ Below w1.heap.size w1 wr)) (fun _ i _ => l.length - (intOf i).toNat)
  case atStart => exact ⟨0, none, 0, Nat.zero_le _, rfl, rfl, ⟨⟨Rw.Own.nil _ _ _ _, Below.refl _ _⟩⟩⟩
  case round =>
    obtain ⟨k, A2, c2, hk, rfl, rfl, H1⟩ := hrel
    obtain ⟨w2, hw2⟩ : ∃ w2, w2 = wr := ⟨_, rfl⟩
    subst wr
    by_cases hlt : k < l.length
    · have hwk := Aside0.mk (show wrap64 ((k : Int) + 1) = (k : Int) + 1 by unfold wrap64; omega)
      have hR := HO.out.1.reads.below H1.out.2
      obtain ⟨g, o, rfl, hg⟩ := hR.where hlt
      obtain ⟨y, hy⟩ : ∃ y, l[k]? = some y := ⟨_, List.getElem?_eq_getElem hlt⟩
      have hyd := enAt_eq hy
      have y0 : w2.cell? ⟨g, o + k * 4, none⟩ = some (.string y.f0) := hR.at hy (i := 0) rfl
      have y1 : w2.cell? ⟨g, o + k * 4 + 1, none⟩ = some (.int .u64 y.f1) := hR.at hy (i := 1) rfl
      have hd1 : decide ((k : Int) < (l.length : Int)) = true := decide_eq_true (by omega)
      have hd2 : decide (k < l.length) = true := decide_eq_true hlt
      have HR := Aside0.mk (And.intro hR (And.intro hy hyd))
      have hskip : skipL q l k = (decide (q < y.f1) || (!firstAt l k && decide ((enAt l (k - 1)).f1 ≤ q))) := by unfold skipL; rw [hyd]
      clear hg hyd
      by_cases hq : q < y.f1
      case' pos =>
        have hq1 : decide (q < y.f1) = true := decide_eq_true hq
        have HK := Aside0.mk (show skipL q l k = true by rw [hskip, hq1]; rfl)
        clear hskip hR hy
        go_upto_region 6 with (fail)
        go_quiet (fail)
        have hbq : Below w2.heap.size w2 (w2.drewN nq) := by with_reducible repeat (first | exact Below.refl _ _ | apply pw_below_drewN)
        have H3 := Aside0.mk (And.intro (H1.out.1.below hbq) (H1.out.2.trans (hbq.mono H1.out.2.size)))
        have HL := Aside0.mk (latN_skip HK.out)
        clear hbq
        go_wp2_with fail
        exact ⟨⟨k + 1, A2, c2, hlt, by first | exact iw_succ k | exact iv_succ hwk.out, by rw [HL.out], by rw [HL.out]; exact H3⟩, by first | exact iw_meas hlt | exact iv_meas hwk.out hlt⟩
      case' neg =>
        have hq1 : decide (q < y.f1) = false := decide_eq_false hq
        rw [hq1, Bool.false_or] at hskip
        rcases Nat.eq_zero_or_pos k with hk0 | hk0
        case' inl =>
          have hz1 : decide ((0 : Int) < (k : Int)) = false := decide_eq_false (by omega)
          have hz2 : decide (0 < k) = false := decide_eq_false (by omega)
          have HK := Aside0.mk (show skipL q l k = false by rw [hskip, hk0]; rfl)
          clear hskip hR hy hk0
          go_upto_region 6 with (fail)
          go_quiet (fail)
        case' inr =>
          have hz1 : decide ((0 : Int) < (k : Int)) = true := decide_eq_true (by omega)
          have hz2 : decide (0 < k) = true := decide_eq_true hk0
          obtain ⟨k', hkk⟩ : ∃ k', k = k' + 1 := ⟨k - 1, by omega⟩
          obtain ⟨z, hz⟩ : ∃ z, l[k']? = some z := ⟨_, List.getElem?_eq_getElem (by omega)⟩
          have hk1 : k - 1 = k' := by omega
          have z0 : w2.cell? ⟨g, o + (k - 1) * 4, none⟩ = some (.string z.f0) := by rw [hk1]; exact hR.at hz (i := 0) rfl
          have z1 : w2.cell? ⟨g, o + (k - 1) * 4 + 1, none⟩ = some (.int .u64 z.f1) := by rw [hk1]; exact hR.at hz (i := 1) rfl
          have hs1 : wrap64 ((k : Int) - 1) = (k : Int) - 1 := by unfold wrap64; omega
          have hlt1 : k - 1 < l.length := by omega
          have hk1i : (1 : Int) ≤ (k : Int) := by omega
          have hf : firstAt l k = !decide (z.f0 = y.f0) := by
            have hyd := enAt_eq hy
            rw [hkk] at hyd ⊢
            show (!decide ((enAt l k').f0 = (enAt l (k' + 1)).f0)) = _
            rw [enAt_eq hz, hyd]
          rw [hf, hk1, enAt_eq hz, Bool.not_not] at hskip
          by_cases hzy : z.f0 = y.f0
          case' neg =>
            have hst : (z.f0.toList == y.f0.toList) = false := beq_eq_false_iff_ne.2 fun e => hzy (ls_inj (by rw [← toList_ls, ← toList_ls, e]))
            have HK := Aside0.mk (show skipL q l k = false by rw [hskip, decide_eq_false hzy]; rfl)
            clear hskip hR hy hk0 hf hkk hz hk1
            go_upto_region 6 with (fail)
            go_quiet (fail)
          case' pos =>
            have hst : (z.f0.toList == y.f0.toList) = true := by rw [hzy]; exact beq_self_eq_true _
            by_cases hzq : z.f1 ≤ q
            case' pos =>
              have hz3 : decide (z.f1 ≤ q) = true := decide_eq_true hzq
              have HK := Aside0.mk (show skipL q l k = true by rw [hskip, decide_eq_true hzy, hz3]; rfl)
              clear hskip hR hy hk0 hf hkk hz hk1
              go_upto_region 6 with (fail)
              go_quiet (fail)
              have hbq : Below w2.heap.size w2 (w2.drewN nq) := by with_reducible repeat (first | exact Below.refl _ _ | apply pw_below_drewN)
              have H3 := Aside0.mk (And.intro (H1.out.1.below hbq) (H1.out.2.trans (hbq.mono H1.out.2.size)))
              have HL := Aside0.mk (latN_skip HK.out)
              clear hbq
              go_wp2_with fail
              exact ⟨⟨k + 1, A2, c2, hlt, by first | exact iw_succ k | exact iv_succ hwk.out, by rw [HL.out], by rw [HL.out]; exact H3⟩, by first | exact iw_meas hlt | exact iv_meas hwk.out hlt⟩
            case' neg =>
              have hz3 : decide (z.f1 ≤ q) = false := decide_eq_false hzq
              have HK := Aside0.mk (show skipL q l k = false by rw [hskip, decide_eq_true hzy, hz3]; rfl)
              clear hskip hR hy hk0 hf hkk hz hk1
              go_upto_region 6 with (fail)
              go_quiet (fail)
      all_goals
        have hbq : Below w2.heap.size w2 (w2.drewN nq) := by with_reducible repeat (first | exact Below.refl _ _ | apply pw_below_drewN)
        have H3 := Aside0.mk (And.intro (H1.out.1.below hbq) (H1.out.2.trans (hbq.mono H1.out.2.size)))
        have HR3 := Aside0.mk (And.intro (HR.out.1.below hbq) HR.out.2)
        clear hbq
        generalize w2.drewN nq = w3 at *
        try clear z0 z1 hs1 hlt1 hk1i
        try clear hst
        try clear hz3
        try clear hz1 hz2
        clear y0 y1 hq1 hq HR
        have y0 : w3.cell? ⟨g, o + k * 4, none⟩ = some (.string y.f0) := HR3.out.1.at HR3.out.2.1 (i := 0) rfl
        have y2 : w3.cell? ⟨g, o + k * 4 + 2, none⟩ = some (.int .i64 y.f2) := HR3.out.1.at HR3.out.2.1 (i := 2) rfl
        have y3 : w3.cell? ⟨g, o + k * 4 + 3, none⟩ = some (.string y.f3) := HR3.out.1.at HR3.out.2.1 (i := 3) rfl
        by_cases hkd : y.f2 = 2
        · have q1 : (y.f2 == 2) = true := beq_iff_eq.2 hkd
          have q2 : decide (y.f2 = 2) = true := decide_eq_true hkd
          have HL := Aside0.mk (latN_del (q := q) (l := l) (k := k) (by rw [HR3.out.2.2]; exact hkd))
          go_wp2_with fail
          exact ⟨⟨k + 1, A2, c2, hlt, by first | exact iw_succ k | exact iv_succ hwk.out, by rw [HL.out], by rw [HL.out]; exact H3⟩, by first | exact iw_meas hlt | exact iv_meas hwk.out hlt⟩
        · have q1 : (y.f2 == 2) = false := beq_eq_false_iff_ne.2 hkd
          have q2 : decide (y.f2 = 2) = false := decide_eq_false hkd
          have HL := Aside0.mk (latN_put HK.out (by rw [HR3.out.2.2]; exact hkd))
          rw [HR3.out.2.2] at HL
          have hle := latN_le q l k
          obtain ⟨p2, c3, w4, r4, o4, b4⟩ := one_P (w := w3) rfl H3.out.1 (pr y) (by omega) H3.out.2.size
          have H4 := Aside0.mk (And.intro o4 (H3.out.2.trans b4))
          have HLL := Aside0.mk (show (latN q l k).length + 1 = (latN q l (k + 1)).length by rw [HL.out, List.length_append]; rfl)
          clear o4 b4 hle
          have r4 : ∀ ty, (Builtin.append_ #[39, 39] ty #[.slice A2 (latN q l k).length c2, .slice (some ⟨w3.heap.size, 0, none⟩) 1 1]).run Try.prog (w3.alloc (.cells #[.string y.f0, .string y.f3] 73)).drew = .ok (.slice p2 ((latN q l k).length + 1) c3) w4 := r4
          go_upto_region 8 with (fail)
          go_region
          go_wp2_with fail
          exact ⟨⟨k + 1, p2, c3, hlt, by first | exact iw_succ k | exact iv_succ hwk.out, by rw [HLL.out], by rw [HL.out]; exact H4⟩, by first | exact iw_meas hlt | exact iv_meas hwk.out hlt⟩
    · have hkl : k = l.length := by omega
      subst hkl
      have hd1 : decide ((l.length : Int) < (l.length : Int)) = false := decide_eq_false (Int.lt_irrefl _)
      go_wp2
      go_ret
      exact ⟨_, _, rfl, H1.out.1.less HO.out.2.size, HO.out.2.trans (H1.out.2.mono HO.out.2.size)⟩

/-! ### DrTp -/
theorem cmp_irr (x : En) : ¬ cmpE x x < 0 := by
  rw [cmp_neg]
  rintro (h | ⟨_, h⟩)
  · exact absurd h (List.lt_irrefl _)
  · omega
/-- Two lists in order with the same things are the same. -/
theorem inc_ext : ∀ {a b : List En}, Inc a → Inc b → (∀ x, x ∈ a ↔ x ∈ b) → a = b
  | [], [], _, _, _ => rfl
  | [], y :: b, _, _, h => absurd ((h y).2 (List.mem_cons_self ..)) (List.not_mem_nil)
  | x :: a, [], _, _, h => absurd ((h x).1 (List.mem_cons_self ..)) (List.not_mem_nil)
  | x :: a, y :: b, ha, hb, h => by
    have ha' := List.pairwise_cons.1 ha
    have hb' := List.pairwise_cons.1 hb
    have e : x = y := by
      rcases List.mem_cons.1 ((h x).1 (List.mem_cons_self ..)) with e | h1
      · exact e
      rcases List.mem_cons.1 ((h y).2 (List.mem_cons_self ..)) with e | h2
      · exact e.symm
      exact absurd (cmp_trans (ha'.1 y h2) (hb'.1 x h1)) (cmp_irr x)
    subst e
    rw [inc_ext ha'.2 hb'.2 (fun z => ?_)]
    constructor
    · intro hz
      rcases List.mem_cons.1 ((h z).1 (List.mem_cons_of_mem _ hz)) with e | h1
      · subst e; exact absurd (ha'.1 z hz) (cmp_irr z)
      · exact h1
    · intro hz
      rcases List.mem_cons.1 ((h z).2 (List.mem_cons_of_mem _ hz)) with e | h1
      · subst e; exact absurd (hb'.1 z hz) (cmp_irr z)
      · exact h1
theorem en_lt {l : List En} (h : Inc l) {i j : Nat} (hij : i < j) (hj : j < l.length) : cmpE (enAt l i) (enAt l j) < 0 := by
  have := List.pairwise_iff_getElem.1 h i j (by omega) hj hij
  rwa [enAt_eq (List.getElem?_eq_getElem (show i < l.length by omega)), enAt_eq (List.getElem?_eq_getElem hj)]
theorem en_le {l : List En} (h : Inc l) {i j : Nat} (hij : i ≤ j) (hj : j < l.length) : ls (enAt l i).f0 ≤ ls (enAt l j).f0 := by
  by_cases e : i = j
  · subst e; exact List.le_refl _
  · have := (cmp_neg _ _).1 (en_lt h (by omega : i < j) hj)
    rcases this with h1 | ⟨h1, _⟩
    · exact List.le_of_lt h1
    · rw [h1]; exact List.le_refl _
theorem en_down {l : List En} (h : Inc l) {i j : Nat} (hij : i < j) (hj : j < l.length) (e : (enAt l i).f0 = (enAt l j).f0) : (enAt l j).f1 < (enAt l i).f1 := by
  have := (cmp_neg _ _).1 (en_lt h hij hj)
  rcases this with h1 | ⟨_, h1⟩
  · rw [e] at h1; exact absurd h1 (List.lt_irrefl _)
  · exact h1
theorem first_iff {l : List En} (h : Inc l) {k : Nat} (hk : k < l.length) : firstAt l k = true ↔ ∀ j, j < k → (enAt l j).f0 ≠ (enAt l k).f0 := by
  cases k with
  | zero => exact ⟨fun _ j hj => by omega, fun _ => rfl⟩
  | succ k =>
    show (!decide ((enAt l k).f0 = (enAt l (k + 1)).f0)) = true ↔ _
    rw [Bool.not_eq_true', decide_eq_false_iff_not]
    constructor
    · intro hn j hj e
      refine hn (ls_inj (List.le_antisymm (en_le h (Nat.le_succ k) hk) ?_))
      rw [← e]
      exact en_le h (by omega) (by omega)
    · intro hn
      exact hn k (by omega)
theorem had_iff {l : List En} (h : Inc l) (p : Int) : ∀ {k : Nat}, k < l.length → (had l k p = true ↔ ∃ j, j < k ∧ (enAt l j).f0 = (enAt l k).f0 ∧ (enAt l j).f1 ≤ p) := by
  intro k
  induction k with
  | zero =>
    intro _
    constructor
    · intro e; cases e
    · rintro ⟨j, hj, _⟩; omega
  | succ k ih =>
    intro hk
    have ih := ih (by omega)
    unfold had
    cases hf : firstAt l (k + 1) with
    | true =>
      have := (first_iff h hk).1 hf
      constructor
      · intro e; cases e
      · rintro ⟨j, hj, e, _⟩; exact absurd e (this j hj)
    | false =>
      have e : (enAt l k).f0 = (enAt l (k + 1)).f0 := by
        have : (!decide ((enAt l k).f0 = (enAt l (k + 1)).f0)) = false := hf
        simpa using this
      show (decide ((enAt l k).f1 ≤ p) || had l k p) = true ↔ _
      rw [Bool.or_eq_true, ih, decide_eq_true_eq]
      constructor
      · rintro (h1 | ⟨j, h1, h2, h3⟩)
        · exact ⟨k, by omega, e, h1⟩
        · exact ⟨j, by omega, h2.trans e, h3⟩
      · rintro ⟨j, h1, h2, h3⟩
        by_cases hj : j = k
        · subst hj; exact .inl h3
        · exact .inr ⟨j, by omega, h2.trans e.symm, h3⟩
/-- Is a version seen at q? -/
def Vis (q : Int) (l : List En) (x : En) : Prop := x.f1 ≤ q ∧ ∀ y ∈ l, y.f0 = x.f0 → x.f1 < y.f1 → q < y.f1
def First (l : List En) (x : En) : Prop := ∀ y ∈ l, y.f0 = x.f0 → y.f1 ≤ x.f1
theorem vis_iff {l : List En} (h : Inc l) (q : Int) {k : Nat} (hk : k < l.length) : Vis q l (enAt l k) ↔ (enAt l k).f1 ≤ q ∧ ∀ j, j < k → (enAt l j).f0 = (enAt l k).f0 → q < (enAt l j).f1 := by
  unfold Vis
  refine and_congr_right fun _ => ⟨fun hv j hj e => ?_, fun hv y hy e hlt => ?_⟩
  · exact hv _ (by rw [enAt_eq (List.getElem?_eq_getElem (show j < l.length by omega))]; exact List.getElem_mem _) e (en_down h hj hk e)
  · obtain ⟨j, hj, rfl⟩ := mem_enAt hy
    by_cases hjk : j < k
    · exact hv j hjk e
    · by_cases e2 : j = k
      · subst e2; omega
      · have := en_down h (show k < j by omega) hj e.symm
        omega
theorem First_iff {l : List En} (h : Inc l) {k : Nat} (hk : k < l.length) : First l (enAt l k) ↔ firstAt l k = true := by
  rw [first_iff h hk]
  unfold First
  refine ⟨fun hv j hj e => ?_, fun hv y hy e => ?_⟩
  · have := hv _ (by rw [enAt_eq (List.getElem?_eq_getElem (show j < l.length by omega))]; exact List.getElem_mem _) e
    have := en_down h hj hk e
    omega
  · obtain ⟨j, hj, rfl⟩ := mem_enAt hy
    by_cases hjk : j < k
    · exact absurd e (hv j hjk)
    · by_cases e2 : j = k
      · subst e2; omega
      · have := en_down h (show k < j by omega) hj e.symm
        omega
theorem skip_iff {l : List En} (h : Inc l) (q : Int) {k : Nat} (hk : k < l.length) : skipL q l k = false ↔ Vis q l (enAt l k) := by
  rw [vis_iff h q hk]
  unfold skipL
  rw [Bool.or_eq_false_iff, decide_eq_false_iff_not, Bool.and_eq_false_iff]
  refine and_congr (by omega) ?_
  rw [Bool.not_eq_false', decide_eq_false_iff_not]
  constructor
  · rintro (hf | hq) j hj e
    · exact absurd e ((first_iff h hk).1 hf j hj)
    · have h2 : (enAt l (k - 1)).f1 ≤ (enAt l j).f1 := by
        by_cases ej : j = k - 1
        · rw [ej]; exact Int.le_refl _
        · have e3 : (enAt l j).f0 = (enAt l (k - 1)).f0 := ls_inj (List.le_antisymm (en_le h (by omega) (by omega)) (by rw [e]; exact en_le h (by omega) hk))
          exact Int.le_of_lt (en_down h (show j < k - 1 by omega) (by omega) e3)
      omega
  · intro hv
    cases hf : firstAt l k with
    | true => exact .inl rfl
    | false =>
      cases k with
      | zero => cases hf
      | succ k =>
        have e : (enAt l k).f0 = (enAt l (k + 1)).f0 := by
          have : (!decide ((enAt l k).f0 = (enAt l (k + 1)).f0)) = false := hf
          simpa using this
        have := hv k (by omega) e
        exact .inr (by simp; omega)
theorem stays_iff {l : List En} (h : Inc l) (pins : List Int) {k : Nat} (hk : k < l.length) : staysL l pins k = true ↔ (First l (enAt l k) ∨ ∃ p ∈ pins, Vis p l (enAt l k)) := by
  unfold staysL
  rw [Bool.or_eq_true, First_iff h hk, List.any_eq_true]
  refine or_congr Iff.rfl (exists_congr fun p => and_congr Iff.rfl ?_)
  rw [Bool.and_eq_true, decide_eq_true_eq, Bool.not_eq_true', vis_iff h p hk, ← Bool.not_eq_true, had_iff h p hk]
  constructor
  · rintro ⟨h1, h2⟩
    exact ⟨h2, fun j hj e => by
      by_cases hq : (enAt l j).f1 ≤ p
      · exact absurd ⟨j, hj, e, hq⟩ h1
      · omega⟩
  · rintro ⟨h1, h2⟩
    exact ⟨fun ⟨j, hj, e, hq⟩ => by have := h2 j hj e; omega, h1⟩
theorem mem_shN {l : List En} (pins : List Int) {x : En} : ∀ k, k ≤ l.length → (x ∈ shN l pins k ↔ ∃ j, j < k ∧ staysL l pins j = true ∧ enAt l j = x)
  | 0, _ => ⟨fun h => (by cases h), fun ⟨j, hj, _⟩ => by omega⟩
  | k + 1, hk => by
    have ih := mem_shN (l := l) pins (x := x) k (by omega)
    unfold shN
    cases hs : staysL l pins k with
    | true =>
      rw [if_pos rfl, List.mem_append, ih, List.mem_singleton]
      constructor
      · rintro (⟨j, h1, h2⟩ | rfl)
        · exact ⟨j, by omega, h2⟩
        · exact ⟨k, by omega, hs, rfl⟩
      · rintro ⟨j, h1, h2, h3⟩
        by_cases e : j = k
        · subst e; exact .inr h3.symm
        · exact .inl ⟨j, by omega, h2, h3⟩
    | false =>
      rw [if_neg (by simp), ih]
      constructor
      · rintro ⟨j, h1, h2⟩
        exact ⟨j, by omega, h2⟩
      · rintro ⟨j, h1, h2, h3⟩
        by_cases e : j = k
        · subst e; rw [hs] at h2; cases h2
        · exact ⟨j, by omega, h2, h3⟩
theorem mem_shadow {l : List En} (h : Inc l) (pins : List Int) {x : En} : x ∈ shadowP l pins ↔ x ∈ l ∧ (First l x ∨ ∃ p ∈ pins, Vis p l x) := by
  unfold shadowP
  rw [mem_shN pins l.length (Nat.le_refl _)]
  constructor
  · rintro ⟨j, h1, h2, rfl⟩
    exact ⟨by rw [enAt_eq (List.getElem?_eq_getElem h1)]; exact List.getElem_mem _, (stays_iff h pins h1).1 h2⟩
  · rintro ⟨hx, hv⟩
    obtain ⟨j, hj, rfl⟩ := mem_enAt hx
    exact ⟨j, hj, (stays_iff h pins hj).2 hv, rfl⟩
/-! ### what is seen at q -/
def latE (q : Int) (l : List En) : Nat → List En
  | 0 => []
  | k + 1 => if skipL q l k || decide ((enAt l k).f2 = 2) then latE q l k else latE q l k ++ [enAt l k]
theorem latN_E (q : Int) (l : List En) : ∀ k, latN q l k = (latE q l k).map pr
  | 0 => rfl
  | k + 1 => by
    unfold latN latE
    split
    · exact latN_E q l k
    · rw [List.map_append, latN_E q l k]; rfl
theorem latE_sub (q : Int) (l : List En) : ∀ k, k ≤ l.length → (latE q l k).Sublist (l.take k)
  | 0, _ => List.nil_sublist _
  | k + 1, hk => by
    have ih := latE_sub q l k (by omega)
    have e : l.take (k + 1) = l.take k ++ [enAt l k] := by
      obtain ⟨x, hx⟩ : ∃ x, l[k]? = some x := ⟨_, List.getElem?_eq_getElem (by omega)⟩
      rw [List.take_add_one, hx, enAt_eq hx]; rfl
    rw [e]
    unfold latE
    split
    · exact ih.trans (List.sublist_append_left _ _)
    · exact ih.append (List.Sublist.refl _)
theorem mem_latE {l : List En} (q : Int) {x : En} : ∀ k, k ≤ l.length → (x ∈ latE q l k ↔ ∃ j, j < k ∧ skipL q l j = false ∧ (enAt l j).f2 ≠ 2 ∧ enAt l j = x)
  | 0, _ => ⟨fun h => (by cases h), fun ⟨j, hj, _⟩ => by omega⟩
  | k + 1, hk => by
    have ih := mem_latE (l := l) q (x := x) k (by omega)
    unfold latE
    cases hs : (skipL q l k || decide ((enAt l k).f2 = 2)) with
    | false =>
      rw [Bool.or_eq_false_iff, decide_eq_false_iff_not] at hs
      rw [if_neg (by simp), List.mem_append, ih, List.mem_singleton]
      constructor
      · rintro (⟨j, h1, h2⟩ | rfl)
        · exact ⟨j, by omega, h2⟩
        · exact ⟨k, by omega, hs.1, hs.2, rfl⟩
      · rintro ⟨j, h1, h2, h3, h4⟩
        by_cases e : j = k
        · subst e; exact .inr h4.symm
        · exact .inl ⟨j, by omega, h2, h3, h4⟩
    | true =>
      rw [Bool.or_eq_true, decide_eq_true_eq] at hs
      rw [if_pos rfl, ih]
      constructor
      · rintro ⟨j, h1, h2⟩
        exact ⟨j, by omega, h2⟩
      · rintro ⟨j, h1, h2, h3, h4⟩
        by_cases e : j = k
        · subst e
          rcases hs with hs | hs
          · rw [hs] at h2; cases h2
          · exact absurd hs h3
        · exact ⟨j, by omega, h2, h3, h4⟩
theorem mem_lat {l : List En} (h : Inc l) (q : Int) {x : En} : x ∈ latE q l l.length ↔ x ∈ l ∧ Vis q l x ∧ x.f2 ≠ 2 := by
  rw [mem_latE q l.length (Nat.le_refl _)]
  constructor
  · rintro ⟨j, h1, h2, h3, rfl⟩
    exact ⟨by rw [enAt_eq (List.getElem?_eq_getElem h1)]; exact List.getElem_mem _, (skip_iff h q h1).1 h2, h3⟩
  · rintro ⟨hx, hv, h3⟩
    obtain ⟨j, hj, rfl⟩ := mem_enAt hx
    exact ⟨j, hj, (skip_iff h q hj).2 hv, h3, rfl⟩
theorem inc_latE {l : List En} (h : Inc l) (q : Int) : Inc (latE q l l.length) := inc_sub h (by have := latE_sub q l l.length (Nat.le_refl _); rwa [List.take_length] at this)
/-! ### what sinks -/
theorem sk_idem (pins : List Int) (L : List En) : skOf pins (skOf pins L) = skOf pins L := by
  have key : ∀ R : List En, skOf pins (skOf pins R.reverse) = skOf pins R.reverse := by
    intro R
    induction R with
    | nil => rfl
    | cons x R ih =>
      rw [List.reverse_cons, skOf_snoc]
      unfold skStep
      split
      · exact ih
      · rename_i hn
        rw [skOf_snoc, ih]
        unfold skStep
        rw [if_neg hn]
  have := key L.reverse
  rwa [List.reverse_reverse] at this
theorem sunk_idem (pins : List Int) (l : List En) : sunkP (sunkP l pins) pins = sunkP l pins := by
  unfold sunkP
  rw [List.reverse_reverse, sk_idem]
theorem sk_app (pins : List Int) (a b : List En) : ∃ t, skOf pins (a ++ b) = skOf pins a ++ t ∧ t.Sublist b := by
  have key : ∀ (b out : List En), ∃ t, b.foldl (skStep pins) out = out ++ t ∧ t.Sublist b := by
    intro b
    induction b with
    | nil => intro out; exact ⟨[], by simp, List.Sublist.refl _⟩
    | cons y r ih =>
      intro out
      obtain ⟨t, e, hs⟩ := ih (skStep pins out y)
      rw [List.foldl_cons, e]
      unfold skStep
      split
      · exact ⟨t, rfl, hs.trans (List.sublist_cons_self _ _)⟩
      · exact ⟨y :: t, by simp, hs.cons_cons y⟩
  obtain ⟨t, e, hs⟩ := key b (skOf pins a)
  refine ⟨t, ?_, hs⟩
  rw [← e]
  unfold skOf
  rw [List.foldl_append]
/-- What is no removal stays; what stands above one that stays, too. -/
theorem sunk_keeps {l : List En} (h : Inc l) (pins : List Int) {y : En} (hy : y ∈ l) (hk : y.f2 ≠ 2 ∨ ∃ x ∈ sunkP l pins, x.f0 = y.f0 ∧ x.f1 < y.f1) : y ∈ sunkP l pins := by
  obtain ⟨a, b, rfl⟩ := List.append_of_mem hy
  unfold Inc at h
  have h1 := List.pairwise_append.1 h
  have h2 := List.pairwise_cons.1 h1.2.1
  unfold sunkP at hk ⊢
  rw [List.mem_reverse]
  simp only [List.mem_reverse] at hk
  have e : (a ++ y :: b).reverse = b.reverse ++ [y] ++ a.reverse := by simp
  rw [e] at hk ⊢
  obtain ⟨t, et, hs⟩ := sk_app pins (b.reverse ++ [y]) a.reverse
  rw [et] at hk ⊢
  rw [skOf_snoc] at hk ⊢
  unfold skStep at hk ⊢
  split
  · rename_i hc
    exfalso
    rcases hk with hk | ⟨x, hx, e0, e1⟩
    · exact hk hc.1
    · rw [if_pos hc, List.mem_append] at hx
      rcases hx with hx | hx
      · have hbl : Go.Proofs.Ytdfaoafeojoceaa.Dr.below (skOf pins b.reverse) y = true := by
          have hne : skOf pins b.reverse ≠ [] := fun e => by rw [e] at hx; cases hx
          have hpw : (skOf pins b.reverse).Pairwise (fun u v => cmpE v u < 0) := List.Pairwise.sublist (skOf_sub pins b.reverse) (List.pairwise_reverse.2 h2.2)
          obtain ⟨z, hz⟩ : ∃ z, (skOf pins b.reverse).getLast? = some z := ⟨_, List.getLast?_eq_some_getLast hne⟩
          have hzm := List.mem_of_getLast? hz
          have hzb : z ∈ b := List.mem_reverse.1 ((skOf_sub pins b.reverse).subset hzm)
          have hyz := h2.1 z hzb
          have hzx : ls z.f0 ≤ ls x.f0 := by
            by_cases exz : x = z
            · rw [exz]; exact List.le_refl _
            · have : cmpE z x < 0 := by
                obtain ⟨ini, ei⟩ : ∃ ini, skOf pins b.reverse = ini ++ [z] := ⟨_, (List.dropLast_concat_getLast hne).symm.trans (by rw [List.getLast?_eq_some_getLast hne] at hz; cases hz; rfl)⟩
                rw [ei] at hx hpw
                rcases List.mem_append.1 hx with hx | hx
                · exact (List.pairwise_append.1 hpw).2.2 x hx z (List.mem_singleton.2 rfl)
                · exact absurd (List.mem_singleton.1 hx) exz
              rcases (cmp_neg _ _).1 this with h | ⟨h, _⟩
              · exact List.le_of_lt h
              · rw [h]; exact List.le_refl _
          have hyz2 : ls y.f0 ≤ ls z.f0 := by
            rcases (cmp_neg _ _).1 hyz with h | ⟨h, _⟩
            · exact List.le_of_lt h
            · rw [h]; exact List.le_refl _
          have ezy : z.f0 = y.f0 := ls_inj (List.le_antisymm (by rw [e0] at hzx; exact hzx) hyz2)
          unfold Go.Proofs.Ytdfaoafeojoceaa.Dr.below
          rw [hz]
          simpa using ezy
        rw [hc.2.1] at hbl
        cases hbl
      · have hxa : x ∈ a := List.mem_reverse.1 (hs.subset hx)
        have := h1.2.2 x hxa y (List.mem_cons_self ..)
        rcases (cmp_neg _ _).1 this with h | ⟨_, h⟩
        · rw [e0] at h; exact absurd h (List.lt_irrefl _)
        · omega
  · simp
/-! ### what is there is the same behind Run -/
theorem vis_sub {l m : List En} (h : ∀ x ∈ m, x ∈ l) {q : Int} {x : En} (hv : Vis q l x) : Vis q m x := ⟨hv.1, fun y hy => hv.2 y (h y hy)⟩
theorem first_sub {l m : List En} (h : ∀ x ∈ m, x ∈ l) {x : En} (hv : First l x) : First m x := fun y hy => hv y (h y hy)
theorem mid_shadow {l : List En} {bottom : Bool} {pins : List Int} {x : En} (h : x ∈ midP l bottom pins) : x ∈ shadowP l pins := by
  unfold midP at h
  cases bottom
  · exact h
  · exact (sunk_sub _ _).subset h
theorem mid_keeps {l : List En} (h : Inc l) {bottom : Bool} {pins : List Int} {y : En} (hy : y ∈ shadowP l pins) (hk : y.f2 ≠ 2 ∨ ∃ x ∈ midP l bottom pins, x.f0 = y.f0 ∧ x.f1 < y.f1) : y ∈ midP l bottom pins := by
  unfold midP at hk ⊢
  cases bottom
  · exact hy
  · exact sunk_keeps (inc_sub h (shadow_sub l pins)) pins hy hk
/-- The greatest one of those that are no more than q. -/
theorem top_vis {l : List En} {q : Int} {x : En} (hx : x ∈ l) (hq : x.f1 ≤ q) : ∃ y ∈ l, y.f0 = x.f0 ∧ x.f1 ≤ y.f1 ∧ Vis q l y := by
  have key : ∀ n : Nat, ∀ x ∈ l, x.f1 ≤ q → (q - x.f1).toNat ≤ n → ∃ y ∈ l, y.f0 = x.f0 ∧ x.f1 ≤ y.f1 ∧ Vis q l y := by
    intro n
    induction n with
    | zero =>
      intro x hx hq hn
      exact ⟨x, hx, rfl, Int.le_refl _, hq, fun y _ _ h => by omega⟩
    | succ n ih =>
      intro x hx hq hn
      by_cases hc : ∃ y ∈ l, y.f0 = x.f0 ∧ x.f1 < y.f1 ∧ y.f1 ≤ q
      · obtain ⟨y, hy, e, h1, h2⟩ := hc
        obtain ⟨z, hz, e2, h3, hv⟩ := ih y hy h2 (by omega)
        exact ⟨z, hz, e2.trans e, by omega, hv⟩
      · refine ⟨x, hx, rfl, Int.le_refl _, hq, fun y hy e h => ?_⟩
        by_cases h2 : y.f1 ≤ q
        · exact absurd ⟨y, hy, e, h, h2⟩ hc
        · omega
  exact key _ x hx hq (Nat.le_refl _)
theorem lat_mid {l : List En} (h : Inc l) (bottom : Bool) (pins : List Int) {q : Int} (hq : q ∈ pins ∨ ∀ x ∈ l, x.f1 ≤ q) : latP q (midP l bottom pins) = latP q l := by
  unfold latP
  rw [latN_E, latN_E]
  have hm := mid_sub l bottom pins
  have him := inc_sub h hm
  have hvis : ∀ y ∈ l, Vis q l y → y ∈ shadowP l pins := by
    intro y hy hv
    rw [mem_shadow h]
    refine ⟨hy, ?_⟩
    rcases hq with hq | hq
    · exact .inr ⟨q, hq, hv⟩
    · refine .inl fun z hz e => ?_
      by_cases hlt : y.f1 < z.f1
      · have := hv.2 z hz e hlt
        have := hq z hz
        omega
      · omega
  refine congrArg (List.map pr) (inc_ext (inc_latE him q) (inc_latE h q) fun x => ?_)
  rw [mem_lat him, mem_lat h]
  constructor
  · rintro ⟨hx, hv, hk⟩
    have hxl := hm.subset hx
    refine ⟨hxl, ⟨hv.1, fun y hy e hlt => ?_⟩, hk⟩
    by_cases hyq : y.f1 ≤ q
    · obtain ⟨z, hz, e2, h3, hvz⟩ := top_vis hy hyq
      have hzm : z ∈ midP l bottom pins := mid_keeps h (hvis z hz hvz) (.inr ⟨x, hx, (e2.trans e).symm, by omega⟩)
      have := hv.2 z hzm (e2.trans e) (by omega)
      have := hvz.1
      omega
    · omega
  · rintro ⟨hx, hv, hk⟩
    exact ⟨mid_keeps h (hvis x hx hv) (.inl hk), vis_sub (fun y hy => hm.subset hy) hv, hk⟩
theorem shadow_mid {l : List En} (h : Inc l) (bottom : Bool) (pins : List Int) : shadowP (midP l bottom pins) pins = midP l bottom pins := by
  have hm := mid_sub l bottom pins
  have him := inc_sub h hm
  refine inc_ext (inc_sub him (shadow_sub _ _)) him fun x => ?_
  rw [mem_shadow him]
  constructor
  · exact fun h => h.1
  · intro hx
    refine ⟨hx, ?_⟩
    rcases ((mem_shadow h pins).1 (mid_shadow hx)).2 with hf | ⟨p, hp, hv⟩
    · exact .inl (first_sub (fun y hy => hm.subset hy) hf)
    · exact .inr ⟨p, hp, vis_sub (fun y hy => hm.subset hy) hv⟩
theorem mid_mid {l : List En} (h : Inc l) (bottom : Bool) (pins : List Int) : midP (midP l bottom pins) bottom pins = midP l bottom pins := by
  have hs := shadow_mid h bottom pins
  cases bottom
  · exact hs
  · unfold midP at hs ⊢
    rw [if_pos rfl] at hs ⊢
    rw [if_pos rfl, hs]
    exact sunk_idem pins _

/-! ### DrTq -/
theorem to_kdP {W : World} {A : Option Addr} {L : List Pr} (h : Reads KP W A L) (hl : L.length ≤ 9223372036854775807) : Kd.C k73 W A L.length L :=
  ⟨rfl, hl, fun h0 => by
    obtain ⟨g, o, rfl, hg, hc⟩ := h h0
    refine ⟨_, rfl, fun j x hx => ⟨[.string x.f0, .string x.f1], rfl, ⟨[_], [_], rfl, rfl, rfl⟩, fun i u hu => ?_⟩⟩
    have hi : i < 2 := (List.getElem?_eq_some_iff.1 hu).1
    have := hc (j * 2 + i) u (by
      have := map_at (K := KP) hx (show i < KP.size from hi)
      exact this.trans hu)
    rw [add_o]
    exact this⟩
theorem to_kdN {W : World} {A : Option Addr} {L : List Int} (h : Reads KN W A L) (hl : L.length ≤ 9223372036854775807) : Kd.C (Kd.int .u64) W A L.length L :=
  ⟨rfl, hl, fun h0 => by
    obtain ⟨g, o, rfl, hg, hc⟩ := h h0
    refine ⟨_, rfl, fun j x hx => ⟨[.int .u64 x], rfl, rfl, fun i u hu => ?_⟩⟩
    have hi : i < 1 := (List.getElem?_eq_some_iff.1 hu).1
    have := hc (j * 1 + i) u (by
      have := map_at (K := KN) hx (show i < KN.size from hi)
      exact this.trans hu)
    rw [add_o]
    exact this⟩
theorem pairs_l0 (l : List Pr) (hl : l.length ≤ 100000) : ∀ (m i : Nat), i + m = l.length → Ev (fun k => cornucopiabook_SamePairs.l0 k l l (i : Int)) true
  | 0, i, hi => Ev.step (fun k => if_neg (by omega)) (Ev.now _)
  | m + 1, i, hi => by
    refine Ev.step (fun k => (if_pos (by omega)).trans ((if_pos (by omega)).trans ((if_pos (by omega)).trans (if_pos (by simp))))) ?_
    rw [show wrap64 ((i : Int) + 1) = ((i + 1 : Nat) : Int) by rw [wrap64_id (by omega) (by omega)]; omega]
    exact pairs_l0 l hl m (i + 1) (by omega)
theorem Pairs_ev (l : List Pr) (hl : l.length ≤ 100000) : Ev (fun k => cornucopiabook_SamePairs.f k l l) true := by
  unfold cornucopiabook_SamePairs.f
  exact Ev.iteT rfl (pairs_l0 l hl l.length 0 (by omega))
theorem pairs_c {w : World} {A0 A1 : Option Addr} {c0 c1 n : Nat} {l : List Pr} (hn : l.length = n) (h0 : Reads KP w A0 l) (h1 : Reads KP w A1 l) (hc0 : n ≤ c0) (hc1 : n ≤ c1) (hl : n ≤ 100000) :
    Calls Try.prog 14 #[.slice A0 n c0, .slice A1 n c1] w fun e w' => e = .returned (.bool true) ∧ Below w.heap.size w w' := by
  subst hn
  obtain ⟨K, hK⟩ := Pairs_ev l hl
  refine (cornucopiabook_SamePairs.calls K A0 c0 l A1 c1 l true w (to_kdP h0 (by omega)) hc0 (to_kdP h1 (by omega)) hc1 (hK K (Nat.le_refl _))).mono ?_
  rintro e w' ⟨rfl, ⟨nd, rfl⟩⟩
  exact ⟨rfl, pw_below_drewN (Below.refl _ _) nd⟩
/-! ### the reference's Shadow -/
abbrev StaysR (l : List En) (pins : List Int) (k : Nat) : Prop := k = 0 ∨ (enAt l (k - 1)).f0 ≠ (enAt l k).f0 ∨ ∃ p ∈ pins, (enAt l k).f1 ≤ p ∧ p < (enAt l (k - 1)).f1
theorem shr_l1 (l : List En) (pins : List Int) (hl : l.length ≤ 100000) (hp : pins.length ≤ 100000) (i : Nat) (hi : i < l.length) (out : List En) (ho : out.length ≤ 100000) {r : List En}
    (hE : Ev (fun k => cornucopiaref5_Shadow.l0 k l pins (out ++ [enAt l i]) ((i + 1 : Nat) : Int)) r) : ∀ (m j : Nat) (b : Bool), j + m = pins.length → (b = true ∨ (1 ≤ i ∧ ∃ p ∈ pins.drop j, (enAt l i).f1 ≤ p ∧ p < (enAt l (i - 1)).f1)) → Ev (fun k => cornucopiaref5_Shadow.l1 k l pins out (i : Int) b (j : Int)) r
  | 0, j, b, hj, hb => by
    have hb : b = true := by
      rcases hb with h | ⟨_, p, hp, _⟩
      · exact h
      · rw [List.drop_of_length_le (by omega)] at hp; cases hp
    subst hb
    have e : wrap64 ((i : Int) + 1) = ((i + 1 : Nat) : Int) := by rw [wrap64_id (by omega) (by omega)]; omega
    refine Ev.step (fun k => (if_neg (by omega)).trans ((if_pos rfl).trans ((if_pos (by omega)).trans ((if_pos (by omega)).trans (if_pos (by omega)))))) ?_
    rw [e]
    exact hE
  | m + 1, j, b, hj, hb => by
    have e : wrap64 ((j : Int) + 1) = ((j + 1 : Nat) : Int) := by rw [wrap64_id (by omega) (by omega)]; omega
    have ih := shr_l1 l pins hl hp i hi out ho hE m (j + 1)
    cases b with
    | true =>
      refine Ev.step (fun k => (if_pos (by omega)).trans (if_pos rfl)) ?_
      rw [e]
      exact ih true (by omega) (.inl rfl)
    | false =>
      obtain ⟨h1, p, hpm, hc⟩ : 1 ≤ i ∧ ∃ p ∈ pins.drop j, (enAt l i).f1 ≤ p ∧ p < (enAt l (i - 1)).f1 := hb.resolve_left (by simp)
      have e1 : wrap64 ((i : Int) - 1) = ((i - 1 : Nat) : Int) := by rw [wrap64_id (by omega) (by omega)]; omega
      have hd : pins.drop j = rd pins (j : Int) :: pins.drop (j + 1) := by
        have hjl : j < pins.length := by omega
        rw [List.drop_eq_getElem_cons hjl]
        congr 1
        unfold rd
        rw [List.getD_eq_getElem?_getD, Int.toNat_natCast, List.getElem?_eq_getElem hjl]
        rfl
      rw [hd] at hpm
      by_cases hq : (enAt l i).f1 ≤ rd pins (j : Int)
      · refine Ev.step (fun k => (if_pos (by omega)).trans ((if_neg (by simp)).trans ((if_pos (by omega)).trans ((if_pos (by omega)).trans ((if_pos (by omega)).trans ((if_pos (by exact hq)).trans ((if_pos (by rw [e1]; omega)).trans (if_pos (by rw [e1]; omega))))))))) ?_
        rw [e, e1]
        refine ih _ (by omega) ?_
        by_cases hz : (enAt l (i - 1)).f1 > rd pins (j : Int)
        · exact .inl (decide_eq_true hz)
        · refine .inr ⟨h1, p, ?_, hc⟩
          rcases List.mem_cons.1 hpm with rfl | h
          · exact absurd hc.2 hz
          · exact h
      · refine Ev.step (fun k => (if_pos (by omega)).trans ((if_neg (by simp)).trans ((if_pos (by omega)).trans ((if_pos (by omega)).trans ((if_pos (by omega)).trans (if_neg (by exact hq))))))) ?_
        rw [e]
        refine ih _ (by omega) (.inr ⟨h1, p, ?_, hc⟩)
        rcases List.mem_cons.1 hpm with rfl | h
        · exact absurd hc.1 hq
        · exact h
theorem shr_l0 (l : List En) (pins : List Int) (hl : l.length ≤ 100000) (hp : pins.length ≤ 100000) (H : ∀ k, k < l.length → StaysR l pins k) : ∀ (m i : Nat), i + m = l.length → Ev (fun k => cornucopiaref5_Shadow.l0 k l pins (l.take i) (i : Int)) l
  | 0, i, hi => by
    rw [List.take_of_length_le (by omega)]
    exact Ev.step (fun k => if_neg (by omega)) (Ev.now _)
  | m + 1, i, hi => by
    have hil : i < l.length := by omega
    have ih := shr_l0 l pins hl hp H m (i + 1) (by omega)
    have ht : l.take (i + 1) = l.take i ++ [enAt l i] := by
      obtain ⟨x, hx⟩ : ∃ x, l[i]? = some x := ⟨_, List.getElem?_eq_getElem hil⟩
      rw [List.take_add_one, hx, enAt_eq hx]; rfl
    rw [ht] at ih
    have hlen : (l.take i).length ≤ 100000 := by rw [List.length_take]; omega
    have key := fun b => shr_l1 l pins hl hp i hil (l.take i) hlen ih pins.length 0 b (by omega)
    by_cases h0 : i = 0
    · refine Ev.step (fun k => (if_pos (by omega)).trans (if_pos (by omega))) ?_
      exact Ev.step (fun k => rfl) (key true (.inl rfl))
    · have e1 : wrap64 ((i : Int) - 1) = ((i - 1 : Nat) : Int) := by rw [wrap64_id (by omega) (by omega)]; omega
      refine Ev.step (fun k => (if_pos (by omega)).trans ((if_neg (by omega)).trans ((if_pos (by rw [e1]; omega)).trans ((if_pos (by rw [e1]; omega)).trans (if_pos (by omega)))))) ?_
      rw [e1]
      refine Ev.step (fun k => rfl) (key _ ?_)
      rcases H i hil with h | h | ⟨p, hp, hc⟩
      · exact absurd h h0
      · refine .inl ?_
        show ((enAt l (i - 1)).f0.toList != (enAt l i).f0.toList) = true
        rw [bne_iff_ne]
        exact fun e => h (ls_inj (by rw [← toList_ls, ← toList_ls, e]))
      · exact .inr ⟨by omega, p, by simpa using hp, hc⟩
theorem Shadow_ev {l : List En} (h : Inc l) (pins : List Int) (hl : l.length ≤ 100000) (hp : pins.length ≤ 100000) (hs : shadowP l pins = l) : Ev (fun k => cornucopiaref5_Shadow.f k l pins) l := by
  have := shr_l0 l pins hl hp (fun k hk => ?_) l.length 0 (by omega)
  · rw [List.take_zero] at this
    exact this
  · rcases Nat.eq_zero_or_pos k with h0 | h0
    · exact .inl h0
    · have hm : enAt l k ∈ shadowP l pins := by rw [hs, enAt_eq (List.getElem?_eq_getElem hk)]; exact List.getElem_mem _
      by_cases e : (enAt l (k - 1)).f0 = (enAt l k).f0
      · rcases ((mem_shadow h pins).1 hm).2 with hf | ⟨p, hpm, hv⟩
        · exact absurd e ((first_iff h hk).1 ((First_iff h hk).1 hf) (k - 1) (by omega))
        · exact .inr (.inr ⟨p, hpm, hv.1, ((vis_iff h p hk).1 hv).2 (k - 1) (by omega) e⟩)
      · exact .inr (.inl e)
theorem shadow_r {w : World} {A0 A1 : Option Addr} {c0 c1 n m : Nat} {l : List En} {pins : List Int} (hn : l.length = n) (hm : pins.length = m) (h : Inc l) (hs : shadowP l pins = l) (h0 : Reads KE w A0 l) (h1 : Reads KN w A1 pins) (hc0 : n ≤ c0) (hc1 : m ≤ c1) (hl : n ≤ 100000) (hp : m ≤ 100000) :
    Calls Try.prog 16 #[.slice A0 n c0, .slice A1 m c1] w fun e w' => (∃ A' c', e = .returned (.slice A' n c')) ∧ Below w.heap.size w w' := by
  subst hn hm
  obtain ⟨K, hK⟩ := Shadow_ev h pins hl hp hs
  refine (cornucopiaref5_Shadow.calls K A0 c0 l A1 c1 pins l w (to_kd h0 (by omega)) hc0 (to_kdN h1 (by omega)) hc1 (hK K (Nat.le_refl _))).mono ?_
  rintro e w' ⟨v, rfl, hR, hb⟩
  refine ⟨?_, hb⟩
  obtain ⟨A2, c2, rfl⟩ := Kd.R_slice hR
  exact ⟨A2, c2, rfl⟩

/-! ### DrSn -/
attribute [local go_sem] max2_int max_two

theorem IN : Info Try.prog KN 34 35 8 := Info.mk' (z := .int .u64 0) Try.underlying34 (by kernel_rfl) rfl
theorem own_geN {W : World} {base c k : Nat} {A : Option Addr} {e : TypeId} {L : List Int} {n : Nat} (h : Rw.Own KN e W base A c L) (hk : (Value.slice A n c).ownBlock = some k) : base ≤ k := by
  rcases h.2 with ⟨h0, h1⟩ | ⟨g, c', cur, hv, hg, hb, _⟩
  · simp at h0; rw [h0.1] at hk; cases hk
  · cases hv
    obtain rfl : g = k := by simpa [Value.ownBlock] using hk
    exact hg
/-- append(append(nil, pins...), top). -/
theorem all_pins {w : World} {A : Option Addr} {pins : List Int} {n : Nat} (hn : pins.length = n) (hs : Reads KN w A pins) (c : Nat) (top : Int) (hl : n ≤ 1000) :
    ∃ p1 k1 w1 p2 k2 w2, (∀ ty, (Builtin.append_ #[34, 34] ty #[.slice none 0 0, .slice A n c]).run Try.prog w = .ok (.slice p1 n k1) w1) ∧
      (∀ ty, (Builtin.append_ #[34, 34] ty #[.slice p1 n k1, .slice (some ⟨w1.heap.size, 0, none⟩) 1 1]).run Try.prog (w1.alloc (.cells #[.int .u64 top] 35)) = .ok (.slice p2 (n + 1) k2) w2) ∧
      Rw.Own KN 35 w2 w.heap.size p2 k2 (pins ++ [top]) ∧ Below w.heap.size w w2 := by
  subst hn
  obtain ⟨p1, k1, w1, h1, h2, h3, _⟩ := app IN (Rw.Own.nil KN 35 w w.heap.size) hs c (by simp; omega) (by simp [maxLen]; omega) (Nat.le_refl _)
  simp only [List.length_nil, Nat.zero_add, List.nil_append] at h1 h2
  have b1 : Below w.heap.size w w1 := (Below.refl _ _).grown h3 (Nat.le_refl _) (fun k e => by cases e)
  have bA := below_alloc (Below.refl w1.heap.size w1) (.cells #[.int .u64 top] 35)
  have hx : Reads KN (w1.alloc (.cells #[.int .u64 top] 35)) (some ⟨w1.heap.size, 0, none⟩) [top] := Reads.blk (heap_alloc_new w1 _) rfl
  have bA1 := b1.trans (bA.mono b1.size)
  obtain ⟨p2, k2, w2, g1, g2, g3, _⟩ := app IN (h2.below bA) hx 1 (by simp; omega) (by simp [maxLen]; omega) bA1.size
  exact ⟨p1, k1, w1, p2, k2, w2, h1, g1, g2, bA1.grown g3 bA1.size (fun k e => own_geN (h2.below bA) e)⟩
/-- The greatest number. -/
def topN (l : List En) : Nat → Int
  | 0 => 0
  | k + 1 => if topN l k < (enAt l k).f1 then (enAt l k).f1 else topN l k
theorem topN_ge (l : List En) : ∀ n k, k < n → (enAt l k).f1 ≤ topN l n
  | 0, k, h => by omega
  | n + 1, k, h => by
    unfold topN
    by_cases e : k = n
    · subst e; split <;> omega
    · have := topN_ge l n k (by omega)
      split <;> omega
theorem top_ge (l : List En) : ∀ x ∈ l, x.f1 ≤ topN l l.length := fun x hx => by
  obtain ⟨j, hj, rfl⟩ := mem_enAt hx
  exact topN_ge l _ j hj
/-! a block is found again -/
theorem below_ad (w : World) (X : Obj) : Below w.drew.heap.size w.drew (w.alloc X).drew := below_alloc (Below.refl _ _) X
theorem blk_d {w : World} {X : Obj} : (w.alloc X).drew.heap[w.heap.size]? = some X := heap_alloc_new w X
theorem blk_d1 {w : World} {X Y : Obj} : ((w.alloc X).alloc Y).drew.heap[w.heap.size]? = some X := (heap_alloc_old (w.alloc X) Y _ (by simp)).trans (heap_alloc_new w X)
theorem blk_d2 {w : World} {X Y : Obj} : ((w.alloc X).alloc Y).drew.heap[w.heap.size + 1]? = some Y := by
  have := heap_alloc_new (w.alloc X) Y
  rw [show (w.alloc X).heap.size = w.heap.size + 1 by simp] at this
  exact this
theorem blk_b {w w' : World} {X : Obj} {b : Nat} (h : w.heap[b]? = some X) (hb : Below w.heap.size w w') : w'.heap[b]? = some X := (hb.block b (Array.getElem?_eq_some_iff.1 h).1).trans h
/-- What stays as it is. -/
structure Hz (W : World) (A A1 A3 B : Option Addr) (l m : List En) (all pins : List Int) (w : World) : Prop where
  l : Reads KE w A l
  m : Reads KE w A1 m
  all : Reads KN w A3 all
  pins : Reads KN w B pins
  bel : Below W.heap.size W w
theorem Hz.step {W : World} {A A1 A3 B : Option Addr} {l m : List En} {all pins : List Int} {w w' : World} (h : Hz W A A1 A3 B l m all pins w) (hb : Below w.heap.size w w') : Hz W A A1 A3 B l m all pins w' :=
  ⟨h.l.below hb, h.m.below hb, h.all.below hb, h.pins.below hb, h.bel.trans (hb.mono h.bel.size)⟩
theorem Same_evL (l : List En) (hl : l.length ≤ 100000) {w : World} {A0 A1 : Option Addr} {c0 c1 n : Nat} (hn : l.length = n) (h0 : Reads KE w A0 l) (h1 : Reads KE w A1 l) (hc0 : n ≤ c0) (hc1 : n ≤ c1) :
    Calls Try.prog 12 #[.slice A0 n c0, .slice A1 n c1] w fun e w' => e = .returned (.bool true) ∧ Below w.heap.size w w' := by
  subst hn
  obtain ⟨K, hK⟩ := Same_ev l hl
  refine (cornucopiabook_SameEntries.calls K A0 c0 l A1 c1 l true w (to_kd h0 (by omega)) hc0 (to_kd h1 (by omega)) hc1 (hK K (Nat.le_refl _))).mono ?_
  rintro e w' ⟨rfl, ⟨nd, rfl⟩⟩
  exact ⟨rfl, pw_below_drewN (Below.refl _ _) nd⟩
set_option maxRecDepth 100000 in
set_option maxHeartbeats 16000000 in
theorem DropSeen_walk {A B : Option Addr} {c c2 : Nat} {l : List En} {pins : List Int} (bottom : Bool) (W : World) (hr : Reads KE W A l) (hc : l.length ≤ c) (hp : Reads KN W B pins) (hc2 : pins.length ≤ c2) (hlm : l.length ≤ 9223372036854775807) (hpm : pins.length ≤ 9223372036854775807) (hw : ∀ p ∈ pins, (Lit.int .u64 p).wf = true) : Calls Try.prog 4 #[.slice A l.length c, .bool bottom, .slice B pins.length c2] W fun e W' => e = .returned (.bool true) ∧ Below W.heap.size W W' := by
  have HK := Aside0.mk (And.intro hr (And.intro hp hw))
  obtain ⟨r, ⟨K1, hS⟩, hr1⟩ := Small_ev l
  have hS := hS K1 (Nat.le_refl _)
  have HR := Aside0.mk hr1
  clear hr hr1 hp hw
  go_enter Try.func4, Try.ntmps4
  go_wp2_with fail
  refine (cornucopialaw5_Small.calls K1 A c l r W (to_kd HK.out.1 hlm) hc hS).mono ?_
  rintro e w1 ⟨rfl, hb1⟩
  have HB1 := Aside0.mk hb1
  clear hb1 hS
  cases r with
  | false =>
    go_wp2_with fail
    refine (alive_c w1).mono ?_
    rintro e w2 ⟨rfl, hb2⟩
    have HB := Aside0.mk (below_step HB1.out hb2)
    clear hb2
    go_wp2
    go_ret
    exact ⟨rfl, HB.out⟩
  | true =>
    obtain ⟨hl, hsz⟩ := HR.out rfl
    obtain ⟨r2, ⟨K2, hO⟩, ho2⟩ := Ordered_ev l (by omega) (fun x hx => by have := (hsz x hx).1; omega)
    have hO := hO K2 (Nat.le_refl _)
    have HSZ := Aside0.mk (And.intro hsz ho2)
    clear hsz HR ho2
    go_wp2_with fail
    refine (cornucopialaw5_Ordered.calls K2 A c l r2 w1 (to_kd (HK.out.1.below HB1.out) hlm) hc hO).mono ?_
    rintro e w2 ⟨rfl, hb2⟩
    have HB2 := Aside0.mk (below_step HB1.out hb2)
    clear hb2 hO
    cases r2 with
    | false =>
      go_wp2_with fail
      refine (alive_c w2).mono ?_
      rintro e w3 ⟨rfl, hb3⟩
      have HB := Aside0.mk (below_step HB2.out hb3)
      clear hb3
      go_wp2
      go_ret
      exact ⟨rfl, HB.out⟩
    | true =>
      by_cases g20 : (20 : Int) < pins.length
      · have g1 : decide ((20 : Int) < pins.length) = true := decide_eq_true g20
        have g2 : decide (20 < pins.length) = true := decide_eq_true (by omega)
        go_wp2_with fail
        refine (alive_c w2).mono ?_
        rintro e w3 ⟨rfl, hb3⟩
        have HB := Aside0.mk (below_step HB2.out hb3)
        clear hb3
        go_wp2
        go_ret
        exact ⟨rfl, HB.out⟩
      have g1 : decide ((20 : Int) < pins.length) = false := decide_eq_false g20
      have g2 : decide (20 < pins.length) = false := decide_eq_false (by omega)
      have HI := Aside0.mk (inc_of (HSZ.out.2 rfl))
      have HR1 := Aside0.mk (run_c (HK.out.1.below HB2.out) (HK.out.2.1.below HB2.out) c c2 (by omega) (by omega) HK.out.2.2 (fun x hx => by have := (HSZ.out.1 x hx).1; omega) none none (.inl ⟨rfl, rfl⟩) bottom)
      go_wp2_with fail
      refine HR1.out.mono ?_
      rintro e w3 ⟨A1, c1, rfl, ho1, hb3⟩
      rw [runP_none] at ho1 ⊢
      have hml := mid_le l bottom pins
      obtain ⟨m, hm⟩ : ∃ m, m = midP l bottom pins := ⟨_, rfl⟩
      rw [← hm] at ho1 hml ⊢
      have HM := Aside0.mk hm
      have HO1 := Aside0.mk (And.intro ho1 (below_step HB2.out hb3))
      clear hm ho1 hb3 HR1
      go_wp2_with fail
      go_loopw [8, 9] (fun s8 i wr => ∃ k : Nat, k ≤ l.length ∧ i = .int .i64 k ∧ s8 = .int .u64 (topN l k) ∧ Aside0 (wr = w3)) (fun _ i _ => l.length - (intOf i).toNat)
      case atStart => exact ⟨0, Nat.zero_le _, rfl, rfl, ⟨rfl⟩⟩
      case round =>
        obtain ⟨k, hk, rfl, rfl, ⟨rfl⟩⟩ := hrel
        obtain ⟨w3, hw3⟩ : ∃ w3, w3 = wr := ⟨_, rfl⟩
        subst wr
        by_cases hlt : k < l.length
        · have hwk := Aside0.mk (show wrap64 ((k : Int) + 1) = (k : Int) + 1 by unfold wrap64; omega)
          have hR := HK.out.1.below HO1.out.2
          obtain ⟨g, o, rfl, hg⟩ := hR.where hlt
          obtain ⟨y, hy⟩ : ∃ y, l[k]? = some y := ⟨_, List.getElem?_eq_getElem hlt⟩
          have hyd := Aside0.mk (enAt_eq hy)
          have y1 : w3.cell? ⟨g, o + k * 4 + 1, none⟩ = some (.int .u64 y.f1) := hR.at hy (i := 1) rfl
          have hd1 : decide ((k : Int) < (l.length : Int)) = true := decide_eq_true (by omega)
          have hd2 : decide (k < l.length) = true := decide_eq_true hlt
          clear hR hg hy
          go_wp2_with fail
          have ht : topN l (k + 1) = if topN l k < y.f1 then y.f1 else topN l k := by rw [← hyd.out]; rfl
          exact ⟨⟨k + 1, hlt, by first | exact iw_succ k | exact iv_succ hwk.out, by rw [ht], ⟨trivial⟩⟩, by first | exact iw_meas hlt | exact iv_meas hwk.out hlt⟩
        · have hkl : k = l.length := by omega
          subst hkl
          have hd1 : decide ((l.length : Int) < (l.length : Int)) = false := decide_eq_false (Int.lt_irrefl _)
          have HT := Aside0.mk (top_ge l)
          generalize topN l l.length = top at *
          obtain ⟨p1, k1, w4, A3, c3, w5, r1, r2, oA, bA⟩ := all_pins (n := pins.length) rfl (HK.out.2.1.below HO1.out.2) c2 top (by omega)
          have hcA := oA.cap
          have HZ : Aside0 (Hz W A A1 A3 B l m (pins ++ [top]) pins w5) := ⟨⟨HK.out.1.below (HO1.out.2.trans (bA.mono HO1.out.2.size)), HO1.out.1.reads.below bA, oA.reads, HK.out.2.1.below (HO1.out.2.trans (bA.mono HO1.out.2.size)), HO1.out.2.trans (bA.mono HO1.out.2.size)⟩⟩
          have hc1 := HO1.out.1.cap.1
          obtain ⟨n3, hn3⟩ : ∃ n3, n3 = pins.length + 1 := ⟨_, rfl⟩
          rw [← hn3] at r2
          have hl3 : (pins ++ [top]).length = n3 := by simp [hn3]
          rw [hl3] at hcA
          have hcA := hcA.1
          have HA : Aside0 (∀ q ∈ pins ++ [top], latP q m = latP q l) := ⟨fun q hq => by
            rw [HM.out]
            refine lat_mid HI.out bottom pins ?_
            rcases List.mem_append.1 hq with h | h
            · exact .inl h
            · rw [List.mem_singleton.1 h]; exact .inr HT.out⟩
          generalize pins ++ [top] = all at *
          have hn21 : n3 ≤ 21 := by omega
          clear oA bA hn3
          go_wp2_with fail
          clear r1 r2
          go_loopw [11] (fun i wr => ∃ j : Nat, j ≤ n3 ∧ i = .int .i64 j ∧ Aside0 (Hz W A A1 A3 B l m all pins wr)) (fun i _ => n3 - (intOf i).toNat)
          case atStart => exact ⟨0, Nat.zero_le _, rfl, HZ⟩
          case round =>
            obtain ⟨j, hj, rfl, H1⟩ := hrel
            obtain ⟨w6, hw6⟩ : ∃ w6, w6 = wr := ⟨_, rfl⟩
            subst wr
            by_cases hjl : j < n3
            · have hwj := Aside0.mk (show wrap64 ((j : Int) + 1) = (j : Int) + 1 by unfold wrap64; omega)
              have hR := H1.out.all
              obtain ⟨g3, o3, rfl, hg3⟩ := hR.where (by rw [hl3]; exact hjl)
              obtain ⟨q, hq⟩ : ∃ q, all[j]? = some q := ⟨_, List.getElem?_eq_getElem (by rw [hl3]; exact hjl)⟩
              have hla := HA.out q (List.mem_of_getElem? hq)
              have hd1 : decide ((j : Int) < (n3 : Int)) = true := decide_eq_true (by omega)
              have hd2 : decide (j < n3) = true := decide_eq_true hjl
              have HS : Aside0 (∀ w', Hz W A A1 (some ⟨g3, o3, none⟩) B l m all pins w' → (w'.cell? ⟨g3, o3 + j, none⟩ = some (.int .u64 q) ∧ Aside0 (Hz W A A1 (some ⟨g3, o3, none⟩) B l m all pins w'))) := ⟨fun w' h => ⟨by
                have := h.all.at hq (i := 0) (u := .int .u64 q) rfl
                simpa [KN] using this, ⟨h⟩⟩⟩
              have HI2 := inc_sub HI.out (show m.Sublist l from by rw [HM.out]; exact mid_sub _ _ _)
              have hmp : ∀ x ∈ m, x.f0.size ≤ 1000000 := fun x hx => by
                rw [HM.out] at hx
                have := (HSZ.out.1 x (mid_mem hx)).1
                omega
              have hPl : (latP q l).length ≤ 150 := Nat.le_trans (latN_le q l _) hl
              obtain ⟨n, hn⟩ : ∃ n, n = (latP q l).length := ⟨_, rfl⟩
              have LM : Aside0 (∀ w' b t, Hz W A A1 (some ⟨g3, o3, none⟩) B l m all pins w' → w'.heap[b]? = some (.cells #[.slice A1 m.length c1] t (0, 0)) → Calls Try.prog 15 #[.int .u64 q, .slice (some ⟨b, 0, none⟩) 1 1] w' fun e w'' => ∃ A' c', e = .returned (.slice A' n c') ∧ Rw.Own KP 73 w'' w'.heap.size A' c' (latP q l) ∧ Below w'.heap.size w' w'') := ⟨fun w' b t h hb => by
                have := latest_c q hb h.m (by omega) hmp HI2
                rw [hla, ← hn] at this
                exact this⟩
              have LL : Aside0 (∀ w' b t, Hz W A A1 (some ⟨g3, o3, none⟩) B l m all pins w' → w'.heap[b]? = some (.cells #[.slice A l.length c] t (0, 0)) → Calls Try.prog 15 #[.int .u64 q, .slice (some ⟨b, 0, none⟩) 1 1] w' fun e w'' => ∃ A' c', e = .returned (.slice A' n c') ∧ Rw.Own KP 73 w'' w'.heap.size A' c' (latP q l) ∧ Below w'.heap.size w' w'') := ⟨fun w' b t h hb => by
                have := latest_c q hb h.l (by omega) (fun x hx => by have := (HSZ.out.1 x hx).1; omega) HI.out
                rw [← hn] at this
                exact this⟩
              have HP := Aside0.mk (And.intro hn hPl)
              generalize latP q l = Q at *
              clear hR hg3 hq hla hmp HI2 hn hPl
              go_upto_region 13 with (fail)
              go_region_held3 (fun w' => w'.cell? ⟨g3, o3 + j, none⟩ = some (.int .u64 q) ∧ Aside0 (Hz W A A1 (some ⟨g3, o3, none⟩) B l m all pins w'))
                (first
                  | (refine HS.out _ (Hz.step H1.out ?_); exact below_drew1 (Below.refl _ _))
                  | (go_split_ands
                     first
                     | (refine HS.out _ (Aside0.out ?_); assumption)
                     | (refine HS.out _ (Hz.step (Aside0.out ?_) hb1); assumption)
                     | (refine HS.out _ (Hz.step (Aside0.out ?_) hb2); assumption)
                     | (refine HS.out _ (Hz.step (Aside0.out ?_) hb3); assumption)
                     | (refine HS.out _ (Hz.step (Aside0.out ?_) (below_ad _ _)); assumption)
                     | (refine HS.out _ (Hz.step (Aside0.out ?_) (below_drew1 (Below.refl _ _))); assumption)
                     | (refine HS.out _ (Hz.step (Aside0.out ?_) (below_alloc (Below.refl _ _) _)); assumption)))
                (first
                | (go_at_call 15; go_split_ands; refine (LM.out _ _ 22 (Aside0.out ?_) ?_).mono ?_; assumption; (first | exact blk_d | exact blk_d1 | exact blk_d2); rintro e w11 ⟨a1, d1, rfl, ho1, hb1⟩)
                | (go_at_call 15; go_split_ands; refine (LL.out _ _ 22 (Aside0.out ?_) ?_).mono ?_; assumption; (first | exact heap_alloc_new _ _ | exact blk_b (by (first | exact blk_d | exact blk_d1 | exact blk_d2)) hb1); rintro e w12 ⟨a2, d2, rfl, ho2, hb2⟩)
                | (go_at_call 14; refine (pairs_c HP.out.1.symm ?_ ho2.reads ?_ ?_ ?_).mono ?_; (first | exact (ho1.below hb2).reads | exact ((ho1.below (below_alloc (Below.refl _ _) _)).below hb2).reads); (rw [HP.out.1]; exact ho1.cap.1); (rw [HP.out.1]; exact ho2.cap.1); (have := HP.out.1; have := HP.out.2; omega); rintro e w13 ⟨rfl, hb3⟩))
              all_goals
                go_split_ands
                clear ho1 ho2 hb1 hb2 hb3 LM LL HS
                go_wp2_with fail
                refine ⟨⟨j + 1, hjl, by first | exact iw_succ j | exact iv_succ hwj.out, ?_⟩, by first | exact iw_meas hjl | exact iv_meas hwj.out hjl⟩
                assumption
            · have hjn : j = n3 := by omega
              subst hjn
              have hd1 : decide ((j : Int) < (j : Int)) = false := decide_eq_false (Int.lt_irrefl _)
              have HI2 := Aside0.mk (inc_sub HI.out (show m.Sublist l from by rw [HM.out]; exact mid_sub _ _ _))
              have hmp : ∀ x ∈ m, x.f0.size ≤ 1000000 := fun x hx => by
                rw [HM.out] at hx
                have := (HSZ.out.1 x (mid_mem hx)).1
                omega
              have HR2 := Aside0.mk (run_c H1.out.m H1.out.pins c1 c2 (by omega) (by omega) HK.out.2.2 hmp none none (.inl ⟨rfl, rfl⟩) bottom)
              have hmm : midP m bottom pins = m := by rw [HM.out]; exact mid_mid HI.out _ _
              have hsm : shadowP m pins = m := by rw [HM.out]; exact shadow_mid HI.out _ _
              rw [runP_none, hmm] at HR2
              have hsm := Aside0.mk hsm
              clear hmp hmm
              go_wp2_with fail
              refine HR2.out.mono ?_
              rintro e w7 ⟨A4, c4, rfl, ho4, hb7⟩
              have H7 := Aside0.mk (And.intro ho4 (H1.out.step hb7))
              clear ho4 hb7 HR2
              have hc4 := H7.out.1.cap.1
              go_wp2_with fail
              refine (alive_c w7).mono ?_
              rintro e w8 ⟨rfl, hb8⟩
              have H8 := Aside0.mk (And.intro (H7.out.1.below hb8) (H7.out.2.step hb8))
              clear hb8 H7
              go_wp2_with fail
              refine (Same_evL m (by omega) rfl H8.out.1.reads H8.out.2.m hc4 hc1).mono ?_
              rintro e w9 ⟨rfl, hb9⟩
              have H9 := Aside0.mk (H8.out.2.step hb9)
              clear hb9 H8
              go_wp2_with fail
              refine (shadow_r rfl rfl HI2.out hsm.out H9.out.m H9.out.pins hc1 hc2 (by omega) (by omega)).mono ?_
              rintro e w10 ⟨⟨A5, c5, rfl⟩, hb10⟩
              have H10 := Aside0.mk (H9.out.step hb10)
              clear hb10 H9
              have hbb : ((m.length : Int) == (m.length : Int)) = true := beq_self_eq_true _
              go_wp2
              go_ret
              exact ⟨rfl, H10.out.bel⟩
end Go.Proofs.Ytdfaoafeojoceaa.Dr
