/- ikey.Shadow: walked. -/
import Derived.Test.YtdfaoafeojoceaaDrW
import Derived.Carry
set_option linter.unusedSimpArgs false
set_option linter.unusedVariables false
namespace Go.Proofs.Ytdfaoafeojoceaa.Dr
open Go.RowKit Go.Maps Go.Proofs.Ytdfaoafeojoceaa.Rw Go.Proofs.Ytdfaoafeojoceaa.PAll Go.Proofs.YtdfaoafeojoceaaW.PrintWords Go.Proofs.Ytdfaoafeojoceaa.Pb
attribute [local go_sem] put_fresh
attribute [-go_sem] Builtin.append_

/-! ### a set of numbers in the heap -/
theorem nkeyed : Keyed Try.prog 35 := int_keyed Try.underlying35
def NSet (W : World) (b N : Nat) (S : Int → Bool) : Prop := ∃ D : DataW Unit, W.ownsMap Try.prog 35 unitElem b N D ∧ ∀ p, (Lit.int .u64 p).wf = true → has D (.int .u64 p) = S p
theorem zero_unit (w : World) : (zeroValue 86).run Try.prog w = .ok (.agg #[]) w := by kernel_rfl
theorem NSet.lt {W : World} {b N : Nat} {S : Int → Bool} (h : NSet W b N S) : b < W.heap.size := by
  obtain ⟨D, hD, _⟩ := h
  exact hD.lt
theorem NSet.keep {W W' : World} {b N : Nat} {S : Int → Bool} (h : NSet W b N S) (hb : W'.heap[b]? = W.heap[b]?) : NSet W' b N S := by
  obtain ⟨D, ⟨es, clock, hh, F, hn, e⟩, hS⟩ := h
  exact ⟨D, ⟨es, clock, hb.trans hh, F, hn, e⟩, hS⟩
theorem NSet.below {W W' : World} {b N : Nat} {S : Int → Bool} (h : NSet W b N S) (hb : Below W.heap.size W W') : NSet W' b N S := h.keep (hb.block b h.lt)
theorem NSet.more {W : World} {b N N' : Nat} {S : Int → Bool} (h : NSet W b N S) (hn : N ≤ N') : NSet W b N' S := by
  obtain ⟨D, hD, hS⟩ := h
  exact ⟨D, hD.mono hn, hS⟩
theorem NSet.look {W : World} {b N : Nat} {S : Int → Bool} (h : NSet W b N S) {p : Int} (hp : (Lit.int .u64 p).wf = true) :
    (Instr.lookup 85 (.map (some b)) (.int .u64 p) true).run Try.prog W = .ok (.tuple #[.agg #[], .bool (S p)]) W := by
  obtain ⟨D, hD, hS⟩ := h
  obtain ⟨v, ps, hup, hv⟩ := hD.look_ok nkeyed Try.underlying85 (zero_unit W) (unitElem_mk (H := Unit)) (keyOf_int_mk Try.underlying35 hp)
  obtain rfl := (unitElem_inv hv).1
  rw [hup, hS p hp]
theorem NSet.put {W : World} {b N : Nat} {S : Int → Bool} (h : NSet W b N S) (hN : N < maxLen) {p : Int} (hp : (Lit.int .u64 p).wf = true) :
    ∃ W', (Instr.mapUpdate 85 (.map (some b)) (.int .u64 p) (.agg #[])).run Try.prog W = .ok () W' ∧ NSet W' b (N + 1) (fun q => q == p || S q) ∧ W.grownBy W' (some b) := by
  obtain ⟨D, hD, hS⟩ := h
  obtain ⟨W', hup, hw, hg⟩ := hD.update nkeyed Try.underlying85 hN (keyOf_int_mk Try.underlying35 hp) (val := .agg #[]) (unitElem_mk (H := Unit))
  have ht := hD.tidy nkeyed
  refine ⟨W', hup, ⟨_, hw, fun q hq => ?_⟩, hg⟩
  by_cases e : q = p
  · subst e
    rw [has_put_same ht.isMap (by simp [WideAt.IsKeyLit])]
    simp
  · rw [has_put_other (by simpa using e), hS q hq]
    simp [e]
theorem NSet.new (W : World) : NSet (W.alloc (.map #[] 0)) W.heap.size 0 (fun _ => false) := ⟨_, World.ownsMap_made W _ _ _, fun _ _ => rfl⟩
/-! ### what Shadow keeps -/
def enAt (l : List En) (k : Nat) : En := l.getD k z37
theorem enAt_eq {l : List En} {k : Nat} {x : En} (h : l[k]? = some x) : enAt l k = x := by unfold enAt; rw [List.getD_eq_getElem?_getD, h]; rfl
/-- Is a version the first one of its key? -/
def firstAt (l : List En) : Nat → Bool
  | 0 => true
  | k + 1 => !decide ((enAt l k).f0 = (enAt l (k + 1)).f0)
/-- The pins that have their version among those of the key ahead. -/
def seenL (l : List En) : Nat → Int → Bool
  | 0, _ => false
  | k + 1, p => decide ((enAt l k).f1 ≤ p) || (if firstAt l k then false else seenL l k p)
def had (l : List En) (k : Nat) (p : Int) : Bool := if firstAt l k then false else seenL l k p
def staysL (l : List En) (pins : List Int) (k : Nat) : Bool := firstAt l k || pins.any fun p => !had l k p && decide ((enAt l k).f1 ≤ p)
def shN (l : List En) (pins : List Int) : Nat → List En
  | 0 => []
  | k + 1 => if staysL l pins k then shN l pins k ++ [enAt l k] else shN l pins k
def shadowP (l : List En) (pins : List Int) : List En := shN l pins l.length
theorem shN_le (l : List En) (pins : List Int) : ∀ k, (shN l pins k).length ≤ k
  | 0 => Nat.le_refl _
  | k + 1 => by
    have := shN_le l pins k
    unfold shN
    split
    · rw [List.length_append]; simp; omega
    · omega
/-- The pins of a round: those behind which the version is the first, and those ahead. -/
def inS (l : List En) (k : Nat) (pins : List Int) (p : Int) : Bool := had l k p || (pins.any fun q => q == p && decide ((enAt l k).f1 ≤ q))
theorem inS_snoc (l : List En) (k : Nat) (ps : List Int) (q p : Int) : inS l k (ps ++ [q]) p = (inS l k ps p || (q == p && decide ((enAt l k).f1 ≤ q))) := by
  unfold inS
  rw [List.any_append, List.any_cons, List.any_nil, Bool.or_false, Bool.or_assoc]
/-- Does the version stay, for one of these pins? -/
def anyT (l : List En) (k : Nat) (ps : List Int) : Bool := ps.any fun p => !had l k p && decide ((enAt l k).f1 ≤ p)
theorem anyT_snoc (l : List En) (k : Nat) (ps : List Int) (q : Int) : anyT l k (ps ++ [q]) = (anyT l k ps || (!inS l k ps q && decide ((enAt l k).f1 ≤ q))) := by
  unfold anyT
  rw [List.any_append, List.any_cons, List.any_nil, Bool.or_false]
  cases hh : had l k q
  · by_cases hq : (enAt l k).f1 ≤ q
    · cases ha : inS l k ps q
      · simp [hq]
      · have : ∃ r ∈ ps, r = q := by
          unfold inS at ha
          rw [hh, Bool.false_or, List.any_eq_true] at ha
          obtain ⟨r, hr, e⟩ := ha
          simp at e
          exact ⟨r, hr, e.1⟩
        obtain ⟨r, hr, rfl⟩ := this
        have hany : (ps.any fun p => !had l k p && decide ((enAt l k).f1 ≤ p)) = true := List.any_eq_true.2 ⟨r, hr, by simp [hh, hq]⟩
        rw [hany]; simp
    · simp [hq]
  · have : inS l k ps q = true := by unfold inS; rw [hh, Bool.true_or]
    simp [this]
theorem seen_step (l : List En) (k : Nat) (pins : List Int) (p : Int) (hp : p ∈ pins) : inS l k pins p = seenL l (k + 1) p := by
  unfold inS seenL
  show (had l k p || _) = (_ || had l k p)
  cases hh : had l k p
  · rw [Bool.false_or, Bool.or_false]
    by_cases hq : (enAt l k).f1 ≤ p
    · rw [decide_eq_true hq, List.any_eq_true]
      exact ⟨p, hp, by simp [hq]⟩
    · rw [decide_eq_false hq, List.any_eq_false]
      intro q _ e
      simp at e
      exact hq (e.1 ▸ e.2)
  · simp
/-- What is being made: the row, and the pins' set. -/
structure SO (W : World) (l : List En) (pins : List Int) (k : Nat) (A1 : Option Addr) (c1 : Nat) (wr : World) : Prop where
  own : Own KE 37 wr W.heap.size A1 c1 (shN l pins k)
  bel : Below W.heap.size W wr
def SI (W : World) (l : List En) (pins : List Int) (k j : Nat) (b : Nat) (wr : World) : Prop := W.heap.size ≤ b ∧ ∃ S, NSet wr b (k * 1000 + j) S ∧ ∀ p ∈ pins, S p = inS l k (pins.take j) p
theorem ord_box {wr : World} (x : En) : (wr.alloc (.cells (ecells x).toArray 37)).heap[wr.heap.size]? = some (.cells (ecells x).toArray 37) := heap_alloc_new wr _
set_option maxRecDepth 100000 in
set_option maxHeartbeats 8000000 in
theorem shadow_c {W : World} {A B : Option Addr} {l : List En} {pins : List Int} (hr : Reads KE W A l) (hp : Reads KN W B pins) (c c2 : Nat) (hl : l.length ≤ 100000) (hn : pins.length ≤ 1000) (hw : ∀ p ∈ pins, (Lit.int .u64 p).wf = true) :
    Calls Try.prog 26 #[.slice A l.length c, .slice B pins.length c2] W fun e w' => ∃ A' c', e = .returned (.slice A' (shadowP l pins).length c') ∧ Own KE 37 w' W.heap.size A' c' (shadowP l pins) ∧ Below W.heap.size W w' := by
  have HR := Aside0.mk hr
  have HP := Aside0.mk (And.intro hp hw)
  clear hr hp hw
  have H0 : Aside0 (SO W l pins 0 none 0 W) := ⟨Own.nil _ _ _ _, Below.refl _ _⟩
  go_enter Try.func26, Try.ntmps26
  go_wp2
  go_loopw [5, 6, 17] (fun o v i wr => ∃ (k : Nat) (A1 : Option Addr) (c1 : Nat), k ≤ l.length ∧ i = .int .i64 k ∧ o = .slice A1 (shN l pins k).length c1 ∧ Aside0 (SO W l pins k A1 c1 wr) ∧ ((k = 0 ∧ v = .map none) ∨ ∃ b, v = .map (some b) ∧ 0 < k ∧ Aside0 (W.heap.size ≤ b ∧ ∃ S, NSet wr b (k * 1000) S ∧ ∀ p ∈ pins, S p = seenL l k p))) (fun _ _ i _ => l.length - (intOf i).toNat)
  case atStart => exact ⟨0, none, 0, Nat.zero_le _, rfl, rfl, H0, .inl ⟨rfl, rfl⟩⟩
  case round =>
    obtain ⟨k, A1, c1, hk, rfl, rfl, H1, HV⟩ := hrel
    obtain ⟨w1, hw1⟩ : ∃ w1, w1 = wr := ⟨_, rfl⟩
    subst wr
    by_cases hlt : k < l.length
    · obtain ⟨x, hx⟩ : ∃ x, l[k]? = some x := ⟨_, List.getElem?_eq_getElem hlt⟩
      have hxd := enAt_eq hx
      obtain ⟨g, o, rfl, hg⟩ := HR.out.where hlt
      have hRk := HR.out.below H1.out.bel
      have c0 : w1.cell? ⟨g, o + k * 4, none⟩ = some (.string x.f0) := hRk.at hx (i := 0) rfl
      have c1' : w1.cell? ⟨g, o + k * 4 + 1, none⟩ = some (.int .u64 x.f1) := hRk.at hx (i := 1) rfl
      have c2' : w1.cell? ⟨g, o + k * 4 + 2, none⟩ = some (.int .i64 x.f2) := hRk.at hx (i := 2) rfl
      have c3 : w1.cell? ⟨g, o + k * 4 + 3, none⟩ = some (.string x.f3) := hRk.at hx (i := 3) rfl
      have hwk := Aside0.mk (show wrap64 ((k : Int) + 1) = (k : Int) + 1 by unfold wrap64; omega)
      have hb1 := below_drew1 (below_alloc (Below.refl w1.heap.size w1) (.cells #[.string x.f0, .int .u64 x.f1, .int .i64 x.f2, .string x.f3] 37))
      have hbx : ((w1.alloc (.cells #[.string x.f0, .int .u64 x.f1, .int .i64 x.f2, .string x.f3] 37)).drew).heap[w1.heap.size]? = some (.cells #[.string x.f0, .int .u64 x.f1, .int .i64 x.f2, .string x.f3] 37 (0, 0)) := heap_alloc_new w1 _
      have x0 := blk_cell hbx 0
      simp only [List.getElem?_toArray, List.getElem?_cons_zero, List.getElem?_cons_succ] at x0
      clear hb1 hbx
      have hmm := @run_makeMap Try.prog
      have HX : ∀ w2 : World, Below (w1.heap.size + 1) (w1.alloc (.cells #[.string x.f0, .int .u64 x.f1, .int .i64 x.f2, .string x.f3] 37)) w2 → SO W l pins k A1 c1 w2 ∧ w2.heap[w1.heap.size]? = some (.cells #[.string x.f0, .int .u64 x.f1, .int .i64 x.f2, .string x.f3] 37 (0, 0)) := by
        intro w2 h2
        have h3 := (below_alloc (Below.refl w1.heap.size w1) (.cells #[.string x.f0, .int .u64 x.f1, .int .i64 x.f2, .string x.f3] 37)).trans (h2.mono (by omega))
        exact ⟨⟨H1.out.own.below h3, H1.out.bel.trans (h3.mono H1.out.bel.size)⟩, (h2.block _ (by omega)).trans (heap_alloc_new w1 _)⟩
      have hbd := below_drew1 (Below.refl (w1.heap.size + 1) (w1.alloc (.cells #[.string x.f0, .int .u64 x.f1, .int .i64 x.f2, .string x.f3] 37)))
      have hbm := hbd.alloc (by simp) (.map #[] 0)
      have HN : ∀ f, firstAt l k = f → f = true → SI W l pins k 0 (w1.heap.size + 1) (((w1.alloc (.cells #[.string x.f0, .int .u64 x.f1, .int .i64 x.f2, .string x.f3] 37)).drew).alloc (.map #[] 0)) := by
        intro f e e2
        have hn := NSet.new ((w1.alloc (.cells #[.string x.f0, .int .u64 x.f1, .int .i64 x.f2, .string x.f3] 37)).drew)
        refine ⟨by have := H1.out.bel.size; omega, _, (show NSet _ (w1.heap.size + 1) 0 _ by simpa using hn).more (Nat.zero_le _), fun p _ => ?_⟩
        unfold inS had
        rw [e, e2]
        rfl
      have hk4 : ∀ i, wrap64 ((i : Int)) = i ∨ True := fun _ => .inr trivial
      clear hk4
      rcases Nat.eq_zero_or_pos k with hk0 | hk0
      case' inl =>
        have HF : firstAt l k = true := by rw [hk0]; rfl
        have HS := Aside0.mk (And.intro (HN _ HF rfl) (HX _ hbm))
        have hd0 : ((k : Int) == 0) = true := by rw [beq_iff_eq]; omega
        obtain ⟨b, hb⟩ : ∃ b, b = w1.heap.size + 1 := ⟨_, rfl⟩
        rw [← hb] at HS
        have HF := Aside0.mk HF
        clear HX HN hbd hbm HV hRk hk0
        go_wp2
        go_region
        go_wp2
        clear hmm hd0
        rw [← hb]
        clear hb
      case' inr =>
        obtain ⟨k', hkk⟩ : ∃ k', k = k' + 1 := ⟨k - 1, by omega⟩
        obtain ⟨y, hy⟩ : ∃ y, l[k']? = some y := ⟨_, List.getElem?_eq_getElem (by omega)⟩
        have y0 : (w1.alloc (.cells #[.string x.f0, .int .u64 x.f1, .int .i64 x.f2, .string x.f3] 37)).drew.cell? ⟨g, o + (k - 1) * 4, none⟩ = some (.string y.f0) := by
          rw [show k - 1 = k' by omega]
          exact ((hRk.below (below_drew1 (below_alloc (Below.refl _ _) _)))).at hy (i := 0) rfl
        have hd0 : ((k : Int) == 0) = false := by rw [beq_eq_false_iff_ne]; omega
        have hs1 : wrap64 ((k : Int) - 1) = (k' : Int) := by unfold wrap64; omega
        have hlt1 : k - 1 < l.length := by omega
        have hk1i : (1 : Int) ≤ (k : Int) := by omega
        rcases HV with ⟨h0, _⟩ | ⟨b, rfl, _, HV0⟩
        case' inl => exact absurd h0 (by omega)
        case' inr =>
          have HFe : firstAt l k = !decide (y.f0 = x.f0) := by
            rw [hkk] at hx ⊢
            show (!decide ((enAt l k').f0 = (enAt l (k' + 1)).f0)) = _
            rw [enAt_eq hy, enAt_eq hx]
          by_cases hyx : y.f0 = x.f0
          case' pos =>
            have HF := Aside0.mk (show firstAt l k = false by rw [HFe, decide_eq_true hyx]; rfl)
            have HS : Aside0 (SI W l pins k 0 b (w1.alloc (.cells #[.string x.f0, .int .u64 x.f1, .int .i64 x.f2, .string x.f3] 37)).drew ∧ _) := ⟨⟨HV0.out.1, by
              obtain ⟨S, hS, hS2⟩ := HV0.out.2
              refine ⟨S, hS.below (below_drew1 (below_alloc (Below.refl _ _) _)), fun p hp => ?_⟩
              rw [hS2 p hp]
              unfold inS had
              rw [HF.out]
              simp⟩, HX _ hbd⟩
            have hst : (y.f0.toList == x.f0.toList) = true := by rw [hyx]; exact beq_self_eq_true _
            clear HX HN hbd hbm hRk hk0 hy HV0 HFe hkk
            go_wp2
            go_region
            go_wp2
            clear hmm hd0 hst
          case' neg =>
            have HF := Aside0.mk (show firstAt l k = true by rw [HFe, decide_eq_false hyx]; rfl)
            have HS := Aside0.mk (And.intro (HN _ HF.out rfl) (HX _ hbm))
            obtain ⟨b, hb⟩ : ∃ b, b = w1.heap.size + 1 := ⟨_, rfl⟩
            rw [← hb] at HS
            have hst : (y.f0.toList == x.f0.toList) = false := beq_eq_false_iff_ne.2 fun e => hyx (ls_inj (by rw [← toList_ls, ← toList_ls, e]))
            clear HX HN hbd hbm hRk hk0 hy HV0 HFe hkk
            go_wp2
            go_region
            go_wp2
            clear hmm hd0 hst
            rw [← hb]
            clear hb
      all_goals
        go_loopw [10, 40] (fun s i w2 => ∃ j : Nat, j ≤ pins.length ∧ i = .int .i64 j ∧ s = .bool (firstAt l k || anyT l k (pins.take j)) ∧ Aside0 (SI W l pins k j b w2 ∧ SO W l pins k A1 c1 w2 ∧ w2.heap[w1.heap.size]? = some (.cells #[.string x.f0, .int .u64 x.f1, .int .i64 x.f2, .string x.f3] 37 (0, 0)))) (fun _ i _ => pins.length - (intOf i).toNat)
        case atStart => exact ⟨0, Nat.zero_le _, rfl, by rw [HF.out]; rfl, HS⟩
        case round =>
          obtain ⟨j, hj, rfl, rfl, H2⟩ := hrel
          obtain ⟨w2, hw2⟩ : ∃ w2, w2 = wr := ⟨_, rfl⟩
          subst wr
          by_cases hjl : j < pins.length
          · obtain ⟨p, hpj⟩ : ∃ p, pins[j]? = some p := ⟨_, List.getElem?_eq_getElem hjl⟩
            have hpm := List.mem_of_getElem? hpj
            have hpw := HP.out.2 p hpm
            obtain ⟨g2, o2, rfl, hg2⟩ := HP.out.1.where hjl
            have p0 : w2.cell? ⟨g2, o2 + j, none⟩ = some (.int .u64 p) := by
              have := (HP.out.1.below H2.out.2.1.bel).at hpj (i := 0) (u := .int .u64 p) rfl
              simpa [KN] using this
            obtain ⟨hbb, S, hNS, hS⟩ := H2.out.1
            have hlk := hNS.look hpw
            have hSp := hS p hpm
            have hwj := Aside0.mk (show wrap64 ((j : Int) + 1) = (j : Int) + 1 by unfold wrap64; omega)
            have hba := below_alloc (Below.refl w2.heap.size w2) (.cells #[] 86)
            have hbx3 := (hba.block _ (Array.getElem?_eq_some_iff.1 H2.out.2.2).1).trans H2.out.2.2
            have x1 : (w2.alloc (.cells #[] 86)).cell? ⟨w1.heap.size, 1, none⟩ = some (.int .u64 x.f1) := blk_cell hbx3 1
            have htj : pins.take (j + 1) = pins.take j ++ [p] := by rw [List.take_add_one, hpj]; rfl
            have hany := anyT_snoc l k (pins.take j) p
            rw [← htj, ← hSp, hxd] at hany
            obtain ⟨w4, hup, hN4, hg4⟩ := (hNS.below hba).put (by unfold maxLen; omega) hpw
            have hbne : w1.heap.size ≠ b := by
              rintro e
              have h1 := H2.out.2.2
              obtain ⟨D, ⟨es, clock, hh, _⟩, _⟩ := hNS
              rw [e, hh] at h1
              cases h1
            have hO4 : SO W l pins k A1 c1 w4 ∧ w4.heap[w1.heap.size]? = some (.cells #[.string x.f0, .int .u64 x.f1, .int .i64 x.f2, .string x.f3] 37 (0, 0)) := by
              refine ⟨⟨(H2.out.2.1.own.below hba).grown hg4 (fun ga ea => ?_), (H2.out.2.1.bel.trans (hba.mono H2.out.2.1.bel.size)).grown hg4 (by have := H2.out.2.1.bel.size; simp; omega) (fun k' e => by cases e; exact hbb)⟩, (hg4.block _ (Array.getElem?_eq_some_iff.1 hbx3).1 (by simpa using hbne)).trans hbx3⟩
              have ho := H2.out.2.1.own
              rw [ea] at ho
              obtain ⟨cur, hc, _⟩ := ho.blk
              obtain ⟨D, ⟨es, clock, hh, _⟩, _⟩ := hNS
              rintro e
              obtain rfl : ga = b := by simpa using e
              rw [hh] at hc
              cases hc
            have hSI4 : x.f1 ≤ p → SI W l pins k (j + 1) b w4 := fun hq => ⟨hbb, _, hN4, fun q hqm => by
              rw [htj, inS_snoc, hxd, hS q hqm]
              by_cases e : q = p
              · subst e; simp [hq]
              · have e2 : (p == q) = false := by rw [beq_eq_false_iff_ne]; exact fun h => e h.symm
                simp [e, e2]⟩
            have hSI3 : (S p = true ∨ ¬ x.f1 ≤ p) → SI W l pins k (j + 1) b (w2.alloc (.cells #[] 86)) := fun hq => ⟨hbb, S, (hNS.below hba).more (by omega), fun q hqm => by
              rw [htj, inS_snoc, hxd, hS q hqm]
              by_cases e : p = q
              · subst e
                rcases hq with h | h
                · rw [← hS p hqm, h]; rfl
                · simp [h]
              · have e2 : (p == q) = false := by rw [beq_eq_false_iff_ne]; exact e
                simp [e2]⟩
            have H4 := Aside0.mk hO4
            have H3 := Aside0.mk (And.intro (show SO W l pins k A1 c1 (w2.alloc (.cells #[] 86)) from ⟨H2.out.2.1.own.below hba, H2.out.2.1.bel.trans (hba.mono H2.out.2.1.bel.size)⟩) hbx3)
            have HA := Aside0.mk hany
            have HI4 := Aside0.mk hSI4
            have HI3 := Aside0.mk hSI3
            clear hSI4 hSI3 hany hO4 hbx3 hba hS hSp hNS hg4 hN4 htj hpj hpm hpw
            cases hSb : S p with
            | true =>
              rw [hSb] at hlk
              go_wp2
              exact ⟨⟨j + 1, Nat.succ_le_of_lt hjl, by first | exact iw_succ j | exact iv_succ hwj.out, by rw [HA.out, hSb]; simp, ⟨HI3.out (.inl hSb), H3.out⟩⟩, by first | exact iw_meas hjl | exact iv_meas hwj.out hjl⟩
            | false =>
              rw [hSb] at hlk
              by_cases hq : x.f1 ≤ p
              · have hdq : decide (x.f1 ≤ p) = true := decide_eq_true hq
                go_wp2
                exact ⟨⟨j + 1, Nat.succ_le_of_lt hjl, by first | exact iw_succ j | exact iv_succ hwj.out, by rw [HA.out, hSb, hdq]; simp, ⟨HI4.out hq, H4.out⟩⟩, by first | exact iw_meas hjl | exact iv_meas hwj.out hjl⟩
              · have hdq : decide (x.f1 ≤ p) = false := decide_eq_false hq
                go_wp2
                exact ⟨⟨j + 1, Nat.succ_le_of_lt hjl, by first | exact iw_succ j | exact iv_succ hwj.out, by rw [HA.out, hSb, hdq]; simp, ⟨HI3.out (.inr hq), H3.out⟩⟩, by first | exact iw_meas hjl | exact iv_meas hwj.out hjl⟩
          · have hjk : j = pins.length := by omega
            subst hjk
            have hd1 : decide ((pins.length : Int) < (pins.length : Int)) = false := decide_eq_false (Int.lt_irrefl _)
            rw [List.take_length]
            have hbx2 := H2.out.2.2
            have z0 := blk_cell hbx2 0
            have z1 := blk_cell hbx2 1
            have z2 := blk_cell hbx2 2
            have z3 := blk_cell hbx2 3
            simp only [List.getElem?_toArray, List.getElem?_cons_zero, List.getElem?_cons_succ] at z0 z1 z2 z3
            have hSI' : ∀ w3 : World, w3.heap[b]? = w2.heap[b]? → W.heap.size ≤ b ∧ ∃ S, NSet w3 b ((k + 1) * 1000) S ∧ ∀ p ∈ pins, S p = seenL l (k + 1) p := by
              intro w3 h3
              obtain ⟨hbb, S, hNS, hS⟩ := H2.out.1
              refine ⟨hbb, S, (hNS.keep h3).more (by omega), fun p hp => ?_⟩
              rw [hS p hp, List.take_length]
              exact seen_step l k pins p hp
            have hbl : b < w2.heap.size := by
              obtain ⟨_, S, hNS, _⟩ := H2.out.1
              exact hNS.lt
            show Code.wp _ _ _ _ _
            have hst2 : (firstAt l k || anyT l k pins) = staysL l pins k := rfl
            rw [hst2]
            cases hst3 : staysL l pins k with
            | false =>
              have HSI := Aside0.mk (hSI' w2 rfl)
              have HSO := Aside0.mk (show SO W l pins (k + 1) A1 c1 w2 from ⟨by
                have := H2.out.2.1.own
                unfold shN
                rw [hst3]
                exact this, H2.out.2.1.bel⟩)
              clear hSI'
              go_wp2
              refine ⟨⟨k + 1, A1, c1, Nat.succ_le_of_lt hlt, by first | exact iw_succ k | exact iv_succ hwk.out, ?_, HSO, .inr ⟨b, rfl, Nat.succ_pos _, HSI⟩⟩, by first | exact iw_meas hlt | exact iv_meas hwk.out hlt⟩
              rw [shN, hst3]
              rfl
            | true =>
              have ba := below_alloc (Below.refl w2.heap.size w2) (.cells #[.string x.f0, .int .u64 x.f1, .int .i64 x.f2, .string x.f3] 37)
              have hle := shN_le l pins k
              obtain ⟨p2, c2, w3, r3, o3, g3, _⟩ := app IE (H2.out.2.1.own.below ba) (Reads.new (K := KE) (L := [x]) (W := w2) (cs := #[.string x.f0, .int .u64 x.f1, .int .i64 x.f2, .string x.f3]) 37 rfl) 1 (by simp; omega) (by simp; unfold maxLen; omega) (by have := H2.out.2.1.bel.size; simp; omega)
              have hne : ∀ ga, (Value.slice A1 (shN l pins k).length c1).ownBlock = some ga → W.heap.size ≤ ga ∧ ga ≠ b := by
                intro ga ea
                have ho := H2.out.2.1.own
                cases A1 with
                | none => cases ea
                | some ad =>
                  rcases ho.2 with ⟨h0, _⟩ | ⟨g', c', cur, hv, hg', hbb, _⟩
                  · cases h0
                  · cases hv
                    obtain rfl : g' = ga := by simpa [Value.ownBlock] using ea
                    refine ⟨hg', ?_⟩
                    rintro rfl
                    obtain ⟨_, S, ⟨D, ⟨es, clock, hh, _⟩, _⟩, _⟩ := H2.out.1
                    rw [hbb] at hh
                    cases hh
              have hb3 : w3.heap[b]? = w2.heap[b]? := (g3.block b (by simp; omega) (fun e => by
                have := hne b e.symm
                exact this.2 rfl)).trans (heap_alloc_old _ _ hbl)
              have HSI := Aside0.mk (hSI' w3 hb3)
              have hsh : shN l pins (k + 1) = shN l pins k ++ [x] := by rw [shN, hst3, hxd]; rfl
              have HSO := Aside0.mk (show SO W l pins (k + 1) p2 c2 w3 from ⟨by rw [hsh]; exact o3, (H2.out.2.1.bel.trans (ba.mono H2.out.2.1.bel.size)).grown g3 (by have := H2.out.2.1.bel.size; simp; omega) (fun ga ea => (hne ga ea).1)⟩)
              have HSH := Aside0.mk (show (shN l pins k).length + 1 = (shN l pins (k + 1)).length by rw [hsh, List.length_append]; rfl)
              clear hSI' hb3 hne g3 o3 hsh ba
              simp only [List.length_cons, List.length_nil, Nat.zero_add] at r3
              go_wp2
              exact ⟨⟨k + 1, p2, c2, Nat.succ_le_of_lt hlt, by first | exact iw_succ k | exact iv_succ hwk.out, by rw [HSH.out], HSO, .inr ⟨b, rfl, Nat.succ_pos _, HSI⟩⟩, by first | exact iw_meas hlt | exact iv_meas hwk.out hlt⟩
    · have hkl : k = l.length := by omega
      subst hkl
      have hd1 : decide ((l.length : Int) < (l.length : Int)) = false := decide_eq_false (Int.lt_irrefl _)
      go_wp2
      go_ret
      exact ⟨A1, c1, rfl, H1.out.own, H1.out.bel⟩
end Go.Proofs.Ytdfaoafeojoceaa.Dr
