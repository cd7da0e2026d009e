/- DrB, DrV, DrU, DrE: these texts as one. -/
import Derived.RangeFuncBox
import Derived.RangeFuncLeaves
import Derived.RangeFuncNested
import Derived.RangeFuncGives
import Derived.RangeFuncStops
import Derived.Shelf.Abstract
import Derived.WalkKit
import Derived.OwnWalkIn
import Derived.TacticsInMore
import Derived.LoopNIn
import Derived.LoopIn
import Derived.Maps.RangeWalk
import Derived.Maps.AppendAt
import Derived.Test.YtdfaoafeojoceaaDrS
import Derived.Test.YtdfaoafeojoceaaDrZ
import Derived.Test.YtdfaoafeojoceaaRwK
import Derived.Test.YtdfaoafeojoceaaQuR
import Derived.Lib.SlBy
set_option linter.unusedSimpArgs false
set_option linter.unusedVariables false
namespace Go.Proofs.Ytdfaoafeojoceaa.Dr
open Go.Maps Go.Proofs Go.Proofs.Ytdfaoafeojoceaa.PAll Go.Proofs.Ytdfaoafeojoceaa.Pb Go.Proofs.Ytdfaoafeojoceaa.Rw Go.Proofs.YtdfaoafeojoceaaW.PrintWords Go.RowKit
attribute [local go_sem] put_fresh
attribute [-go_sem] Builtin.append_

/-! ### DrB -/
attribute [local go_sem] Oper.semAt_some

/-- What has come when j elements have: places and versions, from the last on. -/
def bkN (L : List En) : Nat → List (Nat × En)
  | 0 => []
  | j + 1 => bkN L j ++ [(L.length - 1 - j, enAt L (L.length - 1 - j))]
theorem bkN_length (L : List En) : ∀ j, (bkN L j).length = j
  | 0 => rfl
  | j + 1 => by simp [bkN, bkN_length L j]
theorem bkN_snd (L : List En) : ∀ j, j ≤ L.length → (bkN L j).map Prod.snd = (L.drop (L.length - j)).reverse
  | 0, _ => by simp [bkN]
  | j + 1, h => by
    have hlt : L.length - 1 - j < L.length := by omega
    have hd : L.drop (L.length - (j + 1)) = L[L.length - 1 - j] :: L.drop (L.length - j) := by
      rw [show L.length - (j + 1) = L.length - 1 - j by omega, List.drop_eq_getElem_cons hlt, show L.length - 1 - j + 1 = L.length - j by omega]
    rw [bkN, List.map_append, bkN_snd L j (by omega), hd, List.reverse_cons, enAt_eq (List.getElem?_eq_getElem hlt)]
    rfl
def benc (x : Nat × En) : Array Value := #[.int .i64 x.1, .agg #[.string x.2.f0, .int .u64 x.2.f1, .int .i64 x.2.f2, .string x.2.f3]]
/-- What a round must keep: all that lay below, and the box of the row. -/
def KpB (base Bs : Nat) (W W' : World) : Prop := Below base W W' ∧ W'.heap[Bs]? = W.heap[Bs]?
set_option maxRecDepth 100000 in
set_option maxHeartbeats 2000000 in
theorem back_in (F : Fence) (n : Nat) (hF : F.fn 45) (hro : F.round = none) (hn : 1 ≤ n) (l Bs base : Nat) (A : Option Addr) (c : Nat) (L : List En) (hL : L.length ≤ 100000) (hrow : ∀ g o, A = some ⟨g, o, none⟩ → 0 < L.length → g < base) (J Jx : List (Nat × En) → World → Prop)
    (hY : ∀ pre x W, J pre W → pre.length < L.length → YieldAt F (n - 1) Try.prog l (benc x) W fun e W' => (e = .returned (.bool true) ∧ J (pre ++ [x]) W' ∧ KpB base Bs W W') ∨ (e = .returned (.bool false) ∧ Jx (pre ++ [x]) W'))
    (W : World) (hBs : W.heap[Bs]? = some (.cells #[.slice A L.length c] 22 (0, 0))) (hr : Reads KE W A L) (h0 : J [] W) :
    CallsIn F n Try.prog 45 #[.func (.yield l) #[] #[], .pointer (some ⟨Bs, 0, none⟩)] W fun e W' => (∃ v, e = .returned v) ∧ ((∃ xs, xs = bkN L L.length ∧ J xs W') ∨ (∃ pre, True ∧ Jx pre W')) := by
  have hcB : W.cell? ⟨Bs, 0, none⟩ = some (.slice A L.length c) := blk_cell hBs 0
  have e1 : wrap64 ((L.length : Int) - 1) = (L.length : Int) - 1 := by unfold wrap64; omega
  refine callsIn_of_wp Try.func45 rfl hF ?_ hro
  simp only [Try.ntmps45, List.size_toArray, List.length_cons, List.length_nil, Nat.reduceAdd, Nat.reduceSub, Array.replicate_succ, Array.replicate_zero, List.push_toArray, List.append_toArray, List.nil_append, List.cons_append]
  gi_wp2
  gi_loopw [3] (fun i wr => ∃ j : Nat, j ≤ L.length ∧ i = .int .i64 ((L.length : Int) - 1 - j) ∧ Aside0 (J (bkN L j) wr ∧ wr.heap[Bs]? = some (.cells #[.slice A L.length c] 22 (0, 0)) ∧ Reads KE wr A L)) (fun i wr => (intOf i + 1).toNat)
  case atStart =>
    exact ⟨0, Nat.zero_le _, by simp, ⟨h0, hBs, hr⟩⟩
  case round =>
    obtain ⟨j, hj, rfl, H1⟩ := hrel
    by_cases hjl : j < L.length
    · obtain ⟨m, hm⟩ : ∃ m : Nat, (L.length : Int) - 1 - (j : Int) = m := ⟨L.length - 1 - j, by omega⟩
      have hmN : L.length - 1 - j = m := by omega
      have hml : m < L.length := by omega
      obtain ⟨x, hx⟩ : ∃ x, L[m]? = some x := ⟨_, List.getElem?_eq_getElem hml⟩
      obtain ⟨g, o, rfl, hg⟩ := H1.out.2.2.where hml
      have hRd := H1.out.2.2
      have c0 : wr.cell? ⟨g, o + m * 4, none⟩ = some (.string x.f0) := hRd.at hx (i := 0) rfl
      have c1 : wr.cell? ⟨g, o + m * 4 + 1, none⟩ = some (.int .u64 x.f1) := hRd.at hx (i := 1) rfl
      have c2 : wr.cell? ⟨g, o + m * 4 + 2, none⟩ = some (.int .i64 x.f2) := hRd.at hx (i := 2) rfl
      have c3 : wr.cell? ⟨g, o + m * 4 + 3, none⟩ = some (.string x.f3) := hRd.at hx (i := 3) rfl
      have cB : wr.cell? ⟨Bs, 0, none⟩ = some (.slice (some ⟨g, o, none⟩) L.length c) := blk_cell H1.out.2.1 0
      have hstep : bkN L (j + 1) = bkN L j ++ [(m, x)] := by
        rw [bkN, hmN, enAt_eq hx]
      have hw1 : wrap64 ((m : Int) - 1) = (m : Int) - 1 := by unfold wrap64; omega
      have hd1 : decide ((m : Int) ≥ 0) = true := decide_eq_true (by omega)
      obtain ⟨fn, tmps, assign, body, hy, hR⟩ := hY (bkN L j) (m, x) _ H1.out.1 (by rw [bkN_length]; exact hjl)
      have HR := Aside0.mk hR
      have HS := Aside0.mk hstep
      rw [hm]
      simp only [benc] at hy hR HR
      clear hR hRd hstep hx hcB hBs hr h0
      gi_wp2
      refine HR.out.mono ?_
      rintro e W3 (⟨rfl, hJ4, hk3⟩ | ⟨rfl, hJx3⟩)
      · gi_wp2
        go_roundw
        case rel =>
          refine ⟨j + 1, Nat.succ_le_of_lt hjl, ?_, ⟨by rw [HS.out]; exact hJ4, hk3.2.trans H1.out.2.1, H1.out.2.2.keep hk3.1.size fun g' o' e hg' => hk3.1.block g' (hrow g' o' e (by omega))⟩⟩
          exact congrArg (Value.int .i64) (by first | (rw [hw1]; omega) | omega)
        case measure =>
          first | (simp only [intOf]; omega) | (rw [hw1]; simp only [intOf]; omega)
      · gi_wp2
        refine bodyPost_ret (results_none rfl _ _ _) rfl ?_
        exact ⟨⟨_, rfl⟩, .inr ⟨_, trivial, hJx3⟩⟩
    · have hjk : j = L.length := by omega
      subst hjk
      have hd1 : decide (((L.length : Int) - 1 - (L.length : Int)) ≥ 0) = false := decide_eq_false (by omega)
      gi_wp2
      go_end0
      exact ⟨⟨_, rfl⟩, .inl ⟨_, rfl, H1.out.1⟩⟩

/-! ### DrV -/
instance : Inhabited En := ⟨z37⟩
theorem rev_c {W : World} {base c : Nat} {A : Option Addr} {L : List En} (h : Rw.Own KE 37 W base A c L) (hl : L.length ≤ 1000000) :
    Calls Try.prog 41 #[.slice A L.length c] W fun e W' => e = .returned (.tuple #[]) ∧ Rw.Own KE 37 W' base A c L.reverse ∧ W.grownBy W' (Value.slice A L.length c).ownBlock := by
  have hcase : (A = none ∧ L.length = 0 ∧ c = 0) ∨ ∃ g, A = some ⟨g, 0, none⟩ := by
    rcases h.2 with ⟨h0, h1⟩ | ⟨g, c', cur, hv, _⟩
    · cases h0' : A with
      | none => rw [h0'] at h0; simp at h0; exact .inl ⟨rfl, h1, h0.2⟩
      | some a => rw [h0'] at h0; cases h0
    · cases hv; exact .inr ⟨g, rfl⟩
  rcases hcase with ⟨rfl, h1, rfl⟩ | ⟨g, rfl⟩
  · obtain rfl := List.length_eq_zero_iff.1 h1
    refine (AnyQ.slices_Reverse_empty (P := Try.prog) Try.revEntry none 0 W).mono ?_
    rintro e w' ⟨rfl, rfl⟩
    exact ⟨rfl, h, ⟨rfl, rfl, rfl, Nat.le_refl _, fun _ _ _ => rfl⟩⟩
  · have hk := AnyQ.slices_Reverse (P := Try.prog) Try.revEntry KE.size Try.isAgg37 Try.sizeOf37 KE.enc KE.len KE.one g 0 c L.toArray W h.holdsK (by simp; omega)
    simp only [List.size_toArray] at hk
    refine hk.mono ?_
    rintro e w' ⟨rfl, n, rfl⟩
    have hr : L.toArray.reverse = L.reverse.toArray := by simp
    rw [hr]
    exact ⟨rfl, h.putK (M := L.reverse) (by simp) n, grownBy_putK _⟩
/-- Is a version above one of the pins? -/
def above (x : En) (pins : List Int) : Bool := pins.any fun p => decide (p < x.f1)
theorem above_c (x : En) (B : Nat) (w : World) (hB : w.heap[B]? = some (.cells #[.string x.f0, .int .u64 x.f1, .int .i64 x.f2, .string x.f3] 37 (0, 0))) :
    PredAt Try.prog 40 #[.pointer (some ⟨B, 0, none⟩)] (Value.int .u64) (fun p => decide (p < x.f1)) w := fun W p hb => by
  have hBl := (Array.getElem?_eq_some_iff.1 hB).1
  have hB' : W.heap[B]? = _ := (hb.block B hBl).trans hB
  have c1 : W.cell? ⟨B, 1, none⟩ = some (.int .u64 x.f1) := blk_cell hB' 1
  clear hB' hB hb
  show Calls Try.prog 40 #[.int .u64 p, .pointer (some ⟨B, 0, none⟩)] W _
  go_enter Try.func40, Try.ntmps40
  go_wp2
  go_ret
  exact ⟨rfl, 0, rfl⟩
theorem open_c {W : World} {A : Option Addr} {pins : List Int} (h : Reads KN W A pins) (c : Nat) (hl : pins.length ≤ 9223372036854775807) (x : En) (B : Nat) (hB : W.heap[B]? = some (.cells #[.string x.f0, .int .u64 x.f1, .int .i64 x.f2, .string x.f3] 37 (0, 0))) :
    Calls Try.prog 39 #[.slice A pins.length c, .func (.func 40) #[] #[.pointer (some ⟨B, 0, none⟩)]] W fun e w' => e = .returned (.bool (above x pins)) ∧ Below W.heap.size W w' := by
  by_cases h0 : 0 < pins.length
  · obtain ⟨g, o, rfl, hg⟩ := h.where h0
    have hk := AnyE.slices_ContainsFunc (P := Try.prog) Try.anyNum (Value.int .u64) (fun p => decide (p < x.f1)) 40 #[.pointer (some ⟨B, 0, none⟩)] (enters_of Try.func40 (by kernel_rfl) rfl) g o pins.length c pins W (above_c x B W hB) (Nat.le_refl _) hl
      (fun j hj => by
        have hx : pins[j]? = some pins[j]! := by rw [List.getElem!_eq_getElem?_getD, List.getElem?_eq_getElem hj]; rfl
        have := h.at hx (i := 0) (u := .int .u64 pins[j]!) rfl
        simpa [KN] using this)
    rw [List.take_length] at hk
    refine hk.mono ?_
    rintro e w' ⟨rfl, q, rfl⟩
    exact ⟨rfl, pw_below_drewN (Below.refl _ _) q⟩
  · obtain rfl := List.length_eq_zero_iff.1 (by omega : pins.length = 0)
    refine (AnyE.slices_ContainsFunc_empty (P := Try.prog) Try.anyNum A c _ W).mono ?_
    rintro e w' ⟨rfl, rfl⟩
    exact ⟨rfl, Below.refl _ _⟩

/-! ### DrU -/
attribute [local go_sem] Oper.semAt_some

theorem hao {w : World} {o : Obj} {r : Nat} (h : r < w.heap.size) : (w.alloc o).heap[r]? = w.heap[r]? := by
  show (w.heap.push o)[r]? = _
  rw [Array.getElem?_push_lt h, Array.getElem?_eq_getElem h]
def below (out : List En) (e : En) : Bool := match out.getLast? with
  | some y => decide (y.f0 = e.f0)
  | none => false
def skStep (pins : List Int) (out : List En) (e : En) : List En := if e.f2 = 2 ∧ below out e = false ∧ above e pins = false then out else out ++ [e]
def skOf (pins : List Int) (l : List En) : List En := l.foldl (skStep pins) []
def sunkP (l : List En) (pins : List Int) : List En := (skOf pins l.reverse).reverse
theorem skOf_snoc (pins : List Int) (l : List En) (x : En) : skOf pins (l ++ [x]) = skStep pins (skOf pins l) x := by simp [skOf]
theorem skStep_le (pins : List Int) (out : List En) (e : En) : (skStep pins out e).length ≤ out.length + 1 := by
  unfold skStep; split
  · omega
  · simp
theorem skOf_le (pins : List Int) : ∀ (l : List En), (skOf pins l).length ≤ l.length := by
  intro l
  have key : ∀ (l out : List En), (l.foldl (skStep pins) out).length ≤ out.length + l.length := by
    intro l
    induction l with
    | nil => intro out; simp
    | cons x r ih =>
      intro out
      have h1 := ih (skStep pins out x)
      have h2 := skStep_le pins out x
      simp only [List.foldl_cons, List.length_cons]
      omega
  have := key l []
  simpa [skOf] using this
theorem backward_c (A : Option Addr) (n c : Nat) (W : World) : Calls Try.prog 38 #[.slice A n c] W fun e w' => e = .returned (.func (.func 45) #[] #[.pointer (some ⟨W.heap.size, 0, none⟩)]) ∧ w' = W.alloc (.cells #[.slice A n c] 22) := by
  go_enter Try.func38, Try.ntmps38
  go_wp2
  go_ret
  exact ⟨rfl, rfl⟩
/-- Between two rounds: what has been kept; the boxes. -/
structure SK (w : World) (B : Option Addr) (pn c2 : Nat) (pins : List Int) (A : Option Addr) (ln c : Nat) (pre : List (Nat × En)) (W : World) : Prop where
  own : ∃ A1 c1, W.heap[w.heap.size + 1]? = some (.cells #[.slice A1 (skOf pins (pre.map Prod.snd)).length c1] 22 (0, 0)) ∧ Rw.Own KE 37 W w.heap.size A1 c1 (skOf pins (pre.map Prod.snd))
  pin : W.heap[w.heap.size]? = some (.cells #[.slice B pn c2] 34 (0, 0))
  box : W.heap[w.heap.size + 2]? = some (.cells #[.slice A ln c] 22 (0, 0))
  bel : Below w.heap.size w W
theorem own_grown0 {w X Y : World} {row : Option Nat} {A1 : Option Addr} {c1 : Nat} {L : List En} (h : Rw.Own KE 37 X w.heap.size A1 c1 L) (hg : X.grownBy Y row) (hr : ∀ r, row = some r → ∃ o, X.heap[r]? = some o ∧ o.isCells = false) : Rw.Own KE 37 Y w.heap.size A1 c1 L :=
  h.grown hg fun g e e2 => by
    subst e
    obtain ⟨cur, hc, _⟩ := h.blk
    obtain ⟨o, ho, hn⟩ := hr g e2.symm
    rw [hc] at ho
    cases ho
    cases hn
theorem SK.own_from {w : World} {B : Option Addr} {pn c2 : Nat} {pins : List Int} {A : Option Addr} {ln c b : Nat} (hb : w.heap.size ≤ b) : OwnFrom b (SK w B pn c2 pins A ln c) := by
  intro pre X Y row h hg hr
  have hr' : ∀ r, row = some r → ∃ o, X.heap[r]? = some o ∧ o.isCells = false := fun r e => (hr r e).2
  have keep : ∀ (k : Nat) (cs : Array Value) (t : TypeId) (fr : Nat × Nat), X.heap[k]? = some (Obj.cells cs t fr) → Y.heap[k]? = some (Obj.cells cs t fr) := fun k cs t fr hk => by
    refine (hg.block k (Array.getElem?_eq_some_iff.1 hk).1 (fun e => ?_)).trans hk
    obtain ⟨o, ho, hn⟩ := hr' k e.symm
    rw [hk] at ho
    cases ho
    cases hn
  obtain ⟨A1, c1, h1, h2⟩ := h.own
  exact ⟨⟨A1, c1, keep _ _ _ _ h1, own_grown0 h2 hg hr'⟩, keep _ _ _ _ h.pin, keep _ _ _ _ h.box, h.bel.grown hg h.bel.size fun k e => by
    have := (hr k e).1; omega⟩
theorem keeps_below {W w2 : World} (hb : Below W.heap.size W w2) (b : Nat) : KeepsFrom b W w2 := ⟨hb.size, fun k o _ hk _ => (hb.block k (Array.getElem?_eq_some_iff.1 hk).1).trans hk⟩
theorem SK.skip {w : World} {B : Option Addr} {pn c2 : Nat} {pins : List Int} {A : Option Addr} {ln c : Nat} {pre : List (Nat × En)} {W w2 : World} (h : SK w B pn c2 pins A ln c pre W) (hb : Below W.heap.size W w2) {x : Nat × En} (hst : skOf pins ((pre ++ [x]).map Prod.snd) = skOf pins (pre.map Prod.snd)) (b : Nat) :
    KeepsFrom b W w2 ∧ KpB w.heap.size (w.heap.size + 2) W w2 ∧ SK w B pn c2 pins A ln c (pre ++ [x]) w2 := by
  obtain ⟨A1, c1, h1, h2⟩ := h.own
  have hl : ∀ k o, W.heap[k]? = some o → w2.heap[k]? = some o := fun k o hk => (hb.block k (Array.getElem?_eq_some_iff.1 hk).1).trans hk
  refine ⟨keeps_below hb b, ⟨hb.mono h.bel.size, (hl _ _ h.box).trans h.box.symm⟩, ⟨A1, c1, ?_, ?_⟩, hl _ _ h.pin, hl _ _ h.box, h.bel.trans (hb.mono h.bel.size)⟩
  · rw [hst]; exact hl _ _ h1
  · rw [hst]; exact h2.below hb
theorem SK.push {w : World} {B : Option Addr} {pn c2 : Nat} {pins : List Int} {A : Option Addr} {ln c : Nat} {pre : List (Nat × En)} {W w2 : World} (h : SK w B pn c2 pins A ln c pre W) (hb : Below W.heap.size W w2) (i : Nat) (e0 : ByteArray) (e1 e2 : Int) (e3 : ByteArray) (hst : skOf pins ((pre ++ [(i, (⟨e0, e1, e2, e3⟩ : En))]).map Prod.snd) = skOf pins (pre.map Prod.snd) ++ [⟨e0, e1, e2, e3⟩])
    (hle : (skOf pins (pre.map Prod.snd)).length ≤ 100000) (b : Nat) {A1 : Option Addr} {c1 : Nat} (h1 : W.heap[w.heap.size + 1]? = some (.cells #[.slice A1 (skOf pins (pre.map Prod.snd)).length c1] 22 (0, 0))) (h2 : Rw.Own KE 37 W w.heap.size A1 c1 (skOf pins (pre.map Prod.snd))) :
    ∃ p2 c3 w3, (∀ ty, (Builtin.append_ #[22, 22] ty #[.slice A1 (skOf pins (pre.map Prod.snd)).length c1, .slice (some ⟨w2.heap.size, 0, none⟩) 1 1]).run Try.prog (w2.alloc (.cells #[.string e0, .int .u64 e1, .int .i64 e2, .string e3] 37)) = .ok (.slice p2 ((skOf pins (pre.map Prod.snd)).length + 1) c3) w3) ∧
      w3.cell? ⟨w.heap.size + 1, 0, none⟩ = some (.slice A1 (skOf pins (pre.map Prod.snd)).length c1) ∧ w3.frozen? ⟨w.heap.size + 1, 0, none⟩ = false ∧
      Aside0 (KeepsFrom b W (w3.setCell ⟨w.heap.size + 1, 0, none⟩ (.slice p2 ((skOf pins (pre.map Prod.snd)).length + 1) c3)) ∧ KpB w.heap.size (w.heap.size + 2) W (w3.setCell ⟨w.heap.size + 1, 0, none⟩ (.slice p2 ((skOf pins (pre.map Prod.snd)).length + 1) c3)) ∧ SK w B pn c2 pins A ln c (pre ++ [(i, (⟨e0, e1, e2, e3⟩ : En))]) (w3.setCell ⟨w.heap.size + 1, 0, none⟩ (.slice p2 ((skOf pins (pre.map Prod.snd)).length + 1) c3))) := by
  obtain ⟨out, hout⟩ : ∃ out, skOf pins (pre.map Prod.snd) = out := ⟨_, rfl⟩
  rw [hout] at h1 h2 hst hle ⊢
  have ba := below_alloc (Below.refl w2.heap.size w2) (.cells #[.string e0, .int .u64 e1, .int .i64 e2, .string e3] 37)
  have hsz := h.bel.size
  have hsz2 := hb.size
  obtain ⟨p2, c3, w3, r3, o3, g3, _⟩ := app IE ((h2.below hb).below ba) (Reads.new (K := KE) (L := [⟨e0, e1, e2, e3⟩]) (W := w2) (cs := #[.string e0, .int .u64 e1, .int .i64 e2, .string e3]) 37 rfl) 1 (by simp; omega) (by simp; unfold maxLen; omega) (by simp; omega)
  simp only [List.length_cons, List.length_nil, Nat.zero_add] at r3
  have keep3 : ∀ (k : Nat) (o : Obj), W.heap[k]? = some o → (∀ cur, o ≠ Obj.cells cur 37 (0, 0)) → w3.heap[k]? = some o := by
    intro k o hk hne
    have hkl := (Array.getElem?_eq_some_iff.1 hk).1
    refine (g3.block k (by simp; omega) (fun e => ?_)).trans ((hao (by omega)).trans ((hb.block k hkl).trans hk))
    cases hA : A1 with
    | none => rw [hA] at e; cases e
    | some ad =>
      rw [hA] at e h2
      rcases h2.2 with ⟨h0, _⟩ | ⟨g', c', cur, hv, hg', hbb, _⟩
      · cases h0
      · cases hv
        obtain rfl : k = g' := by simpa [Value.ownBlock] using e
        rw [hbb] at hk
        exact hne cur (Option.some.inj hk).symm
  have hb1 := keep3 _ _ h1 (fun cur e => by simp at e)
  have keep : ∀ (k : Nat) (o : Obj), W.heap[k]? = some o → k ≠ w.heap.size + 1 → (∀ cur, o ≠ Obj.cells cur 37 (0, 0)) → (w3.setCell ⟨w.heap.size + 1, 0, none⟩ (.slice p2 (out.length + 1) c3)).heap[k]? = some o := fun k o hk hne h => (set_other _ (Ne.symm hne)).trans (keep3 k o hk h)
  have hbl3 : Below w.heap.size w w3 := ((h.bel.trans (hb.mono hsz)).trans (ba.mono (by omega))).grown g3 (by simp; omega) (fun k e => by
    cases hA : A1 with
    | none => rw [hA] at e; cases e
    | some ad =>
      rw [hA] at e h2
      rcases h2.2 with ⟨h0, _⟩ | ⟨g', c', cur, hv, hg', hbb, _⟩
      · cases h0
      · cases hv
        obtain rfl : g' = k := by simpa [Value.ownBlock] using e
        exact hg')
  have hblW : Below w.heap.size W w3 := ((hb.mono hsz).trans (ba.mono (by omega))).grown g3 (by simp; omega) (fun k e => by
    cases hA : A1 with
    | none => rw [hA] at e; cases e
    | some ad =>
      rw [hA] at e h2
      rcases h2.2 with ⟨h0, _⟩ | ⟨g', c', cur, hv, hg', hbb, _⟩
      · cases h0
      · cases hv
        obtain rfl : g' = k := by simpa [Value.ownBlock] using e
        exact hg')
  refine ⟨p2, c3, w3, r3, blk_cell hb1 0, blk_frozen hb1 0, ⟨⟨by simpa using hblW.size, fun k o _ hk ho => keep k o hk (fun e => by subst e; rw [h1] at hk; cases hk; cases ho) (fun cur e => by subst e; cases ho)⟩, ⟨?_, ?_⟩, ⟨p2, c3, ?_, ?_⟩, keep _ _ h.pin (by omega) (fun cur e => by simp at e), keep _ _ h.box (by omega) (fun cur e => by simp at e), below_set hbl3 (by omega)⟩⟩
  · exact ⟨hblW.os, hblW.tape, hblW.output, by simpa using hblW.size, fun k hk => (set_other _ (by omega)).trans (hblW.block k hk)⟩
  · exact (keep _ _ h.box (by omega) (fun cur e => by simp at e)).trans h.box.symm
  · rw [hst, List.length_append]
    exact set_blk _ hb1
  · rw [hst]
    refine o3.keep fun g e _ _ => set_other _ (fun e2 => ?_)
    subst e
    obtain ⟨cur, hc, _⟩ := o3.blk
    rw [← e2, hb1] at hc
    simp at hc
set_option maxRecDepth 100000 in
set_option maxHeartbeats 8000000 in
theorem sunk_in (n : Nat) (hn : 3 ≤ n) {w : World} {A B : Option Addr} {l : List En} {pins : List Int} (hr : Reads KE w A l) (hp : Reads KN w B pins) (c c2 : Nat) (hl : l.length ≤ 100000) (hpn : pins.length ≤ 100000) :
    CallsIn Fence.wide n Try.prog 27 #[.slice A l.length c, .slice B pins.length c2] w fun e w' => ∃ A' c', e = .returned (.slice A' (sunkP l pins).length c') ∧ Rw.Own KE 37 w' w.heap.size A' c' (sunkP l pins) ∧ Below w.heap.size w w' := by
  have h1 : 1 ≤ n := by omega
  have hBk : ∀ W : World, CallsIn Fence.wide (n - 1) Try.prog 38 #[.slice A l.length c] W _ := fun W => callsIn_wide.2 (backward_c A l.length c W)
  have hf1 : Fence.wide.fn 38 := trivial
  have hf2 : Fence.wide.fn 41 := trivial
  have hf3 : Fence.wide.fn 39 := trivial
  refine callsIn_of_wp_marks Try.func27 rfl trivial ?_ rfl
  simp only [Try.ntmps27, List.size_toArray, List.length_cons, List.length_nil, Nat.reduceAdd, Nat.reduceSub, Array.replicate_succ, Array.replicate_zero, List.push_toArray, List.append_toArray, List.nil_append, List.cons_append]
  gi_wp2_with (gi_at_call 38; refine (hBk _).mono ?_; rintro e w' ⟨rfl, rfl⟩)
  have hw3 : ∀ W3 : World, W3 = (((w.alloc (.cells #[.slice B pins.length c2] 34)).alloc (.cells #[.slice none 0 0] 22)).alloc (.cells #[.slice A l.length c] 22)) → SK w B pins.length c2 pins A l.length c [] W3 ∧ W3.heap.size = w.heap.size + 3 := by
    rintro W3 rfl
    have b1 := heap_alloc_new w (.cells #[.slice B pins.length c2] 34)
    have b2 := heap_alloc_new (w.alloc (.cells #[.slice B pins.length c2] 34)) (.cells #[.slice none 0 0] 22)
    have b3 := heap_alloc_new ((w.alloc (.cells #[.slice B pins.length c2] 34)).alloc (.cells #[.slice none 0 0] 22)) (.cells #[.slice A l.length c] 22)
    refine ⟨⟨⟨none, 0, (hao (by simp)).trans (two_new1 w _ _), Rw.Own.nil _ _ _ _⟩, (hao (by simp; omega)).trans (two_new0 w _ _), by simpa using b3, below_alloc (below_alloc (below_alloc (Below.refl _ _) _) _) _⟩, by simp⟩
  obtain ⟨W3, hW3⟩ : ∃ W3, W3 = (((w.alloc (.cells #[.slice B pins.length c2] 34)).alloc (.cells #[.slice none 0 0] 22)).alloc (.cells #[.slice A l.length c] 22)) := ⟨_, rfl⟩
  obtain ⟨hS0, hsz3⟩ := hw3 W3 hW3
  rw [← hW3]
  clear hw3 hW3 hBk
  have hA : ∀ g o, A = some ⟨g, o, none⟩ → 0 < l.length → g < w.heap.size := fun g o e h0 => by
    obtain ⟨g', o', e', hg, _⟩ := hr h0
    rw [e] at e'
    cases e'
    exact hg
  have hseq : SeqStopsK Fence.wide (n - 1) Try.prog 45 #[.pointer (some ⟨w.heap.size + 1 + 1, 0, none⟩)] benc (KpB w.heap.size (w.heap.size + 2)) (fun xs => xs = bkN l l.length) (fun _ => True) l.length W3 := by
    intro l' J Jx W hW _ _ hY h0
    exact back_in Fence.wide (n - 1) trivial rfl (by omega) l' (w.heap.size + 2) w.heap.size A c l hl hA J Jx hY W ((hW.block _ (by omega)).trans hS0.box) ((hr.below hS0.bel).below hW) h0
  refine wpIn_rangeFunc_ownH rfl h1 (gf := 45) (lb := #[.pointer (some ⟨w.heap.size + 1 + 1, 0, none⟩)]) rfl trivial (enters_of Try.func45 (by kernel_rfl) rfl) hseq
    (fun h k => ⟨h.1.trans k.1, k.2.trans h.2⟩)
    (fun W k o o' hk ho hc1 hc2 => ⟨belowK_b (by omega) W k o o' hk ho hc1 hc2, (grownBy_putObj' W k o').block _ (by have := (Array.getElem?_eq_some_iff.1 ho).1; omega) (fun e => by have := Option.some.inj e; omega)⟩)
    (Below.refl _ _) (fun _ => rfl)
    (SK w B pins.length c2 pins A l.length c) (fun _ _ _ => False) (SK.own_from (by omega)) (fun _ _ _ _ _ hs _ _ => hs) hS0
    (fun x a' W => ∃ Bx, W.heap[Bx]? = some (.cells #[.string x.2.f0, .int .u64 x.2.f1, .int .i64 x.2.f2, .string x.2.f3] 37 (0, 0)) ∧ a' = { tmps := #[.slice A l.length c, .slice B pins.length c2, undef, .pointer (some ⟨w.heap.size, 0, none⟩), .slice none 0 0, .pointer (some ⟨w.heap.size + 1, 0, none⟩), undef, .pointer (some ⟨Bx, 0, none⟩), undef, undef, .slice A l.length c, .func (.func 45) #[] #[.pointer (some ⟨w.heap.size + 1 + 1, 0, none⟩)], .int .i64 x.1, .agg #[.string x.2.f0, .int .u64 x.2.f1, .int .i64 x.2.f2, .string x.2.f3], undef, undef, undef, undef, undef, undef, undef, undef, undef, undef, undef, undef, undef, undef, undef, undef, undef, undef, undef, undef, undef, undef, undef, undef, undef, undef, undef, undef, undef, undef, undef, undef, undef, undef, undef, undef], defers := [] })
    (fun x a' s X Y row hAx hg hr => by
      obtain ⟨Bx, h1, h2⟩ := hAx
      exact ⟨Bx, (hg.block Bx (Array.getElem?_eq_some_iff.1 h1).1 (fun e => by obtain ⟨_, o, ho, hc⟩ := hr Bx e.symm; rw [h1] at ho; cases ho; cases hc)).trans h1, h2⟩) ?assign ?body ?done ?stop
  case assign =>
    intro ll pre x W K hi hK
    simp only [benc] at hK ⊢
    gi_wp2
    have hlt2 := (Array.getElem?_eq_some_iff.1 hi.box).1
    refine hK _ _ ((KeepsOthers.alloc _ _).from _) ⟨(Below.refl _ W).alloc hi.bel.size _, hao hlt2⟩ (SK.own_from (Nat.le_refl _) pre W _ none hi (World.grownBy_alloc _ _ none) (fun r e => by cases e)) ⟨W.heap.size, ?_, rfl⟩
    exact World.alloc_heap_new _ _
  case body =>
    rintro ll pre x a' W hll ⟨rr, hrr⟩ hS ⟨Bx, bX, rfl⟩ hlt
    obtain ⟨A1, c1, hO, hown⟩ := hS.own
    obtain ⟨out, hout⟩ : ∃ out, skOf pins (pre.map Prod.snd) = out := ⟨_, rfl⟩
    rw [hout] at hO hown
    have hole : out.length ≤ 100000 := by
      have := skOf_le pins (pre.map Prod.snd)
      rw [hout, List.length_map] at this
      omega
    have hstep : skOf pins ((pre ++ [x]).map Prod.snd) = skStep pins out x.2 := by rw [List.map_append, List.map_cons, List.map_nil, skOf_snoc, hout]
    obtain ⟨i, ⟨e0, e1, e2, e3⟩⟩ := x
    have o0 : W.cell? ⟨w.heap.size + 1, 0, none⟩ = some (.slice A1 out.length c1) := blk_cell hO 0
    have x0 : W.cell? ⟨Bx, 0, none⟩ = some (.string e0) := blk_cell bX 0
    have pb : ∀ q, (W.drewN q).cell? ⟨w.heap.size, 0, none⟩ = some (.slice B pins.length c2) := fun q => blk_cell (w := W.drewN q) hS.pin 0
    have HC := Aside0.mk (show ∀ q, CallsIn (Fence.wide.inRound ll) (n - 1 - 1 - 1) Try.prog 39 #[.slice B pins.length c2, .func (.func 40) #[] #[.pointer (some ⟨Bx, 0, none⟩)]] (W.drewN q) fun e w' => e = .returned (.bool (above ⟨e0, e1, e2, e3⟩ pins)) ∧ Below W.heap.size W w' from fun q => (callsIn_wide (n := n - 1 - 1 - 1)).2 ((open_c (W := W.drewN q) ((hp.below hS.bel).below (pw_below_drewN (Below.refl _ _) q)) c2 (by omega) ⟨e0, e1, e2, e3⟩ Bx bX).mono fun e w' h => ⟨h.1, (pw_below_drewN (Below.refl W.heap.size W) q).trans h.2⟩))
    have HF := Aside0.mk (show ∀ w2, Below W.heap.size W w2 → w2.cell? ⟨Bx, 0, none⟩ = some (.string e0) ∧ w2.cell? ⟨Bx, 1, none⟩ = some (.int .u64 e1) ∧ w2.cell? ⟨Bx, 2, none⟩ = some (.int .i64 e2) ∧ w2.cell? ⟨Bx, 3, none⟩ = some (.string e3) ∧ w2.cell? ⟨w.heap.size + 1, 0, none⟩ = some (.slice A1 out.length c1) ∧
        (skStep pins out ⟨e0, e1, e2, e3⟩ = out → Aside0 (KeepsFrom W3.heap.size W w2 ∧ KpB w.heap.size (w.heap.size + 2) W w2 ∧ SK w B pins.length c2 pins A l.length c (pre ++ [(i, (⟨e0, e1, e2, e3⟩ : En))]) w2)) ∧
        (skStep pins out ⟨e0, e1, e2, e3⟩ = out ++ [⟨e0, e1, e2, e3⟩] → ∃ p2 c3 w3, (∀ ty, (Builtin.append_ #[22, 22] ty #[.slice A1 out.length c1, .slice (some ⟨w2.heap.size, 0, none⟩) 1 1]).run Try.prog (w2.alloc (.cells #[.string e0, .int .u64 e1, .int .i64 e2, .string e3] 37)) = .ok (.slice p2 (out.length + 1) c3) w3) ∧
          w3.cell? ⟨w.heap.size + 1, 0, none⟩ = some (.slice A1 out.length c1) ∧ w3.frozen? ⟨w.heap.size + 1, 0, none⟩ = false ∧
          Aside0 (KeepsFrom W3.heap.size W (w3.setCell ⟨w.heap.size + 1, 0, none⟩ (.slice p2 (out.length + 1) c3)) ∧ KpB w.heap.size (w.heap.size + 2) W (w3.setCell ⟨w.heap.size + 1, 0, none⟩ (.slice p2 (out.length + 1) c3)) ∧ SK w B pins.length c2 pins A l.length c (pre ++ [(i, (⟨e0, e1, e2, e3⟩ : En))]) (w3.setCell ⟨w.heap.size + 1, 0, none⟩ (.slice p2 (out.length + 1) c3)))) from by
      intro w2 h2
      have q1 := (h2.block _ (Array.getElem?_eq_some_iff.1 bX).1).trans bX
      have q2 := (h2.block _ (Array.getElem?_eq_some_iff.1 hO).1).trans hO
      refine ⟨blk_cell q1 0, blk_cell q1 1, blk_cell q1 2, blk_cell q1 3, blk_cell q2 0, fun hs => ⟨hS.skip h2 (by rw [hstep, hs, hout]) _⟩, fun hs => ?_⟩
      have := hS.push h2 i e0 e1 e2 e3 (by rw [hstep, hs, hout]) (by rw [hout]; exact hole) W3.heap.size (A1 := A1) (c1 := c1) (by rw [hout]; exact hO) (by rw [hout]; exact hown)
      rw [hout] at this
      exact this)
    have HS := Aside0.mk hown
    clear hS hown bX hO hout hstep
    rcases Nat.eq_zero_or_pos out.length with h0 | h0
    case' inl =>
      have HB : Aside0 (below out ⟨e0, e1, e2, e3⟩ = false) := ⟨by rw [List.length_eq_zero_iff.1 h0]; rfl⟩
      have hg0 : decide (out.length > 0) = false := decide_eq_false (by omega)
      have hg1 : decide (0 < out.length) = false := decide_eq_false (by omega)
      have hg2 : decide ((out.length : Int) > 0) = false := decide_eq_false (by omega)
      clear h0
      gi_wp2
      refine quiet_r (by intro o ho c; simp only [List.mem_cons, List.not_mem_nil, or_false] at ho; rcases ho with rfl | rfl | rfl | rfl | rfl | rfl | rfl | rfl | rfl | rfl | rfl | rfl | rfl | rfl | rfl | rfl <;> exact Op.noConfusion) (by kernel_rfl) (by kernel_rfl) ?_
      repeat (gi_big_quiet_step (fail))
      refine wpQuietIn_nil ?_
      rintro _ ⟨nq, rfl⟩
      clear hg0 hg1 hg2
    case' inr =>
      obtain ⟨y, hy⟩ : ∃ y, out[out.length - 1]? = some y := ⟨_, List.getElem?_eq_getElem (by omega)⟩
      obtain ⟨g1, o1, hA1, hg1⟩ := HS.out.reads.where (show out.length - 1 < out.length by omega)
      subst hA1
      have y0 : W.cell? ⟨g1, o1 + (out.length - 1) * 4, none⟩ = some (.string y.f0) := HS.out.reads.at hy (i := 0) rfl
      have hgl : out.getLast? = some y := by rw [List.getLast?_eq_getElem?]; exact hy
      have hz0 : decide ((out.length : Int) > 0) = true := decide_eq_true (by omega)
      have hz1 : wrap64 ((out.length : Int) - 1) = (out.length : Int) - 1 := by unfold wrap64; omega
      have hz2 : (1 : Int) ≤ (out.length : Int) := by omega
      have hz3 : out.length - 1 < out.length := by omega
      by_cases hyx : y.f0 = e0
      case' pos =>
        have HB : Aside0 (below out ⟨e0, e1, e2, e3⟩ = true) := ⟨by unfold below; rw [hgl]; exact decide_eq_true hyx⟩
        have hst : (y.f0.toList == e0.toList) = true := by rw [hyx]; exact beq_self_eq_true _
        clear hgl hy
        gi_wp2
        refine quiet_r (by intro o ho c; simp only [List.mem_cons, List.not_mem_nil, or_false] at ho; rcases ho with rfl | rfl | rfl | rfl | rfl | rfl | rfl | rfl | rfl | rfl | rfl | rfl | rfl | rfl | rfl | rfl <;> exact Op.noConfusion) (by kernel_rfl) (by kernel_rfl) ?_
        repeat (gi_big_quiet_step (fail))
        refine wpQuietIn_nil ?_
        rintro _ ⟨nq, rfl⟩
        clear hz0 hz1 hz2 hz3 hst y0
      case' neg =>
        have HB : Aside0 (below out ⟨e0, e1, e2, e3⟩ = false) := ⟨by unfold below; rw [hgl]; exact decide_eq_false hyx⟩
        have hst : (y.f0.toList == e0.toList) = false := beq_eq_false_iff_ne.2 fun e => hyx (ls_inj (by rw [← toList_ls, ← toList_ls, e]))
        clear hgl hy
        gi_wp2
        refine quiet_r (by intro o ho c; simp only [List.mem_cons, List.not_mem_nil, or_false] at ho; rcases ho with rfl | rfl | rfl | rfl | rfl | rfl | rfl | rfl | rfl | rfl | rfl | rfl | rfl | rfl | rfl | rfl <;> exact Op.noConfusion) (by kernel_rfl) (by kernel_rfl) ?_
        repeat (gi_big_quiet_step (fail))
        refine wpQuietIn_nil ?_
        rintro _ ⟨nq, rfl⟩
        clear hz0 hz1 hz2 hz3 hst y0
    · have pb0 := pb nq
      have hn2 : 1 ≤ n - 1 - 1 := by omega
      by_cases hk : e2 = 2
      · cases hop : above ⟨e0, e1, e2, e3⟩ pins with
        | false =>
          have HC2 := HC.out nq
          rw [hop] at HC2
          have HC3 := Aside0.mk HC2
          have hb2 : (e2 == 2) = true := beq_iff_eq.2 hk
          have hsk : skStep pins out ⟨e0, e1, e2, e3⟩ = out := if_pos ⟨hk, HB.out, hop⟩
          clear HC2 hk hop
          gi_wp2_with (gi_at_call 39; refine HC3.out.mono ?_; rintro e w2 ⟨rfl, hbl2⟩; obtain ⟨z0, z1, z2, z3, zo, hyes, hno⟩ := HF.out w2 hbl2; have HY := hyes hsk; clear hyes hno hbl2)
          exact HY.out
        | true =>
          have HC2 := HC.out nq
          rw [hop] at HC2
          have HC3 := Aside0.mk HC2
          have hb2 : (e2 == 2) = true := beq_iff_eq.2 hk
          have hsk : skStep pins out ⟨e0, e1, e2, e3⟩ = out ++ [⟨e0, e1, e2, e3⟩] := if_neg (by rintro ⟨a1, a2, a3⟩; rw [hop] at a3; cases a3)
          clear HC2 hk hop
          gi_wp2_with (gi_at_call 39; refine HC3.out.mono ?_; rintro e w2 ⟨rfl, hbl2⟩; obtain ⟨z0, z1, z2, z3, zo, hyes, hno⟩ := HF.out w2 hbl2; obtain ⟨p2, c3, w3, r3, s1, s2, HY⟩ := hno hsk; clear hyes hno hbl2)
          exact HY.out
      · cases hop : above ⟨e0, e1, e2, e3⟩ pins with
        | false =>
          have HC2 := HC.out nq
          rw [hop] at HC2
          have HC3 := Aside0.mk HC2
          have hb2 : (e2 == 2) = false := beq_eq_false_iff_ne.2 hk
          have hsk : skStep pins out ⟨e0, e1, e2, e3⟩ = out ++ [⟨e0, e1, e2, e3⟩] := if_neg (by rintro ⟨a1, a2, a3⟩; exact hk a1)
          clear HC2 hk hop
          gi_wp2_with (gi_at_call 39; refine HC3.out.mono ?_; rintro e w2 ⟨rfl, hbl2⟩; obtain ⟨z0, z1, z2, z3, zo, hyes, hno⟩ := HF.out w2 hbl2; obtain ⟨p2, c3, w3, r3, s1, s2, HY⟩ := hno hsk; clear hyes hno hbl2)
          exact HY.out
        | true =>
          have HC2 := HC.out nq
          rw [hop] at HC2
          have HC3 := Aside0.mk HC2
          have hb2 : (e2 == 2) = false := beq_eq_false_iff_ne.2 hk
          have hsk : skStep pins out ⟨e0, e1, e2, e3⟩ = out ++ [⟨e0, e1, e2, e3⟩] := if_neg (by rintro ⟨a1, a2, a3⟩; exact hk a1)
          clear HC2 hk hop
          gi_wp2_with (gi_at_call 39; refine HC3.out.mono ?_; rintro e w2 ⟨rfl, hbl2⟩; obtain ⟨z0, z1, z2, z3, zo, hyes, hno⟩ := HF.out w2 hbl2; obtain ⟨p2, c3, w3, r3, s1, s2, HY⟩ := hno hsk; clear hyes hno hbl2)
          exact HY.out
    · have pb0 := pb nq
      have hn2 : 1 ≤ n - 1 - 1 := by omega
      by_cases hk : e2 = 2
      · cases hop : above ⟨e0, e1, e2, e3⟩ pins with
        | false =>
          have HC2 := HC.out nq
          rw [hop] at HC2
          have HC3 := Aside0.mk HC2
          have hb2 : (e2 == 2) = true := beq_iff_eq.2 hk
          have hsk : skStep pins out ⟨e0, e1, e2, e3⟩ = out ++ [⟨e0, e1, e2, e3⟩] := if_neg (by rintro ⟨a1, a2, a3⟩; rw [HB.out] at a2; cases a2)
          clear HC2 hk hop
          gi_wp2_with (gi_at_call 39; refine HC3.out.mono ?_; rintro e w2 ⟨rfl, hbl2⟩; obtain ⟨z0, z1, z2, z3, zo, hyes, hno⟩ := HF.out w2 hbl2; obtain ⟨p2, c3, w3, r3, s1, s2, HY⟩ := hno hsk; clear hyes hno hbl2)
          exact HY.out
        | true =>
          have HC2 := HC.out nq
          rw [hop] at HC2
          have HC3 := Aside0.mk HC2
          have hb2 : (e2 == 2) = true := beq_iff_eq.2 hk
          have hsk : skStep pins out ⟨e0, e1, e2, e3⟩ = out ++ [⟨e0, e1, e2, e3⟩] := if_neg (by rintro ⟨a1, a2, a3⟩; rw [HB.out] at a2; cases a2)
          clear HC2 hk hop
          gi_wp2_with (gi_at_call 39; refine HC3.out.mono ?_; rintro e w2 ⟨rfl, hbl2⟩; obtain ⟨z0, z1, z2, z3, zo, hyes, hno⟩ := HF.out w2 hbl2; obtain ⟨p2, c3, w3, r3, s1, s2, HY⟩ := hno hsk; clear hyes hno hbl2)
          exact HY.out
      · cases hop : above ⟨e0, e1, e2, e3⟩ pins with
        | false =>
          have HC2 := HC.out nq
          rw [hop] at HC2
          have HC3 := Aside0.mk HC2
          have hb2 : (e2 == 2) = false := beq_eq_false_iff_ne.2 hk
          have hsk : skStep pins out ⟨e0, e1, e2, e3⟩ = out ++ [⟨e0, e1, e2, e3⟩] := if_neg (by rintro ⟨a1, a2, a3⟩; exact hk a1)
          clear HC2 hk hop
          gi_wp2_with (gi_at_call 39; refine HC3.out.mono ?_; rintro e w2 ⟨rfl, hbl2⟩; obtain ⟨z0, z1, z2, z3, zo, hyes, hno⟩ := HF.out w2 hbl2; obtain ⟨p2, c3, w3, r3, s1, s2, HY⟩ := hno hsk; clear hyes hno hbl2)
          exact HY.out
        | true =>
          have HC2 := HC.out nq
          rw [hop] at HC2
          have HC3 := Aside0.mk HC2
          have hb2 : (e2 == 2) = false := beq_eq_false_iff_ne.2 hk
          have hsk : skStep pins out ⟨e0, e1, e2, e3⟩ = out ++ [⟨e0, e1, e2, e3⟩] := if_neg (by rintro ⟨a1, a2, a3⟩; exact hk a1)
          clear HC2 hk hop
          gi_wp2_with (gi_at_call 39; refine HC3.out.mono ?_; rintro e w2 ⟨rfl, hbl2⟩; obtain ⟨z0, z1, z2, z3, zo, hyes, hno⟩ := HF.out w2 hbl2; obtain ⟨p2, c3, w3, r3, s1, s2, HY⟩ := hno hsk; clear hyes hno hbl2)
          exact HY.out
    · have pb0 := pb nq
      have hn2 : 1 ≤ n - 1 - 1 := by omega
      by_cases hk : e2 = 2
      · cases hop : above ⟨e0, e1, e2, e3⟩ pins with
        | false =>
          have HC2 := HC.out nq
          rw [hop] at HC2
          have HC3 := Aside0.mk HC2
          have hb2 : (e2 == 2) = true := beq_iff_eq.2 hk
          have hsk : skStep pins out ⟨e0, e1, e2, e3⟩ = out := if_pos ⟨hk, HB.out, hop⟩
          clear HC2 hk hop
          gi_wp2_with (gi_at_call 39; refine HC3.out.mono ?_; rintro e w2 ⟨rfl, hbl2⟩; obtain ⟨z0, z1, z2, z3, zo, hyes, hno⟩ := HF.out w2 hbl2; have HY := hyes hsk; clear hyes hno hbl2)
          exact HY.out
        | true =>
          have HC2 := HC.out nq
          rw [hop] at HC2
          have HC3 := Aside0.mk HC2
          have hb2 : (e2 == 2) = true := beq_iff_eq.2 hk
          have hsk : skStep pins out ⟨e0, e1, e2, e3⟩ = out ++ [⟨e0, e1, e2, e3⟩] := if_neg (by rintro ⟨a1, a2, a3⟩; rw [hop] at a3; cases a3)
          clear HC2 hk hop
          gi_wp2_with (gi_at_call 39; refine HC3.out.mono ?_; rintro e w2 ⟨rfl, hbl2⟩; obtain ⟨z0, z1, z2, z3, zo, hyes, hno⟩ := HF.out w2 hbl2; obtain ⟨p2, c3, w3, r3, s1, s2, HY⟩ := hno hsk; clear hyes hno hbl2)
          exact HY.out
      · cases hop : above ⟨e0, e1, e2, e3⟩ pins with
        | false =>
          have HC2 := HC.out nq
          rw [hop] at HC2
          have HC3 := Aside0.mk HC2
          have hb2 : (e2 == 2) = false := beq_eq_false_iff_ne.2 hk
          have hsk : skStep pins out ⟨e0, e1, e2, e3⟩ = out ++ [⟨e0, e1, e2, e3⟩] := if_neg (by rintro ⟨a1, a2, a3⟩; exact hk a1)
          clear HC2 hk hop
          gi_wp2_with (gi_at_call 39; refine HC3.out.mono ?_; rintro e w2 ⟨rfl, hbl2⟩; obtain ⟨z0, z1, z2, z3, zo, hyes, hno⟩ := HF.out w2 hbl2; obtain ⟨p2, c3, w3, r3, s1, s2, HY⟩ := hno hsk; clear hyes hno hbl2)
          exact HY.out
        | true =>
          have HC2 := HC.out nq
          rw [hop] at HC2
          have HC3 := Aside0.mk HC2
          have hb2 : (e2 == 2) = false := beq_eq_false_iff_ne.2 hk
          have hsk : skStep pins out ⟨e0, e1, e2, e3⟩ = out ++ [⟨e0, e1, e2, e3⟩] := if_neg (by rintro ⟨a1, a2, a3⟩; exact hk a1)
          clear HC2 hk hop
          gi_wp2_with (gi_at_call 39; refine HC3.out.mono ?_; rintro e w2 ⟨rfl, hbl2⟩; obtain ⟨z0, z1, z2, z3, zo, hyes, hno⟩ := HF.out w2 hbl2; obtain ⟨p2, c3, w3, r3, s1, s2, HY⟩ := hno hsk; clear hyes hno hbl2)
          exact HY.out
  case done =>
    rintro D ys W hD hys hI hK
    subst hys
    obtain ⟨A1, c1, hO, hown⟩ := hI.own
    have hsk : skOf pins ((bkN l l.length).map Prod.snd) = skOf pins l.reverse := by rw [bkN_snd l l.length (Nat.le_refl _), Nat.sub_self, List.drop_zero]
    rw [hsk] at hO hown
    obtain ⟨out, hout⟩ : ∃ out, skOf pins l.reverse = out := ⟨_, rfl⟩
    have hole : out.length ≤ 100000 := by
      have := skOf_le pins l.reverse
      rw [hout, List.length_reverse] at this
      omega
    rw [hout] at hO hown
    have o0 : W.cell? ⟨w.heap.size + 1, 0, none⟩ = some (.slice A1 out.length c1) := blk_cell hO 0
    have HR := Aside0.mk (show CallsIn Fence.wide (n - 1) Try.prog 41 #[.slice A1 out.length c1] W fun e W' => e = .returned (.tuple #[]) ∧ W'.cell? ⟨w.heap.size + 1, 0, none⟩ = some (.slice A1 out.length c1) ∧ Aside0 (Rw.Own KE 37 W' w.heap.size A1 c1 out.reverse ∧ Below w.heap.size w W' ∧ W'.heap[D]? = some (.deferred (some []))) from callsIn_wide.2 ((rev_c hown (by omega)).mono (by
      rintro e W' ⟨rfl, h2, hg⟩
      have hne : ∀ (k : Nat) (o : Obj), W.heap[k]? = some o → (∀ cur : Array Value, o ≠ Obj.cells cur 37 (0, 0)) → W'.heap[k]? = some o := by
        intro k o hk hn
        refine (hg.block k (Array.getElem?_eq_some_iff.1 hk).1 (fun e => ?_)).trans hk
        rcases hown.2 with ⟨h0, _⟩ | ⟨g', c', cur, hv, hg', hbb, _⟩
        · rw [h0] at e; cases e
        · rw [hv] at e
          obtain rfl : k = g' := by simpa [Value.ownBlock] using e
          rw [hbb] at hk
          exact hn cur (Option.some.inj hk).symm
      refine ⟨rfl, blk_cell (hne _ _ hO (fun cur e => by simp at e)) 0, ⟨h2, hI.bel.grown hg hI.bel.size (fun k e => ?_), hne _ _ hK (fun cur e => by cases e)⟩⟩
      rcases hown.2 with ⟨h0, _⟩ | ⟨g', c', cur, hv, hg', hbb, _⟩
      · rw [h0] at e; cases e
      · rw [hv] at e
        obtain rfl : g' = k := by simpa [Value.ownBlock] using e
        exact hg')))
    have HS := Aside0.mk (show sunkP l pins = out.reverse by rw [← hout]; rfl)
    clear hI hO hown hsk hout hK hS0 hseq hA
    gi_wp2_with (gi_at_call 41; refine HR.out.mono ?_; rintro e W2 ⟨rfl, q0, H2⟩)
    refine ⟨by simp, .inl ⟨_, _, rfl, run_takeDeferred H2.out.2.2, ?_⟩⟩
    refine ⟨_, results_tmp rfl _ _ _, A1, c1, ?_, ?_, ?_⟩
    · rw [HS.out, List.length_reverse]; rfl
    · rw [HS.out]
      exact ownsRow_putObj H2.out.1 _ H2.out.2.2 rfl
    · exact H2.out.2.1.trans (belowK_b (w := w) (Nat.le_refl _) W2 D _ _ (by omega) H2.out.2.2 rfl rfl)
  case stop =>
    rintro D c pre W _ _ h _
    exact h.elim
theorem sunk_c {w : World} {A B : Option Addr} {l : List En} {pins : List Int} (hr : Reads KE w A l) (hp : Reads KN w B pins) (c c2 : Nat) (hl : l.length ≤ 100000) (hpn : pins.length ≤ 100000) :
    Calls Try.prog 27 #[.slice A l.length c, .slice B pins.length c2] w fun e w' => ∃ A' c', e = .returned (.slice A' (sunkP l pins).length c') ∧ Rw.Own KE 37 w' w.heap.size A' c' (sunkP l pins) ∧ Below w.heap.size w w' :=
  callsIn_wide.1 (sunk_in 9 (by decide) hr hp c c2 hl hpn)

/-! ### DrE -/
theorem idx_spec {α : Type} [Inhabited α] (p : α → Bool) (x : α) : ∀ (l : List α) (i : Nat), (Lib.idxByFrom (fun _ y => p y) x l i = -1 ∧ ∀ y ∈ l, p y = false) ∨ ∃ k y, l[k]? = some y ∧ Lib.idxByFrom (fun _ y => p y) x l i = ((i + k : Nat) : Int) ∧ p y = true ∧ ∀ z ∈ l.take k, p z = false
  | [], i => .inl ⟨rfl, fun y hy => by cases hy⟩
  | y :: r, i => by
    cases h : p y with
    | true => exact .inr ⟨0, y, rfl, by simp [Lib.idxByFrom, h], h, fun z hz => by simp at hz⟩
    | false =>
      rcases idx_spec p x r (i + 1) with ⟨e, ha⟩ | ⟨k, z, hk, e, ht, ha⟩
      · refine .inl ⟨by simp [Lib.idxByFrom, h, e], fun z hz => ?_⟩
        rcases List.mem_cons.1 hz with rfl | hz
        · exact h
        · exact ha z hz
      · refine .inr ⟨k + 1, z, hk, ?_, ht, fun u hu => ?_⟩
        · simp only [Lib.idxByFrom, h]
          rw [show (if false = true then (i : Int) else Lib.idxByFrom (fun _ y => p y) x r (i + 1)) = Lib.idxByFrom (fun _ y => p y) x r (i + 1) from rfl, e]
          congr 1; omega
        · rw [List.take_succ_cons] at hu
          rcases List.mem_cons.1 hu with rfl | hu
          · exact h
          · exact ha u hu
/-- A version whose key is not too long. -/
abbrev Es := {x : En // x.f0.size ≤ 1000000}
instance : Inhabited Es := ⟨⟨z37, by decide⟩⟩
def toEs (L : List En) (h : ∀ x ∈ L, x.f0.size ≤ 1000000) : List Es := L.attach.map fun x => ⟨x.1, h x.1 x.2⟩
theorem toEs_val (L : List En) (h : ∀ x ∈ L, x.f0.size ≤ 1000000) : (toEs L h).map Subtype.val = L := by
  unfold toEs
  rw [List.map_map]
  exact List.attach_map_subtype_val L
/-- What a predicate answers, in each world in which what lay below stands. -/
def PredIn (W0 : World) (base Bf : Nat) (p : En → Bool) : Prop := ∀ (W' : World) (x : En), x.f0.size ≤ 1000000 → Below base W0 W' →
  Calls Try.prog 29 #[.agg #[.string x.f0, .int .u64 x.f1, .int .i64 x.f2, .string x.f3], .pointer (some ⟨Bf, 0, none⟩)] W' fun e w' => e = .returned (.bool (p x)) ∧ Below W'.heap.size W' w'
theorem index_c {W0 W : World} {base Bf c : Nat} {A : Option Addr} {L : List En} {p : En → Bool} (hp : PredIn W0 base Bf p) (hb : Below base W0 W) (hbs : base ≤ W.heap.size) (h : Reads KE W A L) (hL : ∀ x ∈ L, x.f0.size ≤ 1000000) (hl : L.length ≤ 100000) :
    Calls Try.prog 42 #[.slice A L.length c, .func (.func 29) #[] #[.pointer (some ⟨Bf, 0, none⟩)]] W fun e w' => ∃ r : Int, e = .returned (.int .i64 r) ∧ Below W.heap.size W w' ∧
      ((r = -1 ∧ ∀ x ∈ L, p x = false) ∨ ∃ k : Nat, r = k ∧ ∃ y, L[k]? = some y ∧ p y = true ∧ ∀ x ∈ L.take k, p x = false) := by
  by_cases h0 : 0 < L.length
  · obtain ⟨g, o, rfl, hg⟩ := h.where h0
    have hv := toEs_val L hL
    have hlen : (toEs L hL).length = L.length := by rw [← List.length_map (f := Subtype.val), hv]
    have hat : ∀ j, j < (toEs L hL).length → L[j]? = some (toEs L hL)[j]!.1 := fun j hj => by
      rw [getElem!_pos (toEs L hL) j hj]
      have : ((toEs L hL).map Subtype.val)[j]? = some ((toEs L hL)[j]).1 := by rw [List.getElem?_map, List.getElem?_eq_getElem hj]; rfl
      rw [hv] at this
      exact this
    have hk := AnyQ.slices_IndexFunc (P := Try.prog) (α := Es) Try.anyEntry 4 Try.isAgg37 Try.sizeOf37 (fun x => ecells x.1) (fun _ => rfl) (fun x => p x.1) 29 #[.pointer (some ⟨Bf, 0, none⟩)] (enters_of Try.func29 (by kernel_rfl) rfl) g o L.length c (toEs L hL) W
      (fun W' x hW => (hp W' x.1 x.2 (hb.trans (hW.mono hbs))).mono fun e w' he => ⟨he.1, hW.trans (he.2.mono hW.size)⟩) (by omega) (by omega) hg
      (fun j hj i v hv => h.at (hat j hj) hv)
    refine hk.mono ?_
    rintro e w' ⟨rfl, hbw⟩
    rw [← hlen, List.take_length]
    refine ⟨_, rfl, hbw, ?_⟩
    rcases idx_spec (fun x : Es => p x.1) default (toEs L hL) 0 with ⟨e, ha⟩ | ⟨k, y, hy, e, ht, ha⟩
    · refine .inl ⟨e, fun x hx => ?_⟩
      rw [← hv] at hx
      obtain ⟨z, hz, rfl⟩ := List.mem_map.1 hx
      exact ha z hz
    · refine .inr ⟨k, by rw [show Lib.idxBy (fun _ y => p y.1) (toEs L hL) default = _ from e]; simp, y.1, ?_, ht, fun x hx => ?_⟩
      · rw [← hv, List.getElem?_map, hy]; rfl
      · rw [← hv, ← List.map_take] at hx
        obtain ⟨z, hz, rfl⟩ := List.mem_map.1 hx
        exact ha z hz
  · obtain rfl := List.length_eq_zero_iff.1 (by omega : L.length = 0)
    refine (idx0E A c _ W).mono ?_
    rintro e w' ⟨rfl, rfl⟩
    exact ⟨-1, rfl, Below.refl _ _, .inl ⟨rfl, fun x hx => by cases hx⟩⟩
theorem zero_entry (w : World) : (zeroValue 37).run Try.prog w = .ok (.agg #[.string ByteArray.empty, .int .u64 0, .int .i64 0, .string ByteArray.empty]) w := by kernel_rfl
theorem run_clearE {w : World} {g o c m : Nat} {cur : Array Value} {e : TypeId} (hm : 0 < m) (hb : w.heap[g]? = some (.cells cur e (0, 0))) (hl : o + m * 4 ≤ cur.size) :
    ∃ vs : List Value, vs.length = m * 4 ∧ ∀ ty, (Builtin.clear_ #[22] ty #[.slice (some ⟨g, o, none⟩) m c]).run Try.prog w = .ok (.tuple #[]) (w.setCells g o vs) := by
  obtain ⟨vs, hvs⟩ : ∃ vs, vs = (Builtin.zeroCells #[.string ⟨#[]⟩, .int .u64 0, .int .i64 0, .string ⟨#[]⟩] m).toList := ⟨_, rfl⟩
  have hlen : vs.length = m * 4 := by rw [hvs]; simp [Builtin.zeroCells]; try omega
  have hone : ∀ u ∈ vs, u.oneCell' = true := by
    intro u hu
    rw [hvs] at hu
    simp only [Builtin.zeroCells, Array.toList_map, List.mem_map] at hu
    obtain ⟨i, _, rfl⟩ := hu
    have h4 : i % 4 < 4 := Nat.mod_lt _ (by decide)
    show ((#[.string ⟨#[]⟩, .int .u64 0, .int .i64 0, .string ⟨#[]⟩] : Array Value)[i % 4]!).oneCell' = true
    have : i % 4 = 0 ∨ i % 4 = 1 ∨ i % 4 = 2 ∨ i % 4 = 3 := by omega
    rcases this with h | h | h | h <;> rw [h] <;> rfl
  refine ⟨vs, hlen, fun ty => ?_⟩
  have hst := run_storeCells_cells (P := Try.prog) g o vs 0 w (fun j hj => by
    rw [blk_cell hb, Array.getElem?_eq_getElem (by omega)]; rfl) (fun j hj => blk_frozen hb _) hone
  simp only [Nat.add_zero] at hst
  cases m with
  | zero => omega
  | succ m =>
    simp [Builtin.clear_, run_underlying Try.underlying22, zero_entry, Result.andThen, Value.cells, ← hvs, hst]
/-- Four cells of a block are written. -/
theorem chain4 {w : World} {g o : Nat} {cur : Array Value} {e : TypeId} (hb : w.heap[g]? = some (.cells cur e (0, 0))) (hl : o + 4 ≤ cur.size) (v0 v1 v2 : Value) :
    ∃ u0 u1 u2 u3, w.cell? ⟨g, o, none⟩ = some u0 ∧ w.frozen? ⟨g, o, none⟩ = false ∧ (w.setCell ⟨g, o, none⟩ v0).cell? ⟨g, o + 1, none⟩ = some u1 ∧ (w.setCell ⟨g, o, none⟩ v0).frozen? ⟨g, o + 1, none⟩ = false ∧
      ((w.setCell ⟨g, o, none⟩ v0).setCell ⟨g, o + 1, none⟩ v1).cell? ⟨g, o + 2, none⟩ = some u2 ∧ ((w.setCell ⟨g, o, none⟩ v0).setCell ⟨g, o + 1, none⟩ v1).frozen? ⟨g, o + 2, none⟩ = false ∧
      (((w.setCell ⟨g, o, none⟩ v0).setCell ⟨g, o + 1, none⟩ v1).setCell ⟨g, o + 2, none⟩ v2).cell? ⟨g, o + 3, none⟩ = some u3 ∧ (((w.setCell ⟨g, o, none⟩ v0).setCell ⟨g, o + 1, none⟩ v1).setCell ⟨g, o + 2, none⟩ v2).frozen? ⟨g, o + 3, none⟩ = false := by
  have h1 := set_blk (j := o) v0 hb
  have h2 := set_blk (j := o + 1) v1 h1
  have h3 := set_blk (j := o + 2) v2 h2
  have key : ∀ (w' : World) (cs : Array Value) (j : Nat), w'.heap[g]? = some (.cells cs e (0, 0)) → j < cs.size → ∃ u, w'.cell? ⟨g, j, none⟩ = some u := fun w' cs j h hj => ⟨cs[j], by rw [blk_cell h, Array.getElem?_eq_getElem hj]⟩
  obtain ⟨u0, q0⟩ := key _ _ o hb (by omega)
  obtain ⟨u1, q1⟩ := key _ _ (o + 1) h1 (by simp; omega)
  obtain ⟨u2, q2⟩ := key _ _ (o + 2) h2 (by simp; omega)
  obtain ⟨u3, q3⟩ := key _ _ (o + 3) h3 (by simp; omega)
  exact ⟨u0, u1, u2, u3, q0, blk_frozen hb _, q1, blk_frozen h1 _, q2, blk_frozen h2 _, q3, blk_frozen h3 _⟩
/-- The row while it is being rewritten: i have been kept of the first j. -/
structure DS (W0 : World) (base c g : Nat) (L : List En) (p : En → Bool) (i j : Nat) (M : List En) (wr : World) : Prop where
  len : M.length = L.length
  kept : M.take i = (L.take j).filter fun x => !p x
  rest : M.drop j = L.drop j
  lt : i < j
  own : Rw.Own KE 37 wr base (some ⟨g, 0, none⟩) c M
  bel : Below base W0 wr
theorem DS.below {W0 wr w' : World} {base c g : Nat} {L : List En} {p : En → Bool} {i j : Nat} {M : List En} (h : DS W0 base c g L p i j M wr) (hbs : base ≤ wr.heap.size) (hb : Below wr.heap.size wr w') : DS W0 base c g L p i j M w' :=
  ⟨h.len, h.kept, h.rest, h.lt, h.own.below hb, h.bel.trans (hb.mono hbs)⟩
theorem kept_le (L : List En) (p : En → Bool) (j : Nat) : ((L.take j).filter fun x => !p x).length ≤ j := by
  refine Nat.le_trans (List.length_filter_le _ _) ?_
  rw [List.length_take]
  omega
set_option maxRecDepth 100000 in
set_option maxHeartbeats 8000000 in
theorem del_c {W0 W : World} {base Bf c : Nat} {A : Option Addr} {L : List En} {p : En → Bool} (hp : PredIn W0 base Bf p) (hb : Below base W0 W) (hbs : base ≤ W.heap.size) (hbW : base ≤ W0.heap.size) (h : Rw.Own KE 37 W base A c L) (hL : ∀ x ∈ L, x.f0.size ≤ 1000000) (hl : L.length ≤ 100000) :
    Calls Try.prog 28 #[.slice A L.length c, .func (.func 29) #[] #[.pointer (some ⟨Bf, 0, none⟩)]] W fun e w' => ∃ A' c', e = .returned (.slice A' (L.filter fun x => !p x).length c') ∧ Rw.Own KE 37 w' base A' c' (L.filter fun x => !p x) ∧ Below base W0 w' := by
  have HI := Aside0.mk (index_c (c := c) hp hb hbs h.reads hL hl)
  have HP := Aside0.mk hp
  have HW := Aside0.mk (And.intro h (And.intro hb (And.intro hbs hbW)))
  clear hp h hb hbs hbW
  go_enter Try.func28, Try.ntmps28
  go_wp2_with fail
  refine HI.out.mono ?_
  rintro e w1 ⟨r, rfl, hb1, ⟨rfl, hno⟩ | ⟨k, rfl, y, hy, hpy, hnk⟩⟩
  · have HF := Aside0.mk (show (L.filter fun x => !p x) = L from List.filter_eq_self.2 fun x hx => by simp [hno x hx])
    have HR := Aside0.mk (And.intro (HW.out.1.below hb1) (HW.out.2.1.trans (hb1.mono HW.out.2.2.1)))
    clear hb1 hno HI
    go_wp2
    go_ret
    rw [HF.out]
    exact ⟨A, c, rfl, HR.out.1, HR.out.2⟩
  · have hkl : k < L.length := (List.getElem?_eq_some_iff.1 hy).1
    have hbs1 : base ≤ w1.heap.size := Nat.le_trans HW.out.2.2.1 hb1.size
    obtain ⟨g, hA⟩ : ∃ g, A = some ⟨g, 0, none⟩ := by
      obtain ⟨g, o, e, _⟩ := HW.out.1.reads.where hkl
      subst e
      have := HW.out.1.lt.2.2
      subst this
      exact ⟨g, rfl⟩
    subst hA
    have H0 : Aside0 (DS W0 base c g L p k (k + 1) L w1) := ⟨⟨rfl, by
      rw [List.take_add_one, hy, List.filter_append]
      have h1 : (L.take k).filter (fun x => !p x) = L.take k := List.filter_eq_self.2 fun x hx => by simp [hnk x hx]
      rw [h1]
      simp [hpy], rfl, Nat.lt_succ_self _, HW.out.1.below hb1, HW.out.2.1.trans (hb1.mono HW.out.2.2.1)⟩⟩
    have hk1 : ((k : Int) == -1) = false := by rw [beq_eq_false_iff_ne]; omega
    have hwk0 : wrap64 ((k : Int) + 1) = (k : Int) + 1 := by unfold wrap64; omega
    have HS1 := Aside0.mk hbs1
    clear hb1 hnk hpy hy HI hbs1
    go_wp2
    go_loopw [5, 6] (fun a b wr => ∃ (i j : Nat) (M : List En), j ≤ L.length ∧ a = .int .i64 i ∧ b = .int .i64 j ∧ Aside0 (DS W0 base c g L p i j M wr ∧ base ≤ wr.heap.size)) (fun _ b _ => L.length - (intOf b).toNat)
    case atStart => exact ⟨k, k + 1, L, hkl, rfl, by first | exact iw_succ k | exact iv_succ hwk0, ⟨H0.out, HS1.out⟩⟩
    case round =>
      obtain ⟨i, j, M, hj, rfl, rfl, H1⟩ := hrel
      by_cases hjl : j < L.length
      · obtain ⟨x, hx⟩ : ∃ x, L[j]? = some x := ⟨_, List.getElem?_eq_getElem hjl⟩
        have hxL : x ∈ L := List.mem_of_getElem? hx
        have hxM : M[j]? = some x := by
          have e1 : (M.drop j)[0]? = (L.drop j)[0]? := by rw [H1.out.1.rest]
          rw [List.getElem?_drop, List.getElem?_drop, Nat.add_zero] at e1
          rw [e1, hx]
        have hRd := H1.out.1.own.reads
        have c0 : wr.cell? ⟨g, j * 4, none⟩ = some (.string x.f0) := by have := hRd.at hxM (i := 0) rfl; simpa [KE] using this
        have c1 : wr.cell? ⟨g, j * 4 + 1, none⟩ = some (.int .u64 x.f1) := by have := hRd.at hxM (i := 1) rfl; simpa [KE] using this
        have c2 : wr.cell? ⟨g, j * 4 + 2, none⟩ = some (.int .i64 x.f2) := by have := hRd.at hxM (i := 2) rfl; simpa [KE] using this
        have c3 : wr.cell? ⟨g, j * 4 + 3, none⟩ = some (.string x.f3) := by have := hRd.at hxM (i := 3) rfl; simpa [KE] using this
        have hwj := Aside0.mk (show wrap64 ((j : Int) + 1) = (j : Int) + 1 by unfold wrap64; omega)
        have hil : i < L.length := Nat.lt_trans H1.out.1.lt hjl
        have hwi := Aside0.mk (show wrap64 ((i : Int) + 1) = (i : Int) + 1 by unfold wrap64; omega)
        have htj : L.take (j + 1) = L.take j ++ [x] := by rw [List.take_add_one, hx]; rfl
        have hba := below_alloc (Below.refl wr.heap.size wr) (.cells #[.string x.f0, .int .u64 x.f1, .int .i64 x.f2, .string x.f3] 37)
        have HC := Aside0.mk (HP.out (wr.alloc (.cells #[.string x.f0, .int .u64 x.f1, .int .i64 x.f2, .string x.f3] 37)) x (hL x hxL) (H1.out.1.bel.trans (hba.mono H1.out.2)))
        have hbn := heap_alloc_new wr (.cells #[.string x.f0, .int .u64 x.f1, .int .i64 x.f2, .string x.f3] 37)
        have HD := Aside0.mk (show ∀ w2, Below (wr.alloc (.cells #[.string x.f0, .int .u64 x.f1, .int .i64 x.f2, .string x.f3] 37)).heap.size (wr.alloc (.cells #[.string x.f0, .int .u64 x.f1, .int .i64 x.f2, .string x.f3] 37)) w2 → w2.cell? ⟨wr.heap.size, 0, none⟩ = some (.string x.f0) ∧ w2.cell? ⟨wr.heap.size, 1, none⟩ = some (.int .u64 x.f1) ∧ w2.cell? ⟨wr.heap.size, 2, none⟩ = some (.int .i64 x.f2) ∧ w2.cell? ⟨wr.heap.size, 3, none⟩ = some (.string x.f3) ∧ base ≤ w2.heap.size ∧ DS W0 base c g L p i j M w2 from by
          intro w2 h2
          have q := (h2.block _ (by simp)).trans hbn
          have hw := hba.trans (h2.mono (by simp))
          exact ⟨blk_cell q 0, blk_cell q 1, blk_cell q 2, blk_cell q 3, Nat.le_trans H1.out.2 hw.size, H1.out.1.below H1.out.2 hw⟩)
        clear hRd hba hbn hx hxM
        cases hpx : p x with
        | true =>
          go_wp2_with fail
          refine HC.out.mono ?_
          rintro e w2 ⟨rfl, hb2⟩
          obtain ⟨z0, z1, z2, z3, zb, zd⟩ := HD.out w2 hb2
          have HZ := Aside0.mk (And.intro (show DS W0 base c g L p i (j + 1) M w2 from ⟨zd.len, by
            rw [htj, List.filter_append, zd.kept]
            simp [hpx], by rw [← List.drop_drop, ← List.drop_drop, zd.rest], Nat.lt_succ_of_lt zd.lt, zd.own, zd.bel⟩) zb)
          rw [hpx]
          clear hb2 zb zd htj
          go_wp2
          exact ⟨⟨i, j + 1, M, hjl, rfl, by first | exact iw_succ j | exact iv_succ hwj.out, HZ⟩, by first | exact iw_meas hjl | exact iv_meas hwj.out hjl⟩
        | false =>
          go_wp2_with fail
          refine HC.out.mono ?_
          rintro e w2 ⟨rfl, hb2⟩
          obtain ⟨z0, z1, z2, z3, zb, zd⟩ := HD.out w2 hb2
          obtain ⟨cur, hcb, hcz, _⟩ := zd.own.blk
          have hcap := zd.own.cap.1
          rw [zd.len] at hcap
          obtain ⟨u0, u1, u2, u3, s0, t0, s1, t1, s2, t2, s3, t3⟩ := chain4 (o := i * 4) hcb (by rw [hcz]; show i * 4 + 4 ≤ c * 4; omega) (.string x.f0) (.int .u64 x.f1) (.int .i64 x.f2)
          have hgb := zd.own.lt.1
          have hput := zd.own.put (k := i) (by rw [zd.len]; exact hil) x
          have hbl : Below base W0 (w2.setCells g (i * 4) (ecells x)) := ⟨(sets_grown (ecells x) (i * 4) w2).os.trans zd.bel.os, (sets_grown (ecells x) (i * 4) w2).tape.trans zd.bel.tape, (sets_grown (ecells x) (i * 4) w2).output.trans zd.bel.output, by rw [sets_size]; exact zd.bel.size, fun q hq => (sets_other (by omega) _ _ _).trans (zd.bel.block q hq)⟩
          have HZ := Aside0.mk (And.intro (show DS W0 base c g L p (i + 1) (j + 1) (M.set i x) ((((w2.setCell ⟨g, i * 4, none⟩ (.string x.f0)).setCell ⟨g, i * 4 + 1, none⟩ (.int .u64 x.f1)).setCell ⟨g, i * 4 + 2, none⟩ (.int .i64 x.f2)).setCell ⟨g, i * 4 + 3, none⟩ (.string x.f3)) from ⟨by rw [List.length_set]; exact zd.len, by
            rw [htj, List.filter_append, ← zd.kept]
            have : i < M.length := by rw [zd.len]; exact hil
            rw [List.set_eq_take_append_cons_drop, if_pos this, List.take_append, List.length_take, Nat.min_eq_left (by omega), List.take_of_length_le (by rw [List.length_take]; omega), Nat.add_sub_cancel_left]
            simp [hpx], by rw [List.drop_set_of_lt (by have := zd.lt; omega), ← List.drop_drop, ← List.drop_drop, zd.rest], by have := zd.lt; omega, hput, hbl⟩) (show base ≤ ((((w2.setCell ⟨g, i * 4, none⟩ (.string x.f0)).setCell ⟨g, i * 4 + 1, none⟩ (.int .u64 x.f1)).setCell ⟨g, i * 4 + 2, none⟩ (.int .i64 x.f2)).setCell ⟨g, i * 4 + 3, none⟩ (.string x.f3)).heap.size from by simpa using zb))
          rw [hpx]
          clear hb2 zb zd htj hcb hcz hput hbl hgb hcap
          go_wp2
          exact ⟨⟨i + 1, j + 1, M.set i x, hjl, by first | exact iw_succ i | exact iv_succ hwi.out, by first | exact iw_succ j | exact iv_succ hwj.out, HZ⟩, by first | exact iw_meas hjl | exact iv_meas hwj.out hjl⟩
      · have hjk : j = L.length := by omega
        subst hjk
        have hd1 : decide ((L.length : Int) < (L.length : Int)) = false := decide_eq_false (Int.lt_irrefl _)
        have hil : i < L.length := H1.out.1.lt
        obtain ⟨cur, hcb, hcz, _⟩ := H1.out.1.own.blk
        have hcap := H1.out.1.own.cap.1
        rw [H1.out.1.len] at hcap
        obtain ⟨vs, hvl, hclr⟩ := run_clearE (c := c - i) (o := i * 4) (m := L.length - i) (by omega) hcb (by rw [hcz]; show _ ≤ c * 4; omega)
        have HK := Aside0.mk (show M.take i = L.filter fun x => !p x by rw [H1.out.1.kept, List.take_length])
        have hki : (M.take i).length = i := by rw [List.length_take, H1.out.1.len]; omega
        have hown := (H1.out.1.own.take (k := i) (by rw [H1.out.1.len]; omega)).behind (i * 4) vs (by rw [hki]; exact Nat.le_refl _) (by rw [hvl]; show _ ≤ c * 4; omega)
        have hgb := H1.out.1.own.lt.1
        have HZ := Aside0.mk (And.intro hown (show Below base W0 (wr.setCells g (i * 4) vs) from ⟨(sets_grown vs (i * 4) wr).os.trans H1.out.1.bel.os, (sets_grown vs (i * 4) wr).tape.trans H1.out.1.bel.tape, (sets_grown vs (i * 4) wr).output.trans H1.out.1.bel.output, by rw [sets_size]; exact H1.out.1.bel.size, fun q hq => (sets_other (by omega) _ _ _).trans (H1.out.1.bel.block q hq)⟩))
        have hci : ¬ c = i := by omega
        have hic : i ≤ L.length := by omega
        clear hown hcb hcz hvl hgb
        go_wp2
        go_ret
        refine ⟨some ⟨g, 0, none⟩, c, ?_, ?_, HZ.out.2⟩
        · rw [← HK.out, hki]; rfl
        · rw [← HK.out]
          exact HZ.out.1
end Go.Proofs.Ytdfaoafeojoceaa.Dr
