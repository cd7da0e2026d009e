/- The reference's Insert: walked. -/
import Derived.Test.YtdfaoafeojoceaaDrO
import Derived.Lib.QuietBelow
import Derived.BigQuiet
import Derived.Deep.CutBlock
import Derived.Deep.DeepCutAuto
import Derived.Test.YtdfaoafeojoceaaPAllx4
set_option linter.unusedSimpArgs false
set_option linter.unusedVariables false
namespace Go.Proofs.Ytdfaoafeojoceaa.Dr
open Go.Sort Go.RowKit Go.Maps Go.Proofs Go.Proofs.Ytdfaoafeojoceaa.Rw Go.Proofs.Ytdfaoafeojoceaa.PAll Go.Proofs.YtdfaoafeojoceaaW.PrintWords Go.Proofs.Ytdfaoafeojoceaa.Pb Go.Proofs.Ytdfaoafeojoceaa.Pure
attribute [local go_sem] put_fresh
attribute [-go_sem] Builtin.append_
attribute [-go_sem] sliced

def insK : List En → En → Nat
  | [], _ => 0
  | y :: r, x => if cmpE y x < 0 then insK r x + 1 else 0
theorem insK_le (l : List En) (x : En) : insK l x ≤ l.length := by
  induction l with
  | nil => exact Nat.le_refl _
  | cons y r ih => unfold insK; split <;> simp <;> omega
theorem insK_at (l : List En) (x : En) : ∀ k, k ≤ insK l x → (k < insK l x ↔ k < l.length ∧ cmpE (enAt l k) x < 0) := by
  induction l with
  | nil => intro k _; simp [insK]
  | cons y r ih =>
    intro k hk
    unfold insK at hk ⊢
    by_cases hy : cmpE y x < 0
    · rw [if_pos hy] at hk ⊢
      cases k with
      | zero => simp [enAt, hy]
      | succ k =>
        have := ih k (by omega)
        have e : enAt (y :: r) (k + 1) = enAt r k := rfl
        rw [e, List.length_cons]
        constructor
        · intro h; have := this.1 (by omega); exact ⟨by omega, this.2⟩
        · intro h; have := this.2 ⟨by omega, h.2⟩; omega
    · rw [if_neg hy] at hk ⊢
      obtain rfl : k = 0 := by omega
      constructor
      · intro h; omega
      · intro h; exact absurd h.2 hy
/-- The list with a version laid in. -/
def insL (l : List En) (x : En) : List En := if insK l x < l.length ∧ cmpE (enAt l (insK l x)) x = 0 then l else l.take (insK l x) ++ [x] ++ l.drop (insK l x)
theorem cut_l {W : World} {b c : Nat} {A : Option Addr} {l : List En} (h : Rw.Own KE 37 W b A c l) {k : Nat} (hk : k ≤ l.length) : ∃ A1 c1, sliced A 0 k c 4 = .slice A1 k c1 ∧ Reads KE W A1 (l.take k) := by
  have hr := h.reads
  rcases h.2 with ⟨h0, h1⟩ | ⟨g, c', cur, hv, hg, hb, hn, hm, _⟩
  · obtain rfl : l = [] := List.length_eq_zero_iff.1 h1
    refine ⟨_, _, rfl, ?_⟩
    rw [List.take_nil]
    exact Reads.nil _ _
  · cases hv
    refine ⟨_, _, rfl, ?_⟩
    have e : (if c = 0 then some (⟨g, 0, none⟩ : Addr) else (some (⟨g, 0, none⟩ : Addr)).map (·.add (0 * 4))) = some ⟨g, 0, none⟩ := by
      split
      · rfl
      · simp only [Option.map_some, add_o, Nat.zero_mul, Nat.add_zero]
    rw [e]
    have := hr.part 0 (M := l.take k) (fun j y hy => by
      rw [Nat.zero_add]
      have hj := (List.getElem?_eq_some_iff.1 hy).1
      rw [List.length_take] at hj
      rwa [List.getElem?_take_of_lt (by omega)] at hy)
    simpa using this
theorem cut_r {W : World} {b c : Nat} {A : Option Addr} {l : List En} (h : Rw.Own KE 37 W b A c l) {k : Nat} (hk : k ≤ l.length) : ∃ A1 c1, sliced A k l.length c 4 = .slice A1 (l.length - k) c1 ∧ Reads KE W A1 (l.drop k) := by
  have hr := h.reads
  rcases h.2 with ⟨h0, h1⟩ | ⟨g, c', cur, hv, hg, hb, hn, hm, _⟩
  · obtain rfl : l = [] := List.length_eq_zero_iff.1 h1
    refine ⟨_, _, rfl, ?_⟩
    rw [List.drop_nil]
    exact Reads.nil _ _
  · cases hv
    refine ⟨_, _, rfl, ?_⟩
    by_cases hck : c = k
    · have : l.drop k = [] := List.drop_eq_nil_iff.2 (by omega)
      rw [this]
      exact Reads.nil _ _
    · rw [if_neg hck]
      simp only [Option.map_some, add_o]
      exact hr.part k (M := l.drop k) (fun j y hy => by rwa [List.getElem?_drop] at hy)
theorem ap0 {d : World} {base m : Nat} {A : Option Addr} {M : List En} (hM : M.length = m) (hs : Reads KE d A M) (c : Nat) (hl : m ≤ 100000) (hb : base ≤ d.heap.size) :
    ∃ p c2 w, (∀ ty, (Builtin.append_ #[22, 22] ty #[.slice none 0 0, .slice A m c]).run Try.prog d = .ok (.slice p m c2) w) ∧ Rw.Own KE 37 w base p c2 M ∧ Below d.heap.size d w := by
  subst hM
  obtain ⟨p, c2, w, h1, h2, h3, _⟩ := app IE (Rw.Own.nil KE 37 d base) hs c (by simp; omega) (by simp [maxLen]; omega) hb
  simp only [List.length_nil, Nat.zero_add, List.nil_append] at h1 h2
  exact ⟨p, c2, w, h1, h2, (Below.refl _ _).grown h3 (Nat.le_refl _) (fun k e => by cases e)⟩
theorem own_ge {W : World} {base c k : Nat} {A : Option Addr} {e : TypeId} {L : List En} {n : Nat} (h : Rw.Own KE e W base A c L) (hk : (Value.slice A n c).ownBlock = some k) : base ≤ k := by
  rcases h.2 with ⟨h0, h1⟩ | ⟨g, c', cur, hv, hg, hb, _⟩
  · simp at h0; rw [h0.1] at hk; cases hk
  · cases hv
    obtain rfl : g = k := by simpa [Value.ownBlock] using hk
    exact hg
theorem ap1 {d : World} {base n m cn : Nat} {A0 A : Option Addr} {L M : List En} (hL : L.length = n) (hM : M.length = m) (ho : Rw.Own KE 37 d base A0 cn L) (hs : Reads KE d A M) (c : Nat) (hl : n + m ≤ 100000) (hb : base ≤ d.heap.size) :
    ∃ p c2 w, (∀ ty, (Builtin.append_ #[22, 22] ty #[.slice A0 n cn, .slice A m c]).run Try.prog d = .ok (.slice p (n + m) c2) w) ∧ Rw.Own KE 37 w base p c2 (L ++ M) ∧ Below base d w := by
  subst hL hM
  obtain ⟨p, c2, w, h1, h2, h3, _⟩ := app IE ho hs c (by omega) (by simp [maxLen]; omega) hb
  exact ⟨p, c2, w, h1, h2, (Below.refl base d).grown h3 hb (fun k e => own_ge ho e)⟩
abbrev boxE (x : En) : Obj := .cells #[.string x.f0, .int .u64 x.f1, .int .i64 x.f2, .string x.f3] 37
theorem reads_box {d : World} {b : Nat} {x : En} (h : d.heap[b]? = some (boxE x)) : Reads KE d (some ⟨b, 0, none⟩) [x] := Reads.blk h rfl
/-- append(append(append(nil, l[:k]...), x), l[k:]...): the element laid between. -/
theorem three_A {w : World} {A1 A2 : Option Addr} {L M : List En} {n m : Nat} (hL : L.length = n) (hM : M.length = m) (h1 : Reads KE w A1 L) (h2 : Reads KE w A2 M) (c1 c2 : Nat) (x : En) (hl : n + 1 + m ≤ 100000) :
    ∃ p1 k1 w1 p2 k2 w2 p3 k3 w3, (∀ ty, (Builtin.append_ #[22, 22] ty #[.slice none 0 0, .slice A1 n c1]).run Try.prog w.drew = .ok (.slice p1 n k1) w1) ∧
      (∀ ty, (Builtin.append_ #[22, 22] ty #[.slice p1 n k1, .slice (some ⟨w1.heap.size, 0, none⟩) 1 1]).run Try.prog (w1.alloc (boxE x)) = .ok (.slice p2 (n + 1) k2) w2) ∧
      (∀ ty, (Builtin.append_ #[22, 22] ty #[.slice p2 (n + 1) k2, .slice A2 m c2]).run Try.prog w2 = .ok (.slice p3 (n + 1 + m) k3) w3) ∧
      Below w.heap.size w w1 ∧ Below w.heap.size w w3 ∧ Rw.Own KE 37 w3 w.heap.size p3 k3 (L ++ [x] ++ M) := by
  have b0 : Below w.heap.size w w.drew := below_drew1 (Below.refl _ _)
  obtain ⟨p1, k1, w1, r1, o1, b1⟩ := ap0 (base := w.heap.size) hL (h1.below b0) c1 (by omega) (Nat.le_refl _)
  have b01 : Below w.heap.size w w1 := b0.trans b1
  have bA := below_alloc (Below.refl w1.heap.size w1) (boxE x)
  have bAw : Below w.heap.size w (w1.alloc (boxE x)) := below_alloc b01 (boxE x)
  obtain ⟨p2, k2, w2, r2, o2, b2⟩ := ap1 (m := 1) hL rfl (o1.below bA) (reads_box (heap_alloc_new w1 (boxE x))) 1 (by omega) bAw.size
  have b02 : Below w.heap.size w w2 := bAw.trans b2
  obtain ⟨p3, k3, w3, r3, o3, b3⟩ := ap1 (n := n + 1) (by simp [hL]) hM o2 (h2.below b02) c2 (by omega) b02.size
  exact ⟨p1, k1, w1, p2, k2, w2, p3, k3, w3, r1, r2, r3, b01, b02.trans b3, o3⟩
/-- The same, the element laid first. -/
theorem three_B {w : World} {A1 A2 : Option Addr} {L M : List En} {n m : Nat} (hL : L.length = n) (hM : M.length = m) (h1 : Reads KE w A1 L) (h2 : Reads KE w A2 M) (c1 c2 : Nat) (x : En) (hl : n + 1 + m ≤ 100000) :
    ∃ p1 k1 w1 p2 k2 w2 p3 k3 w3, (∀ ty, (Builtin.append_ #[22, 22] ty #[.slice none 0 0, .slice A1 n c1]).run Try.prog (w.alloc (boxE x)).drew = .ok (.slice p1 n k1) w1) ∧
      (∀ ty, (Builtin.append_ #[22, 22] ty #[.slice p1 n k1, .slice (some ⟨w.heap.size, 0, none⟩) 1 1]).run Try.prog w1 = .ok (.slice p2 (n + 1) k2) w2) ∧
      (∀ ty, (Builtin.append_ #[22, 22] ty #[.slice p2 (n + 1) k2, .slice A2 m c2]).run Try.prog w2 = .ok (.slice p3 (n + 1 + m) k3) w3) ∧
      Below w.heap.size w w1 ∧ Below w.heap.size w w3 ∧ Rw.Own KE 37 w3 w.heap.size p3 k3 (L ++ [x] ++ M) := by
  have b0 : Below w.heap.size w (w.alloc (boxE x)).drew := below_drew1 (below_alloc (Below.refl _ _) _)
  have hz : (w.alloc (boxE x)).drew.heap.size = w.heap.size + 1 := by show (w.alloc (boxE x)).heap.size = _; simp
  obtain ⟨p1, k1, w1, r1, o1, b1⟩ := ap0 (base := w.heap.size) hL (h1.below b0) c1 (by omega) (by omega)
  have b01 : Below w.heap.size w w1 := b0.trans (b1.mono (by omega))
  have hx : w1.heap[w.heap.size]? = some (boxE x) := (b1.block _ (by omega)).trans (heap_alloc_new w (boxE x))
  obtain ⟨p2, k2, w2, r2, o2, b2⟩ := ap1 (m := 1) hL rfl o1 (reads_box hx) 1 (by omega) b01.size
  have b02 : Below w.heap.size w w2 := b01.trans b2
  obtain ⟨p3, k3, w3, r3, o3, b3⟩ := ap1 (n := n + 1) (by simp [hL]) hM o2 (h2.below b02) c2 (by omega) b02.size
  exact ⟨p1, k1, w1, p2, k2, w2, p3, k3, w3, r1, r2, r3, b01, b02.trans b3, o3⟩
/-- What Insert answers. -/
def InsO (W : World) (b0 : Nat) (l : List En) (x : En) (e : Ending) (w' : World) : Prop := ∃ A' c' v, e = .returned (.tuple #[.slice A' (insL l x).length c', v]) ∧ Rw.Own KE 37 w' b0 A' c' (insL l x) ∧ Below W.heap.size W w'
set_option maxRecDepth 100000 in
set_option maxHeartbeats 8000000 in
theorem insert_c {W : World} {b0 c : Nat} {A : Option Addr} {l : List En} (h : Rw.Own KE 37 W b0 A c l) (hl : l.length ≤ 10000) (x : En) (hk : ∀ y ∈ l, y.f0.size ≤ 1000000) (hx : x.f0.size ≤ 1000000) (hb : b0 ≤ W.heap.size) :
    Calls Try.prog 17 #[.slice A l.length c, .agg #[.string x.f0, .int .u64 x.f1, .int .i64 x.f2, .string x.f3]] W (InsO W b0 l x) := by
  have HO := Aside0.mk (And.intro h (And.intro hk (And.intro hx hb)))
  clear h hk hx hb
  have hbx := heap_alloc_new W (boxE x)
  have hcap := HO.out.1.cap
  have H0 := Aside0.mk (And.intro hbx (below_alloc (Below.refl W.heap.size W) (boxE x)))
  clear hbx
  obtain ⟨bx, hbxe⟩ : ∃ bx, bx = W.heap.size := ⟨_, rfl⟩
  have HBX := Aside0.mk hbxe
  go_enter Try.func17, Try.ntmps17
  go_wp2
  rw [← hbxe]
  clear hbxe
  go_loopw [6] (fun i wr => ∃ k : Nat, k ≤ insK l x ∧ i = .int .i64 k ∧ Aside0 (wr.heap[bx]? = some (boxE x) ∧ Below W.heap.size W wr)) (fun i _ => insK l x - (intOf i).toNat)
  case atStart => exact ⟨0, Nat.zero_le _, rfl, ⟨by rw [HBX.out]; exact H0.out.1, H0.out.2⟩⟩
  case round =>
    obtain ⟨k, hk, rfl, H1⟩ := hrel
    clear H0
    obtain ⟨w1, hw1⟩ : ∃ w1, w1 = wr := ⟨_, rfl⟩
    subst wr
    have hat := insK_at l x k hk
    have e0 : ∀ d os, (grow (redrawn w1 d) os).cell? ⟨bx, 0, none⟩ = some (.string x.f0) := cell_regrown (blk_cell H1.out.1 0)
    have e1 : ∀ d os, (grow (redrawn w1 d) os).cell? ⟨bx, 1, none⟩ = some (.int .u64 x.f1) := cell_regrown (blk_cell H1.out.1 1)
    have e2 : ∀ d os, (grow (redrawn w1 d) os).cell? ⟨bx, 2, none⟩ = some (.int .i64 x.f2) := cell_regrown (blk_cell H1.out.1 2)
    have e3 : ∀ d os, (grow (redrawn w1 d) os).cell? ⟨bx, 3, none⟩ = some (.string x.f3) := cell_regrown (blk_cell H1.out.1 3)
    by_cases hlt : k < l.length
    · have hR := HO.out.1.reads.below H1.out.2
      obtain ⟨g, o, rfl, hg⟩ := hR.where hlt
      obtain ⟨y, hy⟩ : ∃ y, l[k]? = some y := ⟨_, List.getElem?_eq_getElem hlt⟩
      have hyd := enAt_eq hy
      rw [hyd] at hat
      have c0 : w1.cell? ⟨g, o + k * 4, none⟩ = some (.string y.f0) := hR.at hy (i := 0) rfl
      have c1' : w1.cell? ⟨g, o + k * 4 + 1, none⟩ = some (.int .u64 y.f1) := hR.at hy (i := 1) rfl
      have c2' : w1.cell? ⟨g, o + k * 4 + 2, none⟩ = some (.int .i64 y.f2) := hR.at hy (i := 2) rfl
      have c3 : w1.cell? ⟨g, o + k * 4 + 3, none⟩ = some (.string y.f3) := hR.at hy (i := 3) rfl
      have k0 := cell_regrown c0
      have k1 := cell_regrown c1'
      have k2 := cell_regrown c2'
      have k3 := cell_regrown c3
      have hd1 : decide ((k : Int) < (l.length : Int)) = true := decide_eq_true (by omega)
      have hd2 : decide (k < l.length) = true := decide_eq_true hlt
      have hd3 : decide ((0 : Int) ≤ (k : Int)) = true := decide_eq_true (by omega)
      have hwk := Aside0.mk (show wrap64 ((k : Int) + 1) = (k : Int) + 1 by unfold wrap64; omega)
      obtain ⟨K, hK⟩ := Compare_ev y x (HO.out.2.1 y (List.mem_of_getElem? hy)) HO.out.2.2.1
      have hK := hK K (Nat.le_refl _)
      generalize hcv : cmpE y x = cv at *
      have cC : ∀ d os, Calls Try.prog 22 #[.agg #[.string y.f0, .int .u64 y.f1, .int .i64 y.f2, .string y.f3], .agg #[.string x.f0, .int .u64 x.f1, .int .i64 x.f2, .string x.f3]] (grow (redrawn w1 d) os) fun e w'' => e = .returned (.int .i64 cv) ∧ ∃ p : Regrown, w'' = grow (redrawn w1 p.d) p.os := fun d os => Calls.regrown_of (cornucopiaref5_Compare.calls K y.f0 y.f1 y.f2 y.f3 x.f0 x.f1 x.f2 x.f3 cv _ hK)
      have HY := Aside0.mk (And.intro hy (And.intro hyd hcv))
      clear c0 c1' c2' c3 hK hy hyd hcv hR hg
      by_cases hc : cv < 0
      · have hd4 : decide (cv < 0) = true := decide_eq_true hc
        have hk1 : k + 1 ≤ insK l x := hat.2 ⟨hlt, hc⟩
        clear hat
        go_upto_region 2 with (fail)
        refine wp_region_quiet_below (by kernel_rfl) (by kernel_rfl) ?_
        repeat (go_big_quiet_step (exact cC _ _))
        refine wpQuiet_nil ?_
        intro _ hw'
        obtain ⟨⟨dq, osq⟩, hw''⟩ := hw'
        subst hw''
        have H2 := Aside0.mk (below_regrown w1 dq osq)
        generalize grow (redrawn w1 dq) osq = w2 at *
        clear k0 k1 k2 k3 e0 e1 e2 e3 cC
        go_wp2_with fail
        exact ⟨⟨k + 1, hk1, by first | exact iw_succ k | exact iv_succ hwk.out, ⟨(H2.out.block bx (Array.getElem?_eq_some_iff.1 H1.out.1).1).trans H1.out.1, H1.out.2.trans (H2.out.mono H1.out.2.size)⟩⟩, by first | exact iw_meas hk1 | exact iv_meas hwk.out hk1⟩
      · have hd4 : decide (cv < 0) = false := decide_eq_false hc
        have hkK : insK l x = k := by
          have := hat.1
          by_cases h : k < insK l x
          · exact absurd (this h).2 hc
          · omega
        clear hat
        go_upto_region 2 with (fail)
        refine wp_region_quiet_below (by kernel_rfl) (by kernel_rfl) ?_
        repeat (go_big_quiet_step (exact cC _ _))
        refine wpQuiet_nil ?_
        intro _ hw'
        obtain ⟨⟨dq, osq⟩, hw''⟩ := hw'
        subst hw''
        have H2 := Aside0.mk (below_regrown w1 dq osq)
        have H3 := Aside0.mk (And.intro ((H2.out.block bx (Array.getElem?_eq_some_iff.1 H1.out.1).1).trans H1.out.1) (H1.out.2.trans (H2.out.mono H1.out.2.size)))
        generalize grow (redrawn w1 dq) osq = w2 at *
        have hR := HO.out.1.reads.below H3.out.2
        have c0 : w2.cell? ⟨g, o + k * 4, none⟩ = some (.string y.f0) := hR.at HY.out.1 (i := 0) rfl
        have c1' : w2.cell? ⟨g, o + k * 4 + 1, none⟩ = some (.int .u64 y.f1) := hR.at HY.out.1 (i := 1) rfl
        have c2' : w2.cell? ⟨g, o + k * 4 + 2, none⟩ = some (.int .i64 y.f2) := hR.at HY.out.1 (i := 2) rfl
        have c3 : w2.cell? ⟨g, o + k * 4 + 3, none⟩ = some (.string y.f3) := hR.at HY.out.1 (i := 3) rfl
        clear k0 k1 k2 k3 e0 e1 e2 e3 cC H2 H1
        have k0 := cell_regrown c0
        have k1 := cell_regrown c1'
        have k2 := cell_regrown c2'
        have k3 := cell_regrown c3
        have e0 : ∀ d os, (grow (redrawn w2 d) os).cell? ⟨bx, 0, none⟩ = some (.string x.f0) := cell_regrown (blk_cell H3.out.1 0)
        have e1 : ∀ d os, (grow (redrawn w2 d) os).cell? ⟨bx, 1, none⟩ = some (.int .u64 x.f1) := cell_regrown (blk_cell H3.out.1 1)
        have e2 : ∀ d os, (grow (redrawn w2 d) os).cell? ⟨bx, 2, none⟩ = some (.int .i64 x.f2) := cell_regrown (blk_cell H3.out.1 2)
        have e3 : ∀ d os, (grow (redrawn w2 d) os).cell? ⟨bx, 3, none⟩ = some (.string x.f3) := cell_regrown (blk_cell H3.out.1 3)
        obtain ⟨K, hK⟩ := Compare_ev y x (HO.out.2.1 y (List.mem_of_getElem? HY.out.1)) HO.out.2.2.1
        have hK := hK K (Nat.le_refl _)
        rw [HY.out.2.2] at hK
        have cC : ∀ d os, Calls Try.prog 22 #[.agg #[.string y.f0, .int .u64 y.f1, .int .i64 y.f2, .string y.f3], .agg #[.string x.f0, .int .u64 x.f1, .int .i64 x.f2, .string x.f3]] (grow (redrawn w2 d) os) fun e w'' => e = .returned (.int .i64 cv) ∧ ∃ p : Regrown, w'' = grow (redrawn w2 p.d) p.os := fun d os => Calls.regrown_of (cornucopiaref5_Compare.calls K y.f0 y.f1 y.f2 y.f3 x.f0 x.f1 x.f2 x.f3 cv _ hK)
        clear hK c0 c1' c2' c3 hR
        by_cases hz : cv = 0
        · have hz1 : (cv == 0) = true := beq_iff_eq.2 hz
          have hz2 : decide (cv = 0) = true := decide_eq_true hz
          have HI := Aside0.mk (show insL l x = l by unfold insL; rw [hkK, HY.out.2.1, HY.out.2.2]; exact if_pos ⟨hlt, hz⟩)
          clear hkK
          go_upto_region 4 with (fail)
          refine wp_region_quiet_below (by kernel_rfl) (by kernel_rfl) ?_
          repeat (go_big_quiet_step (exact cC _ _))
          refine wpQuiet_nil ?_
          intro _ hw'
          obtain ⟨⟨dq, osq⟩, hw''⟩ := hw'
          subst hw''
          have H4 := Aside0.mk (H3.out.2.trans ((below_regrown w2 dq osq).mono H3.out.2.size))
          generalize grow (redrawn w2 dq) osq = w3 at *
          clear k0 k1 k2 k3 e0 e1 e2 e3 cC
          go_wp2
          go_ret2
          unfold InsO
          rw [HI.out]
          exact ⟨_, _, _, rfl, HO.out.1.below H4.out, H4.out⟩
        · have hz1 : (cv == 0) = false := beq_eq_false_iff_ne.2 hz
          have hz2 : decide (cv = 0) = false := decide_eq_false hz
          have HI := Aside0.mk (show insL l x = l.take k ++ [x] ++ l.drop k by unfold insL; rw [hkK, HY.out.2.1, HY.out.2.2, if_neg (fun h => hz h.2)])
          have hkl : k ≤ l.length := by omega
          clear hkK
          go_upto_region 4 with (fail)
          refine wp_region_quiet_below (by kernel_rfl) (by kernel_rfl) ?_
          repeat (go_big_quiet_step (exact cC _ _))
          refine wpQuiet_nil ?_
          intro _ hw'
          obtain ⟨⟨dq, osq⟩, hw''⟩ := hw'
          subst hw''
          have H4 := Aside0.mk (And.intro (((below_regrown w2 dq osq).block bx (Array.getElem?_eq_some_iff.1 H3.out.1).1).trans H3.out.1) (H3.out.2.trans ((below_regrown w2 dq osq).mono H3.out.2.size)))
          generalize grow (redrawn w2 dq) osq = w3 at *
          clear k0 k1 k2 k3 e0 e1 e2 e3 cC
          go_upto_region 6 with (fail)
          obtain ⟨A1, c1, hs1, r1⟩ := cut_l (HO.out.1.below H4.out.2) hkl
          obtain ⟨A2, c2, hs2, r2⟩ := cut_r (HO.out.1.below H4.out.2) hkl
          obtain ⟨p1, k1, v1, p2, k2, v2, p3, k3, v3, rA1, rA2, rA3, bA1, bA3, oA⟩ := three_A (n := k) (m := l.length - k) (by rw [List.length_take, Nat.min_eq_left hkl]) (List.length_drop ..) r1 r2 c1 c2 x (by omega)
          obtain ⟨q1, j1, u1, q2, j2, u2, q3, j3, u3, rB1, rB2, rB3, bB1, bB3, oB⟩ := three_B (n := k) (m := l.length - k) (by rw [List.length_take, Nat.min_eq_left hkl]) (List.length_drop ..) r1 r2 c1 c2 x (by omega)
          have hA1 := (bA1.block bx (Array.getElem?_eq_some_iff.1 H4.out.1).1).trans H4.out.1
          have e0 : w3.cell? ⟨bx, 0, none⟩ = some (.string x.f0) := blk_cell H4.out.1 0
          have e1 : w3.cell? ⟨bx, 1, none⟩ = some (.int .u64 x.f1) := blk_cell H4.out.1 1
          have e2 : w3.cell? ⟨bx, 2, none⟩ = some (.int .i64 x.f2) := blk_cell H4.out.1 2
          have e3 : w3.cell? ⟨bx, 3, none⟩ = some (.string x.f3) := blk_cell H4.out.1 3
          have f0 : v1.cell? ⟨bx, 0, none⟩ = some (.string x.f0) := blk_cell hA1 0
          have f1 : v1.cell? ⟨bx, 1, none⟩ = some (.int .u64 x.f1) := blk_cell hA1 1
          have f2 : v1.cell? ⟨bx, 2, none⟩ = some (.int .i64 x.f2) := blk_cell hA1 2
          have f3 : v1.cell? ⟨bx, 3, none⟩ = some (.string x.f3) := blk_cell hA1 3
          have HF := Aside0.mk (And.intro (show b0 ≤ w3.heap.size from Nat.le_trans HO.out.2.2.2 H4.out.2.size) (And.intro bA3 (And.intro oA (And.intro bB3 oB))))
          have hlen := Aside0.mk (show (l.take k ++ [x] ++ l.drop k).length = k + 1 + (l.length - k) by simp only [List.length_append, List.length_take, List.length_drop, List.length_singleton, Nat.min_eq_left hkl])
          have hkc : (k : Int) ≤ (c : Int) := by omega
          have hkl2 : (k : Int) ≤ (l.length : Int) := by omega
          clear bA1 bA3 oA bB1 bB3 oB r1 r2 hA1
          dsimp only [boxE] at rA2 rB1
          go_region
          all_goals
            go_wp2_with fail
            go_ret2
            unfold InsO
            rw [HI.out, hlen.out]
            first
              | exact ⟨_, _, _, rfl, HF.out.2.2.1.less HF.out.1, H4.out.2.trans (HF.out.2.1.mono H4.out.2.size)⟩
              | exact ⟨_, _, _, rfl, HF.out.2.2.2.2.less HF.out.1, H4.out.2.trans (HF.out.2.2.2.1.mono H4.out.2.size)⟩
    · have hd1 : decide ((k : Int) < (l.length : Int)) = false := decide_eq_false (by omega)
      have hd2 : decide (k < l.length) = false := decide_eq_false hlt
      have hkK : insK l x = k := by
        have := hat.1
        by_cases h : k < insK l x
        · exact absurd (this h).1 hlt
        · omega
      have HI := Aside0.mk (show insL l x = l.take k ++ [x] ++ l.drop k by unfold insL; rw [hkK, if_neg (fun h => hlt h.1)])
      have hkl : k ≤ l.length := by have := insK_le l x; omega
      clear hat hkK
      go_upto_region 2 with (fail)
      refine wp_region_quiet_below (by kernel_rfl) (by kernel_rfl) ?_
      repeat (go_big_quiet_step (fail))
      refine wpQuiet_nil ?_
      intro _ hw'
      obtain ⟨⟨dq, osq⟩, hw''⟩ := hw'
      subst hw''
      have H3 := Aside0.mk (And.intro (((below_regrown w1 dq osq).block bx (Array.getElem?_eq_some_iff.1 H1.out.1).1).trans H1.out.1) (H1.out.2.trans ((below_regrown w1 dq osq).mono H1.out.2.size)))
      generalize grow (redrawn w1 dq) osq = w2 at *
      clear e0 e1 e2 e3
      go_upto_region 4 with (fail)
      refine wp_region_quiet_below (by kernel_rfl) (by kernel_rfl) ?_
      repeat (go_big_quiet_step (fail))
      refine wpQuiet_nil ?_
      intro _ hw'
      obtain ⟨⟨dq, osq⟩, hw''⟩ := hw'
      subst hw''
      have H4 := Aside0.mk (And.intro (((below_regrown w2 dq osq).block bx (Array.getElem?_eq_some_iff.1 H3.out.1).1).trans H3.out.1) (H3.out.2.trans ((below_regrown w2 dq osq).mono H3.out.2.size)))
      generalize grow (redrawn w2 dq) osq = w3 at *
      go_upto_region 6 with (fail)
      obtain ⟨A1, c1, hs1, r1⟩ := cut_l (HO.out.1.below H4.out.2) hkl
      obtain ⟨A2, c2, hs2, r2⟩ := cut_r (HO.out.1.below H4.out.2) hkl
      obtain ⟨p1, k1, v1, p2, k2, v2, p3, k3, v3, rA1, rA2, rA3, bA1, bA3, oA⟩ := three_A (n := k) (m := l.length - k) (by rw [List.length_take, Nat.min_eq_left hkl]) (List.length_drop ..) r1 r2 c1 c2 x (by omega)
      obtain ⟨q1, j1, u1, q2, j2, u2, q3, j3, u3, rB1, rB2, rB3, bB1, bB3, oB⟩ := three_B (n := k) (m := l.length - k) (by rw [List.length_take, Nat.min_eq_left hkl]) (List.length_drop ..) r1 r2 c1 c2 x (by omega)
      have hA1 := (bA1.block bx (Array.getElem?_eq_some_iff.1 H4.out.1).1).trans H4.out.1
      have e0 : w3.cell? ⟨bx, 0, none⟩ = some (.string x.f0) := blk_cell H4.out.1 0
      have e1 : w3.cell? ⟨bx, 1, none⟩ = some (.int .u64 x.f1) := blk_cell H4.out.1 1
      have e2 : w3.cell? ⟨bx, 2, none⟩ = some (.int .i64 x.f2) := blk_cell H4.out.1 2
      have e3 : w3.cell? ⟨bx, 3, none⟩ = some (.string x.f3) := blk_cell H4.out.1 3
      have f0 : v1.cell? ⟨bx, 0, none⟩ = some (.string x.f0) := blk_cell hA1 0
      have f1 : v1.cell? ⟨bx, 1, none⟩ = some (.int .u64 x.f1) := blk_cell hA1 1
      have f2 : v1.cell? ⟨bx, 2, none⟩ = some (.int .i64 x.f2) := blk_cell hA1 2
      have f3 : v1.cell? ⟨bx, 3, none⟩ = some (.string x.f3) := blk_cell hA1 3
      have HF := Aside0.mk (And.intro (show b0 ≤ w3.heap.size from Nat.le_trans HO.out.2.2.2 H4.out.2.size) (And.intro bA3 (And.intro oA (And.intro bB3 oB))))
      have hlen := Aside0.mk (show (l.take k ++ [x] ++ l.drop k).length = k + 1 + (l.length - k) by simp only [List.length_append, List.length_take, List.length_drop, List.length_singleton, Nat.min_eq_left hkl])
      have hkc : (k : Int) ≤ (c : Int) := by omega
      have hkl2 : (k : Int) ≤ (l.length : Int) := by omega
      clear bA1 bA3 oA bB1 bB3 oB r1 r2 hA1
      dsimp only [boxE] at rA2 rB1
      go_region
      all_goals
        go_wp2_with fail
        go_ret2
        unfold InsO
        rw [HI.out, hlen.out]
        first
          | exact ⟨_, _, _, rfl, HF.out.2.2.1.less HF.out.1, H4.out.2.trans (HF.out.2.1.mono H4.out.2.size)⟩
          | exact ⟨_, _, _, rfl, HF.out.2.2.2.2.less HF.out.1, H4.out.2.trans (HF.out.2.2.2.1.mono H4.out.2.size)⟩
end Go.Proofs.Ytdfaoafeojoceaa.Dr
