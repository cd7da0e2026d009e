/- Rows of tables. -/
import Derived.Test.YtikhjnokfakgiaaPkO
import Derived.Test.YtikhjnokfakgiaaRw
import Derived.Maps.OwnSet
import Derived.StringKeys
set_option linter.unusedSimpArgs false
set_option linter.unusedVariables false
namespace Go.Proofs.Ytikhjnokfakgiaa.Pk
open Go.RowKit Go.Maps Go.Proofs Go.Proofs.Ytikhjnokfakgiaa.Rw Go.Proofs.Ytikhjnokfakgiaa.PAll Go.Proofs.YtikhjnokfakgiaaW.PrintWords
attribute [local go_sem] put_fresh
attribute [-go_sem] Builtin.append_
attribute [-go_sem] sliced

def KT : Lie Tb := ⟨tcells, 5, by decide, fun _ => rfl, fun x u hu => tone x u hu⟩
theorem IT : Info Try.prog KT 23 42 56 := Info.mk' (z := .agg #[.int .i64 0, .int .i64 0, .int .i64 0, .string ByteArray.empty, .string ByteArray.empty]) Try.underlying23 (by kernel_rfl) rfl
theorem to_kd {W : World} {A : Option Addr} {L : List Tb} (h : Reads KT W A L) (hl : L.length ≤ 9223372036854775807) : Kd.C k42 W A L.length L :=
  ⟨rfl, hl, fun h0 => by
    obtain ⟨g, o, rfl, hg, hc⟩ := h h0
    refine ⟨_, rfl, fun j x hx => ⟨tcells x, rfl, ⟨[_], _, rfl, rfl, [_], _, rfl, rfl, [_], _, rfl, rfl, [_], [_], rfl, rfl, rfl⟩, fun i u hu => ?_⟩⟩
    have hi : i < 5 := (List.getElem?_eq_some_iff.1 hu).1
    have := hc (j * 5 + i) u (by
      have := map_at (K := KT) hx (show i < KT.size from hi)
      exact this.trans hu)
    rw [add_o]
    exact this⟩
theorem of_kd {W : World} {A : Option Addr} {L : List Tb} (h : Kd.C k42 W A L.length L) : Reads KT W A L :=
  Reads.of_kd (K := KT) rfl (fun x cs hx => k42_open hx) (fun x cs _ => ⟨_, rfl⟩) h
theorem cut_l {W : World} {b c : Nat} {A : Option Addr} {l : List Tb} (h : Rw.Own KT 42 W b A c l) {k : Nat} (hk : k ≤ l.length) : ∃ A1 c1, sliced A 0 k c 5 = .slice A1 k c1 ∧ Reads KT W A1 (l.take k) := by
  have hr := h.reads
  rcases h.2 with ⟨h0, h1⟩ | ⟨g, c', cur, hv, hg, hb, hn, hm, _⟩
  · obtain rfl : l = [] := List.length_eq_zero_iff.1 h1
    refine ⟨_, _, rfl, ?_⟩
    rw [List.take_nil]
    exact Reads.nil _ _
  · cases hv
    refine ⟨_, _, rfl, ?_⟩
    have e : (if c = 0 then some (⟨g, 0, none⟩ : Addr) else (some (⟨g, 0, none⟩ : Addr)).map (·.add (0 * 4))) = some ⟨g, 0, none⟩ := by
      split
      · rfl
      · simp only [Option.map_some, add_o, Nat.zero_mul, Nat.add_zero]
    rw [e]
    have := hr.part 0 (M := l.take k) (fun j y hy => by
      rw [Nat.zero_add]
      have hj := (List.getElem?_eq_some_iff.1 hy).1
      rw [List.length_take] at hj
      rwa [List.getElem?_take_of_lt (by omega)] at hy)
    simpa using this
theorem cut_r {W : World} {b c : Nat} {A : Option Addr} {l : List Tb} (h : Rw.Own KT 42 W b A c l) {k : Nat} (hk : k ≤ l.length) : ∃ A1 c1, sliced A k l.length c 5 = .slice A1 (l.length - k) c1 ∧ Reads KT W A1 (l.drop k) := by
  have hr := h.reads
  rcases h.2 with ⟨h0, h1⟩ | ⟨g, c', cur, hv, hg, hb, hn, hm, _⟩
  · obtain rfl : l = [] := List.length_eq_zero_iff.1 h1
    refine ⟨_, _, rfl, ?_⟩
    rw [List.drop_nil]
    exact Reads.nil _ _
  · cases hv
    refine ⟨_, _, rfl, ?_⟩
    by_cases hck : c = k
    · have : l.drop k = [] := List.drop_eq_nil_iff.2 (by omega)
      rw [this]
      exact Reads.nil _ _
    · rw [if_neg hck]
      simp only [Option.map_some, add_o]
      exact hr.part k (M := l.drop k) (fun j y hy => by rwa [List.getElem?_drop] at hy)
theorem ap0 {d : World} {base m : Nat} {A : Option Addr} {M : List Tb} (hM : M.length = m) (hs : Reads KT d A M) (c : Nat) (hl : m ≤ 100000) (hb : base ≤ d.heap.size) :
    ∃ p c2 w, (∀ ty, (Builtin.append_ #[23, 23] ty #[.slice none 0 0, .slice A m c]).run Try.prog d = .ok (.slice p m c2) w) ∧ Rw.Own KT 42 w base p c2 M ∧ Below d.heap.size d w := by
  subst hM
  obtain ⟨p, c2, w, h1, h2, h3, _⟩ := app IT (Rw.Own.nil KT 42 d base) hs c (by simp; omega) (by simp [maxLen]; omega) hb
  simp only [List.length_nil, Nat.zero_add, List.nil_append] at h1 h2
  exact ⟨p, c2, w, h1, h2, (Below.refl _ _).grown h3 (Nat.le_refl _) (fun k e => by cases e)⟩
theorem own_ge {W : World} {base c k : Nat} {A : Option Addr} {e : TypeId} {L : List Tb} {n : Nat} (h : Rw.Own KT e W base A c L) (hk : (Value.slice A n c).ownBlock = some k) : base ≤ k := by
  rcases h.2 with ⟨h0, h1⟩ | ⟨g, c', cur, hv, hg, hb, _⟩
  · simp at h0; rw [h0.1] at hk; cases hk
  · cases hv
    obtain rfl : g = k := by simpa [Value.ownBlock] using hk
    exact hg
theorem ap1 {d : World} {base n m cn : Nat} {A0 A : Option Addr} {L M : List Tb} (hL : L.length = n) (hM : M.length = m) (ho : Rw.Own KT 42 d base A0 cn L) (hs : Reads KT d A M) (c : Nat) (hl : n + m ≤ 100000) (hb : base ≤ d.heap.size) :
    ∃ p c2 w, (∀ ty, (Builtin.append_ #[23, 23] ty #[.slice A0 n cn, .slice A m c]).run Try.prog d = .ok (.slice p (n + m) c2) w) ∧ Rw.Own KT 42 w base p c2 (L ++ M) ∧ Below base d w := by
  subst hL hM
  obtain ⟨p, c2, w, h1, h2, h3, _⟩ := app IT ho hs c (by omega) (by simp [maxLen]; omega) hb
  exact ⟨p, c2, w, h1, h2, (Below.refl base d).grown h3 hb (fun k e => own_ge ho e)⟩
abbrev boxE (x : Tb) : Obj := .cells #[.int .i64 x.f0, .int .i64 x.f1, .int .i64 x.f2, .string x.f3, .string x.f4] 42
theorem reads_box {d : World} {b : Nat} {x : Tb} (h : d.heap[b]? = some (boxE x)) : Reads KT d (some ⟨b, 0, none⟩) [x] := Reads.blk h rfl
/-- append(append(append(nil, l[:k]...), x), l[k:]...): the element laid between. -/
theorem three_A {w : World} {A1 A2 : Option Addr} {L M : List Tb} {n m : Nat} (hL : L.length = n) (hM : M.length = m) (h1 : Reads KT w A1 L) (h2 : Reads KT w A2 M) (c1 c2 : Nat) (x : Tb) (hl : n + 1 + m ≤ 100000) :
    ∃ p1 k1 w1 p2 k2 w2 p3 k3 w3, (∀ ty, (Builtin.append_ #[23, 23] ty #[.slice none 0 0, .slice A1 n c1]).run Try.prog w.drew = .ok (.slice p1 n k1) w1) ∧
      (∀ ty, (Builtin.append_ #[23, 23] ty #[.slice p1 n k1, .slice (some ⟨w1.heap.size, 0, none⟩) 1 1]).run Try.prog (w1.alloc (boxE x)) = .ok (.slice p2 (n + 1) k2) w2) ∧
      (∀ ty, (Builtin.append_ #[23, 23] ty #[.slice p2 (n + 1) k2, .slice A2 m c2]).run Try.prog w2 = .ok (.slice p3 (n + 1 + m) k3) w3) ∧
      Below w.heap.size w w1 ∧ Below w.heap.size w w3 ∧ Rw.Own KT 42 w3 w.heap.size p3 k3 (L ++ [x] ++ M) := by
  have b0 : Below w.heap.size w w.drew := below_drew1 (Below.refl _ _)
  obtain ⟨p1, k1, w1, r1, o1, b1⟩ := ap0 (base := w.heap.size) hL (h1.below b0) c1 (by omega) (Nat.le_refl _)
  have b01 : Below w.heap.size w w1 := b0.trans b1
  have bA := below_alloc (Below.refl w1.heap.size w1) (boxE x)
  have bAw : Below w.heap.size w (w1.alloc (boxE x)) := below_alloc b01 (boxE x)
  obtain ⟨p2, k2, w2, r2, o2, b2⟩ := ap1 (m := 1) hL rfl (o1.below bA) (reads_box (heap_alloc_new w1 (boxE x))) 1 (by omega) bAw.size
  have b02 : Below w.heap.size w w2 := bAw.trans b2
  obtain ⟨p3, k3, w3, r3, o3, b3⟩ := ap1 (n := n + 1) (by simp [hL]) hM o2 (h2.below b02) c2 (by omega) b02.size
  exact ⟨p1, k1, w1, p2, k2, w2, p3, k3, w3, r1, r2, r3, b01, b02.trans b3, o3⟩
/-- The same, the element laid first. -/
theorem three_B {w : World} {A1 A2 : Option Addr} {L M : List Tb} {n m : Nat} (hL : L.length = n) (hM : M.length = m) (h1 : Reads KT w A1 L) (h2 : Reads KT w A2 M) (c1 c2 : Nat) (x : Tb) (hl : n + 1 + m ≤ 100000) :
    ∃ p1 k1 w1 p2 k2 w2 p3 k3 w3, (∀ ty, (Builtin.append_ #[23, 23] ty #[.slice none 0 0, .slice A1 n c1]).run Try.prog (w.alloc (boxE x)).drew = .ok (.slice p1 n k1) w1) ∧
      (∀ ty, (Builtin.append_ #[23, 23] ty #[.slice p1 n k1, .slice (some ⟨w.heap.size, 0, none⟩) 1 1]).run Try.prog w1 = .ok (.slice p2 (n + 1) k2) w2) ∧
      (∀ ty, (Builtin.append_ #[23, 23] ty #[.slice p2 (n + 1) k2, .slice A2 m c2]).run Try.prog w2 = .ok (.slice p3 (n + 1 + m) k3) w3) ∧
      Below w.heap.size w w1 ∧ Below w.heap.size w w3 ∧ Rw.Own KT 42 w3 w.heap.size p3 k3 (L ++ [x] ++ M) := by
  have b0 : Below w.heap.size w (w.alloc (boxE x)).drew := below_drew1 (below_alloc (Below.refl _ _) _)
  have hz : (w.alloc (boxE x)).drew.heap.size = w.heap.size + 1 := by show (w.alloc (boxE x)).heap.size = _; simp
  obtain ⟨p1, k1, w1, r1, o1, b1⟩ := ap0 (base := w.heap.size) hL (h1.below b0) c1 (by omega) (by omega)
  have b01 : Below w.heap.size w w1 := b0.trans (b1.mono (by omega))
  have hx : w1.heap[w.heap.size]? = some (boxE x) := (b1.block _ (by omega)).trans (heap_alloc_new w (boxE x))
  obtain ⟨p2, k2, w2, r2, o2, b2⟩ := ap1 (m := 1) hL rfl o1 (reads_box hx) 1 (by omega) b01.size
  have b02 : Below w.heap.size w w2 := b01.trans b2
  obtain ⟨p3, k3, w3, r3, o3, b3⟩ := ap1 (n := n + 1) (by simp [hL]) hM o2 (h2.below b02) c2 (by omega) b02.size
  exact ⟨p1, k1, w1, p2, k2, w2, p3, k3, w3, r1, r2, r3, b01, b02.trans b3, o3⟩
end Go.Proofs.Ytikhjnokfakgiaa.Pk
