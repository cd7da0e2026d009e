/- What drop's functions deal with: versions, spans, rules, a filter in the heap. -/
import Derived.Test.YtdfaoafeojoceaaPAllx0
import Derived.Test.YtdfaoafeojoceaaRw
import Derived.Maps.OwnSet
import Derived.KernelRfl
import Derived.StringKeys
import Derived.Deep.RegionWith
set_option linter.unusedSimpArgs false
set_option linter.unusedVariables false
namespace Go.Proofs.Ytdfaoafeojoceaa.Dr
open Go.RowKit Go.Maps Go.Proofs.Ytdfaoafeojoceaa.Rw Go.Proofs.Ytdfaoafeojoceaa.PAll Go.Proofs.YtdfaoafeojoceaaW.PrintWords

/-! ### kinds -/
abbrev En := S37
def ecells (x : En) : List Value := [.string x.f0, .int .u64 x.f1, .int .i64 x.f2, .string x.f3]
def eval_ (x : En) : Value := .agg #[.string x.f0, .int .u64 x.f1, .int .i64 x.f2, .string x.f3]
def KE : Lie En := ⟨ecells, 4, by decide, fun _ => rfl, fun x u hu => by
  simp only [ecells, List.mem_cons, List.not_mem_nil, or_false] at hu
  rcases hu with rfl | rfl | rfl | rfl <;> rfl⟩
def KN : Lie Int := ⟨fun n => [.int .u64 n], 1, by decide, fun _ => rfl, fun x u hu => by
  simp only [List.mem_cons, List.not_mem_nil, or_false] at hu
  rcases hu with rfl; rfl⟩
/-- A span. -/
structure Sp where
  a : Int
  b : Int
  c : Int
  d : Int
  fr : Int
  tt : Int
instance : Inhabited Sp := ⟨⟨0, 0, 0, 0, 0, 0⟩⟩
def scells (x : Sp) : List Value := [.int .u8 x.a, .int .u8 x.b, .int .u8 x.c, .int .u8 x.d, .int .u64 x.fr, .int .u64 x.tt]
def KS : Lie Sp := ⟨scells, 6, by decide, fun _ => rfl, fun x u hu => by
  simp only [scells, List.mem_cons, List.not_mem_nil, or_false] at hu
  rcases hu with rfl | rfl | rfl | rfl | rfl | rfl <;> rfl⟩
/-- A rule: a prefix, and spans that stand at an address. -/
structure Rv where
  p : ByteArray
  A : Option Addr
  c : Nat
  l : List Sp
def rcells (x : Rv) : List Value := [.string x.p, .slice x.A x.l.length x.c]
def KR : Lie Rv := ⟨rcells, 2, by decide, fun _ => rfl, fun x u hu => by
  simp only [rcells, List.mem_cons, List.not_mem_nil, or_false] at hu
  rcases hu with rfl | rfl <;> rfl⟩
theorem IE : Info Try.prog KE 22 37 48 := Info.mk' (z := .agg #[.string ByteArray.empty, .int .u64 0, .int .i64 0, .string ByteArray.empty]) Try.underlying22 (by kernel_rfl) rfl
theorem IS : Info Try.prog KS 55 47 24 := Info.mk' (z := .agg #[.int .u8 0, .int .u8 0, .int .u8 0, .int .u8 0, .int .u64 0, .int .u64 0]) Try.underlying55 (by kernel_rfl) rfl
theorem iw_succ (k : Nat) : Value.int .i64 ((k : Int) + 1) = Value.int .i64 ((k + 1 : Nat) : Int) := congrArg (Value.int .i64) (by omega)
theorem iw_meas {k n : Nat} (hk : k < n) : n - (intOf (Value.int .i64 ((k : Int) + 1))).toNat < n - (intOf (Value.int .i64 (k : Int))).toNat := by
  simp only [intOf]; omega
theorem iv_succ {k : Nat} (h : wrap64 ((k : Int) + 1) = (k : Int) + 1) : Value.int .i64 (wrap64 ((k : Int) + 1)) = Value.int .i64 ((k + 1 : Nat) : Int) := congrArg (Value.int .i64) (h.trans (by omega))
theorem iv_meas {k n : Nat} (h : wrap64 ((k : Int) + 1) = (k : Int) + 1) (hk : k < n) : n - (intOf (Value.int .i64 (wrap64 ((k : Int) + 1)))).toNat < n - (intOf (Value.int .i64 (k : Int))).toNat := by
  rw [h]; simp only [intOf]; omega
theorem put_fresh {w : World} {t : TypeId} {cs : Array Value} (j : Nat) (v : Value) : (w.alloc (.cells cs t)).setCell ⟨w.heap.size, j, none⟩ v = w.alloc (.cells (cs.setIfInBounds j v) t) := by
  have e : ∀ h : Array Obj, h.size = w.heap.size → (h.push (.cells cs t)).modify w.heap.size (fun o => match o with | .cells c ty fr => .cells (c.setIfInBounds j v) ty fr | o => o) = h.push (.cells (cs.setIfInBounds j v) t) := by
    intro h hs
    apply Array.ext
    · simp
    · intro i h1 h2
      by_cases hi : i = w.heap.size
      · subst hi
        simp [Array.getElem_modify, ← hs]
      · have : i < h.size := by simp at h2; omega
        simp [Array.getElem_modify, Array.getElem_push, this, Ne.symm hi]
  simp only [World.setCell, World.alloc]
  congr 1
  exact e w.heap rfl
/-! ### a map whose values are told as they stand -/
def vElem (v : Value) : Option (DataW Value × List MemPlace) := some (.held v, [])
theorem tight {P : Program} {k : TypeId} {R : Value → Option (DataW Value × List MemPlace)} {w : World} {b n : Nat} {D : DataW Value} (h : w.ownsMap P k R b n D) : w.ownsMap P k R b (Maps.size D) D := by
  obtain ⟨es, clock, hb, F, hs, rfl⟩ := h
  refine ⟨es, clock, hb, F, ?_, rfl⟩
  simp [Maps.size, length_sorted]
theorem skeyed : Keyed Try.prog 9 := string_keyed Try.underlying9
def sk (s : ByteArray) : Lit := .string s.data.toList
theorem sk_inj {s t : ByteArray} (h : sk s = sk t) : s = t := by
  simp only [sk, Lit.string.injEq] at h
  exact ByteArray.ext (Array.toList_inj.1 h)
theorem sk_key (s : ByteArray) : WideAt.IsKeyLit (sk s) := by simp [WideAt.IsKeyLit, sk]
/-! ### a filter -/
/-- What a filter's map says: for each prefix its spans; they stand in blocks that are not the map's. -/
structure MapAt (W : World) (b : Nat) (M : ByteArray → Option (List Sp)) (n : Nat) : Prop where
  has_ : ∃ D : DataW Value, W.ownsMap Try.prog 9 vElem b n D ∧ Maps.size D = n ∧
    (∀ s, M s = none → has D (sk s) = false) ∧
    ∀ s l, M s = some l → ∃ A c, (∀ z, D.atKey (sk s) z = .held (.slice A l.length c)) ∧ Reads KS W A l ∧ ∀ g o, A = some ⟨g, o, none⟩ → g ≠ b
/-- A filter at B. -/
def FiltAt (W : World) (B : Nat) (M : ByteArray → Option (List Sp)) (n : Nat) : Prop :=
  ∃ m, W.heap[B]? = some (.cells #[m] 28 (0, 0)) ∧ ((m = .map none ∧ (∀ s, M s = none) ∧ n = 0) ∨ ∃ b, m = .map (some b) ∧ MapAt W b M n)
theorem MapAt.lt {W : World} {b n : Nat} {M : ByteArray → Option (List Sp)} (h : MapAt W b M n) : b < W.heap.size := by
  obtain ⟨D, hD, _⟩ := h.has_
  exact hD.lt
theorem MapAt.below {W W' : World} {b n : Nat} {M : ByteArray → Option (List Sp)} (h : MapAt W b M n) (hb : Below W.heap.size W W') : MapAt W' b M n := by
  obtain ⟨D, hD, hs, h1, h2⟩ := h.has_
  have hlt := hD.lt
  refine ⟨D, ?_, hs, h1, fun s l hl => ?_⟩
  · obtain ⟨es, clock, hh, F, hn, e⟩ := hD
    exact ⟨es, clock, (hb.block b hlt).trans hh, F, hn, e⟩
  · obtain ⟨A, c, ha, hr, hg⟩ := h2 s l hl
    exact ⟨A, c, ha, hr.below hb, hg⟩
theorem FiltAt.below {W W' : World} {B n : Nat} {M : ByteArray → Option (List Sp)} (h : FiltAt W B M n) (hb : Below W.heap.size W W') : FiltAt W' B M n := by
  obtain ⟨m, hB, hm⟩ := h
  refine ⟨m, (hb.block B (Array.getElem?_eq_some_iff.1 hB).1).trans hB, ?_⟩
  rcases hm with hm | ⟨b, rfl, hm⟩
  · exact .inl hm
  · exact .inr ⟨b, rfl, hm.below hb⟩
theorem zero_spans (w : World) : (zeroValue 55).run Try.prog w = .ok (.slice none 0 0) w := by kernel_rfl
/-- A prefix is looked up. -/
theorem FiltAt.look {W : World} {B n : Nat} {M : ByteArray → Option (List Sp)} (h : FiltAt W B M n) {s : ByteArray} (hs : s.size ≤ maxLen) :
    ∃ m v, W.heap[B]? = some (.cells #[m] 28 (0, 0)) ∧ (Instr.lookup 26 m (.string s) true).run Try.prog W = .ok (.tuple #[v, .bool (M s).isSome]) W ∧
      (∀ l, M s = some l → ∃ A c, v = .slice A l.length c ∧ Reads KS W A l) ∧ (M s = none → v = .slice none 0 0) := by
  have hkey := WideMaps.keyOf_string_mk (P := Try.prog) (k := 9) Try.underlying9 hs
  obtain ⟨m, hB, ⟨rfl, h0, _⟩ | ⟨b, rfl, hm⟩⟩ := h
  · refine ⟨.map none, .slice none 0 0, hB, ?_, fun l hl => (by rw [h0] at hl; cases hl), fun _ => rfl⟩
    rw [Maps.look_nil true skeyed Try.underlying26 (zero_spans W) hkey, h0]
    rfl
  · obtain ⟨D, hD, _, h1, h2⟩ := hm.has_
    obtain ⟨v, ps, hup, hv⟩ := hD.look_ok skeyed Try.underlying26 (zero_spans W) (zd := .held (.slice none 0 0)) (zp := []) rfl hkey
    simp only [vElem, Option.some.injEq, Prod.mk.injEq] at hv
    cases hM : M s with
    | none =>
      have hh := h1 s hM
      have hv1 := hv.1
      rw [show Lit.string s.data.toList = sk s from rfl, atKey_of_not_has hh] at hv1
      rw [show Lit.string s.data.toList = sk s from rfl, hh] at hup
      exact ⟨_, v, hB, by simpa using hup, fun l hl => (by cases hl), fun _ => by simpa using hv1⟩
    | some l =>
      obtain ⟨A, c, ha, hr, _⟩ := h2 s l hM
      have hh : has D (sk s) = true := has_true_of_atKey ha
      have hv1 := hv.1
      rw [show Lit.string s.data.toList = sk s from rfl, ha] at hv1
      rw [show Lit.string s.data.toList = sk s from rfl, hh] at hup
      refine ⟨_, v, hB, by simpa using hup, fun l' hl' => ⟨A, c, ?_, ?_⟩, fun h => by cases h⟩
      · cases hl'
        simpa using hv1
      · cases hl'
        exact hr
/-- How many prefixes. -/
theorem FiltAt.len {W : World} {B n : Nat} {M : ByteArray → Option (List Sp)} (h : FiltAt W B M n) :
    ∃ m, W.heap[B]? = some (.cells #[m] 28 (0, 0)) ∧ ∀ ty, (Builtin.len_ #[26] ty #[m]).run Try.prog W = .ok (.int .i64 n) W := by
  obtain ⟨m, hB, ⟨rfl, h0, rfl⟩ | ⟨b, rfl, hm⟩⟩ := h
  · exact ⟨_, hB, fun ty => Maps.len_nil Try.underlying26 ty⟩
  · obtain ⟨D, hD, hs, _⟩ := hm.has_
    exact ⟨_, hB, fun ty => by rw [hD.len Try.underlying26 ty, hs]⟩
/-- A rule more. -/
def upd (M : ByteArray → Option (List Sp)) (p : ByteArray) (l : List Sp) : ByteArray → Option (List Sp) := fun s => if s = p then some l else M s
theorem MapAt.put {W : World} {b n : Nat} {M : ByteArray → Option (List Sp)} (h : MapAt W b M n) {p : ByteArray} {l : List Sp} {A : Option Addr} {c : Nat} (hp : p.size ≤ maxLen) (hn : n < maxLen) (hr : Reads KS W A l) (hA : ∀ g o, A = some ⟨g, o, none⟩ → g ≠ b) :
    ∃ W', (Instr.mapUpdate 26 (.map (some b)) (.string p) (.slice A l.length c)).run Try.prog W = .ok () W' ∧ MapAt W' b (upd M p l) (if (M p).isSome then n else n + 1) ∧ W.grownBy W' (some b) := by
  have hkey := WideMaps.keyOf_string_mk (P := Try.prog) (k := 9) Try.underlying9 hp
  obtain ⟨D, hD, hs, h1, h2⟩ := h.has_
  obtain ⟨W', hup, hw, hg⟩ := hD.update skeyed Try.underlying26 hn hkey (val := .slice A l.length c) (d := .held (.slice A l.length c)) (ps := []) rfl
  have ht := hD.tidy skeyed
  have hz : Maps.size (D.put (sk p) (.held (.slice A l.length c))) = if (M p).isSome then n else n + 1 := by
    rw [size_put ht, hs]
    cases hM : M p with
    | none => rw [h1 p hM]; rfl
    | some l' =>
      obtain ⟨A', c', ha, _⟩ := h2 p l' hM
      rw [has_true_of_atKey ha]; rfl
  refine ⟨W', hup, ⟨⟨_, ?_, hz, fun s hM => ?_, fun s l' hM => ?_⟩⟩, hg⟩
  · have := tight hw
    rw [show Lit.string p.data.toList = sk p from rfl, hz] at this
    exact this
  · unfold upd at hM
    split at hM
    · cases hM
    · rename_i hne
      rw [has_put_other (fun e => hne (sk_inj e))]
      exact h1 s hM
  · unfold upd at hM
    split at hM
    · rename_i e
      subst e
      cases hM
      exact ⟨A, c, fun z => atKey_put_same ht.isMap (sk_key s) _ z, hr.grown hg (fun g o e => by simpa using hA g o e), hA⟩
    · rename_i hne
      obtain ⟨A', c', ha, hr', hA'⟩ := h2 s l' hM
      exact ⟨A', c', fun z => by rw [atKey_put_other (fun e => hne (sk_inj e))]; exact ha z, hr'.grown hg (fun g o e => by simpa using hA' g o e), hA'⟩
end Go.Proofs.Ytdfaoafeojoceaa.Dr
