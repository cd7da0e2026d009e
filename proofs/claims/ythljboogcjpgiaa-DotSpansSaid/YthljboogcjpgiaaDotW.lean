/- Dots as keys of a map, in the words of the walks. -/
import Derived.Test.YthljboogcjpgiaaPAllx0
import Derived.Test.YthljboogcjpgiaaPb
import Derived.Maps.OwnSet
import Derived.DeepKeys5
import Derived.KernelRfl
set_option linter.unusedSimpArgs false
set_option linter.unusedVariables false
namespace Go.Proofs.Ythljboogcjpgiaa.Ds
open Go.RowKit Go.Maps Go.Proofs.Ythljboogcjpgiaa.PAll Go.Proofs.YthljboogcjpgiaaW.PrintWords

abbrev Dt := S26
/-- A dot's cells. -/
def dcells (x : Dt) : List Value := [.int .u8 x.f0.f0, .int .u8 x.f0.f1, .int .u8 x.f0.f2, .int .u8 x.f0.f3, .int .u64 x.f1]
/-- Each word is of its kind. -/
structure Wd (x : Dt) : Prop where
  a : 0 ≤ x.f0.f0 ∧ x.f0.f0 < 256
  b : 0 ≤ x.f0.f1 ∧ x.f0.f1 < 256
  c : 0 ≤ x.f0.f2 ∧ x.f0.f2 < 256
  d : 0 ≤ x.f0.f3 ∧ x.f0.f3 < 256
  n : 0 ≤ x.f1 ∧ x.f1 < 18446744073709551616
instance (x : Dt) : Decidable (Wd x) := decidable_of_iff ((0 ≤ x.f0.f0 ∧ x.f0.f0 < 256) ∧ (0 ≤ x.f0.f1 ∧ x.f0.f1 < 256) ∧ (0 ≤ x.f0.f2 ∧ x.f0.f2 < 256) ∧ (0 ≤ x.f0.f3 ∧ x.f0.f3 < 256) ∧ (0 ≤ x.f1 ∧ x.f1 < 18446744073709551616)) ⟨fun h => ⟨h.1, h.2.1, h.2.2.1, h.2.2.2.1, h.2.2.2.2⟩, fun h => ⟨h.a, h.b, h.c, h.d, h.n⟩⟩
structure Vd where
  v : Dt
  p : Wd v
def venc (x : Vd) : List Value := dcells x.1
def vval (x : Vd) : Value := .agg (venc x).toArray
theorem venc_length (x : Vd) : (venc x).length = 5 := rfl
theorem venc_one (x : Vd) : ∀ v ∈ venc x, v.oneCell' = true := by
  intro v hv
  simp only [venc, dcells, List.mem_cons, List.not_mem_nil, or_false] at hv
  rcases hv with rfl | rfl | rfl | rfl | rfl <;> rfl
theorem wf8_iff (n : Int) : (Lit.int .u8 n).wf = true ↔ 0 ≤ n ∧ n < 256 := by
  simp only [Lit.wf, IntKind.min, IntKind.max, IntKind.signed, IntKind.bits, Bool.and_eq_true, decide_eq_true_eq]
  constructor
  · intro h
    simp at h
    omega
  · intro h
    simp
    omega
theorem wf64_iff (n : Int) : (Lit.int .u64 n).wf = true ↔ 0 ≤ n ∧ n < 18446744073709551616 := by
  simp only [Lit.wf, IntKind.min, IntKind.max, IntKind.signed, IntKind.bits, Bool.and_eq_true, decide_eq_true_eq]
  constructor
  · intro h
    simp at h
    omega
  · intro h
    simp
    omega
theorem laidOut : laidOutB Try.prog = true := by kernel_rfl
theorem dlaw : WideMaps.KeyLaw Try.prog 26 := deep_law_gate laidOut (of_decide_eq_true (by kernel_rfl)) (of_decide_eq_true (by kernel_rfl)) (by kernel_rfl) (by rw [Try.underlying26])
theorem dkeyed : Keyed Try.prog 26 := Keyed.of_law dlaw
/-- The bytes that a dot is told by, as a map's key. -/
def kb (x : Vd) : List UInt8 := keyBytes [.int .u8 x.1.f0.f0, .int .u8 x.1.f0.f1, .int .u8 x.1.f0.f2, .int .u8 x.1.f0.f3, .int .u64 x.1.f1]
theorem c5 : Try.prog.cellsOf 5 = 1 := by kernel_rfl
theorem c23 : Try.prog.cellsOf 23 = 4 := by kernel_rfl
theorem c24 : Try.prog.cellsOf 24 = 1 := by kernel_rfl
theorem c26 : Try.prog.cellsOf 26 = 5 := by kernel_rfl
theorem ktype : Try.prog.keyType 26 = true := by kernel_rfl
theorem ntypes : ∃ n, Try.prog.types.size + 1 = n + 4 := ⟨Try.prog.types.size + 1 - 4, by have : 4 ≤ Try.prog.types.size + 1 := of_decide_eq_true (by kernel_rfl); omega⟩
theorem keyOf_dot (x : Vd) : keyOf Try.prog 26 (vval x) = some (.string (kb x)) := by
  obtain ⟨n, hn⟩ := ntypes
  have ha := (wf8_iff _).2 x.2.a
  have hb := (wf8_iff _).2 x.2.b
  have hc := (wf8_iff _).2 x.2.c
  have hd := (wf8_iff _).2 x.2.d
  have hw := (wf64_iff _).2 x.2.n
  have hf : (vval x).formed Try.prog 26 = true := by
    simp [vval, Value.formed, Try.underlying26, c26, venc_length]
  simp only [keyOf, Try.underlying26, ktype, hf, Bool.and_self, if_true, hn]
  simp only [vval, Value.cells, List.toList_toArray, venc, dcells]
  simp [Program.keyLits, Try.underlying26, Try.underlying23, Try.underlying5, Try.underlying24, c5, c23, c24, c26, ha, hb, hc, hd, hw, List.range_succ, kb]
theorem kl_int {q : IntKind} {n : Nat} {ty : TypeId} {v : Value} {ls : List Lit} (ht : Try.prog.underlying ty = some (.int q)) (h : Try.prog.keyLits (n + 1) ty [v] = some ls) : ∃ x, v = .int q x ∧ (Lit.int q x).wf = true ∧ ls = [.int q x] := by
  unfold Program.keyLits at h
  rw [ht] at h
  cases v with
  | int q' x =>
    simp only at h
    split at h
    · rename_i hc
      obtain ⟨rfl, hw⟩ := hc
      exact ⟨x, rfl, hw, (Option.some.inj h).symm⟩
    · cases h
  | _ => simp at h
theorem kl_actor {n : Nat} {v0 v1 v2 v3 : Value} {ls : List Lit} (h : Try.prog.keyLits (n + 2) 23 [v0, v1, v2, v3] = some ls) :
    ∃ a b c d, v0 = .int .u8 a ∧ v1 = .int .u8 b ∧ v2 = .int .u8 c ∧ v3 = .int .u8 d ∧ (Lit.int .u8 a).wf = true ∧ (Lit.int .u8 b).wf = true ∧ (Lit.int .u8 c).wf = true ∧ (Lit.int .u8 d).wf = true ∧ ls = [.int .u8 a, .int .u8 b, .int .u8 c, .int .u8 d] := by
  unfold Program.keyLits at h
  rw [Try.underlying23] at h
  simp only [c23, c5, List.length_cons, List.length_nil, if_true, Option.map_eq_some_iff, List.range_succ, List.range_zero, List.nil_append, List.cons_append, List.mapM_cons, List.mapM_nil] at h
  obtain ⟨xs, h, rfl⟩ := h
  simp only [Option.bind_eq_bind, Option.bind_eq_some_iff, Option.pure_def, Option.some.injEq] at h
  obtain ⟨l0, h0, l1, ⟨l2, h2, l3, ⟨l4, h4, l5, ⟨l6, h6, l7, rfl, rfl⟩, rfl⟩, rfl⟩, rfl⟩ := h
  obtain ⟨a, rfl, ha, rfl⟩ := kl_int Try.underlying5 (show Try.prog.keyLits (n + 1) 5 [v0] = some l0 from h0)
  obtain ⟨b, rfl, hb, rfl⟩ := kl_int Try.underlying5 (show Try.prog.keyLits (n + 1) 5 [v1] = some l2 from h2)
  obtain ⟨c, rfl, hc, rfl⟩ := kl_int Try.underlying5 (show Try.prog.keyLits (n + 1) 5 [v2] = some l4 from h4)
  obtain ⟨d, rfl, hd, rfl⟩ := kl_int Try.underlying5 (show Try.prog.keyLits (n + 1) 5 [v3] = some l6 from h6)
  exact ⟨a, b, c, d, rfl, rfl, rfl, rfl, ha, hb, hc, hd, rfl⟩
theorem kl_dot {n : Nat} {v0 v1 v2 v3 v4 : Value} {ls : List Lit} (h : Try.prog.keyLits (n + 3) 26 [v0, v1, v2, v3, v4] = some ls) :
    ∃ x : Vd, Value.agg #[v0, v1, v2, v3, v4] = vval x ∧ keyBytes ls = kb x := by
  unfold Program.keyLits at h
  rw [Try.underlying26] at h
  simp only [c26, c23, c24, List.length_cons, List.length_nil, true_and] at h
  split at h
  case isFalse => cases h
  obtain ⟨xs, hx, hls⟩ := Option.map_eq_some_iff.1 h
  clear h
  have h := hx
  clear hx
  subst hls
  simp only [List.mapM_cons, List.mapM_nil, Option.bind_eq_bind, Option.bind_eq_some_iff, Option.pure_def, Option.some.injEq] at h
  obtain ⟨l0, h0, l1, ⟨l2, h2, l3, rfl, rfl⟩, rfl⟩ := h
  rw [c23] at h0
  rw [c24] at h2
  obtain ⟨a, b, c, d, rfl, rfl, rfl, rfl, ha, hb, hc, hd, rfl⟩ := kl_actor (show Try.prog.keyLits (n + 2) 23 [v0, v1, v2, v3] = some l0 from h0)
  obtain ⟨m, rfl, hm, rfl⟩ := kl_int Try.underlying24 (show Try.prog.keyLits (n + 1 + 1) 24 [v4] = some l2 from h2)
  exact ⟨⟨⟨⟨a, b, c, d⟩, m⟩, ⟨(wf8_iff _).1 ha, (wf8_iff _).1 hb, (wf8_iff _).1 hc, (wf8_iff _).1 hd, (wf64_iff _).1 hm⟩⟩, rfl, rfl⟩
theorem keyOf_dot_inv {key : Value} {kl : Lit} (h : keyOf Try.prog 26 key = some kl) : ∃ x : Vd, key = vval x ∧ kl = .string (kb x) := by
  obtain ⟨n, hn⟩ := ntypes
  simp only [keyOf, Try.underlying26, hn] at h
  split at h
  case isFalse => cases h
  rename_i hf
  rw [Bool.and_eq_true] at hf
  obtain ⟨cs, rfl, hcs⟩ : ∃ cs, key = .agg cs ∧ cs.size = 5 := by
    have hf2 := hf.2
    cases key <;> simp [Value.formed, Try.underlying26, c26] at hf2
    exact ⟨_, rfl, hf2⟩
  obtain ⟨l, rfl⟩ : ∃ l : List Value, cs = l.toArray := ⟨cs.toList, by simp⟩
  obtain ⟨ls, h1, rfl⟩ := Option.map_eq_some_iff.1 h
  match l, hcs with
  | [v0, v1, v2, v3, v4], _ =>
    obtain ⟨x, h2, h3⟩ := kl_dot (n := n + 1) (show Try.prog.keyLits (n + 1 + 3) 26 [v0, v1, v2, v3, v4] = some ls from h1)
    exact ⟨x, h2, by rw [h3]⟩
theorem vval_inj {x y : Vd} (h : vval x = vval y) : x = y := by
  obtain ⟨⟨⟨a, b, c, d⟩, n⟩, hx⟩ := x
  obtain ⟨⟨⟨a', b', c', d'⟩, n'⟩, hy⟩ := y
  simp [vval, venc, dcells] at h
  obtain ⟨rfl, rfl, rfl, rfl, rfl⟩ := h
  rfl
theorem kb_inj {x y : Vd} (h : kb x = kb y) : x = y := by
  have h1 := keyOf_dot x
  have h2 := keyOf_dot y
  rw [← h] at h2
  exact vval_inj (dlaw.inj h1 h2)
end Go.Proofs.Ythljboogcjpgiaa.Ds
