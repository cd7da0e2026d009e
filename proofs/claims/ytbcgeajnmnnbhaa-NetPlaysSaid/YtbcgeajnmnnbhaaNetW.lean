/- A net in the heap: packets, cut ends. -/
import Derived.Test.YtbcgeajnmnnbhaaPAllx0
import Derived.Test.YtbcgeajnmnnbhaaPb
import Derived.Maps.OwnSet
import Derived.DeepKeys5
import Derived.KernelRfl
import Derived.RangeFuncBox
import Derived.Deep.RegionWith
set_option linter.unusedSimpArgs false
set_option linter.unusedVariables false
namespace Go.Proofs.Ytbcgeajnmnnbhaa.Nt
open Go.RowKit Go.Maps Go.Proofs.Ytbcgeajnmnnbhaa.PAll Go.Proofs.YtbcgeajnmnnbhaaW.PrintWords

/-- A whole number of 64 bits. -/
abbrev I64 (n : Int) : Prop := -9223372036854775808 ≤ n ∧ n ≤ 9223372036854775807
theorem wf_i (n : Int) : (Lit.int .i64 n).wf = true ↔ I64 n := by
  simp only [Lit.wf, IntKind.min, IntKind.max, IntKind.signed, IntKind.bits, Bool.and_eq_true, decide_eq_true_eq]
  constructor
  · intro h
    simp at h
    omega
  · intro h
    simp
    omega
/-- A packet. -/
structure Pk where
  a : Int
  b : Int
  s : ByteArray
  ha : I64 a
  hb : I64 b
instance : Inhabited Pk := ⟨⟨0, 0, ⟨#[]⟩, by constructor <;> decide, by constructor <;> decide⟩⟩
def penc (x : Pk) : List Value := [.int .i64 x.a, .int .i64 x.b, .string x.s]
theorem penc_length (x : Pk) : (penc x).length = 3 := rfl
theorem penc_one (x : Pk) : ∀ v ∈ penc x, v.oneCell' = true := by
  intro v hv
  simp only [penc, List.mem_cons, List.not_mem_nil, or_false] at hv
  rcases hv with rfl | rfl | rfl <;> rfl
theorem pmap_len : ∀ (L : List Pk), (L.flatMap penc).length = L.length * 3
  | [] => rfl
  | x :: r => by rw [List.flatMap_cons, List.length_append, penc_length, pmap_len r, List.length_cons]; omega
theorem info_packet : (Try.prog.info? 27).map (fun i => (i.zero, i.size, i.bytes)) = some (some (.agg #[.int .i64 0, .int .i64 0, .string ByteArray.empty]), 3, 32) := by kernel_rfl
/-! ### two ends as a map's key -/
theorem laidOut : laidOutB Try.prog = true := by kernel_rfl
theorem klaw : WideMaps.KeyLaw Try.prog 61 := deep_law_gate laidOut (of_decide_eq_true (by kernel_rfl)) (of_decide_eq_true (by kernel_rfl)) (by kernel_rfl) (by rw [Try.underlying61])
theorem keyed : Keyed Try.prog 61 := Keyed.of_law klaw
def kb (a b : Int) : List UInt8 := keyBytes [.int .i64 a, .int .i64 b]
theorem cI : Try.prog.cellsOf 3 = 1 := by kernel_rfl
theorem cK : Try.prog.cellsOf 61 = 2 := by kernel_rfl
theorem ktype : Try.prog.keyType 61 = true := by kernel_rfl
theorem ntypes : ∃ n, Try.prog.types.size + 1 = n + 4 := ⟨Try.prog.types.size + 1 - 4, by have : 4 ≤ Try.prog.types.size + 1 := of_decide_eq_true (by kernel_rfl); omega⟩
theorem keyOf_ends (a b : Int) (ha : I64 a) (hb : I64 b) : keyOf Try.prog 61 (.agg #[.int .i64 a, .int .i64 b]) = some (.string (kb a b)) := by
  obtain ⟨n, hn⟩ := ntypes
  have ha := (wf_i _).2 ha
  have hb := (wf_i _).2 hb
  have hf : (Value.agg #[.int .i64 a, .int .i64 b]).formed Try.prog 61 = true := by
    simp [Value.formed, Try.underlying61, cK]
  simp only [keyOf, Try.underlying61, ktype, hf, Bool.and_self, if_true, hn]
  simp only [Value.cells, List.toList_toArray]
  simp [Program.keyLits, Try.underlying61, Try.underlying3, cI, cK, ha, hb, List.range_succ, kb]
theorem kb_inj {a b a' b' : Int} (ha : I64 a) (hb : I64 b) (ha' : I64 a') (hb' : I64 b') (h : kb a b = kb a' b') : a = a' ∧ b = b' := by
  have h1 := keyOf_ends a b ha hb
  have h2 := keyOf_ends a' b' ha' hb'
  rw [← h] at h2
  have := klaw.inj h1 h2
  simp at this
  exact this
theorem isKey (a b : Int) : WideAt.IsKeyLit (.string (kb a b)) := by simp [WideAt.IsKeyLit]
theorem zero_unit (w : World) : (zeroValue 59).run Try.prog w = .ok (.agg #[]) w := by kernel_rfl
/-! ### a net -/
/-- The packets of the net at B: nothing below 'base' is its own. -/
def NetAt (W : World) (base B : Nat) (m : Value) (L : List Pk) : Prop :=
  base ≤ B ∧ ∃ v, W.heap[B]? = some (.cells #[v, m] 46 (0, 0)) ∧ W.ownsRow (B + 1) 27 3 v L.length (L.flatMap penc)
/-- The ends that are cut: C tells, of the smaller and the greater end. -/
def CutAt (W : World) (B : Nat) (m : Value) (n : Nat) (C : Int → Int → Bool) : Prop :=
  (m = .map none ∧ ∀ a b, C a b = false) ∨ ∃ b, m = .map (some b) ∧ B < b ∧ ∃ D : DataW Unit, W.ownsMap Try.prog 61 unitElem b n D ∧ ∀ x y, I64 x → I64 y → has D (.string (kb x y)) = C x y
/-- Is a pair of ends cut? -/
theorem cut_look {W : World} {B n : Nat} {m : Value} {C : Int → Int → Bool} (h : CutAt W B m n C) {a b : Int} (ha : I64 a) (hb : I64 b) :
    (Instr.lookup 44 m (.agg #[.int .i64 a, .int .i64 b]) true).run Try.prog W = .ok (.tuple #[.agg #[], .bool (C a b)]) W := by
  rcases h with ⟨rfl, h0⟩ | ⟨b', rfl, _, D, hD, hC⟩
  · rw [Maps.look_nil true keyed Try.underlying44 (zero_unit W) (keyOf_ends a b ha hb), h0]
    rfl
  · obtain ⟨v, ps, hup, hv⟩ := hD.look_ok keyed Try.underlying44 (zero_unit W) (unitElem_mk (H := Unit)) (keyOf_ends a b ha hb)
    obtain rfl := (unitElem_inv hv).1
    rw [hup, hC a b ha hb]
theorem CutAt.keep {W W' : World} {B n : Nat} {m : Value} {C : Int → Int → Bool} (h : CutAt W B m n C) (hb : ∀ b, m = .map (some b) → W'.heap[b]? = W.heap[b]?) : CutAt W' B m n C := by
  rcases h with h | ⟨b, rfl, hlt, D, ⟨es, clock, hh, Ft, hs, hD⟩, hC⟩
  · exact .inl h
  · exact .inr ⟨b, rfl, hlt, D, ⟨es, clock, (hb b rfl).trans hh, Ft, hs, hD⟩, hC⟩
theorem CutAt.lt {W : World} {B n b : Nat} {m : Value} {C : Int → Int → Bool} (h : CutAt W B m n C) (hm : m = .map (some b)) : B < b ∧ b < W.heap.size := by
  rcases h with ⟨rfl, _⟩ | ⟨b', rfl, hlt, D, hD, _⟩
  · cases hm
  · cases hm
    exact ⟨hlt, hD.lt⟩
theorem CutAt.below {W W' : World} {B n : Nat} {m : Value} {C : Int → Int → Bool} (h : CutAt W B m n C) (hW : Below W.heap.size W W') : CutAt W' B m n C := h.keep fun b hm => hW.block b (h.lt hm).2
theorem own_lt {w : World} {base : Nat} {e : TypeId} {size n : Nat} {v : Value} {xs : List Value} (h : w.ownsRow base e size v n xs) (k : Nat) (hk : v.ownBlock = some k) : base ≤ k ∧ k < w.heap.size := by
  rcases h.2 with ⟨h0, _⟩ | ⟨g, c', cur, hv, hg, hbb, _⟩
  · rw [h0] at hk; cases hk
  · rw [hv] at hk
    have hk' : g = k := by simpa [Value.ownBlock] using hk
    subst hk'
    exact ⟨hg, (Array.getElem?_eq_some_iff.1 hbb).1⟩
theorem own_bel {w w' : World} {base : Nat} {e : TypeId} {size n : Nat} {v : Value} {xs : List Value} (h : w.ownsRow base e size v n xs) (hb : Below w.heap.size w w') : w'.ownsRow base e size v n xs :=
  own_move h fun k hk => hb.block k (own_lt h k hk).2
theorem owns_slice {w : World} {base : Nat} {e : TypeId} {size n : Nat} {v : Value} {xs : List Value} (h : w.ownsRow base e size v n xs) : ∃ p c, v = .slice p n c := by
  rcases h.2 with ⟨rfl, rfl⟩ | ⟨g, cap, cur, rfl, _⟩
  · exact ⟨none, 0, rfl⟩
  · exact ⟨_, _, rfl⟩
theorem NetAt.lt {W : World} {base B : Nat} {m : Value} {L : List Pk} (h : NetAt W base B m L) : B < W.heap.size := by
  obtain ⟨_, v, hB, _⟩ := h
  exact (Array.getElem?_eq_some_iff.1 hB).1
theorem NetAt.below {W W' : World} {base B : Nat} {m : Value} {L : List Pk} (h : NetAt W base B m L) (hW : Below W.heap.size W W') : NetAt W' base B m L := by
  have hl := h.lt
  obtain ⟨h0, v, hB, hr⟩ := h
  exact ⟨h0, v, (hW.block B hl).trans hB, own_bel hr hW⟩
/-- A packet's cells. -/
theorem own_at {W : World} {base : Nat} {A : Option Addr} {cap : Nat} {L : List Pk} (h : W.ownsRow base 27 3 (.slice A L.length cap) L.length (L.flatMap penc)) {k : Nat} (hk : k < L.length) : ∃ g x, A = some ⟨g, 0, none⟩ ∧ L[k]? = some x ∧
    W.cell? ⟨g, k * 3, none⟩ = some (.int .i64 x.a) ∧ W.cell? ⟨g, k * 3 + 1, none⟩ = some (.int .i64 x.b) ∧ W.cell? ⟨g, k * 3 + 2, none⟩ = some (.string x.s) := by
  obtain ⟨x, hx⟩ : ∃ x, L[k]? = some x := ⟨_, List.getElem?_eq_getElem hk⟩
  rcases h.2 with ⟨h0, hz⟩ | ⟨g, cap', cur, hv, hg, hb, hn, hcp, hz, ht⟩
  · omega
  · cases hv
    have key : ∀ i, i < 3 → W.cell? ⟨g, k * 3 + i, none⟩ = (penc x)[i]? := fun i hi => by
      rw [blk_cell hb, ← Array.getElem?_toList]
      have h1 : (cur.toList.take (L.length * 3))[k * 3 + i]? = (L.flatMap penc)[k * 3 + i]? := by rw [ht]
      rw [List.getElem?_take_of_lt (by omega)] at h1
      show cur.toList[k * 3 + i]? = _
      rw [h1]
      have hL : L = L.take k ++ x :: L.drop (k + 1) := by
        obtain ⟨_, e⟩ := List.getElem?_eq_some_iff.1 hx
        rw [← e, List.getElem_cons_drop, List.take_append_drop]
      conv => lhs; rw [hL]
      rw [List.flatMap_append, List.flatMap_cons, List.getElem?_append_right (by rw [pmap_len, List.length_take]; omega), pmap_len, List.length_take, Nat.min_eq_left (by omega), List.getElem?_append_left (by rw [penc_length]; omega), show k * 3 + i - k * 3 = i by omega]
    exact ⟨g, x, rfl, hx, key 0 (by decide), key 1 (by decide), key 2 (by decide)⟩
/-- A row of packets that a call reads, apart from the blocks 'no'. -/
def PRow (W : World) (v : Value) (l : List Pk) (no : Nat → Prop) : Prop := ∃ p cap, v = .slice p l.length cap ∧ (l ≠ [] → ∃ q off, p = some ⟨q, off, none⟩ ∧ q < W.heap.size ∧ ¬ no q ∧ ∀ j x, l[j]? = some x → W.cell? ⟨q, off + j * 3, none⟩ = some (.int .i64 x.a) ∧ W.cell? ⟨q, off + j * 3 + 1, none⟩ = some (.int .i64 x.b) ∧ W.cell? ⟨q, off + j * 3 + 2, none⟩ = some (.string x.s))
end Go.Proofs.Ytbcgeajnmnnbhaa.Nt
