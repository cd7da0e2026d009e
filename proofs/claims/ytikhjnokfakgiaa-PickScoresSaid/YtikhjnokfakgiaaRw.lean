/- Rows of things in memory, of whatever kind: read, laid, appended to, cut, written. -/
import Derived.Test.YtikhjnokfakgiaaPb
import Derived.Deep.AppendLies
import Derived.Laws.OwnMore
import Derived.Laws.IdiomCopy
import Derived.OwnWalk
set_option linter.unusedSimpArgs false
set_option linter.unusedVariables false
namespace Go.Proofs.Ytikhjnokfakgiaa.Rw
open Go.RowKit Go.Proofs.YtikhjnokfakgiaaW.PrintWords

/-- How things of a kind lie in cells. -/
structure Lie (α : Type) where
  enc : α → List Value
  size : Nat
  pos : 0 < size
  len : ∀ x, (enc x).length = size
  one : ∀ x, ∀ u ∈ enc x, u.oneCell' = true
section
variable {α : Type} {K : Lie α}
theorem map_len : ∀ (L : List α), (L.flatMap K.enc).length = L.length * K.size
  | [] => by simp
  | x :: r => by rw [List.flatMap_cons, List.length_append, K.len, map_len r, List.length_cons, Nat.succ_mul]; omega
theorem map_one (L : List α) : ∀ u ∈ L.flatMap K.enc, u.oneCell' = true := by
  intro u hu
  obtain ⟨x, _, hx⟩ := List.mem_flatMap.1 hu
  exact K.one x u hx
theorem split_at {L : List α} {k : Nat} {x : α} (h : L[k]? = some x) : L = L.take k ++ x :: L.drop (k + 1) := by
  obtain ⟨_, e⟩ := List.getElem?_eq_some_iff.1 h
  rw [← e, List.getElem_cons_drop, List.take_append_drop]
theorem map_at {L : List α} {k : Nat} {x : α} (h : L[k]? = some x) {i : Nat} (hi : i < K.size) : (L.flatMap K.enc)[k * K.size + i]? = (K.enc x)[i]? := by
  have hk := (List.getElem?_eq_some_iff.1 h).1
  conv => lhs; rw [split_at h]
  have hl : ((L.take k).flatMap K.enc).length = k * K.size := by rw [map_len, List.length_take, Nat.min_eq_left (by omega)]
  rw [List.flatMap_append, List.flatMap_cons, List.getElem?_append_right (by omega), hl, Nat.add_sub_cancel_left, List.getElem?_append_left (by rw [K.len]; exact hi)]
theorem map_set {L : List α} {k : Nat} (hk : k < L.length) (y : α) : (L.set k y).flatMap K.enc = (L.flatMap K.enc).take (k * K.size) ++ K.enc y ++ (L.flatMap K.enc).drop (k * K.size + K.size) := by
  obtain ⟨x, hx⟩ : ∃ x, L[k]? = some x := ⟨_, List.getElem?_eq_getElem hk⟩
  have hl : ((L.take k).flatMap K.enc).length = k * K.size := by rw [map_len, List.length_take, Nat.min_eq_left (by omega)]
  have hs : L.set k y = L.take k ++ y :: L.drop (k + 1) := by rw [List.set_eq_take_append_cons_drop, if_pos hk]
  have e : L.flatMap K.enc = (L.take k).flatMap K.enc ++ (K.enc x ++ (L.drop (k + 1)).flatMap K.enc) := by
    conv => lhs; rw [split_at hx]
    simp only [List.flatMap_append, List.flatMap_cons]
  rw [hs, e]
  simp only [List.flatMap_append, List.flatMap_cons]
  have e2 : ∀ (a b c : List Value), (a ++ (b ++ c)).drop (a.length + b.length) = c := fun a b c => by rw [← List.append_assoc, ← List.length_append, List.drop_left]
  have e3 := e2 ((L.take k).flatMap K.enc) (K.enc x) ((L.drop (k + 1)).flatMap K.enc)
  rw [hl, K.len] at e3
  rw [e3, ← hl, List.take_left]
  simp
/-- A row that is read at an address. -/
def Reads (K : Lie α) (W : World) (A : Option Addr) (L : List α) : Prop := 0 < L.length → ∃ g o, A = some ⟨g, o, none⟩ ∧ g < W.heap.size ∧ ∀ j u, (L.flatMap K.enc)[j]? = some u → W.cell? ⟨g, o + j, none⟩ = some u
theorem Reads.nil (W : World) (A : Option Addr) : Reads K W A [] := fun h => absurd h (Nat.not_lt_zero _)
theorem Reads.keep {W W' : World} {A : Option Addr} {L : List α} (h : Reads K W A L) (hs : W.heap.size ≤ W'.heap.size) (hb : ∀ g o, A = some ⟨g, o, none⟩ → g < W.heap.size → W'.heap[g]? = W.heap[g]?) : Reads K W' A L := fun h0 => by
  obtain ⟨g, o, e, hg, hc⟩ := h h0
  exact ⟨g, o, e, Nat.lt_of_lt_of_le hg hs, fun j u hu => (World.cell?_of_block (hb g o e hg)).trans (hc j u hu)⟩
theorem Reads.below {W W' : World} {A : Option Addr} {L : List α} (h : Reads K W A L) (hb : Below W.heap.size W W') : Reads K W' A L := h.keep hb.size fun g _ _ hg => hb.block g hg
theorem Reads.grown {W W' : World} {A : Option Addr} {L : List α} {r : Option Nat} (h : Reads K W A L) (hb : W.grownBy W' r) (hne : ∀ g o, A = some ⟨g, o, none⟩ → some g ≠ r) : Reads K W' A L := h.keep hb.size fun g o e hg => hb.block g hg (hne g o e)
theorem Reads.at {W : World} {g o : Nat} {L : List α} (h : Reads K W (some ⟨g, o, none⟩) L) {k : Nat} {x : α} (hx : L[k]? = some x) {i : Nat} {u : Value} (hu : (K.enc x)[i]? = some u) : W.cell? ⟨g, o + k * K.size + i, none⟩ = some u := by
  have hk := (List.getElem?_eq_some_iff.1 hx).1
  obtain ⟨g', o', e, hg, hc⟩ := h (by omega)
  cases e
  have hi : i < K.size := by rw [← K.len x]; exact (List.getElem?_eq_some_iff.1 hu).1
  have := hc (k * K.size + i) u (by rw [map_at hx hi]; exact hu)
  rw [Nat.add_assoc]
  exact this
theorem Reads.where {W : World} {A : Option Addr} {L : List α} (h : Reads K W A L) {k : Nat} (hk : k < L.length) : ∃ g o, A = some ⟨g, o, none⟩ ∧ g < W.heap.size := by
  obtain ⟨g, o, e, hg, _⟩ := h (by omega)
  exact ⟨g, o, e, hg⟩
theorem Reads.of_own {W : World} {base n cap : Nat} {e : TypeId} {A : Option Addr} {L : List α} (h : W.ownsRow base e K.size (.slice A n cap) n (L.flatMap K.enc)) : Reads K W A L := fun h0 => by
  have hn : L.length = n := by
    have := h.1
    rw [map_len] at this
    exact Nat.eq_of_mul_eq_mul_right K.pos this
  rcases h.2 with ⟨_, hz⟩ | ⟨g, cap', cur, hv, hg, hb, hnc, hcp, hz, ht⟩
  · omega
  · cases hv
    refine ⟨g, 0, rfl, (Array.getElem?_eq_some_iff.1 hb).1, fun j u hu => ?_⟩
    have hj := (List.getElem?_eq_some_iff.1 hu).1
    rw [Nat.zero_add, blk_cell hb, ← Array.getElem?_toList]
    rw [← ht, List.getElem?_take_of_lt (by rw [map_len, hn] at hj; exact hj)] at hu
    exact hu
/-- A block of cells is a row. -/
theorem Reads.blk {W : World} {b : Nat} {t : TypeId} {cs : Array Value} {L : List α} (hb : W.heap[b]? = some (.cells cs t (0, 0))) (hcs : cs.toList = L.flatMap K.enc) : Reads K W (some ⟨b, 0, none⟩) L := fun _ =>
  ⟨b, 0, rfl, (Array.getElem?_eq_some_iff.1 hb).1, fun j u hu => by rw [Nat.zero_add, blk_cell hb, ← Array.getElem?_toList, hcs]; exact hu⟩
theorem Reads.new {W : World} (t : TypeId) {cs : Array Value} {L : List α} (hcs : cs.toList = L.flatMap K.enc) : Reads K (W.alloc (.cells cs t)) (some ⟨W.heap.size, 0, none⟩) L := Reads.blk (heap_alloc_new W _) hcs
/-- A part of a row. -/
theorem Reads.part {W : World} {g o : Nat} {L : List α} (h : Reads K W (some ⟨g, o, none⟩) L) (i : Nat) {M : List α} (hM : ∀ j x, M[j]? = some x → L[i + j]? = some x) : Reads K W (some ⟨g, o + i * K.size, none⟩) M := fun h0 => by
  obtain ⟨x0, hx0⟩ : ∃ x, M[0]? = some x := ⟨_, List.getElem?_eq_getElem h0⟩
  have hl0 := (List.getElem?_eq_some_iff.1 (hM 0 x0 hx0)).1
  obtain ⟨g', o', e, hg, hc⟩ := h (by omega)
  cases e
  refine ⟨g, _, rfl, hg, fun j u hu => ?_⟩
  have hj := (List.getElem?_eq_some_iff.1 hu).1
  rw [map_len] at hj
  have hpos := K.pos
  have hdm : j = (j / K.size) * K.size + j % K.size := by rw [Nat.mul_comm]; exact (Nat.div_add_mod j K.size).symm
  have hml : j % K.size < K.size := Nat.mod_lt _ hpos
  have hlt : j / K.size < M.length := Nat.div_lt_of_lt_mul (by rw [Nat.mul_comm]; exact hj)
  obtain ⟨x, hx⟩ : ∃ x, M[j / K.size]? = some x := ⟨_, List.getElem?_eq_getElem hlt⟩
  have e1 := map_at (K := K) hx hml
  have e2 := map_at (K := K) (hM _ x hx) hml
  rw [← hdm] at e1
  rw [Nat.add_mul, Nat.add_assoc, ← hdm] at e2
  rw [e1, ← e2] at hu
  rw [Nat.add_assoc]
  exact hc _ _ hu
/-- Of an argument. -/
theorem Reads.of_kd {Q : Kd α} {W : World} {A : Option Addr} {L : List α} (hs : Q.sz = K.size) (ho : ∀ x cs, Q.K W x cs → cs = K.enc x) (h0 : ∀ x cs, Q.K W x cs → ∃ u, (K.enc x)[0]? = some u) (h : Q.C W A L.length L) : Reads K W A L := fun hp => by
  obtain ⟨ad, rfl, hc⟩ := h.2.2 hp
  have key : ∀ j x, L[j]? = some x → ∀ c u, (K.enc x)[c]? = some u → W.cell? (ad.add (j * K.size + c)) = some u := fun j x hx c u hu => by
    obtain ⟨cs, hl, hK, hcell⟩ := hc j x hx
    obtain rfl := ho x cs hK
    rw [← hs]
    exact hcell c u hu
  obtain ⟨x0, hx0⟩ : ∃ x, L[0]? = some x := ⟨_, List.getElem?_eq_getElem hp⟩
  obtain ⟨u0, hu0⟩ : ∃ u, (K.enc x0)[0]? = some u := ⟨_, List.getElem?_eq_getElem (by rw [K.len]; exact K.pos)⟩
  have h00 := key 0 x0 hx0 0 u0 hu0
  have hadd : ∀ b o n, (⟨b, o, none⟩ : Addr).add n = ⟨b, o + n, none⟩ := fun b o n => by unfold Addr.add; split <;> simp_all
  obtain ⟨b, o, sp⟩ := ad
  have hsp : sp = none := by
    cases sp with
    | none => rfl
    | some y =>
      simp only [Nat.zero_mul, Nat.zero_add, Addr.add] at h00
      simp [World.cell?] at h00
      split at h00 <;> cases h00
  subst hsp
  rw [hadd] at h00
  refine ⟨b, o, rfl, World.block_lt_of_cell? W _ h00, fun j u hu => ?_⟩
  have hj := (List.getElem?_eq_some_iff.1 hu).1
  rw [map_len] at hj
  have hdm : j = (j / K.size) * K.size + j % K.size := by rw [Nat.mul_comm]; exact (Nat.div_add_mod j K.size).symm
  have hml : j % K.size < K.size := Nat.mod_lt _ K.pos
  have hlt : j / K.size < L.length := Nat.div_lt_of_lt_mul (by rw [Nat.mul_comm]; exact hj)
  obtain ⟨x, hx⟩ : ∃ x, L[j / K.size]? = some x := ⟨_, List.getElem?_eq_getElem hlt⟩
  have e1 := map_at (K := K) hx hml
  rw [← hdm] at e1
  have e3 := key _ x hx (j % K.size) u (by rw [← e1]; exact hu)
  rw [← hdm, hadd] at e3
  exact e3
/-! ### rows of a call's own -/
/-- A row of a call's own, at an address. -/
def Own (K : Lie α) (e : TypeId) (W : World) (base : Nat) (A : Option Addr) (c : Nat) (L : List α) : Prop := W.ownsRow base e K.size (.slice A L.length c) L.length (L.flatMap K.enc)
theorem Own.nil (K : Lie α) (e : TypeId) (W : World) (base : Nat) : Own K e W base none 0 [] := World.ownsRow_nil _ _ _ _
theorem Own.reads {e : TypeId} {W : World} {base c : Nat} {A : Option Addr} {L : List α} (h : Own K e W base A c L) : Reads K W A L := Reads.of_own h
theorem Own.lt {e : TypeId} {W : World} {base c g o : Nat} {L : List α} (h : Own K e W base (some ⟨g, o, none⟩) c L) : base ≤ g ∧ g < W.heap.size ∧ o = 0 := by
  rcases h.2 with ⟨h0, _⟩ | ⟨g', c', cur, hv, hg, hbb, _⟩
  · cases h0
  · cases hv
    exact ⟨hg, (Array.getElem?_eq_some_iff.1 hbb).1, rfl⟩
theorem Own.keep {e : TypeId} {W W' : World} {base c : Nat} {A : Option Addr} {L : List α} (h : Own K e W base A c L) (hb : ∀ g, A = some ⟨g, 0, none⟩ → base ≤ g → g < W.heap.size → W'.heap[g]? = W.heap[g]?) : Own K e W' base A c L :=
  own_move h fun k hk => by
    rcases h.2 with ⟨h0, _⟩ | ⟨g, c', cur, hv, hg, hbb, _⟩
    · rw [h0] at hk; cases hk
    · cases hv
      obtain rfl : g = k := by simpa [Value.ownBlock] using hk
      exact hb g rfl hg (Array.getElem?_eq_some_iff.1 hbb).1
theorem Own.below {e : TypeId} {W W' : World} {base c : Nat} {A : Option Addr} {L : List α} (h : Own K e W base A c L) (hb : Below W.heap.size W W') : Own K e W' base A c L := h.keep fun g _ _ hl => hb.block g hl
theorem Own.grown {e : TypeId} {W W' : World} {base c : Nat} {A : Option Addr} {L : List α} {r : Option Nat} (h : Own K e W base A c L) (hg : W.grownBy W' r) (hne : ∀ g, A = some ⟨g, 0, none⟩ → some g ≠ r) : Own K e W' base A c L := h.keep fun g eA _ hl => hg.block g hl (hne g eA)
theorem Own.less {e : TypeId} {W : World} {base base' c : Nat} {A : Option Addr} {L : List α} (h : Own K e W base A c L) (hb : base' ≤ base) : Own K e W base' A c L := by
  refine ⟨h.1, ?_⟩
  rcases h.2 with h0 | ⟨g, c', cur, hv, hg, hbb⟩
  · exact .inl h0
  · exact .inr ⟨g, c', cur, hv, Nat.le_trans hb hg, hbb⟩
theorem Own.cap {e : TypeId} {W : World} {base c : Nat} {A : Option Addr} {L : List α} (h : Own K e W base A c L) : L.length ≤ c ∧ c ≤ maxLen := by
  rcases h.2 with ⟨h0, h1⟩ | ⟨g, c', cur, hv, hg, hbb, hn, hm, _⟩
  · simp at h0; rw [h1, h0.2.2]; exact ⟨Nat.le_refl _, Nat.zero_le _⟩
  · cases hv
    exact ⟨hn, hm⟩
theorem Own.blk {e : TypeId} {W : World} {base c g : Nat} {L : List α} (h : Own K e W base (some ⟨g, 0, none⟩) c L) : ∃ cur : Array Value, W.heap[g]? = some (.cells cur e (0, 0)) ∧ cur.size = c * K.size ∧ cur.toList.take (L.length * K.size) = L.flatMap K.enc := by
  rcases h.2 with ⟨h0, _⟩ | ⟨g', c', cur, hv, hg, hbb, hn, hm, hz, ht⟩
  · cases h0
  · cases hv
    exact ⟨cur, hbb, hz, ht⟩
theorem Own.make {e : TypeId} {W : World} {base c g : Nat} {L : List α} {cur : Array Value} (hg : base ≤ g) (hb : W.heap[g]? = some (.cells cur e (0, 0))) (hn : L.length ≤ c) (hc : c ≤ maxLen) (hz : cur.size = c * K.size) (ht : cur.toList.take (L.length * K.size) = L.flatMap K.enc) : Own K e W base (some ⟨g, 0, none⟩) c L :=
  ⟨map_len L, .inr ⟨g, c, cur, rfl, hg, hb, hn, hc, hz, ht⟩⟩
theorem Own.new {e : TypeId} {W : World} {cs : Array Value} {L : List α} (hcs : cs.toList = L.flatMap K.enc) (hm : L.length ≤ maxLen) (base : Nat) (hb : base ≤ W.heap.size) : Own K e (W.alloc (.cells cs e)) base (some ⟨W.heap.size, 0, none⟩) L.length L :=
  Own.make hb (heap_alloc_new W _) (Nat.le_refl _) hm (by rw [← Array.length_toList, hcs, map_len]) (by rw [hcs, List.take_of_length_le (by rw [map_len]; exact Nat.le_refl _)])
/-- A row cut short. -/
theorem Own.take {e : TypeId} {W : World} {base c g : Nat} {L : List α} (h : Own K e W base (some ⟨g, 0, none⟩) c L) {k : Nat} (hk : k ≤ L.length) : Own K e W base (some ⟨g, 0, none⟩) c (L.take k) := by
  obtain ⟨hn, hm⟩ := h.cap
  have hg := h.lt.1
  obtain ⟨cur, hb, hz, ht⟩ := h.blk
  have hlt : (L.take k).length = k := by rw [List.length_take, Nat.min_eq_left hk]
  have hkl : k * K.size ≤ L.length * K.size := Nat.mul_le_mul_right _ hk
  refine Own.make hg hb (by omega) hm hz ?_
  rw [hlt]
  have h1 : cur.toList.take (k * K.size) = (cur.toList.take (L.length * K.size)).take (k * K.size) := by rw [List.take_take, Nat.min_eq_left hkl]
  rw [h1, ht]
  conv => lhs; rw [← List.take_append_drop k L, List.flatMap_append]
  rw [List.take_append_of_le_length (by rw [map_len, hlt]; exact Nat.le_refl _), List.take_of_length_le (by rw [map_len, hlt]; exact Nat.le_refl _)]
/-! ### cells written -/
theorem set_blk {w : World} {b j : Nat} {cs : Array Value} {t : TypeId} {fr : Nat × Nat} (v : Value) (h : w.heap[b]? = some (.cells cs t fr)) : (w.setCell ⟨b, j, none⟩ v).heap[b]? = some (.cells (cs.setIfInBounds j v) t fr) := by
  simp [World.setCell, Array.getElem?_modify, h]
theorem set_other {w : World} {b j k : Nat} (v : Value) (hne : b ≠ k) : (w.setCell ⟨b, j, none⟩ v).heap[k]? = w.heap[k]? := by
  simp [World.setCell, Array.getElem?_modify, hne]
theorem sets_other {b k : Nat} (hne : b ≠ k) : ∀ (vs : List Value) (o : Nat) (w : World), (w.setCells b o vs).heap[k]? = w.heap[k]?
  | [], _, _ => rfl
  | v :: r, o, w => by
    rw [World.setCells, sets_other hne r]
    exact set_other v hne
theorem sets_size {b : Nat} : ∀ (vs : List Value) (o : Nat) (w : World), (w.setCells b o vs).heap.size = w.heap.size
  | [], _, _ => rfl
  | v :: r, o, w => by rw [World.setCells, sets_size r]; simp
theorem sets_rest {b : Nat} : ∀ (vs : List Value) (o : Nat) (w : World), (w.setCells b o vs).os = w.os ∧ (w.setCells b o vs).tape = w.tape ∧ (w.setCells b o vs).output = w.output
  | [], _, _ => ⟨rfl, rfl, rfl⟩
  | v :: r, o, w => by rw [World.setCells]; exact sets_rest r (o + 1) (w.setCell ⟨b, o, none⟩ v)
theorem sets_grown {b : Nat} (vs : List Value) (o : Nat) (w : World) : w.grownBy (w.setCells b o vs) (some b) :=
  ⟨(sets_rest vs o w).1, (sets_rest vs o w).2.1, (sets_rest vs o w).2.2, by rw [sets_size]; exact Nat.le_refl _, fun j _ hne => sets_other (fun e => hne (by rw [e])) vs o w⟩
theorem sets_blk {b : Nat} {t : TypeId} {fr : Nat × Nat} : ∀ (vs : List Value) (o : Nat) (w : World) (cs : Array Value), w.heap[b]? = some (.cells cs t fr) → o + vs.length ≤ cs.size →
    ∃ cs' : Array Value, (w.setCells b o vs).heap[b]? = some (.cells cs' t fr) ∧ cs'.toList = cs.toList.take o ++ vs ++ cs.toList.drop (o + vs.length)
  | [], o, w, cs, h, hl => ⟨cs, h, by simp⟩
  | v :: r, o, w, cs, h, hl => by
    simp only [List.length_cons] at hl
    obtain ⟨cs', h1, h2⟩ := sets_blk r (o + 1) (w.setCell ⟨b, o, none⟩ v) (cs.setIfInBounds o v) (set_blk v h) (by simp; omega)
    refine ⟨cs', h1, h2.trans ?_⟩
    have hol : o < cs.toList.length := by rw [Array.length_toList]; omega
    have e1 : (cs.toList.set o v).take (o + 1) = cs.toList.take o ++ [v] := by
      rw [List.set_eq_take_append_cons_drop, if_pos hol, List.take_append, List.length_take, Nat.min_eq_left (by omega), List.take_of_length_le (by rw [List.length_take]; omega), Nat.add_sub_cancel_left]
      rfl
    rw [Array.toList_setIfInBounds, e1, List.drop_set_of_lt (by omega), List.length_cons, show o + (r.length + 1) = o + 1 + r.length by omega]
    simp
theorem take_mid (F E : List Value) (a n : Nat) (h1 : a + E.length ≤ n) (h2 : n ≤ F.length) : (F.take a ++ E ++ F.drop (a + E.length)).take n = (F.take n).take a ++ E ++ (F.take n).drop (a + E.length) := by
  have e1 : (F.take a ++ E).length = a + E.length := by simp; omega
  rw [List.take_append, e1, List.take_of_length_le (l := F.take a ++ E) (by omega), List.take_take, Nat.min_eq_left (by omega), List.drop_take]
/-- A thing of a row is written. -/
theorem Own.put {e : TypeId} {W : World} {base c g : Nat} {L : List α} (h : Own K e W base (some ⟨g, 0, none⟩) c L) {k : Nat} (hk : k < L.length) (y : α) : Own K e (W.setCells g (k * K.size) (K.enc y)) base (some ⟨g, 0, none⟩) c (L.set k y) := by
  obtain ⟨hn, hm⟩ := h.cap
  have hg := h.lt.1
  obtain ⟨cur, hb, hz, ht⟩ := h.blk
  have hk1 : (k + 1) * K.size ≤ L.length * K.size := Nat.mul_le_mul_right _ hk
  have hk2 : L.length * K.size ≤ c * K.size := Nat.mul_le_mul_right _ hn
  rw [Nat.succ_mul] at hk1
  obtain ⟨cs', h1, h2⟩ := sets_blk (K.enc y) (k * K.size) W cur hb (by rw [K.len, hz]; omega)
  have hl : cs'.toList.length = cur.toList.length := by rw [h2]; simp only [List.length_append, List.length_take, List.length_drop, K.len, Array.length_toList, hz]; omega
  refine Own.make hg h1 (by simpa using hn) hm (by rw [← Array.length_toList, hl, Array.length_toList, hz]) ?_
  have hcl : cur.toList.length = c * K.size := by rw [Array.length_toList, hz]
  have hm := take_mid cur.toList (K.enc y) (k * K.size) (L.length * K.size) (by rw [K.len]; omega) (by omega)
  rw [K.len] at hm
  rw [List.length_set, map_set hk, ← ht, h2, K.len, hm]
/-- Things behind a row's end are written. -/
theorem Own.behind {e : TypeId} {W : World} {base c g : Nat} {L : List α} (h : Own K e W base (some ⟨g, 0, none⟩) c L) (o : Nat) (vs : List Value) (ho : L.length * K.size ≤ o) (hv : o + vs.length ≤ c * K.size) : Own K e (W.setCells g o vs) base (some ⟨g, 0, none⟩) c L := by
  obtain ⟨hn, hm⟩ := h.cap
  have hg := h.lt.1
  obtain ⟨cur, hb, hz, ht⟩ := h.blk
  obtain ⟨cs', h1, h2⟩ := sets_blk vs o W cur hb (by omega)
  have hl : cs'.toList.length = cur.toList.length := by rw [h2]; simp only [List.length_append, List.length_take, List.length_drop, Array.length_toList, hz]; omega
  refine Own.make hg h1 hn hm (by rw [← Array.length_toList, hl, Array.length_toList, hz]) ?_
  have hcl : cur.toList.length = c * K.size := by rw [Array.length_toList, hz]
  rw [← ht, h2, List.append_assoc, List.take_append_of_le_length (by rw [List.length_take, hcl]; omega), List.take_take, Nat.min_eq_left ho]
/-! ### append -/
/-- What a program says of a kind. -/
structure Info (P : Program) (K : Lie α) (st e : TypeId) (bytes : Nat) : Prop where
  und : P.underlying st = some (.slice e)
  info : ∃ i z, P.info? e = some i ∧ i.zero = some z ∧ i.size = K.size ∧ i.bytes = bytes ∧ z.cells.size = K.size
theorem Info.mk' {P : Program} {st e : TypeId} {bytes : Nat} {z : Value} (hu : P.underlying st = some (.slice e)) (h : (P.info? e).map (fun i => (i.zero, i.size, i.bytes)) = some (some z, K.size, bytes)) (hz : z.cells.size = K.size) : Info P K st e bytes := by
  obtain ⟨i, h1, h2, h3, h4⟩ := info_parts h
  exact ⟨hu, i, z, h1, h2, h3, h4, hz⟩
/-- A row is appended to a row of its own. -/
theorem app {P : Program} {st e : TypeId} {bytes : Nat} (I : Info P K st e bytes) {d : World} {base cn : Nat} {A0 A : Option Addr} {L M : List α} (hown : Own K e d base A0 cn L) (hs : Reads K d A M) (c : Nat) (hl : (L.length + M.length) * bytes ≤ 140737488355328) (h63 : L.length + M.length ≤ maxLen) (hbase : base ≤ d.heap.size) :
    ∃ p2 c2 w2, (∀ ty, (Builtin.append_ #[st, st] ty #[.slice A0 L.length cn, .slice A M.length c]).run P d = .ok (.slice p2 (L.length + M.length) c2) w2) ∧ Own K e w2 base p2 c2 (L ++ M) ∧ d.grownBy w2 (Value.slice A0 L.length cn).ownBlock ∧ ((L ++ M) = [] → p2 = none → d = w2) := by
  obtain ⟨i, z, hi, hz0, hz1, hz2, hzs⟩ := I.info
  by_cases h0 : M.length = 0
  · obtain rfl := List.length_eq_zero_iff.1 h0
    refine ⟨A0, cn, d, fun ty => ?_, by simpa using hown, ⟨rfl, rfl, rfl, Nat.le_refl _, fun _ _ _ => rfl⟩, fun _ _ => rfl⟩
    have hle := hown.cap.1
    cases A <;> cases A0 <;> simp [Builtin.append_, run_underlying I.und, sizeOf, typeInfo, hi, Builtin.lenOf, Builtin.firstCells, loadCells, loadCellsFrom, hle, storeCells]
  · obtain ⟨g, o, rfl, hg, hc⟩ := hs (by omega)
    have hadd : ∀ n, (⟨g, o, none⟩ : Addr).add n = ⟨g, o + n, none⟩ := fun n => by unfold Addr.add; split <;> simp_all
    have key := fun ty => run_append_own (P := P) d base st ty e i z K.size bytes I.und hi hz0 hz1 hz2 hzs K.pos _ L.length _ hown ⟨g, o, none⟩ M.length c (M.flatMap K.enc) (map_len M) (fun j u hu => by rw [hadd]; exact hc j u hu) (map_one M) h63 hl hbase
    obtain ⟨v', w', hr, ho, hgr, _⟩ := key 0
    obtain ⟨p2, c2, rfl⟩ : ∃ p c, v' = .slice p (L.length + M.length) c := by
      rcases ho.2 with ⟨rfl, h2⟩ | ⟨g, cap, cur, rfl, _⟩
      · omega
      · exact ⟨_, _, rfl⟩
    rw [← List.flatMap_append, ← List.length_append] at ho
    exact ⟨p2, c2, w', fun ty => hr, ho, hgr, fun e => by rw [List.append_eq_nil_iff] at e; rw [e.2] at h0; exact absurd rfl h0⟩
end
end Go.Proofs.Ytikhjnokfakgiaa.Rw
