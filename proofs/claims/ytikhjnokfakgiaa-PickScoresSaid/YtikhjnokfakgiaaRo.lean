/- What an argument that can be read as data is in memory: lists, texts, numbers, records, in the words of the walks. No program is named here. -/
import Derived.Test.YtikhjnokfakgiaaWWords
import Derived.ProofKit
import Derived.OpenShut
import Derived.SizedLaws
set_option linter.unusedSimpArgs false
set_option linter.unusedVariables false
namespace Go.Proofs.Ytikhjnokfakgiaa.Ro
open Go.RowKit Go.Proofs.YtikhjnokfakgiaaW.PrintWords

/-- A datum of type t, read out of cells, is one of kind K within bounds. -/
def Opens {H : Type} {α : Type} (enc : TypeId × Value → H) (P : Program) (W : World) (t : TypeId) (K : Kd α) (Bd : α → Prop) : Prop :=
  ∀ (base : Nat) (spare : Nat → Bool) (held : Bool) (fuel : Nat) (cs : List Value) (x : DataW H × List MemPlace),
    DataW.trod enc P W base spare held fuel t cs = some x → (∀ n ∈ x.1.weights P t, n ≤ reachBytes) → ∃ y, K.K W y cs ∧ Bd y
section
variable {H : Type} {enc : TypeId × Value → H} {P : Program} {W : World} {t e : TypeId}

theorem opens_string (hu : P.underlying t = some .string) : Opens enc P W t Kd.string (fun s => s.size ≤ 140737488351232) := by
  intro base spare held fuel cs x h hw
  obtain ⟨s, rfl, rfl, _⟩ := DataW.trod_string hu h
  have := hw s.data.toList.length (by simp [DataW.weights])
  exact ⟨s, rfl, by rw [data_length] at this; exact this⟩
theorem opens_int {k : IntKind} (hu : P.underlying t = some (.int k)) : Opens enc P W t (Kd.int k) (fun x => (Lit.int k x).wf = true) := by
  intro base spare held fuel cs x h hw
  obtain ⟨n, rfl, _, hwf⟩ := DataW.trod_int hu h
  exact ⟨n, rfl, hwf⟩
theorem opens_bool (hu : P.underlying t = some .bool) : Opens enc P W t Kd.bool (fun _ => True) := by
  intro base spare held fuel cs x h hw
  obtain ⟨b, rfl, _⟩ := DataW.trod_bool hu h
  exact ⟨b, rfl, trivial⟩

theorem weightsAll_mem {ds : List (DataW H)} {i : Nat} {d : DataW H} (h : ds[i]? = some d) : ∀ n ∈ d.weights P e, n ∈ DataW.weightsAll P e ds := by
  induction ds generalizing i with
  | nil => simp at h
  | cons a r ih =>
    intro n hn
    cases i with
    | zero =>
      simp at h
      subst h
      simp [DataW.weightsAll, hn]
    | succ i =>
      simp at h
      simp [DataW.weightsAll, ih h n hn]
theorem choose_list {α : Type} (n : Nat) (p : Nat → α → Prop) (h : ∀ i, i < n → ∃ x, p i x) : ∃ l : List α, l.length = n ∧ ∀ i x, l[i]? = some x → p i x := by
  refine ⟨List.ofFn (n := n) fun i => (h i.1 i.2).choose, by simp, fun i x hx => ?_⟩
  rw [List.getElem?_ofFn] at hx
  split at hx
  · rename_i hi
    obtain rfl := Option.some.inj hx
    exact (h i hi).choose_spec
  · cases hx
theorem opens_slice {α : Type} {K : Kd α} {Bd : α → Prop} (hu : P.underlying t = some (.slice e)) (hsz : P.cellsOf e = K.sz) (h : Opens enc P W e K Bd) :
    Opens enc P W t (Kd.slice e K) (fun l => l.length * P.bytesOf e ≤ 140737488351232 ∧ ∀ x ∈ l, Bd x) := by
  intro base spare held fuel cs x hx hw
  rcases DataW.trod_slice hu hx with ⟨rfl, rfl⟩ | ⟨a, len, cap, elems, rest, n, rfl, rfl, rfl, hb, hlc, hcap, hel, hcells, _⟩
  · exact ⟨[], ⟨none, 0, rfl, Nat.le_refl _, Kd.C_nil K W⟩, by simp, by simp⟩
  · have hwt : ∀ (i : Nat) (y : DataW H × List MemPlace), elems[i]? = some y → ∀ n ∈ y.1.weights P e, n ≤ reachBytes := fun i y hy m hm => by
      refine hw m ?_
      simp only [DataW.weights, hu, List.mem_cons, List.mem_append]
      exact .inr (.inl (weightsAll_mem (i := i) (d := y.1) (by rw [List.getElem?_map, hy]; rfl) m hm))
    obtain ⟨l, hl, hp⟩ := choose_list len (fun i y => ∃ cs, K.K W y cs ∧ Bd y ∧ ∀ j u, cs[j]? = some u → W.cell? ((a.add (i * P.cellsOf e)).add j) = some u) (fun i hi => by
      have hi2 : i < elems.length := by omega
      have hc := hcells i hi
      rw [List.getElem?_eq_getElem hi2] at hc
      obtain ⟨cs, hc1, hc2⟩ := Option.bind_eq_some_iff.1 hc
      obtain ⟨_, hcl, hcc⟩ := World.cells?_some hc1
      obtain ⟨y, hy, hbd⟩ := h base spare held n cs _ hc2 (hwt i _ (List.getElem?_eq_getElem hi2))
      exact ⟨y, cs, hy, hbd, fun j u hju => by
        have hj : j < P.cellsOf e := by have := (List.getElem?_eq_some_iff.1 hju).1; omega
        rw [hcc j hj]; exact hju⟩)
    refine ⟨l, ⟨some a, cap, by rw [hl], by rw [hl]; exact hlc, hl ▸ ⟨hl, ?_, fun _ => ⟨a, rfl, fun j p hj => ?_⟩⟩⟩, ?_, fun y hy => ?_⟩
    · simp only [maxLen] at hcap; omega
    · obtain ⟨cs, hk, _, hcl⟩ := hp j p hj
      refine ⟨cs, K.K_len hk, hk, fun i u hu2 => ?_⟩
      have := hcl i u hu2
      rw [add_add, hsz] at this
      exact this
    · have := hw (((elems.map (·.1)).length + (rest.map (·.1)).length) * P.bytesOf e) (by simp [DataW.weights, hu])
      simp only [List.length_map] at this
      rw [hl]
      refine Nat.le_trans (Nat.mul_le_mul_right _ ?_) this
      omega
    · obtain ⟨i, hi, rfl⟩ := List.mem_iff_getElem.1 hy
      obtain ⟨_, _, hbd, _⟩ := hp i l[i] (List.getElem?_eq_getElem hi)
      exact hbd
end
section
variable {H : Type} {enc : TypeId × Value → H} {P : Program} {W : World}
theorem weights_param {ts : List TypeId} {ds : List (DataW H)} {j : Nat} {t : TypeId} {d : DataW H} (h : (DataW.weightsEach P ts ds).all (· ≤ reachBytes) = true) (ht : ts[j]? = some t) (hd : ds[j]? = some d) : ∀ n ∈ d.weights P t, n ≤ reachBytes :=
  fun n hn => by simpa using List.all_eq_true.1 h _ (DataW.weights_mem_each ht hd n hn)
/-- A slice that came in. -/
theorem open_slice_arg {α : Type} {K : Kd α} {Bd : List α → Prop} {t e : TypeId} {a : Option Addr} {len cap : Nat} {d : DataW H} {ps : List MemPlace} {base : Nat} {spare : Nat → Bool} {held : Bool}
    (h : Opens enc P W t (Kd.slice e K) Bd) (ht : DataW.Trod enc P W base spare held t (.slice a len cap) d ps) (hw : ∀ n ∈ d.weights P t, n ≤ reachBytes) :
    ∃ l, len = l.length ∧ l.length ≤ cap ∧ K.C W a l.length l ∧ Bd l := by
  obtain ⟨fuel, hf⟩ := ht
  obtain ⟨l, ⟨A, c, hc, hle, hC⟩, hb⟩ := h base spare held fuel _ _ hf hw
  simp [Value.cells] at hc
  obtain ⟨rfl, rfl, rfl⟩ := hc
  exact ⟨l, rfl, hle, hC, hb⟩
end
/-! ### Records -/
section
variable {H : Type} {enc : TypeId × Value → H} {P : Program} {W : World}
def OpensF {H : Type} {α : Type} (enc : TypeId × Value → H) (P : Program) (W : World) (fs : List Field) (off : Nat) (K : Kd α) (Bd : α → Prop) : Prop :=
  ∀ (base : Nat) (spare : Nat → Bool) (held : Bool) (n : Nat) (cs : List Value), cs.length = off + K.sz →
    (∀ f ∈ fs, ∃ x, DataW.trod enc P W base spare held n f.type ((cs.drop f.offset).take (P.cellsOf f.type)) = some x ∧ ∀ m ∈ x.1.weights P f.type, m ≤ reachBytes) → ∃ y, K.K W y (cs.drop off) ∧ Bd y
theorem opensF_one {α : Type} {K : Kd α} {Bd : α → Prop} {f : Field} {off : Nat} (ho : f.offset = off) (hs : P.cellsOf f.type = K.sz) (h : Opens enc P W f.type K Bd) : OpensF enc P W [f] off K Bd := by
  intro base spare held n cs hl hx
  obtain ⟨x, h1, h2⟩ := hx f (by simp)
  rw [ho, List.take_of_length_le (by rw [List.length_drop]; omega)] at h1
  exact h base spare held n _ x h1 h2
theorem opensF_cons {α β : Type} {K1 : Kd α} {K2 : Kd β} {B1 : α → Prop} {B2 : β → Prop} {f : Field} {fs : List Field} {off : Nat} (ho : f.offset = off) (hs : P.cellsOf f.type = K1.sz) (h : Opens enc P W f.type K1 B1) (hr : OpensF enc P W fs (off + K1.sz) K2 B2) :
    OpensF enc P W (f :: fs) off (Kd.pair K1 K2) (fun y => B1 y.1 ∧ B2 y.2) := by
  intro base spare held n cs hl hx
  have hl' : cs.length = off + (K1.sz + K2.sz) := hl
  obtain ⟨x, h1, h2⟩ := hx f (by simp)
  rw [ho, hs] at h1
  obtain ⟨y1, k1, b1⟩ := h base spare held n _ x h1 h2
  obtain ⟨y2, k2, b2⟩ := hr base spare held n cs (by omega) fun g hg => hx g (by simp [hg])
  refine ⟨(y1, y2), ⟨(cs.drop off).take K1.sz, cs.drop (off + K1.sz), ?_, k1, k2⟩, b1, b2⟩
  rw [← List.drop_drop, List.take_append_drop]
theorem opens_struct {α β : Type} {K : Kd β} {Bd : β → Prop} {t : TypeId} {fs : Array Field} (hu : P.underlying t = some (.struct fs)) (hsz : P.cellsOf t = K.sz) (hF : OpensF enc P W fs.toList 0 K Bd) (f : α → β) (g : β → α) (hfg : ∀ y, f (g y) = y) :
    Opens enc P W t (Kd.iso K f) (fun x => Bd (f x)) := by
  intro base spare held fuel cs x hx hw
  obtain ⟨xs, n, rfl, rfl, hl, hxl, hxs⟩ := DataW.trod_struct hu hx
  obtain ⟨y, k, b⟩ := hF base spare held n cs (by rw [hl, hsz]; omega) (by
    intro f hf
    obtain ⟨i, hi, rfl⟩ := List.mem_iff_getElem.1 hf
    have hi' : i < fs.size := by simpa using hi
    have h1 := hxs i fs[i] (Array.getElem?_eq_getElem hi')
    have hi2 : i < xs.length := by omega
    rw [List.getElem?_eq_getElem hi2] at h1
    refine ⟨xs[i], by simpa using h1, fun m hm => hw m ?_⟩
    simp only [DataW.weights, hu]
    exact DataW.weights_mem_each (j := i) (t := fs[i].type) (d := xs[i].1) (by simp [hi']) (by rw [List.getElem?_map, List.getElem?_eq_getElem hi2]; rfl) m (by simpa using hm))
  refine ⟨g y, ?_, by show Bd (f (g y)); rw [hfg]; exact b⟩
  show K.K W (f (g y)) cs
  rw [hfg]
  simpa using k
/-! ### Arrays -/
theorem okWide_array {r : Reach} {base : Nat} {n : Nat} {t e : TypeId} {v : Value} (ht : P.underlying t = some (.array n e)) (h : Value.okWide P W r base t v) : ∃ cs, v = .agg cs ∧ cs.size = P.cellsOf t := by
  simp only [Value.okWide, ht] at h
  obtain ⟨cs, h1, h2, _⟩ := h
  exact ⟨cs, h1, h2⟩
def OpensA {H : Type} {α : Type} (enc : TypeId × Value → H) (P : Program) (W : World) (e : TypeId) (c n off : Nat) (K : Kd α) (Bd : α → Prop) : Prop :=
  ∀ (base : Nat) (spare : Nat → Bool) (held : Bool) (m : Nat) (cs : List Value), cs.length = off + K.sz →
    (∀ i, i < n → ∃ x, DataW.trod enc P W base spare held m e ((cs.drop (off + i * c)).take c) = some x ∧ ∀ q ∈ x.1.weights P e, q ≤ reachBytes) → ∃ y, K.K W y (cs.drop off) ∧ Bd y
theorem opensA_one {α : Type} {K : Kd α} {Bd : α → Prop} {e : TypeId} {c off : Nat} (hs : c = K.sz) (h : Opens enc P W e K Bd) : OpensA enc P W e c 1 off K Bd := by
  intro base spare held m cs hl hx
  obtain ⟨x, h1, h2⟩ := hx 0 (by omega)
  rw [Nat.zero_mul, Nat.add_zero, List.take_of_length_le (by rw [List.length_drop]; omega)] at h1
  exact h base spare held m _ x h1 h2
theorem opensA_cons {α β : Type} {K1 : Kd α} {K2 : Kd β} {B1 : α → Prop} {B2 : β → Prop} {e : TypeId} {c n off : Nat} (hs : c = K1.sz) (h : Opens enc P W e K1 B1) (hr : OpensA enc P W e c n (off + c) K2 B2) :
    OpensA enc P W e c (n + 1) off (Kd.pair K1 K2) (fun y => B1 y.1 ∧ B2 y.2) := by
  intro base spare held m cs hl hx
  have hl' : cs.length = off + (K1.sz + K2.sz) := hl
  obtain ⟨x, h1, h2⟩ := hx 0 (by omega)
  rw [Nat.zero_mul, Nat.add_zero] at h1
  obtain ⟨y1, k1, b1⟩ := h base spare held m _ x h1 h2
  obtain ⟨y2, k2, b2⟩ := hr base spare held m cs (by omega) fun i hi => by
    obtain ⟨x, h3, h4⟩ := hx (i + 1) (by omega)
    rw [Nat.succ_mul, show off + (i * c + c) = off + c + i * c by omega] at h3
    exact ⟨x, h3, h4⟩
  refine ⟨(y1, y2), ⟨(cs.drop off).take c, cs.drop (off + c), ?_, k1, k2⟩, b1, b2⟩
  rw [← List.drop_drop, List.take_append_drop]
theorem opens_array {α β : Type} {K : Kd β} {Bd : β → Prop} {t e : TypeId} {n : Nat} (hu : P.underlying t = some (.array n e)) (hsz : P.cellsOf t = K.sz) (hF : OpensA enc P W e (P.cellsOf e) n 0 K Bd) (f : α → β) (g : β → α) (hfg : ∀ y, f (g y) = y) :
    Opens enc P W t (Kd.iso K f) (fun x => Bd (f x)) := by
  intro base spare held fuel cs x hx hw
  obtain ⟨xs, m, rfl, rfl, hl, hxl, hxs⟩ := DataW.trod_array hu hx
  obtain ⟨y, k, b⟩ := hF base spare held m cs (by rw [hl, hsz]; omega) (by
    intro i hi
    have h1 := hxs i hi
    have hi2 : i < xs.length := by omega
    rw [List.getElem?_eq_getElem hi2] at h1
    refine ⟨xs[i], by rw [Nat.zero_add]; exact h1, fun q hq => hw q ?_⟩
    simp only [DataW.weights, hu]
    exact weightsAll_mem (i := i) (d := xs[i].1) (by rw [List.getElem?_map, List.getElem?_eq_getElem hi2]; rfl) q hq)
  refine ⟨g y, ?_, by show Bd (f (g y)); rw [hfg]; exact b⟩
  show K.K W (f (g y)) cs
  rw [hfg]
  simpa using k
/-- A record that came in. -/
theorem open_agg_arg {α : Type} {K : Kd α} {Bd : α → Prop} {t : TypeId} {cs : Array Value} {d : DataW H} {ps : List MemPlace} {base : Nat} {spare : Nat → Bool} {held : Bool}
    (h : Opens enc P W t K Bd) (ht : DataW.Trod enc P W base spare held t (.agg cs) d ps) (hw : ∀ n ∈ d.weights P t, n ≤ reachBytes) : ∃ y, K.K W y cs.toList ∧ Bd y := by
  obtain ⟨fuel, hf⟩ := ht
  exact h base spare held fuel _ _ hf hw
end
end Go.Proofs.Ytikhjnokfakgiaa.Ro
