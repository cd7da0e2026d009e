/- Rows of things of any kind, in the words of the sorting kit (rows of k cells). -/
import Derived.Test.YtdfaoafeojoceaaRw
import Derived.Shelf.GgSortFunc.RowK
set_option linter.unusedSimpArgs false
set_option linter.unusedVariables false
namespace Go.Proofs.Ytdfaoafeojoceaa.Rw
open Go.RowKit Go.Sort Go.Proofs.YtdfaoafeojoceaaW.PrintWords
variable {α : Type} [Inhabited α] {K : Lie α}

theorem flatMap_get (ss : List α) (t : Nat) (h : t < ss.length * K.size) : (ss.flatMap K.enc)[t]? = (K.enc (ss.toArray[t / K.size]!))[t % K.size]? := by
  have hp := K.pos
  have hlt : t / K.size < ss.length := Nat.div_lt_of_lt_mul (by rw [Nat.mul_comm]; exact h)
  have hx : ss[t / K.size]? = some (ss.toArray[t / K.size]!) := by
    rw [getElem!_pos ss.toArray _ (by simpa using hlt)]
    simp
  have := map_at (K := K) hx (Nat.mod_lt t hp)
  rw [show t / K.size * K.size + t % K.size = t by rw [Nat.mul_comm]; exact Nat.div_add_mod t K.size] at this
  exact this
theorem flatK_list (ss : List α) : (flatK K.enc K.size ss.toArray).toList = ss.flatMap K.enc := by
  apply List.ext_getElem?
  intro t
  by_cases h : t < ss.length * K.size
  · rw [flatMap_get ss t h, Array.getElem?_toList]
    have h5 : t % K.size < (K.enc (ss.toArray[t / K.size]!)).length := by rw [K.len]; exact Nat.mod_lt _ K.pos
    have h1 := get_flatK K.enc K.size ss.toArray t (by simpa using h)
    have h6 : t < (flatK K.enc K.size ss.toArray).size := by simpa using h
    rw [Array.getElem?_eq_getElem h6, List.getElem?_eq_getElem h5]
    rw [getElem!_pos (flatK K.enc K.size ss.toArray) t h6, getElem!_pos (K.enc (ss.toArray[t / K.size]!)) (t % K.size) h5] at h1
    rw [h1]
  · rw [List.getElem?_eq_none (by simp; omega), List.getElem?_eq_none (by rw [map_len]; omega)]
theorem Own.holdsK {e : TypeId} {w : World} {base c g : Nat} {L : List α} (h : Own K e w base (some ⟨g, 0, none⟩) c L) : HoldsK K.enc K.size w g 0 L.toArray := by
  obtain ⟨cur, hb, _, ht⟩ := h.blk
  intro j hj
  have hj' : j < L.length * K.size := by simpa using hj
  refine ⟨?_, by simp [World.frozen?, hb]⟩
  have h1 : (cur.toList.take (L.length * K.size))[j]? = (flatK K.enc K.size L.toArray).toList[j]? := by rw [ht, flatK_list]
  rw [List.getElem?_take_of_lt hj'] at h1
  simp only [World.cell?, hb, Nat.zero_add]
  simp only [Option.isSome_none, Bool.false_eq_true, if_false]
  rw [← Array.getElem?_toList, h1, Array.getElem?_toList, Array.getElem?_eq_getElem hj, getElem!_pos (flatK K.enc K.size L.toArray) j hj]
  rfl
theorem heap_putK {w : World} {g n : Nat} {cur : Array Value} {e : TypeId} {fr : Nat × Nat} (d : Array α) (hb : w.heap[g]? = some (.cells cur e fr)) :
    (putRowK K.enc K.size (Sort.ahead w n) g 0 d).heap[g]? = some (.cells (putCells id 0 (flatK K.enc K.size d) cur) e fr) := by
  unfold putRowK
  simp [putRow, mapBlock, Sort.ahead, Array.getElem?_modify, hb, onCells]
theorem grownBy_putK {w : World} {g n : Nat} (d : Array α) : w.grownBy (putRowK K.enc K.size (Sort.ahead w n) g 0 d) (some g) := by
  unfold putRowK
  refine ⟨rfl, rfl, rfl, by simp [putRow, mapBlock, Sort.ahead], fun k hk hne => ?_⟩
  have : g ≠ k := fun e => hne (by rw [e])
  simp [putRow, mapBlock, Sort.ahead, Array.getElem?_modify, this]
theorem take_putCellsK (cur : Array Value) (F : Array Value) (h : F.size ≤ cur.size) : (putCells id 0 F cur).toList.take F.size = F.toList := by
  apply List.ext_getElem?
  intro j
  by_cases hj : j < F.size
  · rw [List.getElem?_take_of_lt hj, Array.getElem?_toList]
    simp [putCells, hj, show j < cur.size by omega]
  · rw [List.getElem?_take_eq_none (by omega), List.getElem?_eq_none (by simp; omega)]
/-- The row, laid anew. -/
theorem Own.putK {e : TypeId} {w : World} {base c g : Nat} {L M : List α} (h : Own K e w base (some ⟨g, 0, none⟩) c L) (hM : M.length = L.length) (n : Nat) : Own K e (putRowK K.enc K.size (Sort.ahead w n) g 0 M.toArray) base (some ⟨g, 0, none⟩) c M := by
  obtain ⟨hn, hm⟩ := h.cap
  have hg := h.lt.1
  obtain ⟨cur, hb, hz, ht⟩ := h.blk
  have hk : M.length * K.size ≤ c * K.size := Nat.mul_le_mul_right _ (by omega)
  refine Own.make hg (heap_putK M.toArray hb) (by omega) hm (by simp [putCells, hz]) ?_
  have hs : (flatK K.enc K.size M.toArray).size = M.length * K.size := by simp
  have := take_putCellsK cur (flatK K.enc K.size M.toArray) (by rw [hs, hz]; exact hk)
  rw [hs, flatK_list] at this
  exact this
end Go.Proofs.Ytdfaoafeojoceaa.Rw
