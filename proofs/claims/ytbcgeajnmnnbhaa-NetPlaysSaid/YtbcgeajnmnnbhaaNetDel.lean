/- slices.Delete of one packet: walked. -/
import Derived.Test.YtbcgeajnmnnbhaaNetS
import Derived.ArgAppend
set_option linter.unusedSimpArgs false
set_option linter.unusedVariables false
namespace Go.Proofs.Ytbcgeajnmnnbhaa.Nt
open Go.RowKit Go.Maps Go.Proofs.Ytbcgeajnmnnbhaa.PAll Go.Proofs.YtbcgeajnmnnbhaaW.PrintWords
attribute [local go_sem] put_fresh
attribute [-go_sem] Builtin.append_

theorem zero_packet (w : World) : (zeroValue 27).run Try.prog w = .ok (.agg #[.int .i64 0, .int .i64 0, .string ByteArray.empty]) w := by kernel_rfl
def zs : List Value := [.int .i64 0, .int .i64 0, .string ByteArray.empty]
theorem run_clear1 {w : World} {g o c : Nat} (ty : TypeId) (hc : ∀ j, j < 3 → (w.cell? ⟨g, o + j, none⟩).isSome = true) (hf : ∀ j, j < 3 → w.frozen? ⟨g, o + j, none⟩ = false) :
    (Builtin.clear_ #[36] ty #[.slice (some ⟨g, o, none⟩) 1 c]).run Try.prog w = .ok (.tuple #[]) (w.setCells g o zs) := by
  have hst := run_storeCells_cells (P := Try.prog) g o zs 0 w (by simpa [zs] using hc) (by simpa [zs] using hf) (by intro u hu; simp [zs] at hu; rcases hu with rfl | rfl | rfl <;> rfl)
  simp only [Nat.add_zero] at hst
  have hz : Builtin.zeroCells #[.int .i64 0, .int .i64 0, .string ⟨#[]⟩] 1 = zs.toArray := by
    have hr : Array.range 3 = #[0, 1, 2] := by decide
    simp [Builtin.zeroCells, zs, hr]
    rfl
  simp [Builtin.clear_, run_underlying Try.underlying36, zero_packet, Result.andThen, Value.cells, hz, hst]
/-- A row cut short. -/
theorem own_take {w : World} {base g cap n : Nat} {L : List Pk} (h : w.ownsRow base 27 3 (.slice (some ⟨g, 0, none⟩) n cap) n (L.flatMap penc)) (hL : L.length = n) {k : Nat} (hk : k ≤ n) :
    w.ownsRow base 27 3 (.slice (some ⟨g, 0, none⟩) k cap) k ((L.take k).flatMap penc) := by
  rcases h.2 with ⟨h0, _⟩ | ⟨g', cap', cur, hv, hg, hb, hn, hcp, hz, ht⟩
  · cases h0
  · cases hv
    refine ⟨by rw [pmap_len, List.length_take]; omega, .inr ⟨g, cap, cur, rfl, hg, hb, by omega, hcp, hz, ?_⟩⟩
    have h1 : cur.toList.take (k * 3) = (cur.toList.take (n * 3)).take (k * 3) := by rw [List.take_take, Nat.min_eq_left (by omega)]
    rw [h1, ht]
    conv => lhs; rw [← List.take_append_drop k L, List.flatMap_append]
    rw [List.take_append_of_le_length (by rw [pmap_len, List.length_take]; omega), List.take_of_length_le (by rw [pmap_len, List.length_take]; omega)]
/-- Cells behind a row's end are written. -/
theorem own_set {w : World} {base g cap n : Nat} {xs : List Value} (h : w.ownsRow base 27 3 (.slice (some ⟨g, 0, none⟩) n cap) n xs) (o : Nat) (vs : List Value) (ho : n * 3 ≤ o) : (w.setCells g o vs).ownsRow base 27 3 (.slice (some ⟨g, 0, none⟩) n cap) n xs := by
  have one : ∀ (w : World) (o : Nat) (v : Value), n * 3 ≤ o → w.ownsRow base 27 3 (.slice (some ⟨g, 0, none⟩) n cap) n xs → (w.setCell ⟨g, o, none⟩ v).ownsRow base 27 3 (.slice (some ⟨g, 0, none⟩) n cap) n xs := by
    intro w o v ho h
    refine ⟨h.1, .inr ?_⟩
    rcases h.2 with ⟨h0, _⟩ | ⟨g', cap', cur, hv, hg, hb, hn, hcp, hz, ht⟩
    · cases h0
    · cases hv
      refine ⟨g, cap, cur.setIfInBounds o v, rfl, hg, set_blk v hb, hn, hcp, by simpa using hz, ?_⟩
      rw [Array.toList_setIfInBounds, List.take_set, ← ht, List.set_eq_of_length_le (by rw [List.length_take]; omega)]
  induction vs generalizing w o with
  | nil => exact h
  | cons v r ih => exact ih (one w o v ho h) (o + 1) (by omega)
theorem sets_other {b k : Nat} (hne : b ≠ k) : ∀ (vs : List Value) (o : Nat) (w : World), (w.setCells b o vs).heap[k]? = w.heap[k]?
  | [], _, _ => rfl
  | v :: r, o, w => by
    rw [World.setCells, sets_other hne r]
    exact set_other v hne
theorem sets_size {b : Nat} : ∀ (vs : List Value) (o : Nat) (w : World), (w.setCells b o vs).heap.size = w.heap.size
  | [], _, _ => rfl
  | v :: r, o, w => by rw [World.setCells, sets_size r]; simp
theorem sets_rest {b : Nat} : ∀ (vs : List Value) (o : Nat) (w : World), (w.setCells b o vs).os = w.os ∧ (w.setCells b o vs).tape = w.tape ∧ (w.setCells b o vs).output = w.output
  | [], _, _ => ⟨rfl, rfl, rfl⟩
  | v :: r, o, w => by rw [World.setCells]; exact sets_rest r (o + 1) (w.setCell ⟨b, o, none⟩ v)
theorem take_erase (L : List Pk) (k : Nat) : L.take k ++ L.drop (k + 1) = L.eraseIdx k := (List.eraseIdx_eq_take_drop_succ L k).symm
set_option maxRecDepth 100000 in
set_option maxHeartbeats 8000000 in
theorem del_c {W : World} {base g cap : Nat} {L : List Pk} (h : W.ownsRow base 27 3 (.slice (some ⟨g, 0, none⟩) L.length cap) L.length (L.flatMap penc)) {k : Nat} (hk : k < L.length) (hl : L.length ≤ 800) :
    Calls Try.prog 35 #[.slice (some ⟨g, 0, none⟩) L.length cap, .int .i64 k, .int .i64 ((k : Int) + 1)] W fun e W' => e = .returned (.slice (some ⟨g, 0, none⟩) (L.length - 1) cap) ∧ W'.ownsRow base 27 3 (.slice (some ⟨g, 0, none⟩) (L.length - 1) cap) (L.length - 1) ((L.eraseIdx k).flatMap penc) ∧ W.grownBy W' (some g) := by
  obtain ⟨i0, hi, hz0, hz1, hz2⟩ := info_parts info_packet
  obtain ⟨hn, hcp, cur, hb, hz, ht⟩ : L.length ≤ cap ∧ cap ≤ maxLen ∧ ∃ cur : Array Value, W.heap[g]? = some (.cells cur 27 (0, 0)) ∧ cur.size = cap * 3 ∧ cur.toList.take (L.length * 3) = L.flatMap penc := by
    rcases h.2 with ⟨h0, _⟩ | ⟨g', cap', cur, hv, hg, hb, hn, hcp, hz, ht⟩
    · cases h0
    · cases hv
      exact ⟨hn, hcp, cur, hb, hz, ht⟩
  have hdl : (L.drop (k + 1)).length = L.length - (k + 1) := List.length_drop
  have hnews : ∀ A : Addr, (A = ⟨g, (k + 1) * 3, none⟩ ∨ L.length = k + 1) → ∀ j u, ((L.drop (k + 1)).flatMap penc)[j]? = some u → W.drew.cell? (A.add j) = some u := fun A hA j u hu => by
    have hj := (List.getElem?_eq_some_iff.1 hu).1
    rw [pmap_len, hdl] at hj
    rcases hA with rfl | hA
    · rw [show ((⟨g, (k + 1) * 3, none⟩ : Addr).add j) = ⟨g, (k + 1) * 3 + j, none⟩ from by unfold Addr.add; split <;> simp_all]
      show W.cell? _ = _
      rw [blk_cell hb, ← Array.getElem?_toList]
      have h1 : (cur.toList.take (L.length * 3))[(k + 1) * 3 + j]? = (L.flatMap penc)[(k + 1) * 3 + j]? := by rw [ht]
      rw [List.getElem?_take_of_lt (by omega)] at h1
      rw [h1]
      conv => lhs; rw [← List.take_append_drop (k + 1) L, List.flatMap_append]
      rw [List.getElem?_append_right (by rw [pmap_len, List.length_take]; omega), pmap_len, List.length_take, Nat.min_eq_left (by omega), Nat.add_sub_cancel_left]
      exact hu
    · omega
  have hone : ∀ u ∈ (L.drop (k + 1)).flatMap penc, u.oneCell' = true := fun u hu => by
    obtain ⟨y, _, hy⟩ := List.mem_flatMap.1 hu
    exact penc_one y u hy
  have fits := fun A hA c => run_append_fits (P := Try.prog) W.drew base 36 36 27 i0 3 Try.underlying36 hi hz1 g k cap _ (own_take h rfl (Nat.le_of_lt hk)) A (L.length - (k + 1)) c ((L.drop (k + 1)).flatMap penc) (by rw [pmap_len, hdl]) (hnews A hA) hone (by omega)
  obtain ⟨A, hA, hAe⟩ : ∃ A : Addr, (A = ⟨g, (k + 1) * 3, none⟩ ∨ L.length = k + 1) ∧ (if cap = k + 1 then (some (⟨g, 0, none⟩ : Addr)) else some ⟨g, (k + 1) * 3, none⟩) = some A := by
    by_cases hc : cap = k + 1
    · exact ⟨⟨g, 0, none⟩, .inr (by omega), by rw [if_pos hc]⟩
    · exact ⟨⟨g, (k + 1) * 3, none⟩, .inl rfl, by rw [if_neg hc]⟩
  obtain ⟨W1, hup, hown1, hg1⟩ := fits A hA (cap - (k + 1))
  have hkm : k + (L.length - (k + 1)) = L.length - 1 := by omega
  rw [← List.flatMap_append, take_erase] at hown1
  rw [hkm] at hup hown1
  obtain ⟨cur1, hb1, hz1⟩ : ∃ cur1 : Array Value, W1.heap[g]? = some (.cells cur1 27 (0, 0)) ∧ cur1.size = cap * 3 := by
    rcases hown1.2 with ⟨h0, _⟩ | ⟨g', cap', cur', hv, hg', hb', hn', hcp', hz', ht'⟩
    · cases h0
    · cases hv
      exact ⟨cur', hb', hz'⟩
  have hcl := run_clear1 (w := W1) (g := g) (o := (L.length - 1) * 3) (c := cap - (L.length - 1)) 0 (fun j hj => by rw [blk_cell hb1, Array.getElem?_eq_getElem (by omega)]; rfl) (fun j hj => blk_frozen hb1 _)
  clear hb1 hz1
  have H1 := Aside0.mk (And.intro hown1 hg1)
  have F := Aside0.mk (And.intro hn (And.intro hl (And.intro hk hcp)))
  clear hnews hone fits hA hown1 hg1 h hb hz ht hdl
  go_enter Try.func35, Try.ntmps35
  go_wp2_with fail
  obtain ⟨hn, hl, hk, hcp⟩ := F.out
  have hkc : k ≤ cap := by omega
  have hk1 : k + 1 ≤ L.length := hk
  clear hz0 hz1 hz2 hi
  go_region
  have e1 : L.length - (L.length - 1) = 1 := by omega
  have e2 : L.length - 1 ≤ L.length := by omega
  have e3 : ¬ cap = L.length - 1 := by omega
  have e4 : ((L.length - 1 : Nat) : Int) ≤ (L.length : Int) := by omega
  go_wp2
  go_ret
  obtain ⟨hown1, hg1⟩ := H1.out
  obtain ⟨r1, r2, r3⟩ := sets_rest (b := g) zs ((L.length - 1) * 3) W1
  refine ⟨rfl, own_set hown1 _ _ (Nat.le_refl _), ⟨r1.trans hg1.os, r2.trans hg1.tape, r3.trans hg1.output, by rw [sets_size]; exact hg1.size, fun j hj hne => (sets_other (fun e => hne (by rw [e])) zs _ W1).trans (hg1.block j hj hne)⟩⟩
end Go.Proofs.Ytbcgeajnmnnbhaa.Nt
