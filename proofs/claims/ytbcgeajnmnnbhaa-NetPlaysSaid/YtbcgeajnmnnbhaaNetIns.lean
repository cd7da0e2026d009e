/- slices.Insert of one packet where there is room: walked. -/
import Derived.Test.YtbcgeajnmnnbhaaNetDbl
import Derived.Shelf.Spec.SlicesInsert
import Derived.Laws.CopyRow
set_option linter.unusedSimpArgs false
set_option linter.unusedVariables false
namespace Go.Proofs.Ytbcgeajnmnnbhaa.Nt
open Go.RowKit Go.Maps Go.Proofs.Ytbcgeajnmnnbhaa.PAll Go.Proofs.YtbcgeajnmnnbhaaW.PrintWords
attribute [local go_sem] put_fresh
attribute [-go_sem] Builtin.append_

theorem run_copy3 (w : World) (ty : TypeId) (g o dLen dCap : Nat) (a : Addr) (sLen sCap m : Nat) (cur : Array Value) (t : TypeId) (cs : List Value)
    (hg : w.heap[g]? = some (.cells cur t (0, 0))) (hm : Nat.min sLen dLen = m) (hn : cs.length = m * 3)
    (hsrc : ∀ j v, cs[j]? = some v → w.cell? (a.add j) = some v) (hfit : o + cs.length ≤ cur.size) (h1 : ∀ v ∈ cs, v.oneCell' = true) :
    (Builtin.copy_ #[36, 36] ty #[.slice (some ⟨g, o, none⟩) dLen dCap, .slice (some a) sLen sCap]).run Try.prog w =
      .ok (goInt m) (w.setRow g (cur.toList.take o ++ cs ++ cur.toList.drop (o + cs.length)).toArray) := by
  obtain ⟨i0, hi, hz0, hz1, hz2⟩ := info_parts info_packet
  have hl := run_loadCells_list (P := Try.prog) w a cs hsrc
  have hst := run_storeCells_at Try.prog g o t cs 0 cur w hg (by simpa using hfit) h1
  rw [hn] at hl
  simp [Builtin.copy_, run_underlying Try.underlying36, Builtin.lenOf, Builtin.firstCells, sizeOf, typeInfo, hi, hz1, hm, hl, hst]
set_option maxRecDepth 100000 in
set_option maxHeartbeats 8000000 in
theorem ins_shift {W : World} {g cap q i : Nat} {cur : Array Value} {L : List Pk} (hb : W.heap[g]? = some (.cells cur 27 (0, 0))) (hz : cur.size = cap * 3) (ht : cur.toList.take (L.length * 3) = L.flatMap penc) (hi : i < L.length) (hroom : L.length + 1 ≤ cap) (hcap : cap ≤ 9223372036854775807) (x : Pk) (hq : W.heap[q]? = some (.cells #[.int .i64 x.a, .int .i64 x.b, .string x.s] 27 (0, 0))) (hne : q ≠ g) :
    Calls Try.prog 34 #[.slice (some ⟨g, 0, none⟩) L.length cap, .int .i64 i, .slice (some ⟨q, 0, none⟩) 1 1] W fun e W' => e = .returned (.slice (some ⟨g, 0, none⟩) (L.length + 1) cap) ∧ ∃ cur' : Array Value, W' = W.drew.setRow g cur' ∧ cur'.size = cap * 3 ∧ cur'.toList.take ((L.length + 1) * 3) = (L.take i ++ x :: L.drop i).flatMap penc := by
  have hz1 : ¬ ((1 : Int) = 0) := by omega
  have hz2 : ¬ ((i : Int) = (L.length : Int)) := by omega
  have hsa : W.shape? q = some (27, 3) := by simp [World.shape?, hq]
  have hsb : W.shape? g = some (27, cap * 3) := by simp [World.shape?, hb, hz]
  have hov : ∀ lb cb, (callFunc 41 #[.slice (some ⟨q, 0, none⟩) 1 1, .slice (some ⟨g, (i + 1) * 3, none⟩) lb cb]).run Try.prog W = .ok (.value (.bool false)) W := fun lb cb => by
    rw [run_callFunc_extern Try.func41 (by kernel_rfl) (by kernel_rfl) (by kernel_rfl) (e := Extern.SlicesOverlaps.overlaps #[36, 36] #[4]) (by kernel_rfl),
      Lib.run_overlaps_apart W 36 4 27 Try.underlying36 3 (fun w => by kernel_rfl) ⟨q, 0, none⟩ ⟨g, (i + 1) * 3, none⟩ 1 1 lb cb hne _ _ _ _ hsa hsb (by omega) (blk_frozen hq 0) (blk_frozen hq 3)]
    rfl
  have hD : ((L.drop i).flatMap penc).length = (L.length - i) * 3 := by rw [pmap_len, List.length_drop]
  have hDo : ∀ u ∈ (L.drop i).flatMap penc, u.oneCell' = true := fun u hu => by
    obtain ⟨y, _, hy⟩ := List.mem_flatMap.1 hu
    exact penc_one y u hy
  have hcur : ∀ j u, ((L.drop i).flatMap penc)[j]? = some u → cur[i * 3 + j]? = some u := fun j u hu => by
    have hj := (List.getElem?_eq_some_iff.1 hu).1
    rw [hD] at hj
    rw [← Array.getElem?_toList]
    have h1 : (cur.toList.take (L.length * 3))[i * 3 + j]? = (L.flatMap penc)[i * 3 + j]? := by rw [ht]
    rw [List.getElem?_take_of_lt (by omega)] at h1
    rw [h1]
    conv => lhs; rw [← List.take_append_drop i L, List.flatMap_append]
    rw [List.getElem?_append_right (by rw [pmap_len, List.length_take]; omega), pmap_len, List.length_take, Nat.min_eq_left (by omega), Nat.add_sub_cancel_left]
    exact hu
  have hcp1 : ∀ ty dc sc, (Builtin.copy_ #[36, 36] ty #[.slice (some ⟨g, (i + 1) * 3, none⟩) (L.length - i) dc, .slice (some ⟨g, i * 3, none⟩) (L.length + 1 - i) sc]).run Try.prog W.drew = .ok (goInt ((L.length - i : Nat))) (W.drew.setRow g (cur.toList.take ((i + 1) * 3) ++ (L.drop i).flatMap penc ++ cur.toList.drop ((i + 1) * 3 + ((L.drop i).flatMap penc).length)).toArray) := fun ty dc sc =>
    run_copy3 W.drew ty g ((i + 1) * 3) _ dc ⟨g, i * 3, none⟩ _ sc (L.length - i) cur 27 _ hb (by simp only [Nat.min_def]; split <;> omega) hD (fun j u hu => by rw [Addr.add_lit]; exact (blk_cell hb _).trans (hcur j u hu)) (by rw [hD]; omega) hDo
  obtain ⟨cur1, hc1⟩ : ∃ cur1 : Array Value, (cur.toList.take ((i + 1) * 3) ++ (L.drop i).flatMap penc ++ cur.toList.drop ((i + 1) * 3 + ((L.drop i).flatMap penc).length)).toArray = cur1 := ⟨_, rfl⟩
  rw [hc1] at hcp1
  have hl1 : cur1.toList = cur.toList.take ((i + 1) * 3) ++ (L.drop i).flatMap penc ++ cur.toList.drop ((i + 1) * 3 + ((L.drop i).flatMap penc).length) := by rw [← hc1]
  have hs1 : cur1.size = cap * 3 := by
    rw [← Array.length_toList, hl1]
    simp only [List.length_append, List.length_take, List.length_drop, Array.length_toList, hD, hz]
    omega
  have hb1 : (W.drew.setRow g cur1).heap[g]? = some (.cells cur1 27 (0, 0)) := setRow_heap W.drew g cur cur1 _ _ hb
  have hq1 : (W.drew.setRow g cur1).heap[q]? = some (.cells #[.int .i64 x.a, .int .i64 x.b, .string x.s] 27 (0, 0)) := (setRow_other W.drew g q cur1 hne).trans hq
  have hcp2 : ∀ (w : World), w.heap = (W.drew.setRow g cur1).heap → ∀ ty dc, (Builtin.copy_ #[36, 36] ty #[.slice (some ⟨g, i * 3, none⟩) (L.length + 1 - i) dc, .slice (some ⟨q, 0, none⟩) 1 1]).run Try.prog w = .ok (goInt (1 : Nat)) (w.setRow g (cur1.toList.take (i * 3) ++ penc x ++ cur1.toList.drop (i * 3 + (penc x).length)).toArray) := fun w hw ty dc =>
    run_copy3 w ty g (i * 3) _ dc ⟨q, 0, none⟩ 1 1 1 cur1 27 _ (by rw [hw]; exact hb1) (by simp only [Nat.min_def]; split <;> omega) rfl (World.news_of_block (by rw [hw]; exact hq1)) (by rw [penc_length, hs1]; omega) (penc_one x)
  have hw1 : IntKind.i64.wrap ((i : Int) + 1) = (i : Int) + 1 := by rw [IntKind.wrap_i64]; omega
  have hb1 : (0 : Int) ≤ (i : Int) + 1 := by omega
  have hin : i ≤ L.length := by omega
  have htn : ((i : Int) + 1).toNat = i + 1 := by omega
  have hb2 : ¬ (cap = i + 1) := by omega
  have hb3 : (i : Int) ≤ (L.length : Int) + 1 := by omega
  have hb4 : ¬ (cap = i) := by omega
  clear hcur hDo hq1 hsa hsb hD
  have HF := Aside0.mk (And.intro hc1 (And.intro hl1 (And.intro hs1 (And.intro ht (And.intro hz hb)))))
  clear hc1 hl1 hs1 ht hz hb
  go_enter Try.func34, Try.ntmps34
  go_wp2_with (simp only [hov])
  go_region
  go_wp2_with (at_builtin; refine wpList_copy_runI _ rfl _ _ 36 36 rfl _ _ rfl rfl (hcp2 _ rfl _ _) ?_)
  go_ret
  obtain ⟨hc1, hl1, hs1, ht, hz, hb⟩ := HF.out
  have hD : ((L.drop i).flatMap penc).length = (L.length - i) * 3 := by rw [pmap_len, List.length_drop]
  have hT : ((L.take i).flatMap penc).length = i * 3 := by rw [pmap_len, List.length_take, Nat.min_eq_left hin]
  have hti : cur1.toList.take (i * 3) = (L.take i).flatMap penc := by
    rw [hl1, List.append_assoc, List.take_append_of_le_length (by rw [List.length_take, Array.length_toList, hz]; omega), List.take_take, Nat.min_eq_left (by omega)]
    have h1 : cur.toList.take (i * 3) = (cur.toList.take (L.length * 3)).take (i * 3) := by rw [List.take_take, Nat.min_eq_left (by omega)]
    rw [h1, ht]
    conv => lhs; rw [← List.take_append_drop i L, List.flatMap_append]
    rw [List.take_append_of_le_length (by omega), List.take_of_length_le (by omega)]
  have hdi : cur1.toList.drop (i * 3 + (penc x).length) = (L.drop i).flatMap penc ++ cur.toList.drop ((i + 1) * 3 + ((L.drop i).flatMap penc).length) := by
    have hx3 : (cur.toList.take ((i + 1) * 3)).length = i * 3 + (penc x).length := by rw [List.length_take, Array.length_toList, hz, penc_length]; omega
    rw [hl1, List.append_assoc, ← hx3, List.drop_left]
  refine ⟨rfl, _, setRow_setRow _ _ _ _, ?_, ?_⟩
  · rw [← Array.length_toList]
    simp only [List.length_append, hti, hdi, hT, hD, penc_length, List.length_drop, Array.length_toList, hz]
    omega
  · rw [List.toList_toArray, hti, hdi, List.flatMap_append, List.flatMap_cons, ← List.append_assoc (penc x), ← List.append_assoc]
    rw [List.take_append_of_le_length (by simp only [List.length_append, hT, hD, penc_length]; omega), List.take_of_length_le (by simp only [List.length_append, hT, hD, penc_length]; omega)]
set_option maxRecDepth 100000 in
set_option maxHeartbeats 8000000 in
theorem ins_end {W : World} {base g cap q : Nat} {L : List Pk} (h : W.ownsRow base 27 3 (.slice (some ⟨g, 0, none⟩) L.length cap) L.length (L.flatMap penc)) (hroom : L.length + 1 ≤ cap) (x : Pk) (hq : W.heap[q]? = some (.cells #[.int .i64 x.a, .int .i64 x.b, .string x.s] 27 (0, 0))) :
    Calls Try.prog 34 #[.slice (some ⟨g, 0, none⟩) L.length cap, .int .i64 L.length, .slice (some ⟨q, 0, none⟩) 1 1] W fun e W' => e = .returned (.slice (some ⟨g, 0, none⟩) (L.length + 1) cap) ∧ W'.ownsRow base 27 3 (.slice (some ⟨g, 0, none⟩) (L.length + 1) cap) (L.length + 1) ((L ++ [x]).flatMap penc) ∧ W.grownBy W' (some g) := by
  obtain ⟨i0, hi, hz0, hz1, hz2⟩ := info_parts info_packet
  obtain ⟨w', hup, hown, hg⟩ := run_append_fits (P := Try.prog) W base 36 36 27 i0 3 Try.underlying36 hi hz1 g L.length cap _ h ⟨q, 0, none⟩ 1 1 (penc x) rfl (World.news_of_block hq) (penc_one x) hroom
  have H := Aside0.mk (And.intro hown hg)
  have hn1 : ¬ ((1 : Int) = 0) := by omega
  have hcp : L.length ≤ cap := by omega
  clear hown hg hz0 hz1 hz2 hi h hq
  go_enter Try.func34, Try.ntmps34
  go_wp2
  go_ret
  refine ⟨rfl, ?_, H.out.2⟩
  rw [List.flatMap_append, List.flatMap_cons, List.flatMap_nil, List.append_nil]
  exact H.out.1
/-- A packet put in at a place of a row that has room. -/
theorem ins_c {W : World} {base g cap q i : Nat} {L : List Pk} (h : W.ownsRow base 27 3 (.slice (some ⟨g, 0, none⟩) L.length cap) L.length (L.flatMap penc)) (hi : i ≤ L.length) (hroom : L.length + 1 ≤ cap) (x : Pk) (hq : W.heap[q]? = some (.cells #[.int .i64 x.a, .int .i64 x.b, .string x.s] 27 (0, 0))) (hne : q ≠ g) :
    Calls Try.prog 34 #[.slice (some ⟨g, 0, none⟩) L.length cap, .int .i64 i, .slice (some ⟨q, 0, none⟩) 1 1] W fun e W' => e = .returned (.slice (some ⟨g, 0, none⟩) (L.length + 1) cap) ∧ W'.ownsRow base 27 3 (.slice (some ⟨g, 0, none⟩) (L.length + 1) cap) (L.length + 1) ((L.take i ++ x :: L.drop i).flatMap penc) ∧ W.grownBy W' (some g) := by
  by_cases he : i = L.length
  · subst he
    have := ins_end h hroom x hq
    rw [List.take_length, List.drop_length]
    exact this
  · rcases h.2 with ⟨h0, _⟩ | ⟨g', cap', cur, hv, hg, hb, hn, hcp, hz, ht⟩
    · cases h0
    · cases hv
      refine (ins_shift hb hz ht (by omega) hroom (by unfold maxLen at hcp; omega) x hq hne).mono ?_
      rintro e W' ⟨rfl, cur', rfl, hz', ht'⟩
      refine ⟨rfl, ⟨by rw [pmap_len]; simp; omega, .inr ⟨g, cap, cur', rfl, hg, setRow_heap W.drew g cur cur' _ _ hb, hroom, hcp, hz', ht'⟩⟩, ⟨rfl, rfl, rfl, by simp, fun k _ hk => ?_⟩⟩
      exact setRow_other W.drew g k cur' (fun e => hk (by rw [e]))
end Go.Proofs.Ytbcgeajnmnnbhaa.Nt
