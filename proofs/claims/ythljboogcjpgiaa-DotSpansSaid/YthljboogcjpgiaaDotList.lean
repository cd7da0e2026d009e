/- A set of dots, listed: slices.SortedFunc(maps.Keys(m), Compare). -/
import Derived.Test.YthljboogcjpgiaaDotOrd
import Derived.Test.YthljboogcjpgiaaSortLay
set_option linter.unusedSimpArgs false
set_option linter.unusedVariables false
namespace Go.Proofs.Ythljboogcjpgiaa.Ds
open Go.RowKit Go.Maps Go.Sort Go.Shelf Go.Proofs.Ythljboogcjpgiaa.PAll Go.Proofs.YthljboogcjpgiaaW.PrintWords

instance : Inhabited Vd := ⟨⟨⟨⟨0, 0, 0, 0⟩, 0⟩, by constructor <;> decide⟩⟩

theorem flatMap_len : ∀ (ss : List Vd), (ss.flatMap venc).length = ss.length * 5
  | [] => rfl
  | x :: r => by rw [List.flatMap_cons, List.length_append, venc_length, flatMap_len r, List.length_cons]; omega
theorem flatMap_get : ∀ (ss : List Vd) (t : Nat), t < ss.length * 5 → (ss.flatMap venc)[t]? = (venc (ss.toArray[t / 5]!))[t % 5]?
  | [], t, h => by simp at h
  | x :: r, t, h => by
    simp only [List.flatMap_cons]
    by_cases ht : t < 5
    · rw [List.getElem?_append_left (by rw [venc_length]; exact ht), Nat.div_eq_of_lt ht, Nat.mod_eq_of_lt ht]
      simp
    · obtain ⟨u, rfl⟩ : ∃ u, t = u + 5 := ⟨t - 5, by omega⟩
      rw [List.getElem?_append_right (by rw [venc_length]; omega), venc_length, Nat.add_sub_cancel, flatMap_get r u (by simp at h; omega), Nat.add_div_right _ (by omega), Nat.add_mod_right]
      simp
theorem flatK_list (ss : List Vd) : (flatK venc 5 ss.toArray).toList = ss.flatMap venc := by
  apply List.ext_getElem?
  intro t
  by_cases h : t < ss.length * 5
  · rw [flatMap_get ss t h, Array.getElem?_toList]
    have h5 : t % 5 < (venc (ss.toArray[t / 5]!)).length := by rw [venc_length]; omega
    have h1 := get_flatK venc 5 ss.toArray t (by simpa using h)
    have h6 : t < (flatK venc 5 ss.toArray).size := by simpa using h
    rw [Array.getElem?_eq_getElem h6, List.getElem?_eq_getElem h5]
    rw [getElem!_pos (flatK venc 5 ss.toArray) t h6, getElem!_pos (venc (ss.toArray[t / 5]!)) (t % 5) h5] at h1
    rw [h1]
  · rw [List.getElem?_eq_none (by simp; omega), List.getElem?_eq_none (by rw [flatMap_len]; omega)]
theorem holdsK_block {w : World} {g : Nat} {cur : Array Value} {e : TypeId} {ss : List Vd} (hb : w.heap[g]? = some (.cells cur e (0, 0))) (ht : cur.toList.take (ss.length * 5) = ss.flatMap venc) : HoldsK venc 5 w g 0 ss.toArray := by
  intro j hj
  have hj' : j < ss.length * 5 := by simpa using hj
  refine ⟨?_, by simp [World.frozen?, hb]⟩
  have h1 : (cur.toList.take (ss.length * 5))[j]? = (flatK venc 5 ss.toArray).toList[j]? := by rw [ht, flatK_list]
  rw [List.getElem?_take_of_lt hj'] at h1
  simp only [World.cell?, hb, Nat.zero_add]
  simp only [Option.isSome_none, Bool.false_eq_true, if_false]
  rw [← Array.getElem?_toList, h1, Array.getElem?_toList, Array.getElem?_eq_getElem hj, getElem!_pos (flatK venc 5 ss.toArray) j hj]
  rfl
theorem heap_sortedK {w : World} {g n : Nat} {os : Array Obj} {cur : Array Value} {e : TypeId} {fr : Nat × Nat} (d : Array Vd) (hb : w.heap[g]? = some (.cells cur e fr)) :
    (sortWorldK venc 5 w g 0 n d os).heap[g]? = some (.cells (putCells id 0 (flatK venc 5 d) cur) e fr) := by
  have hg : g < w.heap.size := (Array.getElem?_eq_some_iff.1 hb).1
  unfold sortWorldK putRowK
  rw [heap_grow_old _ _ (by simpa using hg)]
  simp [putRow, mapBlock, Sort.ahead, Array.getElem?_modify, hb, onCells]
theorem grownBy_sortedK {w : World} {g n : Nat} {os : Array Obj} (d : Array Vd) : w.grownBy (sortWorldK venc 5 w g 0 n d os) (some g) := by
  unfold sortWorldK putRowK
  refine ⟨rfl, rfl, rfl, by simp, fun k hk hne => ?_⟩
  rw [heap_grow_old _ _ (by simpa using hk)]
  have : g ≠ k := fun e => hne (by rw [e])
  simp [putRow, mapBlock, Sort.ahead, Array.getElem?_modify, this]
theorem take_putCellsK (cur : Array Value) (F : Array Value) (h : F.size ≤ cur.size) : (putCells id 0 F cur).toList.take F.size = F.toList := by
  apply List.ext_getElem?
  intro j
  by_cases hj : j < F.size
  · rw [List.getElem?_take_of_lt hj, Array.getElem?_toList]
    simp [putCells, hj, show j < cur.size by omega]
  · rw [List.getElem?_take_eq_none (by omega), List.getElem?_eq_none (by simp; omega)]
theorem ownsRow_sortedK {w : World} {base g cap n : Nat} {e : TypeId} {os : Array Obj} {cur : Array Value} {ss ts : List Vd} (hl : ts.length = ss.length) (hbase : base ≤ g) (hb : w.heap[g]? = some (.cells cur e (0, 0)))
    (h1 : ss.length ≤ cap) (h2 : cap ≤ maxLen) (h3 : cur.size = cap * 5) :
    (sortWorldK venc 5 w g 0 n ts.toArray os).ownsRow base e 5 (.slice (some ⟨g, 0, none⟩) ss.length cap) ss.length (ts.flatMap venc) :=
  ⟨by rw [flatMap_len, hl], .inr ⟨g, cap, _, rfl, hbase, heap_sortedK _ hb, h1, h2, by simp [putCells, h3], by
    have hz : (flatK venc 5 ts.toArray).size = ss.length * 5 := by simp [hl]
    have := take_putCellsK cur (flatK venc 5 ts.toArray) (by rw [hz, h3]; omega)
    rw [hz, flatK_list] at this
    exact this⟩⟩

/-- In order, each once. -/
def Rising (ts : List Vd) : Prop := ts.Pairwise fun x y => rkv x < rkv y
theorem rising_of {ss : List Vd} (hn : ss.Nodup) {d' : Array Vd} (hP : PermIn 0 ss.toArray.size ss.toArray d') (hS : SortedIn (ltOf cfd) 0 ss.toArray.size d') : d'.toList.Perm ss ∧ Rising d'.toList := by
  obtain ⟨hsz, _, hp⟩ := hP
  have e1 : d'.extract 0 ss.toArray.size = d' := by rw [← hsz]; exact Array.extract_size
  rw [e1, Array.extract_size] at hp
  have hp' : d'.toList.Perm ss := by simpa using hp
  refine ⟨hp', ?_⟩
  unfold Rising
  rw [List.pairwise_iff_getElem]
  intro i j hi hj hij
  have hi' : i < d'.size := by simpa using hi
  have hj' : j < d'.size := by simpa using hj
  have h1 := hS i j (Nat.zero_le _) hij (by rw [← hsz]; exact hj')
  rw [ltd_iff, getElem!_pos d' i hi', getElem!_pos d' j hj'] at h1
  have h2 := of_decide_eq_false h1
  have h3 : d'.toList.Nodup := (hp'.nodup_iff).2 hn
  have h4 : d'.toList[i] ≠ d'.toList[j] := fun e => by
    have := (List.getElem_inj h3).1 e
    omega
  have h5 : rkv d'.toList[i] ≠ rkv d'.toList[j] := fun e => h4 (rkv_inj e)
  simp only [Array.getElem_toList] at h5 ⊢
  omega
theorem rising_unique {a b : List Vd} (ha : Rising a) (hb : Rising b) (h : ∀ x, x ∈ a ↔ x ∈ b) : a = b := by
  have na : a.Nodup := ha.imp fun h e => by subst e; omega
  have nb : b.Nodup := hb.imp fun h e => by subst e; omega
  refine List.Perm.eq_of_pairwise (le := fun x y => rkv x ≤ rkv y) (fun x y _ _ h1 h2 => rkv_inj (by omega)) (ha.imp fun h => by omega) (hb.imp fun h => by omega) ((List.perm_ext_iff_of_nodup na nb).2 h)

theorem cmpLaysD (blk off size : Nat) (w : World) : CmpLays Try.prog 11 #[] venc 5 cfd blk off size w := by
  intro m os dk _ x y
  have h := dot_Compare.grows x.1.f0.f0 x.1.f0.f1 x.1.f0.f2 x.1.f0.f3 x.1.f1 y.1.f0.f0 y.1.f0.f1 y.1.f0.f2 y.1.f0.f3 y.1.f1 (sortWorldK venc 5 w blk off m dk os)
  rw [cmpd_rk x.2 y.2] at h
  exact h
theorem sort_c (n : Nat) (gb cap : Nat) (ss : List Vd) (W : World) (hn : ss.Nodup) (hH : HoldsK venc 5 W gb 0 ss.toArray) (hg : gb < W.heap.size) (hsz : ss.length < 4611686018427387904) :
    CallsIn Fence.wide n Try.prog 43 #[.slice (some ⟨gb, 0, none⟩) ss.length cap, .func (.func 11) #[] #[]] W fun e w' => e = .returned (.tuple #[]) ∧ ∃ ts n os, ts.Perm ss ∧ Rising ts ∧ w' = sortWorldK venc 5 W gb 0 n ts.toArray os := by
  refine callsIn_wide.2 ?_
  have h := AnyQ.slices_SortFunc Try.sortDot 5 Try.isAgg26 Try.sizeOf26 venc venc_length venc_one cfd swod 11 #[] gb 0 cap ss.toArray W (enters_of Try.func11 (by kernel_rfl) rfl) (cmpLaysD _ _ _ _) hH hg (by simpa using hsz)
  refine Calls.mono h ?_
  rintro e w' ⟨rfl, d', n, os, hP, hS, rfl⟩
  obtain ⟨h1, h2⟩ := rising_of hn hP hS
  exact ⟨rfl, d'.toList, n, os, h1, h2, by simp⟩
theorem sortNone (n : Nat) (p : Option Addr) (cap : Nat) (fv : Value) (W : World) :
    CallsIn Fence.wide n Try.prog 43 #[.slice p 0 cap, fv] W fun e w' => e = .returned (.tuple #[]) ∧ w' = W := by
  refine callsIn_wide.2 ?_
  exact AnyF.slices_SortFunc_none Try.sortDot p cap fv W
set_option maxRecDepth 100000 in
set_option maxHeartbeats 2000000 in
theorem collect_c (n : Nat) (hn : 3 ≤ n) (g : Nat) (lb : Array Value) (eg : ∀ args w, (callFunc g args).run Try.prog w = .ok (.enter g args) w)
    (S Sp : List Vd → Prop) (N : Nat) (hN : N ≤ maxLen) (hNb : N * 16 ≤ 140737488355328) (w : World) (hseq : SeqStopsK Fence.wide (n - 1 - 1) Try.prog g lb (fun x : Vd => #[vval x]) KeepsWalks S Sp N w) :
    CallsIn Fence.wide n Try.prog 42 #[.func (.func g) #[] lb] w fun e w' => ∃ (v : Value) (ss : List Vd), e = .returned v ∧ S ss ∧ w'.ownsRow w.heap.size 26 5 v ss.length (ss.flatMap venc) ∧ (v = .slice none 0 0 ↔ ss = []) ∧ Below w.heap.size w w' := by
  have h1 : 1 ≤ n := by omega
  have hf : Fence.wide.fn 46 := trivial
  have cA := appendSeq_in Fence.wide (n - 1) trivial rfl (by omega) g lb trivial eg S Sp N hN hNb w hseq
  refine callsIn_of_wp Try.func42 rfl trivial ?_ rfl
  simp only [Try.ntmps42, List.size_toArray, List.length_cons, List.length_nil, Nat.reduceAdd, Nat.reduceSub, Array.replicate_succ, Array.replicate_zero, List.push_toArray, List.append_toArray, List.nil_append, List.cons_append]
  gi_wp2_with (gi_at_call 46; refine cA.mono ?_; rintro e w' ⟨v, ss, rfl, hS, hrow, hnil, hb⟩)
  go_ret
  exact ⟨v, ss, rfl, hS, hrow, hnil, hb⟩
set_option maxRecDepth 100000 in
set_option maxHeartbeats 2000000 in
theorem sorted_c (n : Nat) (hn : 4 ≤ n) (g : Nat) (lb : Array Value) (eg : ∀ args w, (callFunc g args).run Try.prog w = .ok (.enter g args) w)
    (S Sp : List Vd → Prop) (N : Nat) (hS : ∀ ss, S ss → ss.Nodup ∧ ss.length ≤ N) (hN : N ≤ maxLen) (hNb : N * 16 ≤ 140737488355328) (w : World) (hseq : SeqStopsK Fence.wide (n - 1 - 1 - 1) Try.prog g lb (fun x : Vd => #[vval x]) KeepsWalks S Sp N w) :
    CallsIn Fence.wide n Try.prog 37 #[.func (.func g) #[] lb, .func (.func 11) #[] #[]] w fun e w' => ∃ (v : Value) (ts : List Vd), e = .returned v ∧ (∃ ss, S ss ∧ ts.Perm ss) ∧ Rising ts ∧ w'.ownsRow w.heap.size 26 5 v ts.length (ts.flatMap venc) ∧ (v = .slice none 0 0 ↔ ts = []) ∧ Below w.heap.size w w' := by
  have h1 : 1 ≤ n := by omega
  have hf : Fence.wide.fn 42 := trivial
  have hf2 : Fence.wide.fn 43 := trivial
  have cC := collect_c (n - 1) (by omega) g lb eg S Sp N hN hNb w hseq
  refine callsIn_of_wp Try.func37 rfl trivial ?_ rfl
  simp only [Try.ntmps37, List.size_toArray, List.length_cons, List.length_nil, Nat.reduceAdd, Nat.reduceSub, Array.replicate_succ, Array.replicate_zero, List.push_toArray, List.append_toArray, List.nil_append, List.cons_append]
  gi_wp2_with (gi_at_call 42; refine cC.mono ?_; rintro e W ⟨v, ss, rfl, hSs, hrow, hnil, hb⟩)
  rcases hrow.2 with ⟨rfl, hz⟩ | ⟨gb, cap, cur, rfl, hbase, hgb, r1, r2, r3, r4⟩
  · have hss : ss = [] := List.eq_nil_of_length_eq_zero hz
    subst hss
    gi_wp2_with (gi_at_call 43; refine (sortNone _ none 0 _ W).mono ?_; rintro e w' ⟨rfl, rfl⟩)
    go_ret
    exact ⟨.slice none 0 0, [], rfl, ⟨[], hSs, List.Perm.refl _⟩, List.Pairwise.nil, by simpa using hrow, by simp, hb⟩
  · have hH : HoldsK venc 5 W gb 0 ss.toArray := holdsK_block hgb r4
    have hgl : gb < W.heap.size := (Array.getElem?_eq_some_iff.1 hgb).1
    have hsz : ss.length < 4611686018427387904 := by have := (hS _ hSs).2; omega
    have cS := sort_c (n - 1) gb cap ss W (hS _ hSs).1 hH hgl hsz
    gi_wp2_with (gi_at_call 43; refine cS.mono ?_; rintro e w' ⟨rfl, ts, nn, os, hp, hr, rfl⟩)
    go_ret
    have hl := hp.length_eq
    have hown := ownsRow_sortedK (n := nn) (os := os) hl hbase hgb r1 r2 r3
    refine ⟨.slice (some ⟨gb, 0, none⟩) ss.length cap, ts, rfl, ⟨ss, hSs, hp⟩, hr, by rw [hl]; exact hown, ?_, hb.grown (grownBy_sortedK _) hb.size (fun j hj => by cases hj; exact hbase)⟩
    rw [hnil]
    constructor
    · rintro rfl; exact List.Perm.eq_nil hp
    · rintro rfl; exact List.Perm.eq_nil hp.symm
end Go.Proofs.Ythljboogcjpgiaa.Ds
