/- Del, Has: walked. -/
import Derived.Test.YthljboogcjpgiaaDotSpn
set_option linter.unusedSimpArgs false
set_option linter.unusedVariables false
namespace Go.Proofs.Ythljboogcjpgiaa.Ds
open Go.RowKit Go.Maps Go.Sort Go.Shelf Go.Proofs.Ythljboogcjpgiaa.PAll Go.Proofs.YthljboogcjpgiaaW.PrintWords
attribute [local go_sem] put_fresh

theorem mem_del (x y : Vd) (L : List Vd) : y ∈ del x L ↔ y ∈ L ∧ y ≠ x := by
  unfold del
  rw [List.mem_filter, decide_eq_true_iff]
  exact ⟨fun h => ⟨h.1, fun e => h.2 (by rw [e])⟩, fun h => ⟨h.1, fun e => h.2 (rkv_inj e)⟩⟩
theorem rising_del (x : Vd) {L : List Vd} (h : Rising L) : Rising (del x L) := List.Pairwise.filter _ h
theorem length_del (x : Vd) : ∀ (L : List Vd), Rising L → (x ∈ L → (del x L).length + 1 = L.length) ∧ (x ∉ L → (del x L).length = L.length)
  | [], _ => by simp [del]
  | z :: r, h => by
    have h0 := List.pairwise_cons.1 h
    have ih := length_del x r h0.2
    by_cases hz : rkv z = rkv x
    · obtain rfl := rkv_inj hz
      have hd : del z (z :: r) = del z r := by simp [del]
      have hn : z ∉ r := fun hm => by have := h0.1 z hm; omega
      rw [hd, ih.2 hn]
      simp
    · have hd : del x (z :: r) = z :: del x r := by simp [del, hz]
      have hne : x ≠ z := fun e => hz (by rw [e])
      rw [hd]
      simp only [List.length_cons, List.mem_cons, hne, false_or]
      exact ⟨fun hm => by rw [ih.1 hm], fun hm => by rw [ih.2 hm]⟩
def delAll (L l : List Vd) : List Vd := l.foldl (fun L x => del x L) L
theorem delAll_snoc (L l : List Vd) (x : Vd) : delAll L (l ++ [x]) = del x (delAll L l) := by simp [delAll]
theorem del_le (x : Vd) (L : List Vd) : (del x L).length ≤ L.length := List.length_filter_le _ _
theorem delAll_le : ∀ (l L : List Vd), (delAll L l).length ≤ L.length
  | [], L => Nat.le_refl _
  | x :: r, L => Nat.le_trans (delAll_le r (del x L)) (del_le x L)
/-- A dot is taken out. -/
theorem SetAt.drop {W W' : World} {B b n : Nat} {L : List Vd} (h : SetAt W B b n L) (x : Vd) (D : DataW Unit) (hD : W.ownsMap Try.prog 26 unitElem b n D) (h1 : ∀ x : Vd, has D (.string (kb x)) = true ↔ x ∈ L) (h2 : Maps.size D = L.length)
    (hw : W'.ownsMap Try.prog 26 unitElem b n (D.del (.string (kb x)))) (hB : W'.heap[B]? = W.heap[B]?) : SetAt W' B b n (del x L) := by
  have ht := hD.tidy dkeyed
  refine ⟨hB.trans h.box, ⟨_, hw, fun y => ?_, ?_⟩, rising_del x h.rise⟩
  · by_cases hy : y = x
    · subst hy
      rw [has_del_same, mem_del]
      simp
    · rw [has_del_other (fun e => hy (kb_inj (by simpa using e))), h1 y, mem_del]
      simp [hy]
  · have hs := size_del ht (k := .string (kb x))
    rw [h2] at hs
    by_cases hx : x ∈ L
    · rw [if_pos ((h1 x).2 hx)] at hs
      have := (length_del x L h.rise).1 hx
      omega
    · rw [if_neg (fun e => hx ((h1 x).1 e))] at hs
      rw [(length_del x L h.rise).2 hx]
      omega
theorem wrap_sub (a b : Nat) (ha : a < 4611686018427387904) (hb : b ≤ a) : wrap64 ((a : Int) - (b : Int)) = (a : Int) - (b : Int) := by unfold wrap64; omega
set_option maxRecDepth 100000 in
set_option maxHeartbeats 4000000 in
theorem del_any (B b n : Nat) (L l : List Vd) (v : Value) (W : World) (hS : SetAt W B b n L) (hl : DRow W v l (fun q => q = B ∨ q = b)) (hL : L.length < 4611686018427387904) (hll : l.length * 24 ≤ 140737488355328) :
    Calls Try.prog 25 #[.pointer (some ⟨B, 0, none⟩), v] W fun e W' => e = .returned (.int .i64 (L.length - (delAll L l).length : Int)) ∧ SetAt W' B b n (delAll L l) ∧ W.grownBy W' (some b) := by
  obtain ⟨p, cap, rfl, hrow⟩ := hl
  have hml : maxLen < 9223372036854775808 := by decide
  have hc : W.cell? ⟨B, 0, none⟩ = some (.map (some b)) := blk_cell hS.box 0
  obtain ⟨D0, hD0, hD1, hD2⟩ := hS.map
  have hlen := hD0.len Try.underlying64 3
  rw [hD2] at hlen
  go_enter Try.func25, Try.ntmps25
  go_wp2
  go_loopw [17] (fun i wr => ∃ k : Nat, k ≤ l.length ∧ i = .int .i64 k ∧ SetAt wr B b n (delAll L (l.take k)) ∧ W.grownBy wr (some b)) (fun i _ => l.length - (intOf i).toNat)
  case atStart =>
    exact ⟨0, Nat.zero_le _, rfl, by simpa [delAll] using hS, ⟨rfl, rfl, rfl, Nat.le_refl _, fun _ _ _ => rfl⟩⟩
  case round =>
    obtain ⟨k, hk, rfl, hS1, hg1⟩ := hrel
    have hcB : wr.cell? ⟨B, 0, none⟩ = some (.map (some b)) := blk_cell hS1.box 0
    obtain ⟨D1, hD1, hE1, hZ1⟩ := hS1.map
    by_cases hlt : k < l.length
    · obtain ⟨q, off, rfl, hq, hno, hcells⟩ := hrow (by intro e; simp [e] at hlt)
      obtain ⟨x, hx⟩ : ∃ x, l[k]? = some x := ⟨_, List.getElem?_eq_getElem hlt⟩
      have hcx : ∀ c, c < 5 → wr.cell? ⟨q, off + k * 5 + c, none⟩ = (venc x)[c]? := fun c hc => (hg1.cell_far ⟨q, _, none⟩ hq (fun e => hno (.inr (by simpa using e)))).trans (hcells k x hx c hc)
      have e0 : wr.cell? ⟨q, off + k * 5, none⟩ = some (.int .u8 x.1.f0.f0) := hcx 0 (by decide)
      have e1 : wr.cell? ⟨q, off + k * 5 + 1, none⟩ = some (.int .u8 x.1.f0.f1) := hcx 1 (by decide)
      have e2 : wr.cell? ⟨q, off + k * 5 + 2, none⟩ = some (.int .u8 x.1.f0.f2) := hcx 2 (by decide)
      have e3 : wr.cell? ⟨q, off + k * 5 + 3, none⟩ = some (.int .u8 x.1.f0.f3) := hcx 3 (by decide)
      have e4 : wr.cell? ⟨q, off + k * 5 + 4, none⟩ = some (.int .u64 x.1.f1) := hcx 4 (by decide)
      clear hcx
      have hwk := wrap_k k l.length hlt hll
      have hlti : (k : Int) < (l.length : Int) := by omega
      have hd1 : decide ((k : Int) < (l.length : Int)) = true := decide_eq_true hlti
      have hS3 : SetAt ((wr.alloc (.cells #[.int .u8 x.1.f0.f0, .int .u8 x.1.f0.f1, .int .u8 x.1.f0.f2, .int .u8 x.1.f0.f3, .int .u64 x.1.f1] 26)).drew) B b n (delAll L (l.take k)) := (hS1.below (below_alloc (Below.refl _ _) _)).below ⟨rfl, rfl, rfl, Nat.le_refl _, fun _ _ => rfl⟩
      have htk : l.take (k + 1) = l.take k ++ [x] := by rw [List.take_add_one, hx]; rfl
      obtain ⟨D3, hD3, hE3, hZ3⟩ := hS3.map
      obtain ⟨w2, hup, hown2, hturn⟩ := hD3.drop dkeyed Try.underlying64 (keyOf_dot x) 0
      have hcB2 := blk_cell hS3.box 0
      have hbx : ((wr.alloc (.cells #[.int .u8 x.1.f0.f0, .int .u8 x.1.f0.f1, .int .u8 x.1.f0.f2, .int .u8 x.1.f0.f3, .int .u64 x.1.f1] 26)).drew).heap[wr.heap.size]? = some (.cells #[.int .u8 x.1.f0.f0, .int .u8 x.1.f0.f1, .int .u8 x.1.f0.f2, .int .u8 x.1.f0.f3, .int .u64 x.1.f1] 26) := heap_alloc_new wr _
      have hx0 := blk_cell hbx 0
      have hx1 := blk_cell hbx 1
      have hx2 := blk_cell hbx 2
      have hx3 := blk_cell hbx 3
      have hx4 := blk_cell hbx 4
      simp only [vval, venc, dcells] at hup
      go_wp2
      go_region
      go_wp2
      have hlk : b < wr.heap.size := hD1.lt
      refine ⟨⟨k + 1, Nat.succ_le_of_lt hlt, by first | exact iv_succ hwk | exact congrArg (Value.int .i64) (by omega), ?_, ?_⟩, by first | exact iv_meas hwk hlt | (simp only [intOf]; omega)⟩
      · rw [htk, delAll_snoc]
        exact SetAt.drop hS3 x D3 hD3 hE3 hZ3 hown2 (hturn.grown.block B hS3.ltB (fun e => hS3.ne (by simpa using e)))
      · have hga : wr.grownBy (wr.alloc (.cells #[.int .u8 x.1.f0.f0, .int .u8 x.1.f0.f1, .int .u8 x.1.f0.f2, .int .u8 x.1.f0.f3, .int .u64 x.1.f1] 26)) (some b) := ⟨rfl, rfl, rfl, by simp, fun j hj _ => heap_alloc_old wr _ j hj⟩
        have hg2 := hg1.trans hga
        have hg3 : W.grownBy ((wr.alloc (.cells #[.int .u8 x.1.f0.f0, .int .u8 x.1.f0.f1, .int .u8 x.1.f0.f2, .int .u8 x.1.f0.f3, .int .u64 x.1.f1] 26)).drew) (some b) := ⟨hg2.os, hg2.tape, hg2.output, hg2.size, hg2.block⟩
        exact hg3.andThen hturn.grown (fun j e => by cases e; exact .inr rfl)
    · have hkl : k = l.length := by omega
      subst hkl
      have hd1 : decide ((l.length : Int) < (l.length : Int)) = false := decide_eq_false (by omega)
      have hlen3 := hD1.len Try.underlying64 3
      rw [hZ1] at hlen3
      rw [List.take_length] at *
      have hle := delAll_le l L
      go_wp2
      go_ret
      refine ⟨congrArg Ending.returned (congrArg (Value.int .i64) (by first | exact wrap_sub _ _ hL (delAll_le l L) | rfl)), hS1, hg1⟩
theorem zero_unit (w : World) : (zeroValue 71).run Try.prog w = .ok (.agg #[]) w := by kernel_rfl
/-- Is a dot among these? -/
def inB (x : Vd) (L : List Vd) : Bool := L.any fun y => rkv y == rkv x
theorem inB_iff (x : Vd) (L : List Vd) : inB x L = true ↔ x ∈ L := by
  unfold inB
  rw [List.any_eq_true]
  exact ⟨fun ⟨y, hy, e⟩ => by rw [beq_iff_eq] at e; rw [← rkv_inj e]; exact hy, fun h => ⟨x, h, by simp⟩⟩
set_option maxRecDepth 100000 in
set_option maxHeartbeats 4000000 in
theorem has_c (B b n : Nat) (L : List Vd) (x : Vd) (W : World) (hS : SetAt W B b n L) :
    Calls Try.prog 26 #[.pointer (some ⟨B, 0, none⟩), vval x] W fun e W' => e = .returned (.bool (inB x L)) ∧ Below W.heap.size W W' := by
  have pS : SetAt ((W.alloc (.cells #[.int .u8 x.1.f0.f0, .int .u8 x.1.f0.f1, .int .u8 x.1.f0.f2, .int .u8 x.1.f0.f3, .int .u64 x.1.f1] 26)).drew) B b n L := (hS.below (below_alloc (Below.refl _ _) _)).below ⟨rfl, rfl, rfl, Nat.le_refl _, fun _ _ => rfl⟩
  obtain ⟨pD, phD, phE, phZ⟩ := pS.map
  obtain ⟨pv, pps, phup, phv⟩ := phD.look_ok dkeyed Try.underlying64 (zero_unit _) (unitElem_mk (H := Unit)) (keyOf_dot x)
  obtain rfl := (unitElem_inv phv).1
  rw [show has pD (.string (kb x)) = inB x L from by rw [Bool.eq_iff_iff, phE, inB_iff]] at phup
  simp only [vval, venc, dcells] at phup
  have pc := blk_cell pS.box 0
  have qS : SetAt (((W.alloc (.cells #[.int .u8 x.1.f0.f0, .int .u8 x.1.f0.f1, .int .u8 x.1.f0.f2, .int .u8 x.1.f0.f3, .int .u64 x.1.f1] 26)).alloc (.cells #[] 71)).drew) B b n L := ((hS.below (below_alloc (Below.refl _ _) _)).below (below_alloc (Below.refl _ _) _)).below ⟨rfl, rfl, rfl, Nat.le_refl _, fun _ _ => rfl⟩
  obtain ⟨qD, qhD, qhE, qhZ⟩ := qS.map
  obtain ⟨qv, qps, qhup, qhv⟩ := qhD.look_ok dkeyed Try.underlying64 (zero_unit _) (unitElem_mk (H := Unit)) (keyOf_dot x)
  obtain rfl := (unitElem_inv qhv).1
  rw [show has qD (.string (kb x)) = inB x L from by rw [Bool.eq_iff_iff, qhE, inB_iff]] at qhup
  simp only [vval, venc, dcells] at qhup
  have qc := blk_cell qS.box 0
  have pb : ((W.alloc (.cells #[.int .u8 x.1.f0.f0, .int .u8 x.1.f0.f1, .int .u8 x.1.f0.f2, .int .u8 x.1.f0.f3, .int .u64 x.1.f1] 26)).drew).heap[W.heap.size]? = some (.cells #[.int .u8 x.1.f0.f0, .int .u8 x.1.f0.f1, .int .u8 x.1.f0.f2, .int .u8 x.1.f0.f3, .int .u64 x.1.f1] 26 (0, 0)) := heap_alloc_new W _
  have qb : (((W.alloc (.cells #[.int .u8 x.1.f0.f0, .int .u8 x.1.f0.f1, .int .u8 x.1.f0.f2, .int .u8 x.1.f0.f3, .int .u64 x.1.f1] 26)).alloc (.cells #[] 71)).drew).heap[W.heap.size]? = some (.cells #[.int .u8 x.1.f0.f0, .int .u8 x.1.f0.f1, .int .u8 x.1.f0.f2, .int .u8 x.1.f0.f3, .int .u64 x.1.f1] 26 (0, 0)) := (heap_alloc_old _ _ _ (by simp)).trans pb
  have p0 := blk_cell pb 0
  have p1 := blk_cell pb 1
  have p2 := blk_cell pb 2
  have p3 := blk_cell pb 3
  have p4 := blk_cell pb 4
  have q0 := blk_cell qb 0
  have q1 := blk_cell qb 1
  have q2 := blk_cell qb 2
  have q3 := blk_cell qb 3
  have q4 := blk_cell qb 4
  simp only [List.getElem?_toArray, List.getElem?_cons_zero, List.getElem?_cons_succ] at p0 p1 p2 p3 p4 q0 q1 q2 q3 q4 pc qc
  have hBe := Aside0.mk (below_alloc (below_alloc (Below.refl W.heap.size W) (.cells #[.int .u8 x.1.f0.f0, .int .u8 x.1.f0.f1, .int .u8 x.1.f0.f2, .int .u8 x.1.f0.f3, .int .u64 x.1.f1] 26)) (.cells #[] 71))
  clear pb qb pS qS pD phD phE phZ phv qD qhD qhE qhZ qhv hS
  have hvv : vval x = .agg #[.int .u8 x.1.f0.f0, .int .u8 x.1.f0.f1, .int .u8 x.1.f0.f2, .int .u8 x.1.f0.f3, .int .u64 x.1.f1] := rfl
  rw [hvv]
  clear hvv
  go_enter Try.func26, Try.ntmps26
  go_wp2
  go_region
  all_goals
    go_wp2
    go_ret
    exact ⟨rfl, by with_reducible repeat (first | exact Below.refl _ _ | apply below_alloc | apply pw_below_drewN | apply below_drew1)⟩
end Go.Proofs.Ythljboogcjpgiaa.Ds
