/- NetRa, NetRf, NetRs, NetRd, NetRp, NetRm, NetRo, NetRq, NetRc: these texts as one. -/
import Derived.Test.YtbcgeajnmnnbhaaNetCts
import Derived.Test.YtbcgeajnmnnbhaaPAllx2
import Derived.ChangeKeysEq
set_option linter.unusedSimpArgs false
set_option linter.unusedVariables false
namespace Go.Proofs.Ytbcgeajnmnnbhaa.Nt
open Go.RowKit Go.Maps Go.Proofs.Ytbcgeajnmnnbhaa.PAll Go.Proofs.YtbcgeajnmnnbhaaW.PrintWords
attribute [local go_sem] put_fresh
attribute [-go_sem] Builtin.append_

/-! ### NetRa -/
theorem info_rp : (Try.prog.info? 54).map (fun i => (i.zero, i.size, i.bytes)) = some (some (.agg #[.int .i64 0, .int .i64 0, .string ByteArray.empty]), 3, 32) := by kernel_rfl
theorem info_pr : (Try.prog.info? 61).map (fun i => (i.zero, i.size, i.bytes)) = some (some (.agg #[.int .i64 0, .int .i64 0]), 2, 16) := by kernel_rfl
def cenc (x : Int × Int) : List Value := [.int .i64 x.1, .int .i64 x.2]
theorem cmap_len : ∀ (L : List (Int × Int)), (L.flatMap cenc).length = L.length * 2
  | [] => rfl
  | x :: r => by rw [List.flatMap_cons, List.length_append, cmap_len r, List.length_cons]; show 2 + _ = _; omega
theorem pmap_one (L : List Pk) : ∀ u ∈ L.flatMap penc, u.oneCell' = true := by
  intro u hu
  obtain ⟨x, _, hx⟩ := List.mem_flatMap.1 hu
  exact penc_one x u hx
/-- A row of packets (rep's or the document's) that is read: m of them, from an address on. -/
def Src (d : World) (A : Option Addr) (M : List Pk) : Prop := M.length ≠ 0 → ∃ g o, A = some ⟨g, o, none⟩ ∧ g < d.heap.size ∧ ∀ j u, (M.flatMap penc)[j]? = some u → d.cell? ⟨g, o + j, none⟩ = some u
theorem Src.below {d d' : World} {A : Option Addr} {M : List Pk} (h : Src d A M) (hb : Below d.heap.size d d') : Src d' A M := fun h0 => by
  obtain ⟨g, o, e, hg, hc⟩ := h h0
  exact ⟨g, o, e, Nat.lt_of_lt_of_le hg hb.size, fun j u hu => (World.cell?_of_block (hb.block g hg)).trans (hc j u hu)⟩
theorem add_o (b o n : Nat) : (⟨b, o, none⟩ : Addr).add n = ⟨b, o + n, none⟩ := by
  unfold Addr.add
  split
  · rename_i h; rw [h]; rfl
  · rfl
theorem Src.of_own {d : World} {base : Nat} {e : TypeId} {A : Option Addr} {cap : Nat} {L : List Pk} (h : d.ownsRow base e 3 (.slice A L.length cap) L.length (L.flatMap penc)) : Src d A L := fun h0 => by
  rcases h.2 with ⟨_, hz⟩ | ⟨g, cap', cur, hv, hg, hb, hn, hcp, hz, ht⟩
  · omega
  · cases hv
    refine ⟨g, 0, rfl, (Array.getElem?_eq_some_iff.1 hb).1, fun j u hu => ?_⟩
    have hj := (List.getElem?_eq_some_iff.1 hu).1
    rw [Nat.zero_add, blk_cell hb, ← Array.getElem?_toList]
    rw [← ht, List.getElem?_take_of_lt (by rw [pmap_len] at hj; exact hj)] at hu
    exact hu
/-- A part of a row. -/
theorem Src.part {d : World} {g o : Nat} {L : List Pk} (h : Src d (some ⟨g, o, none⟩) L) (i : Nat) (M : List Pk) (hM : ∀ j x, M[j]? = some x → L[i + j]? = some x) : Src d (some ⟨g, o + i * 3, none⟩) M := fun h0 => by
  obtain ⟨x0, hx0⟩ : ∃ x, M[0]? = some x := ⟨_, List.getElem?_eq_getElem (by omega)⟩
  have hl0 := (List.getElem?_eq_some_iff.1 (hM 0 x0 hx0)).1
  obtain ⟨g', o', e, hg, hc⟩ := h (by omega)
  cases e
  refine ⟨g, _, rfl, hg, fun j u hu => ?_⟩
  have hj := (List.getElem?_eq_some_iff.1 hu).1
  rw [pmap_len] at hj
  have key : (M.flatMap penc)[j]? = (L.flatMap penc)[i * 3 + j]? := by
    have hdm : j = (j / 3) * 3 + j % 3 := by omega
    have hlt : j / 3 < M.length := by omega
    have at_ : ∀ (K : List Pk) (q : Nat) (x : Pk), K[q]? = some x → ∀ c, c < 3 → (K.flatMap penc)[q * 3 + c]? = (penc x)[c]? := by
      intro K q x hx c hc
      have hq := (List.getElem?_eq_some_iff.1 hx).1
      have hL : K = K.take q ++ x :: K.drop (q + 1) := by
        obtain ⟨_, e⟩ := List.getElem?_eq_some_iff.1 hx
        rw [← e, List.getElem_cons_drop, List.take_append_drop]
      conv => lhs; rw [hL]
      rw [List.flatMap_append, List.flatMap_cons, List.getElem?_append_right (by rw [pmap_len, List.length_take]; omega), pmap_len, List.length_take, Nat.min_eq_left (by omega), List.getElem?_append_left (by rw [penc_length]; omega), show q * 3 + c - q * 3 = c by omega]
    obtain ⟨x, hx⟩ : ∃ x, M[j / 3]? = some x := ⟨_, List.getElem?_eq_getElem hlt⟩
    have e1 := at_ M (j / 3) x hx (j % 3) (by omega)
    have e2 := at_ L (i + j / 3) x (hM _ x hx) (j % 3) (by omega)
    rw [show (i + j / 3) * 3 + j % 3 = i * 3 + j by omega] at e2
    rw [← hdm] at e1
    exact e1.trans e2.symm
  rw [key] at hu
  rw [Nat.add_assoc]
  exact hc _ _ hu
/-- What is appended to nothing: a row of its own. -/
theorem app_any {d : World} {base cn : Nat} {A0 : Option Addr} {A : Option Addr} {L M : List Pk} (hown : d.ownsRow base 54 3 (.slice A0 L.length cn) L.length (L.flatMap penc)) (hs : Src d A M) (c : Nat) (hl : L.length + M.length ≤ 100000) (hbase : base ≤ d.heap.size) :
    ∃ p2 c2 w2, (∀ ty, (Builtin.append_ #[40, 40] ty #[.slice A0 L.length cn, .slice A M.length c]).run Try.prog d = .ok (.slice p2 (L.length + M.length) c2) w2) ∧
      w2.ownsRow base 54 3 (.slice p2 (L.length + M.length) c2) (L.length + M.length) ((L ++ M).flatMap penc) ∧ d.grownBy w2 (Value.slice A0 L.length cn).ownBlock := by
  obtain ⟨i0, hi, hz0, hz1, hz2⟩ := info_parts info_rp
  by_cases h0 : M.length = 0
  · obtain rfl := List.length_eq_zero_iff.1 h0
    refine ⟨A0, cn, d, fun ty => ?_, by simpa using hown, ⟨rfl, rfl, rfl, Nat.le_refl _, fun _ _ _ => rfl⟩⟩
    have hle : L.length ≤ cn := by
      rcases hown.2 with ⟨h1, h2⟩ | ⟨g, cap', cur, hv, hg, hb, hn, _⟩
      · omega
      · cases hv; exact hn
    cases A <;> cases A0 <;> simp [Builtin.append_, run_underlying Try.underlying40, sizeOf, typeInfo, hi, Builtin.lenOf, Builtin.firstCells, loadCells, loadCellsFrom, hle, storeCells]
  · obtain ⟨g, o, rfl, hg, hc⟩ := hs h0
    have key : ∀ ty, ∃ v' w', (Builtin.append_ #[40, 40] ty #[.slice A0 L.length cn, .slice (some ⟨g, o, none⟩) M.length c]).run Try.prog d = .ok v' w' ∧ w'.ownsRow base 54 3 v' (L.length + M.length) (L.flatMap penc ++ M.flatMap penc) ∧ d.grownBy w' (Value.slice A0 L.length cn).ownBlock ∧
      (v' = .slice none 0 0 ↔ Value.slice A0 L.length cn = .slice none 0 0 ∧ M.length = 0) := fun ty => run_append_own d base 40 ty 54 i0 _ 3 32 Try.underlying40 hi hz0 hz1 hz2 rfl (by decide) _ L.length _ hown ⟨g, o, none⟩ M.length c (M.flatMap penc) (pmap_len M) (fun j u hu => by rw [add_o]; exact hc j u hu) (pmap_one M) (by unfold maxLen; omega) (by omega) hbase
    obtain ⟨v', w', hr, ho, hgr, _⟩ := key 0
    obtain ⟨p2, c2, rfl⟩ := owns_slice ho
    rw [← List.flatMap_append] at ho
    exact ⟨p2, c2, w', fun ty => hr, ho, hgr⟩

/-! ### NetRf -/
/-- The document's net at R. -/
def RefAt (W : World) (base R : Nat) (L : List Pk) (Cs : List (Int × Int)) : Prop :=
  base ≤ R ∧ ∃ p c q e, W.heap[R]? = some (.cells #[.slice p L.length c, .slice q Cs.length e] 43 (0, 0)) ∧ W.ownsRow (R + 1) 54 3 (.slice p L.length c) L.length (L.flatMap penc) ∧ W.ownsRow (R + 1) 61 2 (.slice q Cs.length e) Cs.length (Cs.flatMap cenc)
theorem RefAt.lt {W : World} {base R : Nat} {L : List Pk} {Cs : List (Int × Int)} (h : RefAt W base R L Cs) : R < W.heap.size := by
  obtain ⟨_, p, c, q, e, hR, _⟩ := h
  exact (Array.getElem?_eq_some_iff.1 hR).1
theorem RefAt.below {W W' : World} {base R : Nat} {L : List Pk} {Cs : List (Int × Int)} (h : RefAt W base R L Cs) (hW : Below W.heap.size W W') : RefAt W' base R L Cs := by
  have hl := h.lt
  obtain ⟨h0, p, c, q, e, hR, h1, h2⟩ := h
  exact ⟨h0, p, c, q, e, (hW.block R hl).trans hR, own_bel h1 hW, own_bel h2 hW⟩
/-- The packets are changed: a row laid anew is stored. -/
theorem RefAt.put {w w2 : World} {base R : Nat} {L L' : List Pk} {Cs : List (Int × Int)} {p2 : Option Addr} {n2 c2 : Nat} (h : RefAt w base R L Cs) (hb : Below w.heap.size w w2) (hn : n2 = L'.length)
    (ho : w2.ownsRow (R + 1) 54 3 (.slice p2 n2 c2) n2 (L'.flatMap penc)) : RefAt (w2.setCell ⟨R, 0, none⟩ (.slice p2 n2 c2)) base R L' Cs ∧ w.grownBy (w2.setCell ⟨R, 0, none⟩ (.slice p2 n2 c2)) (some R) := by
  subst hn
  have h2 := h.below hb
  have hl := h.lt
  obtain ⟨h0, p, c, q, e, hR, h1, h3⟩ := h2
  refine ⟨⟨h0, p2, c2, q, e, set_blk (j := 0) _ hR, own_move ho fun k hk => set_other _ (by have := (own_lt ho k hk).1; omega), own_move h3 fun k hk => set_other _ (by have := (own_lt h3 k hk).1; omega)⟩,
    ⟨hb.os, hb.tape, hb.output, Nat.le_trans hb.size (by simp), fun j hj hne => (set_other _ (fun e => hne (by rw [e]))).trans (hb.block j hj)⟩⟩
/-- The cut ends are changed. -/
theorem RefAt.putC {w w2 : World} {base R : Nat} {L : List Pk} {Cs Cs' : List (Int × Int)} {p2 : Option Addr} {n2 c2 : Nat} (h : RefAt w base R L Cs) (hb : Below w.heap.size w w2) (hn : n2 = Cs'.length)
    (ho : w2.ownsRow (R + 1) 61 2 (.slice p2 n2 c2) n2 (Cs'.flatMap cenc)) : RefAt (w2.setCell ⟨R, 1, none⟩ (.slice p2 n2 c2)) base R L Cs' ∧ w.grownBy (w2.setCell ⟨R, 1, none⟩ (.slice p2 n2 c2)) (some R) := by
  subst hn
  have h2 := h.below hb
  have hl := h.lt
  obtain ⟨h0, p, c, q, e, hR, h1, h3⟩ := h2
  refine ⟨⟨h0, p, c, p2, c2, set_blk (j := 1) _ hR, own_move h1 fun k hk => set_other _ (by have := (own_lt h1 k hk).1; omega), own_move ho fun k hk => set_other _ (by have := (own_lt ho k hk).1; omega)⟩,
    ⟨hb.os, hb.tape, hb.output, Nat.le_trans hb.size (by simp), fun j hj hne => (set_other _ (fun e => hne (by rw [e]))).trans (hb.block j hj)⟩⟩
theorem pr_at {W : World} {base : Nat} {q : Option Addr} {e : Nat} {Cs : List (Int × Int)} (h : W.ownsRow base 61 2 (.slice q Cs.length e) Cs.length (Cs.flatMap cenc)) {k : Nat} {x : Int × Int} (hx : Cs[k]? = some x) : ∃ g, q = some ⟨g, 0, none⟩ ∧ W.cell? ⟨g, k * 2, none⟩ = some (.int .i64 x.1) ∧ W.cell? ⟨g, k * 2 + 1, none⟩ = some (.int .i64 x.2) := by
  have hk := (List.getElem?_eq_some_iff.1 hx).1
  rcases h.2 with ⟨_, hz⟩ | ⟨g, cap', cur, hv, hg, hb, hn, hcp, hz, ht⟩
  · omega
  · cases hv
    have key : ∀ i, i < 2 → W.cell? ⟨g, k * 2 + i, none⟩ = (cenc x)[i]? := fun i hi => by
      rw [blk_cell hb, ← Array.getElem?_toList]
      have h1 : (cur.toList.take (Cs.length * 2))[k * 2 + i]? = (Cs.flatMap cenc)[k * 2 + i]? := by rw [ht]
      rw [List.getElem?_take_of_lt (by omega)] at h1
      show cur.toList[k * 2 + i]? = _
      rw [h1]
      have hL : Cs = Cs.take k ++ x :: Cs.drop (k + 1) := by
        obtain ⟨_, e⟩ := List.getElem?_eq_some_iff.1 hx
        rw [← e, List.getElem_cons_drop, List.take_append_drop]
      conv => lhs; rw [hL]
      rw [List.flatMap_append, List.flatMap_cons, List.getElem?_append_right (by rw [cmap_len, List.length_take]; omega), cmap_len, List.length_take, Nat.min_eq_left (by omega), List.getElem?_append_left (by show _ < 2; omega), show k * 2 + i - k * 2 = i by omega]
    exact ⟨g, rfl, key 0 (by decide), key 1 (by decide)⟩
/-- Is a pair of ends among the cut ones? -/
def cutB (Cs : List (Int × Int)) (a b : Int) : Bool := Cs.any fun x => x.1 == mn a b && x.2 == mx a b
theorem rends_c (a b : Int) (w : World) : Calls Try.prog 39 #[.int .i64 a, .int .i64 b] w fun e w' => e = .returned (.agg #[.int .i64 (mn a b), .int .i64 (mx a b)]) ∧ Below w.heap.size w w' := by
  refine cornucopiaref24_ends.calls a b _ _ w ?_
  unfold cornucopiaref24_ends.f mn mx
  split
  · rename_i h
    rw [if_neg (by omega)]
  · rename_i h
    by_cases h2 : a < b
    · rw [if_pos h2]
    · rw [if_neg h2, show a = b by omega]
theorem eql_pair (x1 x2 y1 y2 : Int) (w : World) : (binOp .eql 61 (.agg #[.int .i64 x1, .int .i64 x2]) (.agg #[.int .i64 y1, .int .i64 y2])).run Try.prog w = .ok (.bool (x1 == y1 && x2 == y2)) w := by
  obtain ⟨i_, hi_⟩ := info_of_underlying Try.underlying3
  have hc_ : Try.prog.cellsOf 3 = 1 := by kernel_rfl
  simp only [binOp]
  show (do let b ← Op.equalIn (9998 + 1 + 1) 61 (.agg #[.int .i64 x1, .int .i64 x2]) (.agg #[.int .i64 y1, .int .i64 y2]); pure (Value.bool b)).run Try.prog w = _
  rw [Sem.run_bind, run_equalIn_array w (9998 + 1) _ _ Try.underlying61 hi_, hc_]
  show (Result.andThen ((Op.eqItems (9998 + 1) 3 1 _ _ [0, 1]).run _ _) _) = _
  simp only [Op.eqItems]
  go_simp
  by_cases h0 : x1 = y1 <;> by_cases h1 : x2 = y2 <;> simp [h0, h1]
set_option maxRecDepth 100000 in
set_option maxHeartbeats 4000000 in
theorem rcut_c {W : World} {base R : Nat} {L : List Pk} {Cs : List (Int × Int)} (h : RefAt W base R L Cs) (hl : Cs.length < 1000000) (a b : Int) :
    Calls Try.prog 37 #[.pointer (some ⟨R, 0, none⟩), .int .i64 a, .int .i64 b] W fun e W' => e = .returned (.bool (cutB Cs a b)) ∧ Below W.heap.size W W' := by
  obtain ⟨i0, hi, hz0, hz1, hz2⟩ := info_parts (show (Try.prog.info? 3).map (fun i => (i.zero, i.size, i.bytes)) = some (some (.int .i64 0), 1, 8) by kernel_rfl)
  have hEQ := eql_pair
  obtain ⟨h0, p, c, q, e, hR, h1, h2⟩ := h
  have hR0 := hR
  have hlt := (Array.getElem?_eq_some_iff.1 hR0).1
  have H := Aside0.mk (And.intro hR (And.intro h2 hlt))
  have hc : W.cell? ⟨R, 1, none⟩ = some (.slice q Cs.length e) := blk_cell hR 1
  clear hR h1 h2 hR0 hlt
  go_enter Try.func37, Try.ntmps37
  go_wp2
  go_loopw [7] (fun i wr => ∃ k : Nat, k ≤ Cs.length ∧ i = .int .i64 k ∧ Aside0 (cutB (Cs.take k) a b = false ∧ Below W.heap.size W wr)) (fun i _ => Cs.length - (intOf i).toNat)
  case atStart => exact ⟨0, Nat.zero_le _, rfl, ⟨rfl, Below.refl _ _⟩⟩
  case round =>
    obtain ⟨k, hk, rfl, H1⟩ := hrel
    have hcR : wr.cell? ⟨R, 1, none⟩ = some (.slice q Cs.length e) := (World.cell?_of_block (H1.out.2.block R H.out.2.2)).trans hc
    by_cases hlt : k < Cs.length
    · obtain ⟨x, hx⟩ : ∃ x, Cs[k]? = some x := ⟨_, List.getElem?_eq_getElem hlt⟩
      have LD := Aside0.mk (show ∀ w', Below wr.heap.size wr w' → ∃ g, q = some ⟨g, 0, none⟩ ∧ w'.cell? ⟨R, 1, none⟩ = some (.slice q Cs.length e) ∧ w'.cell? ⟨g, k * 2, none⟩ = some (.int .i64 x.1) ∧ w'.cell? ⟨g, k * 2 + 1, none⟩ = some (.int .i64 x.2) from fun w' hw' => by
        have hb := H1.out.2.trans (hw'.mono H1.out.2.size)
        obtain ⟨g, e1, e2, e3⟩ := pr_at (own_bel H.out.2.1 hb) hx
        exact ⟨g, e1, (World.cell?_of_block (hb.block R H.out.2.2)).trans hc, e2, e3⟩)
      obtain ⟨g, rfl, f0, f1, f2⟩ := LD.out _ (below_drew1 (Below.refl _ _))
      have htk := Aside0.mk (show Cs.take (k + 1) = Cs.take k ++ [x] by rw [List.take_add_one, hx]; rfl)
      go_wp2_with fail
      go_region_with (go_at_call 39; refine (rends_c a b _).mono ?_; rintro e w5 ⟨rfl, hb5⟩; obtain ⟨g5, hg5, l0, l1, l2⟩ := LD.out w5 (below_step (below_drew1 (Below.refl _ _)) hb5); obtain rfl : g = g5 := by injection hg5 with h_; injection h_)
      all_goals
        have H5 := Aside0.mk (H1.out.2.trans ((below_step (below_drew1 (Below.refl _ _)) hb5).mono H1.out.2.size))
        have htA := Aside0.mk (show cutB (Cs.take (k + 1)) a b = (x.1 == mn a b && x.2 == mx a b) by
          rw [htk.out]
          unfold cutB at H1 ⊢
          rw [List.any_append, H1.out.1, Bool.false_or]
          simp)
        have htX := Aside0.mk (show (x.1 == mn a b && x.2 == mx a b) = true → cutB Cs a b = true by
          intro h
          unfold cutB
          exact List.any_eq_true.2 ⟨x, List.mem_of_getElem? hx, h⟩)
        have hwk := Aside0.mk (show wrap64 ((k : Int) + 1) = (k : Int) + 1 by unfold wrap64; omega)
        clear l0 l1 l2 f0 f1 f2 LD hb5 hx
        cases hcc : (x.1 == mn a b && x.2 == mx a b) with
        | true =>
          have hC := Aside0.mk (htX.out hcc)
          clear htX htA hcc
          go_wp2_with fail
          go_ret
          exact ⟨by rw [hC.out]; rfl, H5.out⟩
        | false =>
          rw [hcc] at htA
          clear htX hcc
          go_wp2_with fail
          exact ⟨⟨k + 1, Nat.succ_le_of_lt hlt, by first | exact iw_succ k | exact iv_succ hwk.out, ⟨htA.out, H5.out⟩⟩, by first | exact iw_meas hlt | exact iv_meas hwk.out hlt⟩
    · have hkl : k = Cs.length := by omega
      subst hkl
      have hd1 : decide ((Cs.length : Int) < (Cs.length : Int)) = false := decide_eq_false (Int.lt_irrefl _)
      rw [List.take_length] at *
      go_wp2
      go_ret
      exact ⟨by rw [H1.out.1]; rfl, H1.out.2⟩

/-! ### NetRs -/
theorem own_lower {W : World} {base base' : Nat} {e : TypeId} {size : Nat} {v : Value} {k : Nat} {xs : List Value} (h : W.ownsRow base e size v k xs) (hb : base' ≤ base) : W.ownsRow base' e size v k xs := by
  refine ⟨h.1, ?_⟩
  rcases h.2 with h0 | ⟨g, cap, cur, h1, h2, h3⟩
  · exact .inl h0
  · exact .inr ⟨g, cap, cur, h1, Nat.le_trans hb h2, h3⟩
theorem app_nil {d : World} {base : Nat} {A : Option Addr} {M : List Pk} (hs : Src d A M) (c : Nat) (hl : M.length ≤ 100000) (hbase : base ≤ d.heap.size) :
    ∃ p1 c1 w1, (∀ ty, (Builtin.append_ #[40, 40] ty #[.slice none 0 0, .slice A M.length c]).run Try.prog d = .ok (.slice p1 M.length c1) w1) ∧
      w1.ownsRow base 54 3 (.slice p1 M.length c1) M.length (M.flatMap penc) ∧ Below d.heap.size d w1 := by
  have h := app_any (L := []) (A0 := none) (cn := 0) (World.ownsRow_nil d base 54 3) hs c (by simpa using hl) hbase
  obtain ⟨p1, c1, w1, h1, h2, h3⟩ := h
  simp only [List.length_nil, Nat.zero_add, List.nil_append] at h1 h2
  exact ⟨p1, c1, w1, h1, h2, (Below.refl _ _).grown h3 (Nat.le_refl _) (fun k e => by cases e)⟩
/-- The block of a packet. -/
abbrev box (x : Pk) : Obj := .cells #[.int .i64 x.a, .int .i64 x.b, .string x.s] 54
theorem src_box {d : World} {b : Nat} {x : Pk} (h : d.heap[b]? = some (box x)) : Src d (some ⟨b, 0, none⟩) [x] := fun _ => by
  refine ⟨b, 0, rfl, (Array.getElem?_eq_some_iff.1 h).1, fun j u hu => ?_⟩
  rw [Nat.zero_add, blk_cell h, ← hu]
  simp [penc]
/-- append(append(nil, L...), x): the packet laid between the two. -/
theorem two_A {w : World} {A : Option Addr} {L : List Pk} (hs : Src w A L) (c : Nat) (x : Pk) (hl : L.length ≤ 1000) :
    ∃ p1 c1 w1 p2 c2 w2, (∀ ty, (Builtin.append_ #[40, 40] ty #[.slice none 0 0, .slice A L.length c]).run Try.prog w.drew = .ok (.slice p1 L.length c1) w1) ∧
      (∀ ty, (Builtin.append_ #[40, 40] ty #[.slice p1 L.length c1, .slice (some ⟨w1.heap.size, 0, none⟩) 1 1]).run Try.prog (w1.alloc (box x)) = .ok (.slice p2 (L.length + 1) c2) w2) ∧
      Below w.heap.size w w1 ∧ Below w.heap.size w w2 ∧ w2.ownsRow w.heap.size 54 3 (.slice p2 (L.length + 1) c2) (L.length + 1) ((L ++ [x]).flatMap penc) := by
  have b0 : Below w.heap.size w w.drew := below_drew1 (Below.refl _ _)
  obtain ⟨p1, c1, w1, r1, o1, b1⟩ := app_nil (base := w.heap.size) (hs.below b0) c (by omega) (Nat.le_refl _)
  have b01 : Below w.heap.size w w1 := below_step b0 b1
  have bA := below_alloc (Below.refl w1.heap.size w1) (box x)
  obtain ⟨p2, c2, w2, r2, o2, g2⟩ := app_any (own_bel o1 bA) (src_box (heap_alloc_new w1 (box x))) 1 (by simp; omega) (by have := b01.size; simp; omega)
  exact ⟨p1, c1, w1, p2, c2, w2, r1, r2, b01, (below_alloc b01 (box x)).grown g2 (by have := b01.size; simp; omega) (fun k e => (own_lt o1 k e).1), o2⟩
/-- append(append(nil, L...), x): the packet laid first. -/
theorem two_B {w : World} {A : Option Addr} {L : List Pk} (hs : Src w A L) (c : Nat) (x : Pk) (hl : L.length ≤ 1000) :
    ∃ p1 c1 w1 p2 c2 w2, (∀ ty, (Builtin.append_ #[40, 40] ty #[.slice none 0 0, .slice A L.length c]).run Try.prog (w.alloc (box x)).drew = .ok (.slice p1 L.length c1) w1) ∧
      (∀ ty, (Builtin.append_ #[40, 40] ty #[.slice p1 L.length c1, .slice (some ⟨w.heap.size, 0, none⟩) 1 1]).run Try.prog w1 = .ok (.slice p2 (L.length + 1) c2) w2) ∧
      Below w.heap.size w w1 ∧ Below w.heap.size w w2 ∧ w2.ownsRow w.heap.size 54 3 (.slice p2 (L.length + 1) c2) (L.length + 1) ((L ++ [x]).flatMap penc) := by
  have b0 : Below w.heap.size w (w.alloc (box x)).drew := below_drew1 (below_alloc (Below.refl _ _) _)
  have hz : (w.alloc (box x)).drew.heap.size = w.heap.size + 1 := by show (w.alloc (box x)).heap.size = _; simp
  obtain ⟨p1, c1, w1, r1, o1, b1⟩ := app_nil (base := w.heap.size) (hs.below b0) c (by omega) (by omega)
  have b01 : Below w.heap.size w w1 := below_step b0 b1
  have hx : w1.heap[w.heap.size]? = some (box x) := (b1.block _ (by omega)).trans (heap_alloc_new w (box x))
  obtain ⟨p2, c2, w2, r2, o2, g2⟩ := app_any o1 (src_box hx) 1 (by simp; omega) (by have := b01.size; omega)
  exact ⟨p1, c1, w1, p2, c2, w2, r1, r2, b01, b01.grown g2 (by have := b01.size; omega) (fun k e => (own_lt o1 k e).1), o2⟩
/-- The pairs as a set. -/
def Cc (Cs : List (Int × Int)) : Int → Int → Bool := fun p q => Cs.any fun x => x.1 == p && x.2 == q
theorem grown_below {W w w' : World} {R : Nat} (h : W.grownBy w (some R)) (hb : Below w.heap.size w w') : W.grownBy w' (some R) := ⟨hb.os.trans h.os, hb.tape.trans h.tape, hb.output.trans h.output, Nat.le_trans h.size hb.size, fun k hk hne => (hb.block k (Nat.lt_of_lt_of_le hk h.size)).trans (h.block k hk hne)⟩
set_option maxRecDepth 100000 in
set_option maxHeartbeats 1000000 in
theorem rsend_c {W : World} {base R : Nat} {L : List Pk} {Cs : List (Int × Int)} (h : RefAt W base R L Cs) (hL : L.length ≤ 800) (hCs : Cs.length < 1000000) (v : Value) (ps : List Pk) (hp : PRow W v ps (fun q => q = R)) (hpl : ps.length < 4611686018427387904) :
    Calls Try.prog 22 #[.pointer (some ⟨R, 0, none⟩), v] W fun e W' => e = .returned (.int .i64 (sent (Cc Cs) L.length ps).length) ∧ RefAt W' base R (L ++ sent (Cc Cs) L.length ps) Cs ∧ W.grownBy W' (some R) := by
  obtain ⟨p, cap, rfl, hrow⟩ := hp
  have HR := Aside0.mk hrow
  have HN := Aside0.mk (And.intro h (And.intro hL (And.intro hpl hCs)))
  clear hrow h hL hpl hCs
  go_enter Try.func22, Try.ntmps22
  go_wp2
  go_loopw [5, 6] (fun s i wr => ∃ k : Nat, k ≤ ps.length ∧ i = .int .i64 k ∧ s = .int .i64 (sent (Cc Cs) L.length (ps.take k)).length ∧ Aside0 (RefAt wr base R (L ++ sent (Cc Cs) L.length (ps.take k)) Cs ∧ W.grownBy wr (some R))) (fun _ i _ => ps.length - (intOf i).toNat)
  case atStart => exact ⟨0, Nat.zero_le _, rfl, rfl, ⟨by simpa [sent] using HN.out.1, ⟨rfl, rfl, rfl, Nat.le_refl _, fun _ _ _ => rfl⟩⟩⟩
  case round =>
    obtain ⟨k, hk, rfl, rfl, H1⟩ := hrel
    by_cases hlt : k < ps.length
    · have hwk := Aside0.mk (show wrap64 ((k : Int) + 1) = (k : Int) + 1 by have := HN.out.2.2.1; unfold wrap64; omega)
      obtain ⟨q, off, rfl, hq, hno, hc⟩ := HR.out (by intro e; simp [e] at hlt)
      obtain ⟨x, hx⟩ : ∃ x, ps[k]? = some x := ⟨_, List.getElem?_eq_getElem hlt⟩
      obtain ⟨c0, c1, c2⟩ := hc k x hx
      have hqb := H1.out.2.block q hq (fun e => hno (Option.some.inj e))
      have FX := Aside0.mk (show ∀ w', Below wr.heap.size wr w' → w'.cell? ⟨q, off + k * 3, none⟩ = some (.int .i64 x.a) ∧ w'.cell? ⟨q, off + k * 3 + 1, none⟩ = some (.int .i64 x.b) ∧ w'.cell? ⟨q, off + k * 3 + 2, none⟩ = some (.string x.s) from fun w' hw' => by
        have hqq := (hw'.block q (Nat.lt_of_lt_of_le hq H1.out.2.size)).trans hqb
        exact ⟨(World.cell?_of_block (a := ⟨q, off + k * 3, none⟩) hqq).trans c0, (World.cell?_of_block (a := ⟨q, off + k * 3 + 1, none⟩) hqq).trans c1, (World.cell?_of_block (a := ⟨q, off + k * 3 + 2, none⟩) hqq).trans c2⟩)
      have htk := Aside0.mk (show ps.take (k + 1) = ps.take k ++ [x] by rw [List.take_add_one, hx]; rfl)
      have hsn := sent_snoc (Cc Cs) L.length (ps.take k) x
      rw [← htk.out] at hsn
      have hle := sent_le (Cc Cs) L.length HN.out.2.1 (ps.take k)
      clear hc c0 c1 c2 hqb hx hno
      generalize hLL : L ++ sent (Cc Cs) L.length (ps.take k) = LL at *
      generalize hSS : sent (Cc Cs) L.length (ps.take k) = S0 at *
      have hLn : LL.length = L.length + S0.length := by rw [← hLL, List.length_append]
      have HSN := Aside0.mk (And.intro hsn (And.intro hle (And.intro hLL hLn)))
      have hKr := H1.out.1
      obtain ⟨_, p2, c2, q2, e2, hRr, hr1, hr2⟩ := hKr
      have FR := Aside0.mk (show ∀ w', Below wr.heap.size wr w' → w'.cell? ⟨R, 0, none⟩ = some (.slice p2 LL.length c2) ∧ w'.frozen? ⟨R, 0, none⟩ = false from fun w' hw' => by
        have hb := (hw'.block R H1.out.1.lt).trans hRr
        exact ⟨blk_cell hb 0, blk_frozen hb 0⟩)
      have hr1' := Aside0.mk hr1
      clear hsn hle hLL hLn hSS hRr hr1 hr2
      have hb0 : Below wr.heap.size wr wr.drew := below_drew1 (Below.refl _ _)
      obtain ⟨x0, x1, x2⟩ := FX.out _ hb0
      obtain ⟨r0, r1⟩ := FR.out _ hb0
      by_cases h8 : LL.length < 800
      · have hd8 : decide ((LL.length : Int) < 800) = true := decide_eq_true (by omega)
        have hd8' : decide (LL.length < 800) = true := decide_eq_true h8
        have HCUT := Aside0.mk (fun (d : World) (hd : Below wr.heap.size wr d) => rcut_c (H1.out.1.below hd) HN.out.2.2.2 x.a x.b)
        have LA := Aside0.mk (show ∀ w', Below wr.heap.size wr w' → w'.cell? ⟨R, 0, none⟩ = some (.slice p2 LL.length c2) ∧ w'.cell? ⟨q, off + k * 3, none⟩ = some (.int .i64 x.a) ∧ w'.cell? ⟨q, off + k * 3 + 1, none⟩ = some (.int .i64 x.b) ∧ Aside0 (Below wr.heap.size wr w') from fun w' h => ⟨(FR.out w' h).1, (FX.out w' h).1, (FX.out w' h).2.1, ⟨h⟩⟩)
        go_upto_region 5 with (fail)
        clear x0 x1 x2 r0 r1
        have hb0' := Aside0.mk hb0
        clear hb0
        go_region_held3 (fun w' => w'.cell? ⟨R, 0, none⟩ = some (.slice p2 LL.length c2) ∧ w'.cell? ⟨q, off + k * 3, none⟩ = some (.int .i64 x.a) ∧ w'.cell? ⟨q, off + k * 3 + 1, none⟩ = some (.int .i64 x.b) ∧ Aside0 (Below wr.heap.size wr w'))
          (first
            | exact LA.out _ (below_drew1 (Below.refl _ _))
            | (go_split_ands
               first
               | (refine LA.out _ (Aside0.out ?_); assumption)
               | (refine LA.out _ (below_step (Aside0.out ?_) hb5); assumption)
               | (refine LA.out _ (below_drew1 (Aside0.out ?_)); assumption)))
          (first
            | (go_at_call 37; refine (HCUT.out _ (Aside0.out (by assumption))).mono ?_; rintro e w5 ⟨rfl, hb5⟩))
        all_goals
          go_split_ands
          have B5 : Aside0 (Below wr.heap.size wr w5) := by assumption
          have hcd : cutB Cs x.a x.b = Cc Cs (mn x.a x.b) (mx x.a x.b) := rfl
          clear hb5 HCUT LA
          cases hcc : cutB Cs x.a x.b with
          | true =>
            have HSN' := Aside0.mk (show sent (Cc Cs) L.length (ps.take (k + 1)) = S0 by rw [HSN.out.1, ← hcd, hcc, Bool.true_or, if_pos rfl])
            clear hcd hcc
            go_wp2_with fail
            exact ⟨⟨k + 1, Nat.succ_le_of_lt hlt, by first | exact iw_succ k | exact iv_succ hwk.out, by rw [HSN'.out], ⟨by rw [HSN'.out, HSN.out.2.2.1]; exact H1.out.1.below B5.out, grown_below H1.out.2 B5.out⟩⟩, by first | exact iw_meas hlt | exact iv_meas hwk.out hlt⟩
          | false =>
            have HSN' := Aside0.mk (show sent (Cc Cs) L.length (ps.take (k + 1)) = S0 ++ [x] by
              rw [HSN.out.1, ← hcd, hcc, Bool.false_or, if_neg]
              rw [decide_eq_true_iff, ← HSN.out.2.2.2]
              omega)
            clear hcd hcc
            go_upto_region 6 with (fail)
            obtain ⟨pA, cA, wA1, pA2, cA2, wA2, rA1, rA2, bA1, bA2, oA⟩ := two_A (Src.of_own (own_bel hr1'.out B5.out)) c2 x (by omega)
            obtain ⟨pB, cB, wB1, pB2, cB2, wB2, rB1, rB2, bB1, bB2, oB⟩ := two_B (Src.of_own (own_bel hr1'.out B5.out)) c2 x (by omega)
            have key : ∀ w', Below w5.heap.size w5 w' → Below wr.heap.size wr w' := fun w' h => B5.out.trans (h.mono B5.out.size)
            have d1 := FR.out _ (key _ (below_drew1 (Below.refl _ _)))
            have d2 := FX.out _ (key _ (below_drew1 (Below.refl _ _)))
            have d3 := FR.out _ (key _ (below_drew1 (below_alloc (Below.refl _ _) (box x))))
            have d4 := FX.out _ (key _ bA1)
            have d5 := FR.out _ (key _ bA2)
            have d6 := FR.out _ (key _ bB2)
            obtain ⟨d10, d11⟩ := d1
            obtain ⟨d20, d21, d22⟩ := d2
            obtain ⟨d30, d31⟩ := d3
            obtain ⟨d40, d41, d42⟩ := d4
            obtain ⟨d50, d51⟩ := d5
            obtain ⟨d60, d61⟩ := d6
            have HE := Aside0.mk (And.intro bA2 (And.intro oA (And.intro bB2 (And.intro oB key))))
            clear bA1 bA2 oA bB1 bB2 oB key
            dsimp only [box] at rA2 rB1 d30 d31
            go_region
            all_goals
              go_wp2_with fail
              have hSl : wrap64 ((S0.length : Int) + 1) = (S0.length : Int) + 1 := by have := HSN.out.2.1; have := HN.out.2.1; unfold wrap64; omega
              obtain ⟨bA2, oA, bB2, oB, key⟩ := HE.out
              have hRz : R + 1 ≤ w5.heap.size := by have := H1.out.1.lt; have := B5.out.size; omega
              have hPA := H1.out.1.put (key _ bA2) (L' := LL ++ [x]) (n2 := LL.length + 1) (by simp) (own_lower oA hRz)
              have hPB := H1.out.1.put (key _ bB2) (L' := LL ++ [x]) (n2 := LL.length + 1) (by simp) (own_lower oB hRz)
              first
                | exact ⟨⟨k + 1, Nat.succ_le_of_lt hlt, iv_succ hwk.out, by rw [HSN'.out, List.length_append]; exact iv_succ hSl, ⟨by rw [HSN'.out, ← List.append_assoc, HSN.out.2.2.1]; exact hPA.1, H1.out.2.trans hPA.2⟩⟩, iv_meas hwk.out hlt⟩
                | exact ⟨⟨k + 1, Nat.succ_le_of_lt hlt, iv_succ hwk.out, by rw [HSN'.out, List.length_append]; exact iv_succ hSl, ⟨by rw [HSN'.out, ← List.append_assoc, HSN.out.2.2.1]; exact hPB.1, H1.out.2.trans hPB.2⟩⟩, iv_meas hwk.out hlt⟩
      · have hd8 : decide ((LL.length : Int) < 800) = false := decide_eq_false (by omega)
        have hd8' : decide (LL.length < 800) = false := decide_eq_false h8
        have HSN' := Aside0.mk (show sent (Cc Cs) L.length (ps.take (k + 1)) = S0 by
          rw [HSN.out.1, if_pos]
          rw [Bool.or_eq_true, decide_eq_true_iff, ← HSN.out.2.2.2]
          exact .inr (by omega))
        have hb0' := Aside0.mk hb0
        clear hb0 r0 r1 x0 x1 x2
        obtain ⟨r0, r1⟩ := FR.out _ (Below.refl _ _)
        obtain ⟨x0, x1, x2⟩ := FX.out _ (Below.refl _ _)
        go_upto_region 5 with (fail)
        go_quiet (fail)
        all_goals
          clear r0 r1 x0 x1 x2
          have hbq : Below wr.heap.size wr (wr.drewN nq) := by with_reducible repeat (first | exact Below.refl _ _ | apply pw_below_drewN)
          have hbQ := Aside0.mk hbq
          clear hbq
          go_wp2_with fail
          exact ⟨⟨k + 1, Nat.succ_le_of_lt hlt, by first | exact iw_succ k | exact iv_succ hwk.out, by rw [HSN'.out], ⟨by rw [HSN'.out, HSN.out.2.2.1]; exact H1.out.1.below hbQ.out, grown_below H1.out.2 hbQ.out⟩⟩, by first | exact iw_meas hlt | exact iv_meas hwk.out hlt⟩
    · have hkl : k = ps.length := by omega
      subst hkl
      have hd1 : decide ((ps.length : Int) < (ps.length : Int)) = false := decide_eq_false (Int.lt_irrefl _)
      rw [List.take_length] at *
      go_wp2
      go_ret
      exact ⟨rfl, H1.out⟩

/-! ### NetRd -/
/-- A packet's cells, in a row of whatever type. -/
theorem own_at' {W : World} {base : Nat} {e : TypeId} {A : Option Addr} {cap : Nat} {L : List Pk} (h : W.ownsRow base e 3 (.slice A L.length cap) L.length (L.flatMap penc)) {k : Nat} {x : Pk} (hx : L[k]? = some x) : ∃ g, A = some ⟨g, 0, none⟩ ∧
    W.cell? ⟨g, k * 3, none⟩ = some (.int .i64 x.a) ∧ W.cell? ⟨g, k * 3 + 1, none⟩ = some (.int .i64 x.b) ∧ W.cell? ⟨g, k * 3 + 2, none⟩ = some (.string x.s) := by
  have hk := (List.getElem?_eq_some_iff.1 hx).1
  rcases h.2 with ⟨h0, hz⟩ | ⟨g, cap', cur, hv, hg, hb, hn, hcp, hz, ht⟩
  · omega
  · cases hv
    have key : ∀ i, i < 3 → W.cell? ⟨g, k * 3 + i, none⟩ = (penc x)[i]? := fun i hi => by
      rw [blk_cell hb, ← Array.getElem?_toList]
      have h1 : (cur.toList.take (L.length * 3))[k * 3 + i]? = (L.flatMap penc)[k * 3 + i]? := by rw [ht]
      rw [List.getElem?_take_of_lt (by omega)] at h1
      show cur.toList[k * 3 + i]? = _
      rw [h1]
      have hL : L = L.take k ++ x :: L.drop (k + 1) := by
        obtain ⟨_, e⟩ := List.getElem?_eq_some_iff.1 hx
        rw [← e, List.getElem_cons_drop, List.take_append_drop]
      conv => lhs; rw [hL]
      rw [List.flatMap_append, List.flatMap_cons, List.getElem?_append_right (by rw [pmap_len, List.length_take]; omega), pmap_len, List.length_take, Nat.min_eq_left (by omega), List.getElem?_append_left (by rw [penc_length]; omega), show k * 3 + i - k * 3 = i by omega]
    exact ⟨g, rfl, key 0 (by decide), key 1 (by decide), key 2 (by decide)⟩
/-- What a walk reads of the document's net, in whatever world above. -/
theorem ref_facts {w : World} {base R : Nat} {L : List Pk} {Cs : List (Int × Int)} (h : RefAt w base R L Cs) : ∃ p c q e, w.ownsRow (R + 1) 54 3 (.slice p L.length c) L.length (L.flatMap penc) ∧ w.ownsRow (R + 1) 61 2 (.slice q Cs.length e) Cs.length (Cs.flatMap cenc) ∧
    (∀ w', Below w.heap.size w w' → w'.cell? ⟨R, 0, none⟩ = some (.slice p L.length c) ∧ w'.frozen? ⟨R, 0, none⟩ = false ∧ w'.cell? ⟨R, 1, none⟩ = some (.slice q Cs.length e) ∧ w'.frozen? ⟨R, 1, none⟩ = false) ∧
    ∀ k x, L[k]? = some x → ∃ g, p = some ⟨g, 0, none⟩ ∧ ∀ w', Below w.heap.size w w' → w'.cell? ⟨g, k * 3, none⟩ = some (.int .i64 x.a) ∧ w'.cell? ⟨g, k * 3 + 1, none⟩ = some (.int .i64 x.b) ∧ w'.cell? ⟨g, k * 3 + 2, none⟩ = some (.string x.s) := by
  have hl := h.lt
  obtain ⟨_, p, c, q, e, hR, h1, h2⟩ := h
  refine ⟨p, c, q, e, h1, h2, fun w' hw => ?_, fun k x hx => ?_⟩
  · have hb := (hw.block R hl).trans hR
    exact ⟨blk_cell hb 0, blk_frozen hb 0, blk_cell hb 1, blk_frozen hb 1⟩
  · obtain ⟨g, e1, _⟩ := own_at' h1 hx
    refine ⟨g, e1, fun w' hw => ?_⟩
    obtain ⟨g', e2, e3⟩ := own_at' (own_bel h1 hw) hx
    rw [e1] at e2
    cases e2
    exact e3
set_option maxRecDepth 100000 in
set_option maxHeartbeats 8000000 in
theorem rdouble_in {W : World} {base R : Nat} {L : List Pk} {Cs : List (Int × Int)} (h : RefAt W base R L Cs) (hL : L.length < 800) (k : Nat) (x : Pk) (hx : L[k]? = some x) :
    Calls Try.prog 27 #[.pointer (some ⟨R, 0, none⟩), .int .i64 k] W fun e W' => e = .returned (.bool true) ∧ RefAt W' base R (L ++ [x]) Cs ∧ W.grownBy W' (some R) := by
  have hk := (List.getElem?_eq_some_iff.1 hx).1
  obtain ⟨p, c, q, e, h1, _, FR, FX⟩ := ref_facts h
  obtain ⟨g, rfl, GX⟩ := FX k x hx
  have HF := Aside0.mk (And.intro FR GX)
  have HO := Aside0.mk (And.intro h h1)
  clear h h1 FR FX GX hx
  have hki : (k : Int) < (L.length : Int) := by omega
  have hd8 : decide ((800 : Int) ≤ (L.length : Int)) = false := decide_eq_false (by omega)
  have hd8' : decide (800 ≤ L.length) = false := decide_eq_false (by omega)
  have hdk : decide ((L.length : Int) ≤ (k : Int)) = false := decide_eq_false (by omega)
  have hdk' : decide (L.length ≤ k) = false := decide_eq_false (by omega)
  have hd0 : decide ((k : Int) < 0) = false := decide_eq_false (by omega)
  obtain ⟨r0, r1, _, _⟩ := HF.out.1 _ (Below.refl _ _)
  go_enter Try.func27, Try.ntmps27
  go_upto_region 3 with (fail)
  obtain ⟨pA, cA, wA1, pA2, cA2, wA2, rA1, rA2, bA1, bA2, oA⟩ := two_A (Src.of_own HO.out.2) c x (by omega)
  obtain ⟨pB, cB, wB1, pB2, cB2, wB2, rB1, rB2, bB1, bB2, oB⟩ := two_B (Src.of_own HO.out.2) c x (by omega)
  obtain ⟨d10, d11, _, _⟩ := HF.out.1 _ (below_drew1 (Below.refl _ _))
  obtain ⟨d20, d21, d22⟩ := HF.out.2 _ (below_drew1 (Below.refl _ _))
  obtain ⟨d30, d31, _, _⟩ := HF.out.1 _ (below_drew1 (below_alloc (Below.refl _ _) (box x)))
  obtain ⟨d70, d71, _, _⟩ := HF.out.1 _ bA1
  obtain ⟨d40, d41, d42⟩ := HF.out.2 _ bA1
  obtain ⟨d50, d51, _, _⟩ := HF.out.1 _ bA2
  obtain ⟨d60, d61, _, _⟩ := HF.out.1 _ bB2
  have HE := Aside0.mk (And.intro bA2 (And.intro oA (And.intro bB2 oB)))
  clear bA1 bA2 oA bB1 bB2 oB
  dsimp only [box] at rA2 rB1 d30 d31
  go_region
  all_goals
    go_wp2_with fail
    go_ret
    obtain ⟨bA2, oA, bB2, oB⟩ := HE.out
    have hRz : R + 1 ≤ W.heap.size := by have := HO.out.1.lt; omega
    have hPA := HO.out.1.put bA2 (L' := L ++ [x]) (n2 := L.length + 1) (by simp) (own_lower oA hRz)
    have hPB := HO.out.1.put bB2 (L' := L ++ [x]) (n2 := L.length + 1) (by simp) (own_lower oB hRz)
    first
      | exact ⟨rfl, hPA⟩
      | exact ⟨rfl, hPB⟩
set_option maxRecDepth 100000 in
set_option maxHeartbeats 4000000 in
theorem rdouble_no {W : World} {base R : Nat} {L : List Pk} {Cs : List (Int × Int)} (h : RefAt W base R L Cs) (k : Int) (hk : isB L k = false ∨ 800 ≤ L.length) :
    Calls Try.prog 27 #[.pointer (some ⟨R, 0, none⟩), .int .i64 k] W fun e W' => e = .returned (.bool false) ∧ W' = W := by
  obtain ⟨p, c, q, e, h1, _, FR, FX⟩ := ref_facts h
  obtain ⟨r0, r1, _, _⟩ := FR _ (Below.refl _ _)
  clear FR FX h1 h
  have hk' : k < 0 ∨ (¬ k < 0 ∧ (L.length : Int) ≤ k) ∨ (¬ k < 0 ∧ ¬ (L.length : Int) ≤ k ∧ (800 : Int) ≤ (L.length : Int)) := by
    unfold isB at hk
    by_cases h0 : k < 0
    · exact .inl h0
    · by_cases h1 : (L.length : Int) ≤ k
      · exact .inr (.inl ⟨h0, h1⟩)
      · rcases hk with hk | hk
        · simp at hk; omega
        · exact .inr (.inr ⟨h0, h1, by omega⟩)
  clear hk
  rcases hk' with c1 | ⟨c1, c2⟩ | ⟨c1, c2, c3⟩
  · have d1 : decide (k < 0) = true := decide_eq_true c1
    go_enter Try.func27, Try.ntmps27
    go_wp2
    go_ret
    exact ⟨rfl, rfl⟩
  · have d1 : decide (k < 0) = false := decide_eq_false c1
    have d2 : decide ((L.length : Int) ≤ k) = true := decide_eq_true c2
    go_enter Try.func27, Try.ntmps27
    go_wp2
    go_ret
    exact ⟨rfl, rfl⟩
  · have d1 : decide (k < 0) = false := decide_eq_false c1
    have d2 : decide ((L.length : Int) ≤ k) = false := decide_eq_false c2
    have d3 : decide ((800 : Int) ≤ (L.length : Int)) = true := decide_eq_true c3
    have d3' : decide (800 ≤ L.length) = true := decide_eq_true (by omega)
    go_enter Try.func27, Try.ntmps27
    go_wp2
    go_ret
    exact ⟨rfl, rfl⟩

/-! ### NetRp -/
/-- append(append(nil, M1...), M2...). -/
theorem two_P {w : World} {A1 A2 : Option Addr} {M1 M2 : List Pk} (h1 : Src w A1 M1) (h2 : Src w A2 M2) (c c' : Nat) (hl : M1.length + M2.length ≤ 1000) :
    ∃ p1 c1 w1 p2 c2 w2, (∀ ty, (Builtin.append_ #[40, 40] ty #[.slice none 0 0, .slice A1 M1.length c]).run Try.prog w.drew = .ok (.slice p1 M1.length c1) w1) ∧
      (∀ ty, (Builtin.append_ #[40, 40] ty #[.slice p1 M1.length c1, .slice A2 M2.length c']).run Try.prog w1 = .ok (.slice p2 (M1.length + M2.length) c2) w2) ∧
      Below w.heap.size w w1 ∧ Below w.heap.size w w2 ∧ w2.ownsRow w.heap.size 54 3 (.slice p2 (M1.length + M2.length) c2) (M1.length + M2.length) ((M1 ++ M2).flatMap penc) := by
  have b0 : Below w.heap.size w w.drew := below_drew1 (Below.refl _ _)
  obtain ⟨p1, c1, w1, r1, o1, b1⟩ := app_nil (base := w.heap.size) (h1.below b0) c (by omega) (Nat.le_refl _)
  have b01 : Below w.heap.size w w1 := below_step b0 b1
  obtain ⟨p2, c2, w2, r2, o2, g2⟩ := app_any o1 (h2.below b01) c' (by omega) (by have := b01.size; omega)
  exact ⟨p1, c1, w1, p2, c2, w2, r1, r2, b01, b01.grown g2 (by have := b01.size; omega) (fun k e => (own_lt o1 k e).1), o2⟩
/-- The head of a row. -/
theorem Src.head {w : World} {g : Nat} {L : List Pk} (h : Src w (some ⟨g, 0, none⟩) L) (k : Nat) : Src w (some ⟨g, 0, none⟩) (L.take k) := by
  have := h.part 0 (L.take k) (fun j x hx => by
    rw [Nat.zero_add]
    rw [List.getElem?_take] at hx
    split at hx
    · exact hx
    · cases hx)
  simpa using this
/-- The tail of a row: a slice at its very end keeps the address. -/
theorem Src.tail {w : World} {g c : Nat} {L : List Pk} (h : Src w (some ⟨g, 0, none⟩) L) (i : Nat) (hc : L.length ≤ c) : ∃ A : Addr, Src w (some A) (L.drop i) ∧ (if c = i then (some (⟨g, 0, none⟩ : Addr)) else some ⟨g, i * 3, none⟩) = some A := by
  by_cases hci : c = i
  · refine ⟨⟨g, 0, none⟩, fun h0 => ?_, by rw [if_pos hci]⟩
    rw [List.length_drop] at h0
    omega
  · refine ⟨⟨g, i * 3, none⟩, ?_, by rw [if_neg hci]⟩
    have := h.part i (L.drop i) (fun j x hx => by rw [List.getElem?_drop] at hx; exact hx)
    simpa using this
theorem cap_le {W : World} {base : Nat} {e : TypeId} {g c n size : Nat} {xs : List Value} (h : W.ownsRow base e size (.slice (some ⟨g, 0, none⟩) n c) n xs) : n ≤ c := by
  rcases h.2 with ⟨h0, _⟩ | ⟨g', cap', cur, hv, hg, hb, hn, hcp, hz, ht⟩
  · cases h0
  · cases hv
    exact hn
/-- The end of a method: the row stored, and boxes of the call's own written. -/
theorem RefAt.fin {W w2 w7 : World} {base R b0 : Nat} {L L' : List Pk} {Cs : List (Int × Int)} {p2 : Option Addr} {n2 c2 : Nat} (h : RefAt W base R L Cs) (hb : Below W.heap.size W w2) (hn : n2 = L'.length)
    (ho : w2.ownsRow b0 54 3 (.slice p2 n2 c2) n2 (L'.flatMap penc)) (hb0 : W.heap.size ≤ b0)
    (hE : ∀ j, j < W.heap.size ∨ b0 ≤ j → w7.heap[j]? = (w2.setCell ⟨R, 0, none⟩ (.slice p2 n2 c2)).heap[j]?) (h7 : w7.os = w2.os ∧ w7.tape = w2.tape ∧ w7.output = w2.output ∧ w7.heap.size = w2.heap.size) : RefAt w7 base R L' Cs ∧ W.grownBy w7 (some R) := by
  subst hn
  have hl := h.lt
  obtain ⟨h0, p, c, q, e, hR, h1, h3⟩ := h
  have hR2 := (hb.block R hl).trans hR
  refine ⟨⟨h0, p2, c2, q, e, (hE R (.inl hl)).trans (set_blk (j := 0) _ hR2), own_move (own_lower ho (by omega)) fun k hk => (hE k (.inr (own_lt ho k hk).1)).trans (set_other _ (by have := (own_lt ho k hk).1; omega)), own_move h3 fun k hk => (hE k (.inl (own_lt h3 k hk).2)).trans ((set_other _ (by have := (own_lt h3 k hk).1; omega)).trans (hb.block k (own_lt h3 k hk).2))⟩,
    ⟨h7.1.trans hb.os, h7.2.1.trans hb.tape, h7.2.2.1.trans hb.output, by have := hb.size; omega, fun j hj hne => (hE j (.inl hj)).trans ((set_other _ (fun e => hne (by rw [e]))).trans (hb.block j hj))⟩⟩
set_option maxRecDepth 100000 in
set_option maxHeartbeats 8000000 in
theorem rpull_in {W : World} {base R : Nat} {L : List Pk} {Cs : List (Int × Int)} (h : RefAt W base R L Cs) (hL : L.length ≤ 800) (k : Nat) (x : Pk) (hx : L[k]? = some x) :
    Calls Try.prog 25 #[.pointer (some ⟨R, 0, none⟩), .int .i64 k] W fun e W' => e = .returned (.tuple #[pval x, .bool true]) ∧ RefAt W' base R (L.eraseIdx k) Cs ∧ W.grownBy W' (some R) := by
  have hk := (List.getElem?_eq_some_iff.1 hx).1
  obtain ⟨p, c, q, e, h1, _, FR, FX⟩ := ref_facts h
  obtain ⟨g, rfl, GX⟩ := FX k x hx
  have hcl := cap_le h1
  have hB0 := below_alloc (Below.refl W.heap.size W) (.cells #[.int .i64 0, .int .i64 0, .string ⟨#[]⟩] 54)
  have hB1 := below_alloc hB0 (box x)
  have hz1 : ((W.alloc (.cells #[.int .i64 0, .int .i64 0, .string ⟨#[]⟩] 54)).alloc (box x)).heap.size = W.heap.size + 2 := by simp
  have hq1 : ((W.alloc (.cells #[.int .i64 0, .int .i64 0, .string ⟨#[]⟩] 54)).alloc (box x)).heap[W.heap.size]? = some (.cells #[.int .i64 0, .int .i64 0, .string ⟨#[]⟩] 54 (0, 0)) := (heap_alloc_old _ _ (by simp)).trans (heap_alloc_new W _)
  have hx1 : ((W.alloc (.cells #[.int .i64 0, .int .i64 0, .string ⟨#[]⟩] 54)).alloc (box x)).heap[W.heap.size + 1]? = some (box x) := by have := heap_alloc_new (W.alloc (.cells #[.int .i64 0, .int .i64 0, .string ⟨#[]⟩] 54)) (box x); simpa using this
  have HF := Aside0.mk (And.intro FR GX)
  have HO := Aside0.mk (And.intro h (And.intro h1 (And.intro hB1 (And.intro hz1 (And.intro hq1 hx1)))))
  have hki : (k : Int) < (L.length : Int) := by omega
  have hdk : decide ((L.length : Int) ≤ (k : Int)) = false := decide_eq_false (by omega)
  have hdk' : decide (L.length ≤ k) = false := decide_eq_false (by omega)
  have hd0 : decide ((k : Int) < 0) = false := decide_eq_false (by omega)
  have hwk := Aside0.mk (show wrap64 ((k : Int) + 1) = (k : Int) + 1 by unfold wrap64; omega)
  obtain ⟨r0, r1, _, _⟩ := FR _ hB0
  obtain ⟨s0, s1, _, _⟩ := FR _ hB1
  obtain ⟨x0, x1, x2⟩ := GX _ hB0
  clear h h1 FR FX GX hx hB0 hB1 hz1 hq1 hx1
  go_enter Try.func25, Try.ntmps25
  go_upto_region 4 with (fail)
  clear r0 r1 s0 s1 x0 x1 x2
  obtain ⟨h, h1, hB1, hz1, hq1, hx1⟩ := HO.out
  dsimp only [box] at hB1 hz1 hq1 hx1
  generalize hw1 : (W.alloc (.cells #[.int .i64 0, .int .i64 0, .string ⟨#[]⟩] 54)).alloc (.cells #[.int .i64 x.a, .int .i64 x.b, .string x.s] 54) = w1 at *
  have hsrc := Src.of_own (own_bel h1 hB1)
  obtain ⟨A, hA, hAe⟩ := hsrc.tail (k + 1) hcl
  have ht1 : (L.take k).length = k := by rw [List.length_take]; omega
  have ht2 : (L.drop (k + 1)).length = L.length - (k + 1) := List.length_drop
  obtain ⟨pA, cA, wA1, pA2, cA2, wA2, rA1, rA2, bA1, bA2, oA⟩ := two_P (hsrc.head k) hA c (c - (k + 1)) (by omega)
  rw [ht1] at rA1 rA2 oA
  rw [ht2] at rA2 oA
  obtain ⟨d10, d11, _, _⟩ := HF.out.1 _ (hB1.trans ((below_drew1 (Below.refl w1.heap.size w1)).mono hB1.size))
  obtain ⟨d20, d21, _, _⟩ := HF.out.1 _ (hB1.trans (bA1.mono hB1.size))
  obtain ⟨d30, d31, _, _⟩ := HF.out.1 _ (hB1.trans (bA2.mono hB1.size))
  have HE := Aside0.mk (And.intro bA2 (And.intro oA (And.intro hB1 (And.intro hz1 (And.intro hq1 hx1)))))
  have hkc : k ≤ c := by omega
  have hk1 : k + 1 ≤ L.length := hk
  clear bA1 bA2 oA hB1 hz1 hq1 hx1 hsrc hA h h1 ht1 ht2
  go_region
  all_goals
    clear d10 d11 d20 d21 d30 d31
    obtain ⟨bA2, oA, hB1, hz1, hq1, hx1⟩ := HE.out
    have hl := HO.out.1.lt
    have hb2 := hB1.trans (bA2.mono hB1.size)
    have hq4 : (wA2.setCell ⟨R, 0, none⟩ (.slice pA2 (k + (L.length - (k + 1))) cA2)).heap[W.heap.size]? = some (.cells #[.int .i64 0, .int .i64 0, .string ⟨#[]⟩] 54 (0, 0)) := (set_other _ (by omega)).trans ((bA2.block W.heap.size (by omega)).trans hq1)
    have hx4 : (wA2.setCell ⟨R, 0, none⟩ (.slice pA2 (k + (L.length - (k + 1))) cA2)).heap[W.heap.size + 1]? = some (.cells #[.int .i64 x.a, .int .i64 x.b, .string x.s] 54 (0, 0)) := (set_other _ (by omega)).trans ((bA2.block _ (by omega)).trans hx1)
    have HW := Aside0.mk (show (wA2.setCell ⟨R, 0, none⟩ (.slice pA2 (k + (L.length - (k + 1))) cA2)).os = wA2.os ∧ (wA2.setCell ⟨R, 0, none⟩ (.slice pA2 (k + (L.length - (k + 1))) cA2)).tape = wA2.tape ∧ (wA2.setCell ⟨R, 0, none⟩ (.slice pA2 (k + (L.length - (k + 1))) cA2)).output = wA2.output ∧ (wA2.setCell ⟨R, 0, none⟩ (.slice pA2 (k + (L.length - (k + 1))) cA2)).heap.size = wA2.heap.size from ⟨rfl, rfl, rfl, by simp⟩)
    have HF2 := Aside0.mk (fun w7 => @RefAt.fin W wA2 w7 base R w1.heap.size L (L.eraseIdx k) Cs pA2 (k + (L.length - (k + 1))) cA2 HO.out.1 hb2 (by rw [List.length_eraseIdx_of_lt hk]; omega) (by rw [List.eraseIdx_eq_take_drop_succ]; exact oA) (by omega))
    have HS := Aside0.mk (And.intro hl (And.intro hz1 bA2.size))
    clear bA2 oA hB1 hz1 hq1 hx1 hb2 hl HE
    generalize (wA2.setCell ⟨R, 0, none⟩ (.slice pA2 (k + (L.length - (k + 1))) cA2)) = w4 at *
    have d0 : w4.cell? ⟨W.heap.size + 1, 0, none⟩ = some (.int .i64 x.a) := blk_cell hx4 0
    have d1 : w4.cell? ⟨W.heap.size + 1, 1, none⟩ = some (.int .i64 x.b) := blk_cell hx4 1
    have d2 : w4.cell? ⟨W.heap.size + 1, 2, none⟩ = some (.string x.s) := blk_cell hx4 2
    have hz5 := set_blk (j := 0) (.int .i64 x.a) hq4
    have hz6 := set_blk (j := 1) (.int .i64 x.b) hz5
    have hz7 := set_blk (j := 2) (.string x.s) hz6
    have q0 : w4.cell? ⟨W.heap.size, 0, none⟩ = some (.int .i64 0) := blk_cell hq4 0
    have q0' : w4.frozen? ⟨W.heap.size, 0, none⟩ = false := blk_frozen hq4 0
    have q1 : (w4.setCell ⟨W.heap.size, 0, none⟩ (.int .i64 x.a)).cell? ⟨W.heap.size, 1, none⟩ = some (.int .i64 0) := blk_cell hz5 1
    have q1' : (w4.setCell ⟨W.heap.size, 0, none⟩ (.int .i64 x.a)).frozen? ⟨W.heap.size, 1, none⟩ = false := blk_frozen hz5 1
    have q2 : ((w4.setCell ⟨W.heap.size, 0, none⟩ (.int .i64 x.a)).setCell ⟨W.heap.size, 1, none⟩ (.int .i64 x.b)).cell? ⟨W.heap.size, 2, none⟩ = some (.string ⟨#[]⟩) := blk_cell hz6 2
    have q2' : ((w4.setCell ⟨W.heap.size, 0, none⟩ (.int .i64 x.a)).setCell ⟨W.heap.size, 1, none⟩ (.int .i64 x.b)).frozen? ⟨W.heap.size, 2, none⟩ = false := blk_frozen hz6 2
    have HZ7 := Aside0.mk hz7
    clear hz5 hz6 hz7 hq4 hx4
    go_wp2
    have z0 := blk_cell HZ7.out 0
    have z1 := blk_cell HZ7.out 1
    have z2 := blk_cell HZ7.out 2
    have hfin := HF2.out (((w4.setCell ⟨W.heap.size, 0, none⟩ (.int .i64 x.a)).setCell ⟨W.heap.size, 1, none⟩ (.int .i64 x.b)).setCell ⟨W.heap.size, 2, none⟩ (.string x.s)) (fun j hj => by
      have hne : W.heap.size ≠ j := by have := HS.out; rcases hj with h | h <;> omega
      exact (set_other _ hne).trans ((set_other _ hne).trans (set_other _ hne))) ⟨HW.out.1, HW.out.2.1, HW.out.2.2.1, by have := HW.out.2.2.2; simpa using this⟩
    generalize (((w4.setCell ⟨W.heap.size, 0, none⟩ (.int .i64 x.a)).setCell ⟨W.heap.size, 1, none⟩ (.int .i64 x.b)).setCell ⟨W.heap.size, 2, none⟩ (.string x.s)) = w7 at *
    simp at z0 z1 z2
    exact bodyPost_ret (v := .tuple #[pval x, .bool true]) (by simp [results, Try.results25, go_sem, z0, z1, z2, pval]) rfl ⟨rfl, hfin⟩

/-! ### NetRm -/
theorem isB_out {L : List Pk} {k : Int} (h : isB L k = false) : k < 0 ∨ (¬ k < 0 ∧ (L.length : Int) ≤ k) := by
  unfold isB at h
  by_cases h0 : k < 0
  · exact .inl h0
  · simp at h
    exact .inr ⟨h0, h (by omega)⟩
set_option maxRecDepth 100000 in
set_option maxHeartbeats 4000000 in
theorem rpull_out {W : World} {base R : Nat} {L : List Pk} {Cs : List (Int × Int)} (h : RefAt W base R L Cs) (k : Int) (hk : isB L k = false) :
    Calls Try.prog 25 #[.pointer (some ⟨R, 0, none⟩), .int .i64 k] W fun e W' => e = .returned (.tuple #[noPk, .bool false]) ∧ Below W.heap.size W W' := by
  obtain ⟨p, c, q, e, h1, _, FR, _⟩ := ref_facts h
  have hB0 := below_alloc (Below.refl W.heap.size W) (.cells #[.int .i64 0, .int .i64 0, .string ⟨#[]⟩] 54)
  obtain ⟨r0, r1, _, _⟩ := FR _ hB0
  clear h h1 FR hB0
  have z0 : (W.alloc (.cells #[.int .i64 0, .int .i64 0, .string ⟨#[]⟩] 54)).cell? ⟨W.heap.size, 0, none⟩ = some (.int .i64 0) := blk_cell (heap_alloc_new W _) 0
  have z1 : (W.alloc (.cells #[.int .i64 0, .int .i64 0, .string ⟨#[]⟩] 54)).cell? ⟨W.heap.size, 1, none⟩ = some (.int .i64 0) := blk_cell (heap_alloc_new W _) 1
  have z2 : (W.alloc (.cells #[.int .i64 0, .int .i64 0, .string ⟨#[]⟩] 54)).cell? ⟨W.heap.size, 2, none⟩ = some (.string ⟨#[]⟩) := blk_cell (heap_alloc_new W _) 2
  rcases isB_out hk with c1 | ⟨c1, c2⟩
  · have d1 : decide (k < 0) = true := decide_eq_true c1
    clear hk
    go_enter Try.func25, Try.ntmps25
    go_wp2
    exact bodyPost_ret (v := .tuple #[noPk, .bool false]) (by simp [results, Try.results25, go_sem, z0, z1, z2, noPk]; rfl) rfl ⟨rfl, below_alloc (Below.refl _ _) _⟩
  · have d1 : decide (k < 0) = false := decide_eq_false c1
    have d2 : decide ((L.length : Int) ≤ k) = true := decide_eq_true c2
    clear hk
    go_enter Try.func25, Try.ntmps25
    go_wp2
    exact bodyPost_ret (v := .tuple #[noPk, .bool false]) (by simp [results, Try.results25, go_sem, z0, z1, z2, noPk]; rfl) rfl ⟨rfl, below_alloc (Below.refl _ _) _⟩
theorem three {w w2 : World} {A2 : Option Addr} {M1 M2 : List Pk} {x : Pk} {n1 c2 : Nat} {p2 : Option Addr} (hn : n1 = M1.length) (b2 : Below w.heap.size w w2) (o2 : w2.ownsRow w.heap.size 54 3 (.slice p2 (n1 + 1) c2) (n1 + 1) ((M1 ++ [x]).flatMap penc)) (h2 : Src w A2 M2) (c' : Nat) (hl : M1.length + M2.length ≤ 1000) :
    ∃ p3 c3 w3, (∀ ty, (Builtin.append_ #[40, 40] ty #[.slice p2 (n1 + 1) c2, .slice A2 M2.length c']).run Try.prog w2 = .ok (.slice p3 (n1 + 1 + M2.length) c3) w3) ∧
      Below w.heap.size w w3 ∧ w3.ownsRow w.heap.size 54 3 (.slice p3 (n1 + 1 + M2.length) c3) (n1 + 1 + M2.length) ((M1 ++ x :: M2).flatMap penc) := by
  subst hn
  have e1 : M1.length + 1 = (M1 ++ [x]).length := by simp
  have o2' : w2.ownsRow w.heap.size 54 3 (.slice p2 (M1 ++ [x]).length c2) (M1 ++ [x]).length ((M1 ++ [x]).flatMap penc) := by rw [← e1]; exact o2
  obtain ⟨p3, c3, w3, r3, o3, g3⟩ := app_any o2' (h2.below b2) c' (by simp; omega) b2.size
  rw [← e1] at r3 o3
  rw [List.append_assoc, List.singleton_append] at o3
  exact ⟨p3, c3, w3, r3, b2.grown g3 b2.size (fun k e => (own_lt o2' k e).1), o3⟩
set_option maxRecDepth 100000 in
set_option maxHeartbeats 8000000 in
theorem rmove_in {W : World} {base R : Nat} {L : List Pk} {Cs : List (Int × Int)} (h : RefAt W base R L Cs) (hL : L.length ≤ 800) (k : Nat) (x : Pk) (hx : L[k]? = some x) (z : Nat) (hz : z < L.length) :
    Calls Try.prog 28 #[.pointer (some ⟨R, 0, none⟩), .int .i64 k, .int .i64 z] W fun e W' => e = .returned (.bool true) ∧ RefAt W' base R (mv L k x z) Cs ∧ W.grownBy W' (some R) := by
  have hk := (List.getElem?_eq_some_iff.1 hx).1
  have HP := Aside0.mk (rpull_in h hL k x hx)
  obtain ⟨p, c, q, e, h1, _, FR, FX⟩ := ref_facts h
  have hki : (k : Int) < (L.length : Int) := by omega
  have hdk : decide ((L.length : Int) ≤ (k : Int)) = false := decide_eq_false (by omega)
  have hdk' : decide (L.length ≤ k) = false := decide_eq_false (by omega)
  have hd0 : decide ((k : Int) < 0) = false := decide_eq_false (by omega)
  have hdz : decide ((L.length : Int) ≤ (z : Int)) = false := decide_eq_false (by omega)
  have hdz' : decide (L.length ≤ z) = false := decide_eq_false (by omega)
  have hdz0 : decide ((z : Int) < 0) = false := decide_eq_false (by omega)
  obtain ⟨r0, r1, _, _⟩ := FR _ (Below.refl _ _)
  clear h h1 FR FX hx
  go_enter Try.func28, Try.ntmps28
  go_wp2_with fail
  refine HP.out.mono ?_
  rintro e w3 ⟨rfl, H3⟩
  have H3' := Aside0.mk H3
  clear H3 r0 r1 HP
  unfold pval
  go_upto_region 4 with (fail)
  have hle : (L.eraseIdx k).length = L.length - 1 := List.length_eraseIdx_of_lt hk
  have hb34 := below_alloc (Below.refl w3.heap.size w3) (box x)
  have hbox := heap_alloc_new w3 (box x)
  have hbox' : (w3.alloc (box x)).heap.size = w3.heap.size + 1 := by simp
  have h4 := H3'.out.1.below hb34
  have hg4 := grown_below H3'.out.2 hb34
  have hlR := H3'.out.1.lt
  dsimp only [box] at hb34 hbox hbox' h4 hg4
  generalize hw4 : w3.alloc (.cells #[.int .i64 x.a, .int .i64 x.b, .string x.s] 54) = w4 at *
  obtain ⟨p4, c4, q4, e4, o4, _, FR4, FX4⟩ := ref_facts h4
  generalize hLL : L.eraseIdx k = LL at *
  have hzl : z ≤ LL.length := by omega
  have hbx : ∀ w', Below w4.heap.size w4 w' → w'.cell? ⟨w3.heap.size, 0, none⟩ = some (.int .i64 x.a) ∧ w'.cell? ⟨w3.heap.size, 1, none⟩ = some (.int .i64 x.b) ∧ w'.cell? ⟨w3.heap.size, 2, none⟩ = some (.string x.s) := fun w' hw' => by
    have hb := (hw'.block w3.heap.size (by omega)).trans hbox
    exact ⟨blk_cell hb 0, blk_cell hb 1, blk_cell hb 2⟩
  have ht1 : (LL.take z).length = z := by rw [List.length_take]; omega
  have ht2 : (LL.drop z).length = LL.length - z := List.length_drop
  rcases o4.2 with ⟨hn4, hz4⟩ | ⟨g, cap4, cur, hv4, _⟩
  · obtain ⟨rfl, hl0, rfl⟩ := Value.slice.inj hn4
    obtain rfl := List.length_eq_zero_iff.1 hl0
    obtain rfl : z = 0 := by simp at hzl; omega
    have M1z : Src w4 none ([] : List Pk) := fun h0 => absurd rfl h0
    obtain ⟨pA, cA, wA1, pA2, cA2, wA2, rA1, rA2, bA1, bA2, oA⟩ := two_A (M1z) 0 x (by simp)
    obtain ⟨pB, cB, wB1, pB2, cB2, wB2, rB1, rB2, bB1, bB2, oB⟩ := two_B (M1z) 0 x (by simp)
    obtain ⟨pA3, cA3, wA3, rA3, bA3, oA3⟩ := three rfl bA2 oA M1z 0 (by simp)
    obtain ⟨pB3, cB3, wB3, rB3, bB3, oB3⟩ := three rfl bB2 oB M1z 0 (by simp)
    simp only [List.length_nil, Nat.zero_add, Nat.add_zero, List.nil_append] at rA1 rA2 rA3 oA3 rB1 rB2 rB3 oB3
    obtain ⟨d10, d11, _, _⟩ := FR4 _ (below_drew1 (Below.refl _ _))
    obtain ⟨d20, d21, _, _⟩ := FR4 _ (below_drew1 (below_alloc (Below.refl _ _) (box x)))
    obtain ⟨d30, d31, _, _⟩ := FR4 _ bA1
    obtain ⟨d40, d41, _, _⟩ := FR4 _ (below_alloc bA1 (box x))
    obtain ⟨d50, d51, _, _⟩ := FR4 _ bA2
    obtain ⟨d60, d61, _, _⟩ := FR4 _ bB1
    obtain ⟨d70, d71, _, _⟩ := FR4 _ bB2
    obtain ⟨d80, d81, _, _⟩ := FR4 _ bA3
    obtain ⟨d90, d91, _, _⟩ := FR4 _ bB3
    obtain ⟨f10, f11, f12⟩ := hbx _ (below_drew1 (Below.refl _ _))
    obtain ⟨f30, f31, f32⟩ := hbx _ bA1
    have HE := Aside0.mk (And.intro h4 (And.intro hg4 (And.intro bA3 (And.intro oA3 (And.intro bB3 (And.intro oB3 (And.intro hLL hle)))))))
    clear bA1 bA2 oA bB1 bB2 oB bA3 oA3 bB3 oB3 h4 hg4 hbx FR4 FX4 o4 M1z ht1 ht2 hle hLL hbox hbox' hb34
    dsimp only [box] at rA2 rB1 d20 d21 d40 d41
    go_region
    all_goals
      go_wp2_with fail
      go_ret
      obtain ⟨h4, hg4, bA3, oA3, bB3, oB3, hLL, hle⟩ := HE.out
      have hRz : R + 1 ≤ w4.heap.size := by have := h4.lt; omega
      have hm : mv L k x 0 = [x] := by unfold mv; rw [hLL]; rfl
      have hml : 1 = (mv L k x 0).length := by rw [hm]; rfl
      rw [← hm] at oA3 oB3
      have hPA := h4.put bA3 (L' := mv L k x 0) hml (own_lower oA3 hRz)
      have hPB := h4.put bB3 (L' := mv L k x 0) hml (own_lower oB3 hRz)
      first
        | exact ⟨rfl, hPA.1, hg4.trans hPA.2⟩
        | exact ⟨rfl, hPB.1, hg4.trans hPB.2⟩
  · cases hv4
    have hsrc := Src.of_own o4
    have hcl := cap_le o4
    obtain ⟨A, hA, hAe⟩ := hsrc.tail z hcl
    obtain ⟨pA, cA, wA1, pA2, cA2, wA2, rA1, rA2, bA1, bA2, oA⟩ := two_A (hsrc.head z) c4 x (by omega)
    obtain ⟨pB, cB, wB1, pB2, cB2, wB2, rB1, rB2, bB1, bB2, oB⟩ := two_B (hsrc.head z) c4 x (by omega)
    obtain ⟨pA3, cA3, wA3, rA3, bA3, oA3⟩ := three rfl bA2 oA hA (c4 - z) (by omega)
    obtain ⟨pB3, cB3, wB3, rB3, bB3, oB3⟩ := three rfl bB2 oB hA (c4 - z) (by omega)
    rw [ht1] at rA1 rA2 rA3 oA3 rB1 rB2 rB3 oB3
    rw [ht2] at rA3 oA3 rB3 oB3
    obtain ⟨d10, d11, _, _⟩ := FR4 _ (below_drew1 (Below.refl _ _))
    obtain ⟨d20, d21, _, _⟩ := FR4 _ (below_drew1 (below_alloc (Below.refl _ _) (box x)))
    obtain ⟨d30, d31, _, _⟩ := FR4 _ bA1
    obtain ⟨d40, d41, _, _⟩ := FR4 _ (below_alloc bA1 (box x))
    obtain ⟨d50, d51, _, _⟩ := FR4 _ bA2
    obtain ⟨d60, d61, _, _⟩ := FR4 _ bB1
    obtain ⟨d70, d71, _, _⟩ := FR4 _ bB2
    obtain ⟨d80, d81, _, _⟩ := FR4 _ bA3
    obtain ⟨d90, d91, _, _⟩ := FR4 _ bB3
    obtain ⟨f10, f11, f12⟩ := hbx _ (below_drew1 (Below.refl _ _))
    obtain ⟨f30, f31, f32⟩ := hbx _ bA1
    have HE := Aside0.mk (And.intro h4 (And.intro hg4 (And.intro bA3 (And.intro oA3 (And.intro bB3 (And.intro oB3 (And.intro hLL hle)))))))
    have hkc : z ≤ c4 := by omega
    clear bA1 bA2 oA bB1 bB2 oB bA3 oA3 bB3 oB3 hsrc hA h4 hg4 hbx FR4 FX4 o4 ht1 ht2 hle hLL hbox hbox' hb34
    dsimp only [box] at rA2 rB1 d20 d21 d40 d41
    go_region
    all_goals
      go_wp2_with fail
      go_ret
      obtain ⟨h4, hg4, bA3, oA3, bB3, oB3, hLL, hle⟩ := HE.out
      have hRz : R + 1 ≤ w4.heap.size := by have := h4.lt; omega
      have hm : mv L k x z = LL.take z ++ x :: LL.drop z := by unfold mv; rw [hLL]
      have hml : z + 1 + (LL.length - z) = (mv L k x z).length := by rw [hm, List.length_append, List.length_cons, List.length_take, List.length_drop]; omega
      rw [← hm] at oA3 oB3
      have hPA := h4.put bA3 (L' := mv L k x z) hml (own_lower oA3 hRz)
      have hPB := h4.put bB3 (L' := mv L k x z) hml (own_lower oB3 hRz)
      first
        | exact ⟨rfl, hPA.1, hg4.trans hPA.2⟩
        | exact ⟨rfl, hPB.1, hg4.trans hPB.2⟩

/-! ### NetRo -/
set_option maxRecDepth 100000 in
set_option maxHeartbeats 4000000 in
theorem rmove_no {W : World} {base R : Nat} {L : List Pk} {Cs : List (Int × Int)} (h : RefAt W base R L Cs) (k z : Int) (hk : isB L k = false ∨ isB L z = false) :
    Calls Try.prog 28 #[.pointer (some ⟨R, 0, none⟩), .int .i64 k, .int .i64 z] W fun e W' => e = .returned (.bool false) ∧ W' = W := by
  obtain ⟨p, c, q, e, h1, _, FR, _⟩ := ref_facts h
  obtain ⟨r0, r1, _, _⟩ := FR _ (Below.refl _ _)
  clear FR h1 h
  have hk' : k < 0 ∨ (¬ k < 0 ∧ (L.length : Int) ≤ k) ∨ (¬ k < 0 ∧ ¬ (L.length : Int) ≤ k ∧ z < 0) ∨ (¬ k < 0 ∧ ¬ (L.length : Int) ≤ k ∧ ¬ z < 0 ∧ (L.length : Int) ≤ z) := by
    by_cases h0 : k < 0
    · exact .inl h0
    · by_cases h1 : (L.length : Int) ≤ k
      · exact .inr (.inl ⟨h0, h1⟩)
      · rcases hk with hk | hk
        · rcases isB_out hk with h | h <;> omega
        · rcases isB_out hk with h | h
          · exact .inr (.inr (.inl ⟨h0, h1, h⟩))
          · exact .inr (.inr (.inr ⟨h0, h1, h.1, h.2⟩))
  clear hk
  rcases hk' with c1 | ⟨c1, c2⟩ | ⟨c1, c2, c3⟩ | ⟨c1, c2, c3, c4⟩
  · have d1 : decide (k < 0) = true := decide_eq_true c1
    go_enter Try.func28, Try.ntmps28
    go_wp2
    go_ret
    exact ⟨rfl, rfl⟩
  · have d1 : decide (k < 0) = false := decide_eq_false c1
    have d2 : decide ((L.length : Int) ≤ k) = true := decide_eq_true c2
    go_enter Try.func28, Try.ntmps28
    go_wp2
    go_ret
    exact ⟨rfl, rfl⟩
  · have d1 : decide (k < 0) = false := decide_eq_false c1
    have d2 : decide ((L.length : Int) ≤ k) = false := decide_eq_false c2
    have d3 : decide (z < 0) = true := decide_eq_true c3
    go_enter Try.func28, Try.ntmps28
    go_wp2
    go_ret
    exact ⟨rfl, rfl⟩
  · have d1 : decide (k < 0) = false := decide_eq_false c1
    have d2 : decide ((L.length : Int) ≤ k) = false := decide_eq_false c2
    have d3 : decide (z < 0) = false := decide_eq_false c3
    have d4 : decide ((L.length : Int) ≤ z) = true := decide_eq_true c4
    go_enter Try.func28, Try.ntmps28
    go_wp2
    go_ret
    exact ⟨rfl, rfl⟩
theorem own_spoil {w : World} {base : Nat} {e : TypeId} {g c k : Nat} {L : List Pk} {x : Pk} (s' : ByteArray) (h : w.ownsRow base e 3 (.slice (some ⟨g, 0, none⟩) L.length c) L.length (L.flatMap penc)) (hx : L[k]? = some x) :
    (w.setCell ⟨g, k * 3 + 2, none⟩ (.string s')).ownsRow base e 3 (.slice (some ⟨g, 0, none⟩) L.length c) L.length ((L.set k ⟨x.a, x.b, s', x.ha, x.hb⟩).flatMap penc) := by
  obtain ⟨g0, cap0, cur, hgv, hg0, hcur, hn0, hcp0, hz0, ht0⟩ := h.2.resolve_left (by rintro ⟨h, _⟩; cases h)
  cases hgv
  refine ⟨by rw [pmap_len, List.length_set], .inr ⟨g, c, _, rfl, hg0, set_blk (j := k * 3 + 2) _ hcur, hn0, hcp0, by simpa using hz0, ?_⟩⟩
  rw [Array.toList_setIfInBounds, List.take_set, ht0, pk_set L k x _ hx]
theorem RefAt.spoil {w : World} {base R g c k e : Nat} {q : Option Addr} {L : List Pk} {Cs : List (Int × Int)} {x : Pk} (h0 : base ≤ R) (hR : w.heap[R]? = some (.cells #[.slice (some ⟨g, 0, none⟩) L.length c, .slice q Cs.length e] 43 (0, 0)))
    (o1 : w.ownsRow (R + 1) 54 3 (.slice (some ⟨g, 0, none⟩) L.length c) L.length (L.flatMap penc)) (o2 : w.ownsRow (R + 1) 61 2 (.slice q Cs.length e) Cs.length (Cs.flatMap cenc)) (hx : L[k]? = some x) (s' : ByteArray) :
    RefAt (w.setCell ⟨g, k * 3 + 2, none⟩ (.string s')) base R (L.set k ⟨x.a, x.b, s', x.ha, x.hb⟩) Cs := by
  have hg := own_lt o1 g rfl
  have hs := own_spoil s' o1 hx
  have hl : (L.set k ⟨x.a, x.b, s', x.ha, x.hb⟩).length = L.length := List.length_set ..
  refine ⟨h0, some ⟨g, 0, none⟩, c, q, e, ?_, ?_, own_move o2 fun j hj => set_other _ (fun e => ?_)⟩
  · rw [hl]
    exact (set_other _ (by omega)).trans hR
  · rw [hl]
    exact hs
  · obtain ⟨c1, h1⟩ := own_typed o1 g rfl
    obtain ⟨c2, h2⟩ := own_typed o2 j hj
    rw [e, h2] at h1
    cases h1

/-! ### NetRq -/
set_option maxRecDepth 100000 in
set_option maxHeartbeats 8000000 in
theorem rspoil_in {W : World} {base R : Nat} {L : List Pk} {Cs : List (Int × Int)} (h : RefAt W base R L Cs) (hL : L.length ≤ 800) (k : Nat) (x : Pk) (hx : L[k]? = some x) (z b : Int) (hz : I64 z) (hb : I64 b) (h0 : 0 < x.s.size) (hsz : x.s.size ≤ 281474976710656) :
    Calls Try.prog 29 #[.pointer (some ⟨R, 0, none⟩), .int .i64 k, .int .i64 z, .int .i64 b] W fun e W' => e = .returned (.bool true) ∧ RefAt W' base R (L.set k ⟨x.a, x.b, spb x.s (plc x.s.size z) b, x.ha, x.hb⟩) Cs ∧ W.grownBy W' (some R) := by
  have hk : k < L.length := (List.getElem?_eq_some_iff.1 hx).1
  obtain ⟨p, c, q, e, o1, _, FR, FX⟩ := ref_facts h
  obtain ⟨g, rfl, GX⟩ := FX k x hx
  have HF := Aside0.mk (And.intro FR GX)
  have HO := Aside0.mk (And.intro h o1)
  have hki : (k : Int) < (L.length : Int) := by omega
  have hdk : decide ((L.length : Int) ≤ (k : Int)) = false := decide_eq_false (by omega)
  have hdk' : decide (L.length ≤ k) = false := decide_eq_false (by omega)
  have hd0 : decide ((k : Int) < 0) = false := decide_eq_false (by omega)
  have hE : x.s.toList.isEmpty = false := by
    rw [Lib.toList_data]
    cases hl : x.s.data.toList with
    | nil =>
      have h1 : x.s.size = x.s.data.toList.length := by rw [Array.length_toList]; rfl
      rw [hl] at h1
      exact absurd h0 (by rw [h1]; decide)
    | cons y l => rfl
  have hcv := run_bytes_of_string (P := Try.prog) W 9 65 5 x.s Try.underlying9 Try.underlying65 Try.underlying5
  generalize hcp : grownCap W x.s.size 0 5 = cp at hcv
  have htl := plc_lt h0 z
  have htm1 := Int.tmod_lt_of_pos z (show (0 : Int) < x.s.size by omega)
  have htm2 := Int.lt_tmod_of_pos z (show (0 : Int) < x.s.size by omega)
  have hpl : (plc x.s.size z : Int) = if Int.tmod z x.s.size < 0 then Int.tmod z x.s.size + x.s.size else Int.tmod z x.s.size := by
    unfold plc
    rw [Int.toNat_of_nonneg]
    split <;> omega
  generalize plc x.s.size z = t at htl hpl ⊢
  have hblk : (W.alloc (.cells (bytesRow x.s cp) 5 ((bytesRow x.s cp).size, (bytesRow x.s cp).size + 1))).drew.heap[W.heap.size]? = some (.cells (bytesRow x.s cp) 5 ((bytesRow x.s cp).size, (bytesRow x.s cp).size + 1)) := heap_alloc_new W _
  have htd : t < x.s.data.size := htl
  have q0 : (W.alloc (.cells (bytesRow x.s cp) 5 ((bytesRow x.s cp).size, (bytesRow x.s cp).size + 1))).drew.cell? ⟨W.heap.size, t, none⟩ = some (.int .u8 (x.s.data[t].toNat : Int)) := (cellF hblk).trans (bytesRow_at x.s cp t htd)
  have hbz : x.s.data.size ≤ (bytesRow x.s cp).size := by unfold bytesRow; simp
  have q1 : (W.alloc (.cells (bytesRow x.s cp) 5 ((bytesRow x.s cp).size, (bytesRow x.s cp).size + 1))).drew.frozen? ⟨W.heap.size, t, none⟩ = false := frozF hblk (by show t < (bytesRow x.s cp).size; omega)
  have htI : (t : Int) < (x.s.size : Int) := by omega
  have hw2b : (((W.alloc (.cells (bytesRow x.s cp) 5 ((bytesRow x.s cp).size, (bytesRow x.s cp).size + 1))).setCell ⟨W.heap.size, t, none⟩ (.int .u8 (bits .xor .u8 ((x.s.data[t].toNat : Nat) : Int) (b % 256)))).drew).heap[W.heap.size]? = some (.cells ((bytesRow x.s cp).setIfInBounds t (.int .u8 (bits .xor .u8 ((x.s.data[t].toNat : Nat) : Int) (b % 256)))) 5 ((bytesRow x.s cp).size, (bytesRow x.s cp).size + 1)) := set_blk (w := W.alloc (.cells (bytesRow x.s cp) 5 ((bytesRow x.s cp).size, (bytesRow x.s cp).size + 1))) (j := t) _ hblk
  have hw2o : Below W.heap.size W (((W.alloc (.cells (bytesRow x.s cp) 5 ((bytesRow x.s cp).size, (bytesRow x.s cp).size + 1))).setCell ⟨W.heap.size, t, none⟩ (.int .u8 (bits .xor .u8 ((x.s.data[t].toNat : Nat) : Int) (b % 256)))).drew) := ⟨rfl, rfl, rfl, by show W.heap.size ≤ ((W.alloc (.cells (bytesRow x.s cp) 5 ((bytesRow x.s cp).size, (bytesRow x.s cp).size + 1))).setCell ⟨W.heap.size, t, none⟩ (.int .u8 (bits .xor .u8 ((x.s.data[t].toNat : Nat) : Int) (b % 256)))).heap.size; simp, fun j hj => (set_other (w := W.alloc (.cells (bytesRow x.s cp) 5 ((bytesRow x.s cp).size, (bytesRow x.s cp).size + 1))) _ (by omega)).trans (heap_alloc_old _ _ hj)⟩
  have hw2s : W.heap.size < (((W.alloc (.cells (bytesRow x.s cp) 5 ((bytesRow x.s cp).size, (bytesRow x.s cp).size + 1))).setCell ⟨W.heap.size, t, none⟩ (.int .u8 (bits .xor .u8 ((x.s.data[t].toNat : Nat) : Int) (b % 256)))).drew).heap.size := (Array.getElem?_eq_some_iff.1 hw2b).1
  have hcb := fun (w : World) (hw : w.heap[W.heap.size]? = some (.cells ((bytesRow x.s cp).setIfInBounds t (.int .u8 (bits .xor .u8 ((x.s.data[t].toNat : Nat) : Int) (b % 256)))) 5 ((bytesRow x.s cp).size, (bytesRow x.s cp).size + 1))) => spb_cells (w := w) x.s htd b hw
  have HB := Aside0.mk (And.intro hw2o (And.intro hw2b (And.intro hcb hw2s)))
  have HX := Aside0.mk hx
  obtain ⟨r0, r1, _, _⟩ := FR _ (Below.refl _ _)
  obtain ⟨x0, x1, x2⟩ := GX _ (Below.refl _ _)
  clear hw2b hw2o hw2s hcb hbz hblk h o1 FR FX GX hx
  go_enter Try.func29, Try.ntmps29
  go_upto_region 5 with (fail)
  have hn0 : ¬ ((x.s.size : Int) = 0) := by omega
  by_cases hneg : Int.tmod z x.s.size < 0
  · rw [if_pos hneg] at hpl
    have hw : wrap64 (Int.tmod z x.s.size + x.s.size) = (t : Int) := by rw [← hpl]; unfold wrap64; omega
    clear hpl htm1 htm2
    go_upto_region 8 with (fail)
    generalize (((W.alloc (.cells (bytesRow x.s cp) 5 ((bytesRow x.s cp).size, (bytesRow x.s cp).size + 1))).setCell ⟨W.heap.size, t, none⟩ (.int .u8 (bits .xor .u8 ((x.s.data[t].toNat : Nat) : Int) (b % 256)))).drew) = w2 at *
    obtain ⟨hb2, hw2b, hcb, hw2s⟩ := HB.out
    have hsrc := Src.of_own (own_bel HO.out.2 hb2)
    obtain ⟨p8, c8, w8, r8, o8, b8⟩ := app_nil (base := w2.heap.size) hsrc c (by omega) (Nat.le_refl _)
    obtain ⟨g8, rfl, _⟩ := own_at' o8 HX.out
    obtain ⟨d0, d1, _, _⟩ := HF.out.1 _ hb2
    obtain ⟨e0, e1, _, _⟩ := HF.out.1 _ (hb2.trans (b8.mono hb2.size))
    have HE := Aside0.mk (And.intro hb2 (And.intro hw2b (And.intro hcb (And.intro hw2s (And.intro o8 b8)))))
    clear hb2 hw2b hcb hw2s hsrc o8 b8 r0 r1 x0 x1 x2 hcv q0 q1
    go_upto_region 9 with (fail)
    clear d0 d1 e0 e1 r8
    obtain ⟨hb2, hw2b, hcb, hw2s, o8, b8⟩ := HE.out
    have hg8 := own_lt o8 g8 rfl
    have hlR := HO.out.1.lt
    have hPut := HO.out.1.put (hb2.trans (b8.mono hb2.size)) (L' := L) rfl (own_lower o8 (by omega))
    have hbb : (w8.setCell ⟨R, 0, none⟩ (.slice (some ⟨g8, 0, none⟩) L.length c8)).heap[W.heap.size]? = some (.cells ((bytesRow x.s cp).setIfInBounds t (.int .u8 (bits .xor .u8 ((x.s.data[t].toNat : Nat) : Int) (b % 256)))) 5 ((bytesRow x.s cp).size, (bytesRow x.s cp).size + 1)) := (set_other _ (by omega)).trans ((b8.block W.heap.size hw2s).trans hw2b)
    have o9 : (w8.setCell ⟨R, 0, none⟩ (.slice (some ⟨g8, 0, none⟩) L.length c8)).ownsRow w2.heap.size 54 3 (.slice (some ⟨g8, 0, none⟩) L.length c8) L.length (L.flatMap penc) := own_move o8 fun j hj => set_other _ (by have := (own_lt o8 j hj).1; omega)
    have hR9 : (w8.setCell ⟨R, 0, none⟩ (.slice (some ⟨g8, 0, none⟩) L.length c8)).cell? ⟨R, 0, none⟩ = some (.slice (some ⟨g8, 0, none⟩) L.length c8) := by
      obtain ⟨_, p', c', q', e', hR', _⟩ := HO.out.1.below (hb2.trans (b8.mono hb2.size))
      exact blk_cell (set_blk (j := 0) _ hR') 0
    generalize (w8.setCell ⟨R, 0, none⟩ (.slice (some ⟨g8, 0, none⟩) L.length c8)) = w9 at *
    have hcd := hcb w9.drew hbb
    obtain ⟨g8', hg', y0, y1, y2⟩ := own_at' o9 HX.out
    obtain rfl : g8 = g8' := by injection hg' with h_; injection h_
    have y3 : w9.frozen? ⟨g8, k * 3 + 2, none⟩ = false := by
      obtain ⟨cells, hcs⟩ := own_typed o9 g8 rfl
      exact blk_frozen hcs _
    have HG := Aside0.mk (And.intro hPut (And.intro o9 (And.intro hg8 (And.intro hb2.size hR9))))
    clear hPut o9 hbb o8 b8 hg8 hb2 hw2b hcb hw2s hlR HE HB
    go_region
    go_wp2
    go_ret
    obtain ⟨hPut, o9, hg8, hb2s, hR9⟩ := HG.out
    obtain ⟨h0', p', c', q', e', hR', o1', o2'⟩ := hPut.1
    rw [blk_cell hR' 0] at hR9
    obtain ⟨rfl, _, rfl⟩ := Value.slice.inj (Option.some.inj hR9)
    have hS := RefAt.spoil h0' hR' o1' o2' HX.out (spb x.s t b)
    exact ⟨rfl, hS.below ⟨rfl, rfl, rfl, Nat.le_refl _, fun _ _ => rfl⟩, ⟨hPut.2.os, hPut.2.tape, hPut.2.output, Nat.le_trans hPut.2.size (by show w9.heap.size ≤ (w9.setCell ⟨g8, k * 3 + 2, none⟩ (.string (spb x.s t b))).heap.size; simp), fun j hj hne => (set_other _ (by omega)).trans (hPut.2.block j hj hne)⟩⟩
  · rw [if_neg hneg] at hpl
    have hw : Int.tmod z x.s.size = (t : Int) := hpl.symm
    clear hpl htm1 htm2
    go_upto_region 8 with (fail)
    generalize (((W.alloc (.cells (bytesRow x.s cp) 5 ((bytesRow x.s cp).size, (bytesRow x.s cp).size + 1))).setCell ⟨W.heap.size, t, none⟩ (.int .u8 (bits .xor .u8 ((x.s.data[t].toNat : Nat) : Int) (b % 256)))).drew) = w2 at *
    obtain ⟨hb2, hw2b, hcb, hw2s⟩ := HB.out
    have hsrc := Src.of_own (own_bel HO.out.2 hb2)
    obtain ⟨p8, c8, w8, r8, o8, b8⟩ := app_nil (base := w2.heap.size) hsrc c (by omega) (Nat.le_refl _)
    obtain ⟨g8, rfl, _⟩ := own_at' o8 HX.out
    obtain ⟨d0, d1, _, _⟩ := HF.out.1 _ hb2
    obtain ⟨e0, e1, _, _⟩ := HF.out.1 _ (hb2.trans (b8.mono hb2.size))
    have HE := Aside0.mk (And.intro hb2 (And.intro hw2b (And.intro hcb (And.intro hw2s (And.intro o8 b8)))))
    clear hb2 hw2b hcb hw2s hsrc o8 b8 r0 r1 x0 x1 x2 hcv q0 q1
    go_upto_region 9 with (fail)
    clear d0 d1 e0 e1 r8
    obtain ⟨hb2, hw2b, hcb, hw2s, o8, b8⟩ := HE.out
    have hg8 := own_lt o8 g8 rfl
    have hlR := HO.out.1.lt
    have hPut := HO.out.1.put (hb2.trans (b8.mono hb2.size)) (L' := L) rfl (own_lower o8 (by omega))
    have hbb : (w8.setCell ⟨R, 0, none⟩ (.slice (some ⟨g8, 0, none⟩) L.length c8)).heap[W.heap.size]? = some (.cells ((bytesRow x.s cp).setIfInBounds t (.int .u8 (bits .xor .u8 ((x.s.data[t].toNat : Nat) : Int) (b % 256)))) 5 ((bytesRow x.s cp).size, (bytesRow x.s cp).size + 1)) := (set_other _ (by omega)).trans ((b8.block W.heap.size hw2s).trans hw2b)
    have o9 : (w8.setCell ⟨R, 0, none⟩ (.slice (some ⟨g8, 0, none⟩) L.length c8)).ownsRow w2.heap.size 54 3 (.slice (some ⟨g8, 0, none⟩) L.length c8) L.length (L.flatMap penc) := own_move o8 fun j hj => set_other _ (by have := (own_lt o8 j hj).1; omega)
    have hR9 : (w8.setCell ⟨R, 0, none⟩ (.slice (some ⟨g8, 0, none⟩) L.length c8)).cell? ⟨R, 0, none⟩ = some (.slice (some ⟨g8, 0, none⟩) L.length c8) := by
      obtain ⟨_, p', c', q', e', hR', _⟩ := HO.out.1.below (hb2.trans (b8.mono hb2.size))
      exact blk_cell (set_blk (j := 0) _ hR') 0
    generalize (w8.setCell ⟨R, 0, none⟩ (.slice (some ⟨g8, 0, none⟩) L.length c8)) = w9 at *
    have hcd := hcb w9.drew hbb
    obtain ⟨g8', hg', y0, y1, y2⟩ := own_at' o9 HX.out
    obtain rfl : g8 = g8' := by injection hg' with h_; injection h_
    have y3 : w9.frozen? ⟨g8, k * 3 + 2, none⟩ = false := by
      obtain ⟨cells, hcs⟩ := own_typed o9 g8 rfl
      exact blk_frozen hcs _
    have HG := Aside0.mk (And.intro hPut (And.intro o9 (And.intro hg8 (And.intro hb2.size hR9))))
    clear hPut o9 hbb o8 b8 hg8 hb2 hw2b hcb hw2s hlR HE HB
    go_region
    go_wp2
    go_ret
    obtain ⟨hPut, o9, hg8, hb2s, hR9⟩ := HG.out
    obtain ⟨h0', p', c', q', e', hR', o1', o2'⟩ := hPut.1
    rw [blk_cell hR' 0] at hR9
    obtain ⟨rfl, _, rfl⟩ := Value.slice.inj (Option.some.inj hR9)
    have hS := RefAt.spoil h0' hR' o1' o2' HX.out (spb x.s t b)
    exact ⟨rfl, hS.below ⟨rfl, rfl, rfl, Nat.le_refl _, fun _ _ => rfl⟩, ⟨hPut.2.os, hPut.2.tape, hPut.2.output, Nat.le_trans hPut.2.size (by show w9.heap.size ≤ (w9.setCell ⟨g8, k * 3 + 2, none⟩ (.string (spb x.s t b))).heap.size; simp), fun j hj hne => (set_other _ (by omega)).trans (hPut.2.block j hj hne)⟩⟩

/-! ### NetRc -/
set_option maxRecDepth 100000 in
set_option maxHeartbeats 4000000 in
theorem rspoil_no {W : World} {base R : Nat} {L : List Pk} {Cs : List (Int × Int)} (h : RefAt W base R L Cs) (k z b : Int) (hk : isB L k = false) :
    Calls Try.prog 29 #[.pointer (some ⟨R, 0, none⟩), .int .i64 k, .int .i64 z, .int .i64 b] W fun e W' => e = .returned (.bool false) ∧ W' = W := by
  obtain ⟨p, c, q, e, h1, _, FR, _⟩ := ref_facts h
  obtain ⟨r0, r1, _, _⟩ := FR _ (Below.refl _ _)
  clear FR h1 h
  rcases isB_out hk with c1 | ⟨c1, c2⟩
  · have d1 : decide (k < 0) = true := decide_eq_true c1
    clear hk
    go_enter Try.func29, Try.ntmps29
    go_wp2
    go_ret
    exact ⟨rfl, rfl⟩
  · have d1 : decide (k < 0) = false := decide_eq_false c1
    have d2 : decide ((L.length : Int) ≤ k) = true := decide_eq_true c2
    clear hk
    go_enter Try.func29, Try.ntmps29
    go_wp2
    go_ret
    exact ⟨rfl, rfl⟩
set_option maxRecDepth 100000 in
set_option maxHeartbeats 4000000 in
theorem rspoil_empty {W : World} {base R : Nat} {L : List Pk} {Cs : List (Int × Int)} (h : RefAt W base R L Cs) (k : Nat) (x : Pk) (hx : L[k]? = some x) (h0 : x.s = ⟨#[]⟩) (z b : Int) :
    Calls Try.prog 29 #[.pointer (some ⟨R, 0, none⟩), .int .i64 k, .int .i64 z, .int .i64 b] W fun e W' => e = .returned (.bool false) ∧ W' = W := by
  have hk := (List.getElem?_eq_some_iff.1 hx).1
  obtain ⟨p, c, q, e, h1, _, FR, FX⟩ := ref_facts h
  obtain ⟨g, rfl, GX⟩ := FX k x hx
  obtain ⟨r0, r1, _, _⟩ := FR _ (Below.refl _ _)
  obtain ⟨x0, x1, x2⟩ := GX _ (Below.refl _ _)
  rw [h0] at x2
  have hki : (k : Int) < (L.length : Int) := by omega
  have hdk : decide ((L.length : Int) ≤ (k : Int)) = false := decide_eq_false (by omega)
  have hdk' : decide (L.length ≤ k) = false := decide_eq_false (by omega)
  have hd0 : decide ((k : Int) < 0) = false := decide_eq_false (by omega)
  clear FR h1 h FX GX hx
  go_enter Try.func29, Try.ntmps29
  go_wp2
  go_ret
  exact ⟨rfl, rfl⟩
theorem neq_pair (x1 x2 y1 y2 : Int) (w : World) : (binOp .neq 61 (.agg #[.int .i64 x1, .int .i64 x2]) (.agg #[.int .i64 y1, .int .i64 y2])).run Try.prog w = .ok (.bool (!(x1 == y1 && x2 == y2))) w := by
  obtain ⟨i_, hi_⟩ := info_of_underlying Try.underlying3
  have hc_ : Try.prog.cellsOf 3 = 1 := by kernel_rfl
  simp only [binOp]
  show (do let b ← Op.equalIn (9998 + 1 + 1) 61 (.agg #[.int .i64 x1, .int .i64 x2]) (.agg #[.int .i64 y1, .int .i64 y2]); pure (Value.bool (!b))).run Try.prog w = _
  rw [Sem.run_bind, run_equalIn_array w (9998 + 1) _ _ Try.underlying61 hi_, hc_]
  show (Result.andThen ((Op.eqItems (9998 + 1) 3 1 _ _ [0, 1]).run _ _) _) = _
  simp only [Op.eqItems]
  go_simp
  by_cases h0 : x1 = y1 <;> by_cases h1 : x2 = y2 <;> simp [h0, h1]
theorem app_pr {d : World} {base cn b : Nat} {A0 : Option Addr} {L : List (Int × Int)} {y : Int × Int} (hown : d.ownsRow base 61 2 (.slice A0 L.length cn) L.length (L.flatMap cenc)) (hb : d.heap[b]? = some (.cells #[.int .i64 y.1, .int .i64 y.2] 61 (0, 0))) (hl : L.length ≤ 1000000) (hbase : base ≤ d.heap.size) :
    ∃ p2 c2 w2, (∀ ty, (Builtin.append_ #[41, 41] ty #[.slice A0 L.length cn, .slice (some ⟨b, 0, none⟩) 1 1]).run Try.prog d = .ok (.slice p2 (L.length + 1) c2) w2) ∧
      w2.ownsRow base 61 2 (.slice p2 (L.length + 1) c2) (L.length + 1) ((L ++ [y]).flatMap cenc) ∧ d.grownBy w2 (Value.slice A0 L.length cn).ownBlock := by
  obtain ⟨i0, hi, hz0, hz1, hz2⟩ := info_parts info_pr
  have key := fun ty => run_append_own d base 41 ty 61 i0 _ 2 16 Try.underlying41 hi hz0 hz1 hz2 rfl (by decide) _ L.length _ hown ⟨b, 0, none⟩ 1 1 (cenc y) rfl (fun j u hu => by rw [add_o, Nat.zero_add, blk_cell hb, ← hu]; simp [cenc]) (by intro u hu; simp [cenc] at hu; rcases hu with rfl | rfl <;> rfl) (by unfold maxLen; omega) (by omega) hbase
  obtain ⟨v', w', hr, ho, hgr, _⟩ := key 0
  obtain ⟨p2, c2, rfl⟩ := owns_slice ho
  rw [show L.flatMap cenc ++ cenc y = (L ++ [y]).flatMap cenc by simp] at ho
  exact ⟨p2, c2, w', fun ty => hr, ho, hgr⟩
/-- The pairs but one. -/
def butP (Cs : List (Int × Int)) (a b : Int) : List (Int × Int) := Cs.filter fun y => !(y.1 == mn a b && y.2 == mx a b)
theorem butP_le (Cs : List (Int × Int)) (a b : Int) : (butP Cs a b).length ≤ Cs.length := List.length_filter_le _ _
theorem butP_snoc (Cs : List (Int × Int)) (y : Int × Int) (a b : Int) : butP (Cs ++ [y]) a b = if (y.1 == mn a b && y.2 == mx a b) = true then butP Cs a b else butP Cs a b ++ [y] := by
  unfold butP
  rw [List.filter_append]
  cases h : (y.1 == mn a b && y.2 == mx a b)
  · rw [if_neg (by decide), List.filter_cons_of_pos (by rw [h]; rfl)]
    rfl
  · rw [if_pos rfl, List.filter_cons_of_neg (by rw [h]; decide)]
    simp
/-- The pairs behind a Cut. -/
def cutL (Cs : List (Int × Int)) (a b : Int) (o : Bool) : List (Int × Int) := if o then butP Cs a b ++ [(mn a b, mx a b)] else butP Cs a b
theorem cc_cutL (Cs : List (Int × Int)) (a b : Int) (o : Bool) : Cc (cutL Cs a b o) = cutp (Cc Cs) (mn a b) (mx a b) o := by
  funext p q
  unfold cutp Cc cutL butP
  by_cases hpq : p = mn a b ∧ q = mx a b
  · obtain ⟨rfl, rfl⟩ := hpq
    cases o
    · simp [List.any_filter]
      intro a1 b1 _ h1 h2
      rcases h1 with h1 | h1
      · exact fun _ => h1 h2
      · exact h1
    · simp
  · rw [if_neg hpq]
    have e : (Cs.filter fun y => !(y.1 == mn a b && y.2 == mx a b)).any (fun y => y.1 == p && y.2 == q) = Cs.any fun y => y.1 == p && y.2 == q := by
      rw [List.any_filter]
      congr 1
      funext y
      by_cases hy : y.1 = p ∧ y.2 = q
      · obtain ⟨rfl, rfl⟩ := hy
        have : ¬ (y.1 = mn a b ∧ y.2 = mx a b) := hpq
        by_cases h1 : y.1 = mn a b <;> by_cases h2 : y.2 = mx a b <;> simp_all
      · have : (y.1 == p && y.2 == q) = false := by simpa using hy
        rw [this, Bool.and_false]
    cases o
    · simpa using e
    · simp only [if_true, List.any_append, e]
      have : ((mn a b == p) && (mx a b == q)) = false := by
        rw [Bool.and_eq_false_iff]
        by_cases h1 : mn a b = p
        · right; simpa using fun h2 => hpq ⟨h1.symm, Eq.symm h2⟩
        · left; simpa using h1
      simp [this]
set_option maxRecDepth 100000 in
set_option maxHeartbeats 8000000 in
theorem rcutp_c {W : World} {base R : Nat} {L : List Pk} {Cs : List (Int × Int)} (h : RefAt W base R L Cs) (hl : Cs.length < 100000) (a b : Int) (o : Bool) :
    Calls Try.prog 30 #[.pointer (some ⟨R, 0, none⟩), .int .i64 a, .int .i64 b, .bool o] W fun e W' => e = .returned (.tuple #[]) ∧ RefAt W' base R L (cutL Cs a b o) ∧ W.grownBy W' (some R) := by
  obtain ⟨p, c, q, e, o1, o2, FR, _⟩ := ref_facts h
  have HO := Aside0.mk (And.intro h (And.intro o2 FR))
  obtain ⟨_, _, hc, _⟩ := FR _ (Below.refl _ _)
  clear h o1 o2 FR
  go_enter Try.func30, Try.ntmps30
  go_wp2
  go_loopw [8, 9] (fun v i wr => ∃ k : Nat, k ≤ Cs.length ∧ i = .int .i64 k ∧ ∃ p1 c1, v = .slice p1 (butP (Cs.take k) a b).length c1 ∧ Aside0 (wr.ownsRow W.heap.size 61 2 (.slice p1 (butP (Cs.take k) a b).length c1) (butP (Cs.take k) a b).length ((butP (Cs.take k) a b).flatMap cenc) ∧ Below W.heap.size W wr)) (fun _ i _ => Cs.length - (intOf i).toNat)
  case atStart => exact ⟨0, Nat.zero_le _, rfl, none, 0, rfl, ⟨World.ownsRow_nil _ _ _ _, Below.refl _ _⟩⟩
  case round =>
    obtain ⟨k, hk, rfl, p1, c1, rfl, H1⟩ := hrel
    have hle := butP_le (Cs.take k) a b
    rw [List.length_take] at hle
    obtain ⟨_, _, hcR, _⟩ := HO.out.2.2 _ H1.out.2
    by_cases hlt : k < Cs.length
    · obtain ⟨x, hx⟩ : ∃ x, Cs[k]? = some x := ⟨_, List.getElem?_eq_getElem hlt⟩
      have LD := Aside0.mk (show ∀ w', Below wr.heap.size wr w' → ∃ g, q = some ⟨g, 0, none⟩ ∧ w'.cell? ⟨R, 1, none⟩ = some (.slice q Cs.length e) ∧ w'.cell? ⟨g, k * 2, none⟩ = some (.int .i64 x.1) ∧ w'.cell? ⟨g, k * 2 + 1, none⟩ = some (.int .i64 x.2) from fun w' hw' => by
        have hb := H1.out.2.trans (hw'.mono H1.out.2.size)
        obtain ⟨g, e1, e2, e3⟩ := pr_at (own_bel HO.out.2.1 hb) hx
        exact ⟨g, e1, (HO.out.2.2 _ hb).2.2.1, e2, e3⟩)
      obtain ⟨g, rfl, f0, f1, f2⟩ := LD.out _ (below_drew1 (Below.refl _ _))
      have htk := Aside0.mk (show Cs.take (k + 1) = Cs.take k ++ [x] by rw [List.take_add_one, hx]; rfl)
      have hsn := butP_snoc (Cs.take k) x a b
      rw [← htk.out] at hsn
      have HSN := Aside0.mk hsn
      have hwk := Aside0.mk (show wrap64 ((k : Int) + 1) = (k : Int) + 1 by unfold wrap64; omega)
      have HLE := Aside0.mk hle
      obtain ⟨nq, hnq⟩ : ∃ v, (!(x.1 == mn a b && x.2 == mx a b)) = v := ⟨_, rfl⟩
      have hNE := neq_pair x.1 x.2 (mn a b) (mx a b)
      rw [hnq] at hNE
      have HNQ := Aside0.mk hnq
      clear hsn hle hx hnq
      generalize hFF : butP (Cs.take k) a b = FF at *
      clear hFF
      go_wp2_with fail
      go_region_with (go_at_call 39; refine (rends_c a b _).mono ?_; rintro e w5 ⟨rfl, hb5⟩; obtain ⟨g5, hg5, l0, l1, l2⟩ := LD.out w5 (below_step (below_drew1 (Below.refl _ _)) hb5); obtain rfl : g = g5 := by injection hg5 with h_; injection h_)
      all_goals
        have B5 := Aside0.mk (below_step (below_drew1 (Below.refl wr.heap.size wr)) hb5)
        clear hb5 f0 f1 f2 LD
        cases nq with
        | false =>
          have HSN' := Aside0.mk (HSN.out.trans (if_pos (by have := HNQ.out; simpa using this)))
          clear hNE
          go_wp2_with fail
          exact ⟨⟨k + 1, Nat.succ_le_of_lt hlt, by first | exact iw_succ k | exact iv_succ hwk.out, p1, c1, by rw [HSN'.out], ⟨by rw [HSN'.out]; exact own_move H1.out.1 fun j hj => B5.out.block j (own_lt H1.out.1 j hj).2, H1.out.2.trans (B5.out.mono H1.out.2.size)⟩⟩, by first | exact iw_meas hlt | exact iv_meas hwk.out hlt⟩
        | true =>
          have HSN' := Aside0.mk (HSN.out.trans (if_neg (by have := HNQ.out; intro h_; rw [h_] at this; cases this)))
          clear hNE
          obtain ⟨p2, c2, w6, r6, o6, g6⟩ := app_pr (own_bel (own_bel H1.out.1 B5.out) (below_alloc (Below.refl _ _) (.cells #[.int .i64 x.1, .int .i64 x.2] 61))) (heap_alloc_new w5 (.cells #[.int .i64 x.1, .int .i64 x.2] 61)) (by have := HLE.out; omega) (by have := H1.out.2.size; have := B5.out.size; simp; omega)
          have HG := Aside0.mk (And.intro o6 g6)
          clear o6 g6
          go_wp2_with fail
          have hs5 := B5.out.size
          have hs1 := H1.out.2.size
          exact ⟨⟨k + 1, Nat.succ_le_of_lt hlt, by first | exact iw_succ k | exact iv_succ hwk.out, p2, c2, by rw [HSN'.out, List.length_append]; rfl, ⟨by rw [HSN'.out, List.length_append]; exact HG.out.1, (below_alloc (H1.out.2.trans (B5.out.mono hs1)) _).grown HG.out.2 (by simp; omega) (fun j ej => (own_lt H1.out.1 j ej).1)⟩⟩, by first | exact iw_meas hlt | exact iv_meas hwk.out hlt⟩
    · have hkl : k = Cs.length := by omega
      subst hkl
      have hd1 : decide ((Cs.length : Int) < (Cs.length : Int)) = false := decide_eq_false (Int.lt_irrefl _)
      rw [List.take_length] at *
      have hlR := HO.out.1.lt
      cases o with
      | false =>
        obtain ⟨_, _, d0, d1⟩ := HO.out.2.2 _ H1.out.2
        go_wp2
        have hP := HO.out.1.putC H1.out.2 (Cs' := butP Cs a b) rfl (own_lower H1.out.1 (by omega))
        exact bodyPost_end (v := .tuple #[]) (by simp [results, Try.results30]) rfl ⟨rfl, hP⟩
      | true =>
        go_wp2_with fail
        refine (rends_c a b _).mono ?_
        rintro e w5 ⟨rfl, hb5⟩
        have B5 := Aside0.mk hb5
        clear hb5
        obtain ⟨p2, c2, w6, r6, o6, g6⟩ := app_pr (y := (mn a b, mx a b)) (own_bel (own_bel H1.out.1 B5.out) (below_alloc (Below.refl _ _) (.cells #[.int .i64 (mn a b), .int .i64 (mx a b)] 61))) (heap_alloc_new w5 (.cells #[.int .i64 (mn a b), .int .i64 (mx a b)] 61)) (by omega) (by have := H1.out.2.size; have := B5.out.size; simp; omega)
        have hs5 := B5.out.size
        have hs1 := H1.out.2.size
        have hb6 : Below W.heap.size W w6 := (below_alloc (H1.out.2.trans (B5.out.mono hs1)) _).grown g6 (by simp; omega) (fun j ej => (own_lt H1.out.1 j ej).1)
        obtain ⟨_, _, d0, d1⟩ := HO.out.2.2 _ hb6
        have HG := Aside0.mk (And.intro o6 hb6)
        clear o6 g6 hb6
        go_wp2
        have hP := HO.out.1.putC HG.out.2 (Cs' := butP Cs a b ++ [(mn a b, mx a b)]) (n2 := (butP Cs a b).length + 1) (by simp) (own_lower HG.out.1 (by omega))
        exact bodyPost_end (v := .tuple #[]) (by simp [results, Try.results30]) rfl ⟨rfl, hP⟩
end Go.Proofs.Ytbcgeajnmnnbhaa.Nt
