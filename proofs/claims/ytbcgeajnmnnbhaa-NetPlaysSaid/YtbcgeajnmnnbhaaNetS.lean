/- Send: walked. -/
import Derived.Test.YtbcgeajnmnnbhaaNetB
import Derived.Deep.AppendLies
import Derived.Deep.QuietTactic
import Derived.BigQuiet
import Derived.Deep.RegionHeld3
import Derived.Deep.DeepCutAuto
set_option linter.unusedSimpArgs false
set_option linter.unusedVariables false
namespace Go.Proofs.Ytbcgeajnmnnbhaa.Nt
open Go.RowKit Go.Maps Go.Proofs.Ytbcgeajnmnnbhaa.PAll Go.Proofs.YtbcgeajnmnnbhaaW.PrintWords
attribute [local go_sem] put_fresh
attribute [-go_sem] Builtin.append_

/-- What is sent of a row: n0 stand there already. -/
def sent (C : Int → Int → Bool) (n0 : Nat) (ps : List Pk) : List Pk := ps.foldl (fun acc x => if C (mn x.a x.b) (mx x.a x.b) || decide (800 ≤ n0 + acc.length) then acc else acc ++ [x]) []
theorem sent_snoc (C : Int → Int → Bool) (n0 : Nat) (ps : List Pk) (x : Pk) : sent C n0 (ps ++ [x]) = if C (mn x.a x.b) (mx x.a x.b) || decide (800 ≤ n0 + (sent C n0 ps).length) then sent C n0 ps else sent C n0 ps ++ [x] := by simp [sent]
theorem sent_le (C : Int → Int → Bool) (n0 : Nat) (hn : n0 ≤ 800) (ps : List Pk) : n0 + (sent C n0 ps).length ≤ 800 := by
  have go : ∀ (ps acc : List Pk), n0 + acc.length ≤ 800 → n0 + (ps.foldl (fun acc x => if C (mn x.a x.b) (mx x.a x.b) || decide (800 ≤ n0 + acc.length) then acc else acc ++ [x]) acc).length ≤ 800 := by
    intro ps
    induction ps with
    | nil => intro acc h; exact h
    | cons x r ih =>
      intro acc h
      refine ih _ ?_
      dsimp only
      split
      · exact h
      · rename_i hc
        simp only [Bool.or_eq_true, decide_eq_true_eq, not_or] at hc
        simp
        omega
  exact go ps [] (by simpa using hn)
/-- The blocks that a call on the net may write. -/
def Owns (W : World) (B q : Nat) : Prop := q = B ∨ ∃ v m, W.heap[B]? = some (.cells #[v, m] 46 (0, 0)) ∧ v.ownBlock = some q
/-- What is not the net's is as it was. -/
def Kp (W wr : World) (B : Nat) : Prop := ∀ q, q < W.heap.size → ¬ Owns W B q → wr.heap[q]? = W.heap[q]? ∧ ¬ Owns wr B q
theorem Kp.refl (W : World) (B : Nat) : Kp W W B := fun _ _ h => ⟨rfl, h⟩
theorem Kp.trans {W w w' : World} {B : Nat} (h : Kp W w B) (h' : Kp w w' B) (hs : W.heap.size ≤ w.heap.size) : Kp W w' B := fun q hq hn =>
  ⟨((h' q (Nat.lt_of_lt_of_le hq hs) (h q hq hn).2).1).trans (h q hq hn).1, (h' q (Nat.lt_of_lt_of_le hq hs) (h q hq hn).2).2⟩
theorem Kp.below {w w' : World} {B : Nat} (hB : B < w.heap.size) (h : Below w.heap.size w w') : Kp w w' B := fun q hq hn =>
  ⟨h.block q hq, fun ho => hn (by
    rcases ho with rfl | ⟨v, m, hb, hv⟩
    · exact .inl rfl
    · exact .inr ⟨v, m, (h.block B hB).symm.trans hb, hv⟩)⟩
theorem iv_succ {k : Nat} (h : wrap64 ((k : Int) + 1) = (k : Int) + 1) : Value.int .i64 (wrap64 ((k : Int) + 1)) = Value.int .i64 ((k + 1 : Nat) : Int) := congrArg (Value.int .i64) (h.trans (by omega))
theorem iv_meas {k n : Nat} (h : wrap64 ((k : Int) + 1) = (k : Int) + 1) (hk : k < n) : n - (intOf (Value.int .i64 (wrap64 ((k : Int) + 1)))).toNat < n - (intOf (Value.int .i64 (k : Int))).toNat := by
  rw [h]; simp only [intOf]; omega
theorem set_blk {w : World} {b j : Nat} {cs : Array Value} {t : TypeId} {fr : Nat × Nat} (v : Value) (h : w.heap[b]? = some (.cells cs t fr)) : (w.setCell ⟨b, j, none⟩ v).heap[b]? = some (.cells (cs.setIfInBounds j v) t fr) := by
  simp [World.setCell, Array.getElem?_modify, h]
theorem set_other {w : World} {b j k : Nat} (v : Value) (hne : b ≠ k) : (w.setCell ⟨b, j, none⟩ v).heap[k]? = w.heap[k]? := by
  simp [World.setCell, Array.getElem?_modify, hne]
theorem CutAt.isMap {W : World} {B n b : Nat} {m : Value} {C : Int → Int → Bool} (h : CutAt W B m n C) (hm : m = .map (some b)) : ∃ es clock, W.heap[b]? = some (.map es clock) := by
  rcases h with ⟨rfl, _⟩ | ⟨b', rfl, hlt, D, ⟨es, clock, hh, _⟩, _⟩
  · cases hm
  · cases hm
    exact ⟨es, clock, hh⟩
theorem mn_i {a b : Int} (ha : I64 a) (hb : I64 b) : I64 (mn a b) ∧ I64 (mx a b) := by
  unfold mn mx
  constructor <;> split <;> assumption
theorem net_v {W : World} {base B : Nat} {m : Value} {L : List Pk} (h : NetAt W base B m L) : ∃ p c, W.heap[B]? = some (.cells #[.slice p L.length c, m] 46 (0, 0)) ∧ W.ownsRow (B + 1) 27 3 (.slice p L.length c) L.length (L.flatMap penc) := by
  obtain ⟨_, v, hB, hr⟩ := h
  obtain ⟨p, c, rfl⟩ := owns_slice hr
  exact ⟨p, c, hB, hr⟩
theorem look_all {wr w' : World} {base B n : Nat} {m : Value} {C : Int → Int → Bool} {L : List Pk} (hN : NetAt wr base B m L) (hC : CutAt wr B m n C) (x : Pk) (hb : Below (wr.alloc (.cells #[.int .i64 x.a, .int .i64 x.b, .string x.s] 27)).heap.size (wr.alloc (.cells #[.int .i64 x.a, .int .i64 x.b, .string x.s] 27)) w') : w'.cell? ⟨B, 1, none⟩ = some m ∧ w'.cell? ⟨wr.heap.size, 0, none⟩ = some (.int .i64 x.a) ∧ w'.cell? ⟨wr.heap.size, 1, none⟩ = some (.int .i64 x.b) ∧ (Instr.lookup 44 m (.agg #[.int .i64 (mn x.a x.b), .int .i64 (mx x.a x.b)]) true).run Try.prog w' = .ok (.tuple #[.agg #[], .bool (C (mn x.a x.b) (mx x.a x.b))]) w' ∧ Aside0 (Below (wr.alloc (.cells #[.int .i64 x.a, .int .i64 x.b, .string x.s] 27)).heap.size (wr.alloc (.cells #[.int .i64 x.a, .int .i64 x.b, .string x.s] 27)) w') := by
  have hB := hN.lt
  obtain ⟨p, c, hc, _⟩ := net_v hN
  have hbox := (hb.block wr.heap.size (by simp)).trans (heap_alloc_new wr (.cells #[.int .i64 x.a, .int .i64 x.b, .string x.s] 27))
  refine ⟨blk_cell ((hb.block B (by simp; omega)).trans ((heap_alloc_old _ _ hB).trans hc)) 1, blk_cell hbox 0, blk_cell hbox 1, ?_, ⟨hb⟩⟩
  exact cut_look ((hC.below (below_alloc (Below.refl _ _) _)).below hb) (mn_i x.ha x.hb).1 (mn_i x.ha x.hb).2
set_option maxRecDepth 100000 in
set_option maxHeartbeats 8000000 in
theorem send_c {W : World} {base B n : Nat} {m : Value} {C : Int → Int → Bool} {L : List Pk} (hN : NetAt W base B m L) (hC : CutAt W B m n C) (hL : L.length ≤ 800) (v : Value) (ps : List Pk) (hp : PRow W v ps (Owns W B)) (hpl : ps.length < 4611686018427387904) (hps : ∀ x ∈ ps, x.s.size ≤ 281474976710656) :
    Calls Try.prog 10 #[.pointer (some ⟨B, 0, none⟩), v] W fun e W' => e = .returned (.int .i64 (sent C L.length ps).length) ∧ NetAt W' base B m (L ++ sent C L.length ps) ∧ CutAt W' B m n C ∧ Kp W W' B ∧ Below base W W' := by
  have hB := hN.lt
  obtain ⟨p, cap, rfl, hrow⟩ := hp
  have HR := Aside0.mk hrow
  have HS := Aside0.mk hps
  have HN := Aside0.mk (And.intro hN (And.intro hC (And.intro hL (And.intro hpl hB))))
  clear hrow hps hN hC hL hpl hB
  go_enter Try.func10, Try.ntmps10
  go_wp2
  go_loopw [5, 14] (fun s i wr => ∃ k : Nat, k ≤ ps.length ∧ i = .int .i64 k ∧ s = .int .i64 (sent C L.length (ps.take k)).length ∧ Aside0 (NetAt wr base B m (L ++ sent C L.length (ps.take k)) ∧ CutAt wr B m n C ∧ Kp W wr B ∧ Below base W wr)) (fun _ i _ => ps.length - (intOf i).toNat)
  case atStart => exact ⟨0, Nat.zero_le _, rfl, rfl, ⟨by simpa [sent] using HN.out.1, HN.out.2.1, Kp.refl _ _, Below.refl _ _⟩⟩
  case round =>
    obtain ⟨k, hk, rfl, rfl, H1⟩ := hrel
    by_cases hlt : k < ps.length
    · have hwk := Aside0.mk (show wrap64 ((k : Int) + 1) = (k : Int) + 1 by have := HN.out.2.2.2.1; unfold wrap64; omega)
      obtain ⟨q, off, rfl, hq, hno, hc⟩ := HR.out (by intro e; simp [e] at hlt)
      obtain ⟨x, hx⟩ : ∃ x, ps[k]? = some x := ⟨_, List.getElem?_eq_getElem hlt⟩
      obtain ⟨c0, c1, c2⟩ := hc k x hx
      have hqb := (H1.out.2.2.1 q hq hno).1
      have x0 := (World.cell?_of_block (a := ⟨q, off + k * 3, none⟩) hqb).trans c0
      have x1 := (World.cell?_of_block (a := ⟨q, off + k * 3 + 1, none⟩) hqb).trans c1
      have x2 := (World.cell?_of_block (a := ⟨q, off + k * 3 + 2, none⟩) hqb).trans c2
      have htk := Aside0.mk (show ps.take (k + 1) = ps.take k ++ [x] by rw [List.take_add_one, hx]; rfl)
      have hxs := Aside0.mk (HS.out x (List.mem_of_getElem? hx))
      clear hc c0 c1 c2 hqb hx hno
      go_upto_region 7 with (fail)
      go_cut [8, 9] (fun s8 s9 wx => s9 = .bool (C (mn x.a x.b) (mx x.a x.b)) ∧ Below (wr.alloc (.cells #[.int .i64 x.a, .int .i64 x.b, .string x.s] 27)).heap.size (wr.alloc (.cells #[.int .i64 x.a, .int .i64 x.b, .string x.s] 27)) wx)
      case first =>
        clear x0 x1 x2
        have LA := Aside0.mk (fun w' h => @look_all wr w' base B n m C _ H1.out.1 H1.out.2.1 x h)
        obtain ⟨l0, l1, l2, l3, l4⟩ := LA.out _ (Below.refl _ _)
        go_region_held3 (fun w' => w'.cell? ⟨B, 1, none⟩ = some m ∧ w'.cell? ⟨wr.heap.size, 0, none⟩ = some (.int .i64 x.a) ∧ w'.cell? ⟨wr.heap.size, 1, none⟩ = some (.int .i64 x.b) ∧ (Instr.lookup 44 m (.agg #[.int .i64 (mn x.a x.b), .int .i64 (mx x.a x.b)]) true).run Try.prog w' = .ok (.tuple #[.agg #[], .bool (C (mn x.a x.b) (mx x.a x.b))]) w' ∧ Aside0 (Below (wr.alloc (.cells #[.int .i64 x.a, .int .i64 x.b, .string x.s] 27)).heap.size (wr.alloc (.cells #[.int .i64 x.a, .int .i64 x.b, .string x.s] 27)) w'))
          (first
            | exact LA.out _ (below_drew1 (Below.refl _ _))
            | exact LA.out _ (below_drew1 (below_alloc (Below.refl _ _) _))
            | (go_split_ands
               first
               | (refine LA.out _ (Aside0.out ?_); assumption)
               | (refine LA.out _ (below_step (Aside0.out ?_) hb1); assumption)
               | (refine LA.out _ (below_drew1 (Aside0.out ?_)); assumption)
               | (refine LA.out _ (below_alloc (Aside0.out ?_) _); assumption)))
          (first | (go_at_call 31; refine (net_ends.calls x.a x.b _ _ _ rfl).mono ?_; rintro e w1 ⟨rfl, hb1⟩))
        all_goals
          go_split_ands
          go_wp2_with fail
          go_meet
          first
            | exact ⟨rfl, Aside0.out (by assumption)⟩
      case rest =>
        obtain ⟨rfl, hbc⟩ := hcut
        generalize wc = w2 at *
        have hN2 := (H1.out.1.below (below_alloc (Below.refl _ _) (.cells #[.int .i64 x.a, .int .i64 x.b, .string x.s] 27))).below hbc
        have hC2 := (H1.out.2.1.below (below_alloc (Below.refl _ _) (.cells #[.int .i64 x.a, .int .i64 x.b, .string x.s] 27))).below hbc
        have hK2 := (H1.out.2.2.1.trans (Kp.below H1.out.1.lt (below_alloc (Below.refl _ _) (.cells #[.int .i64 x.a, .int .i64 x.b, .string x.s] 27))) H1.out.2.2.2.size).trans (Kp.below (by have := H1.out.1.lt; simp; omega) hbc) (Nat.le_trans H1.out.2.2.2.size (by simp))
        have hW2 : Below base W w2 := ⟨hbc.os.trans H1.out.2.2.2.os, hbc.tape.trans H1.out.2.2.2.tape, hbc.output.trans H1.out.2.2.2.output, Nat.le_trans H1.out.2.2.2.size (Nat.le_trans (by simp) hbc.size), fun j hj => by
          have hjr : j < wr.heap.size := by have := H1.out.1.lt; have := H1.out.1.1; omega
          exact (hbc.block j (by simp; omega)).trans ((heap_alloc_old _ _ hjr).trans (H1.out.2.2.2.block j hj))⟩
        have hbox := (hbc.block wr.heap.size (by simp)).trans (heap_alloc_new wr (.cells #[.int .i64 x.a, .int .i64 x.b, .string x.s] 27))
        obtain ⟨p2, c2, hB1, hr1⟩ := net_v H1.out.1
        have hB2 := (hbc.block B (by have := H1.out.1.lt; simp; omega)).trans ((heap_alloc_old wr (.cells #[.int .i64 x.a, .int .i64 x.b, .string x.s] 27) H1.out.1.lt).trans hB1)
        have hr2 := own_bel (own_bel hr1 (below_alloc (Below.refl _ _) (.cells #[.int .i64 x.a, .int .i64 x.b, .string x.s] 27))) hbc
        have hc0 : w2.cell? ⟨B, 0, none⟩ = some (.slice p2 (L ++ sent C L.length (ps.take k)).length c2) := blk_cell hB2 0
        have hsn := sent_snoc C L.length (ps.take k) x
        rw [← htk.out] at hsn
        have hle := sent_le C L.length HN.out.2.2.1 (ps.take k)
        generalize hLL : L ++ sent C L.length (ps.take k) = LL at *
        generalize hSS : sent C L.length (ps.take k) = S0 at *
        have hLn : LL.length = L.length + S0.length := by rw [← hLL, List.length_append]
        have H2 := Aside0.mk (And.intro hN2 (And.intro hC2 (And.intro hK2 hW2)))
        have HSN := Aside0.mk (And.intro hsn (And.intro hle (And.intro hLL hLn)))
        have HBX := Aside0.mk (And.intro hbox (And.intro hB2 (And.intro hr2 (And.intro hbc.size (And.intro (fun k hk => (own_lt hr1 k hk).2) (And.intro H1.out.1.lt H1.out.2.2.2.size))))))
        clear hN2 hC2 hK2 hW2 hsn hle hLL hLn hbox hB2 hr2 hr1 hB1 hbc hSS x0 x1 x2 H1
        generalize hcc : C (mn x.a x.b) (mx x.a x.b) = cc at *
        cases cc with
        | true =>
          have HSN' := Aside0.mk (show sent C L.length (ps.take (k + 1)) = S0 by rw [HSN.out.1, Bool.true_or, if_pos rfl])
          go_wp2_with fail
          exact ⟨⟨k + 1, Nat.succ_le_of_lt hlt, iv_succ hwk.out, by rw [HSN'.out], ⟨by rw [HSN'.out, HSN.out.2.2.1]; exact H2.out⟩⟩, iv_meas hwk.out hlt⟩
        | false =>
          by_cases h8 : 800 ≤ LL.length
          · have HSN' := Aside0.mk (show sent C L.length (ps.take (k + 1)) = S0 by
              rw [HSN.out.1, Bool.false_or, if_pos]
              rw [decide_eq_true_iff, ← HSN.out.2.2.2]
              exact h8)
            have hd8 : decide ((800 : Int) ≤ (LL.length : Int)) = true := decide_eq_true (by omega)
            have hd8' : decide (800 ≤ LL.length) = true := decide_eq_true h8
            go_wp2_with fail
            exact ⟨⟨k + 1, Nat.succ_le_of_lt hlt, iv_succ hwk.out, by rw [HSN'.out], ⟨by rw [HSN'.out, HSN.out.2.2.1]; exact H2.out⟩⟩, iv_meas hwk.out hlt⟩
          · have HSN' := Aside0.mk (show sent C L.length (ps.take (k + 1)) = S0 ++ [x] by
              rw [HSN.out.1, Bool.false_or, if_neg]
              rw [decide_eq_true_iff, ← HSN.out.2.2.2]
              exact h8)
            have hd8 : decide ((800 : Int) ≤ (LL.length : Int)) = false := decide_eq_false (by omega)
            have hd8' : decide (800 ≤ LL.length) = false := decide_eq_false h8
            have b2 : w2.cell? ⟨wr.heap.size, 2, none⟩ = some (.string x.s) := blk_cell HBX.out.1 2
            go_wp2_with fail
            refine (strings_Clone.calls x.s x.s w2 (by unfold strings_Clone.f; rw [if_pos hxs.out])).mono ?_
            rintro e w5 ⟨rfl, hb5⟩
            obtain ⟨hbox, hB2, hr2, hsz2, hown2, hBl, hWl⟩ := HBX.out
            have hsz2' : wr.heap.size < w2.heap.size := by simp at hsz2; omega
            have hbox5 := (hb5.block wr.heap.size hsz2').trans hbox
            have b5 : w5.cell? ⟨wr.heap.size, 2, none⟩ = some (.string x.s) := blk_cell hbox5 2
            have f5 : w5.frozen? ⟨wr.heap.size, 2, none⟩ = false := blk_frozen hbox5 2
            have hbox6 : (w5.setCell ⟨wr.heap.size, 2, none⟩ (.string x.s)).heap[wr.heap.size]? = some (.cells #[.int .i64 x.a, .int .i64 x.b, .string x.s] 27 (0, 0)) := set_blk (j := 2) (.string x.s) hbox5
            have hB6 : (w5.setCell ⟨wr.heap.size, 2, none⟩ (.string x.s)).heap[B]? = some (.cells #[.slice p2 LL.length c2, m] 46 (0, 0)) := (set_other _ (by omega)).trans ((hb5.block B (by omega)).trans hB2)
            have hr6 : (w5.setCell ⟨wr.heap.size, 2, none⟩ (.string x.s)).ownsRow (B + 1) 27 3 (.slice p2 LL.length c2) LL.length (LL.flatMap penc) := own_move (own_bel hr2 hb5) fun k hk => set_other _ (by have := hown2 k hk; omega)
            have hs6 : (w5.setCell ⟨wr.heap.size, 2, none⟩ (.string x.s)).heap.size = w5.heap.size := by simp
            have hb56 : Below wr.heap.size w5 (w5.setCell ⟨wr.heap.size, 2, none⟩ (.string x.s)) := ⟨rfl, rfl, rfl, by simp, fun j hj => set_other _ (by omega)⟩
            have hx6 : ∀ k, k ≠ wr.heap.size → (w5.setCell ⟨wr.heap.size, 2, none⟩ (.string x.s)).heap[k]? = w5.heap[k]? := fun k hk => set_other _ (Ne.symm hk)
            have H6 := Aside0.mk (And.intro hb5 (And.intro hbox6 (And.intro hB6 (And.intro hr6 (And.intro hs6 (And.intro hx6 hb56))))))
            clear hbox hB2 hr2 hsz2 hown2 hWl hbox5 hbox6 hB6 hr6 hb5 hs6 hb56 hx6
            go_upto_region 10 with (fail)
            clear b5 f5 b2
            generalize (w5.setCell ⟨wr.heap.size, 2, none⟩ (.string x.s)) = w6 at *
            obtain ⟨hb5, hbox6, hB6, hr6, hs6, hx6, hb56⟩ := H6.out
            obtain ⟨i0, hi, hz0, hz1, hz2⟩ := info_parts info_packet
            have hlX : LL.length < 800 := by omega
            have hz6 : B < w6.heap.size := by have := hb5.size; omega
            have hnw : (w6.alloc (.cells #[.int .i64 x.a, .int .i64 x.b, .string x.s] 27)).drew.heap[w6.heap.size]? = some (.cells #[.int .i64 x.a, .int .i64 x.b, .string x.s] 27 (0, 0)) := heap_alloc_new w6 _
            obtain ⟨g, cap8, w8, hup, hown8, hg8, hwh, hlt8⟩ := run_append_lies (P := Try.prog) (w := (w6.alloc (.cells #[.int .i64 x.a, .int .i64 x.b, .string x.s] 27)).drew) 36 36 (B + 1) 27 i0 _ 3 32 Try.underlying36 hi hz0 hz1 hz2 rfl (by decide) (.slice p2 LL.length c2) LL.length (LL.flatMap penc) (own_bel hr6 (below_drew1 (below_alloc (Below.refl _ _) _))) ⟨w6.heap.size, 0, none⟩ 1 1 (penc x) rfl (World.news_of_block hnw) (penc_one x) (by decide) (by unfold maxLen; omega) (by omega) (by show B + 1 ≤ (w6.alloc (.cells #[.int .i64 x.a, .int .i64 x.b, .string x.s] 27)).heap.size; simp; omega) _ rfl
            have c0 : w6.cell? ⟨B, 0, none⟩ = some (.slice p2 LL.length c2) := blk_cell hB6 0
            have d0 : w6.cell? ⟨wr.heap.size, 0, none⟩ = some (.int .i64 x.a) := blk_cell hbox6 0
            have d1 : w6.cell? ⟨wr.heap.size, 1, none⟩ = some (.int .i64 x.b) := blk_cell hbox6 1
            have d2 : w6.cell? ⟨wr.heap.size, 2, none⟩ = some (.string x.s) := blk_cell hbox6 2
            have hB6' : (w6.alloc (.cells #[.int .i64 x.a, .int .i64 x.b, .string x.s] 27)).drew.heap[B]? = some (.cells #[.slice p2 LL.length c2, m] 46 (0, 0)) := (heap_alloc_old w6 _ hz6).trans hB6
            have hbox6' : (w6.alloc (.cells #[.int .i64 x.a, .int .i64 x.b, .string x.s] 27)).drew.heap[wr.heap.size]? = some (.cells #[.int .i64 x.a, .int .i64 x.b, .string x.s] 27 (0, 0)) := (heap_alloc_old w6 _ (Array.getElem?_eq_some_iff.1 hbox6).1).trans hbox6
            have c0' : (w6.alloc (.cells #[.int .i64 x.a, .int .i64 x.b, .string x.s] 27)).drew.cell? ⟨B, 0, none⟩ = some (.slice p2 LL.length c2) := blk_cell hB6' 0
            have d0' : (w6.alloc (.cells #[.int .i64 x.a, .int .i64 x.b, .string x.s] 27)).drew.cell? ⟨wr.heap.size, 0, none⟩ = some (.int .i64 x.a) := blk_cell hbox6' 0
            have d1' : (w6.alloc (.cells #[.int .i64 x.a, .int .i64 x.b, .string x.s] 27)).drew.cell? ⟨wr.heap.size, 1, none⟩ = some (.int .i64 x.b) := blk_cell hbox6' 1
            have d2' : (w6.alloc (.cells #[.int .i64 x.a, .int .i64 x.b, .string x.s] 27)).drew.cell? ⟨wr.heap.size, 2, none⟩ = some (.string x.s) := blk_cell hbox6' 2
            clear hB6' hbox6'
            have hB8 : w8.heap[B]? = some (.cells #[.slice p2 LL.length c2, m] 46 (0, 0)) := (hg8.block B (by show B < (w6.alloc (.cells #[.int .i64 x.a, .int .i64 x.b, .string x.s] 27)).heap.size; simp; omega) (fun e => by have h := own_lt hr6 _ e.symm; omega)).trans ((heap_alloc_old w6 _ hz6).trans hB6)
            have HB8 := Aside0.mk hB8
            have e0 : w8.cell? ⟨B, 0, none⟩ = some (.slice p2 LL.length c2) := blk_cell hB8 0
            have e1 : w8.frozen? ⟨B, 0, none⟩ = false := blk_frozen hB8 0
            clear hB8
            have H8 := Aside0.mk (And.intro hown8 (And.intro hg8 (And.intro hwh hlt8)))
            clear hown8 hg8 hwh hlt8 hb56 hb5 hbox6 hB6 hr6 hs6 hx6 hnw hlX hz6 hsz2' hBl
            go_region
            go_wp2_with fail
            have hSl : wrap64 ((S0.length : Int) + 1) = (S0.length : Int) + 1 := by have := HSN.out.2.1; have := HN.out.2.2.1; unfold wrap64; omega
            obtain ⟨hb5, hbox6, hB6, hr6, hs6, hx6, hb56⟩ := H6.out
            obtain ⟨hbox, hB2, hr2, hsz2, hown2, hBl, hWl⟩ := HBX.out
            have hsz2' : wr.heap.size < w2.heap.size := by simp at hsz2; omega
            obtain ⟨hown8, hg8, hwh, hlt8⟩ := H8.out
            obtain ⟨hN2, hC2, hK2, hW2⟩ := H2.out
            have hz5 := hb5.size
            have hX : (w6.alloc (.cells #[.int .i64 x.a, .int .i64 x.b, .string x.s] 27)).drew.heap.size = w6.heap.size + 1 := by show (w6.alloc (.cells #[.int .i64 x.a, .int .i64 x.b, .string x.s] 27)).heap.size = _; simp
            have hzX := hg8.size
            have hB9 : (w8.setCell ⟨B, 0, none⟩ (.slice (some ⟨g, 0, none⟩) (LL.length + 1) cap8)).heap[B]? = some (.cells #[.slice (some ⟨g, 0, none⟩) (LL.length + 1) cap8, m] 46 (0, 0)) := set_blk (j := 0) _ HB8.out
            have hs9 : (w8.setCell ⟨B, 0, none⟩ (.slice (some ⟨g, 0, none⟩) (LL.length + 1) cap8)).heap.size = w8.heap.size := by simp
            have old : ∀ j, j < w2.heap.size → j ≠ wr.heap.size → j ≠ B → (Value.slice p2 LL.length c2).ownBlock ≠ some j → (w8.setCell ⟨B, 0, none⟩ (.slice (some ⟨g, 0, none⟩) (LL.length + 1) cap8)).heap[j]? = w2.heap[j]? := fun j h1 h2 h3 h4 =>
              (set_other _ (Ne.symm h3)).trans ((hg8.block j (by omega) (fun e => h4 e.symm)).trans ((heap_alloc_old w6 _ (by omega)).trans ((hx6 j h2).trans (hb5.block j h1))))
            refine ⟨⟨k + 1, Nat.succ_le_of_lt hlt, iv_succ hwk.out, by rw [HSN'.out, List.length_append]; exact iv_succ hSl, ⟨?_, ?_, ?_, ?_⟩⟩, iv_meas hwk.out hlt⟩
            · rw [HSN'.out, ← List.append_assoc, HSN.out.2.2.1]
              refine ⟨hN2.1, _, hB9, ?_⟩
              rw [List.length_append, List.flatMap_append, List.flatMap_cons, List.flatMap_nil, List.append_nil]
              exact own_move hown8 fun q' hq' => set_other _ (by have := (own_lt hown8 q' hq').1; omega)
            · refine hC2.keep fun b hm => ?_
              have hbl := hC2.lt hm
              obtain ⟨es, clock, hmap⟩ := hC2.isMap hm
              exact old b hbl.2 (fun e => by rw [e, hbox] at hmap; cases hmap) (by omega) (fun e => by
                obtain ⟨cells, hcs⟩ := own_typed hr2 b e
                rw [hcs] at hmap; cases hmap)
            · intro q' hq' hn'
              obtain ⟨k1, k2⟩ := hK2 q' hq' hn'
              have hqB : q' ≠ B := fun e => hn' (.inl e)
              have hqo : (Value.slice p2 LL.length c2).ownBlock ≠ some q' := fun e => k2 (.inr ⟨_, _, hB2, e⟩)
              refine ⟨(old q' (by omega) (by omega) hqB hqo).trans k1, fun ho => ?_⟩
              rcases ho with e | ⟨v', m', hb', hv'⟩
              · exact hqB e
              · rw [hB9] at hb'
                cases hb'
                have hgq : g = q' := by simpa [Value.ownBlock] using hv'
                subst hgq
                rcases hwh with e | e
                · exact hqo e
                · omega
            · refine ⟨hg8.os.trans (hb56.os.trans (hb5.os.trans hW2.os)), hg8.tape.trans (hb56.tape.trans (hb5.tape.trans hW2.tape)), hg8.output.trans (hb56.output.trans (hb5.output.trans hW2.output)), by have := hW2.size; omega, fun j hj => ?_⟩
              have hbB := hN2.1
              exact (old j (by omega) (by omega) (by omega) (fun e => by have := (own_lt hr2 j e).1; omega)).trans (hW2.block j hj)
    · have hkl : k = ps.length := by omega
      subst hkl
      have hd1 : decide ((ps.length : Int) < (ps.length : Int)) = false := decide_eq_false (Int.lt_irrefl _)
      rw [List.take_length] at *
      go_wp2
      go_ret
      exact ⟨rfl, H1.out⟩
end Go.Proofs.Ytbcgeajnmnnbhaa.Nt
