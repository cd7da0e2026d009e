/- alive of chapter 29: walked. -/
import Derived.Test.YtbcgeajnmnnbhaaNetNil
set_option linter.unusedSimpArgs false
set_option linter.unusedVariables false
namespace Go.Proofs.Ytbcgeajnmnnbhaa.Nt
open Go.RowKit Go.Maps Go.Proofs.Ytbcgeajnmnnbhaa.PAll Go.Proofs.YtbcgeajnmnnbhaaW.PrintWords
attribute [local go_sem] put_fresh
attribute [-go_sem] Builtin.append_

def px : Pk := ⟨0, 0, ⟨#[120]⟩, by constructor <;> decide, by constructor <;> decide⟩
def py : Pk := ⟨0, 0, ⟨#[121]⟩, by constructor <;> decide, by constructor <;> decide⟩
/-- A row just laid is a row that a call reads. -/
theorem prow_new {w : World} {base B : Nat} {m : Value} {L : List Pk} (hN : NetAt w base B m L) (l : List Pk) {cs : Array Value} (hcs : cs.toList = l.flatMap penc) (n : Nat) (hn : l.length = n) :
    PRow (w.alloc (.cells cs 27)) (.slice (some ⟨w.heap.size, 0, none⟩) n n) l (Owns (w.alloc (.cells cs 27)) B) := by
  subst hn
  refine ⟨_, _, rfl, fun _ => ⟨w.heap.size, 0, rfl, by simp, fun ho => ?_, fun j x hj => ?_⟩⟩
  · have hl := hN.lt
    rcases ho with e | ⟨v', m', hb', hv'⟩
    · omega
    · obtain ⟨p, c, hB, hr⟩ := net_v hN
      rw [heap_alloc_old _ _ hl, hB] at hb'
      cases hb'
      have := own_lt hr _ hv'
      omega
  · have hb := heap_alloc_new w (.cells cs 27)
    have hjl := (List.getElem?_eq_some_iff.1 hj).1
    have key : ∀ i, i < 3 → (w.alloc (.cells cs 27)).cell? ⟨w.heap.size, 0 + j * 3 + i, none⟩ = (penc x)[i]? := fun i hi => by
      rw [blk_cell hb, ← Array.getElem?_toList, hcs]
      have hL : l = l.take j ++ x :: l.drop (j + 1) := by
        obtain ⟨_, e⟩ := List.getElem?_eq_some_iff.1 hj
        rw [← e, List.getElem_cons_drop, List.take_append_drop]
      conv => lhs; rw [hL]
      rw [List.flatMap_append, List.flatMap_cons, List.getElem?_append_right (by rw [pmap_len, List.length_take]; omega), pmap_len, List.length_take, Nat.min_eq_left (by omega), List.getElem?_append_left (by rw [penc_length]; omega), show 0 + j * 3 + i - j * 3 = i by omega]
    exact ⟨key 0 (by decide), key 1 (by decide), key 2 (by decide)⟩
set_option maxRecDepth 100000 in
set_option maxHeartbeats 8000000 in
theorem alive_c (W : World) : Calls Try.prog 8 #[] W fun e W' => e = .returned (.bool true) ∧ Below W.heap.size W W' := by
  go_enter Try.func8, Try.ntmps8
  go_wp2_with fail
  refine (new_c W).mono ?_
  rintro e w1 ⟨rfl, hN1, hC1, hb1⟩
  have H1 := Aside0.mk (And.intro hN1 (And.intro hC1 hb1))
  clear hN1 hC1 hb1
  go_wp2_with fail
  have hbA := below_alloc (Below.refl w1.heap.size w1) (.cells (#[.int .i64 0, .int .i64 0, .string ⟨#[120]⟩, .int .i64 0, .int .i64 0, .string ⟨#[121]⟩] : Array Value) 27)
  have hS := send_c (H1.out.1.below hbA) (H1.out.2.1.below hbA) (by decide) _ [px, py] (prow_new H1.out.1 [px, py] rfl 2 rfl) (by decide) (by intro x hx; simp at hx; rcases hx with rfl | rfl <;> decide)
  rw [show sent (fun _ _ => false) ([] : List Pk).length [px, py] = [px, py] from rfl] at hS
  have HS := Aside0.mk hS
  have HA := Aside0.mk hbA
  clear hS hbA
  refine HS.out.mono ?_
  rintro e w2 ⟨rfl, hN2, hC2, _, hb2⟩
  have hbz := (H1.out.2.2.trans (HA.out.mono H1.out.2.2.size)).trans hb2
  have H2 := Aside0.mk (And.intro hN2 (And.intro hC2 hbz))
  have hM := move_in hN2 hC2 (by decide) 0 px rfl 1 (by decide)
  have HM := Aside0.mk hM
  clear hN2 hC2 hb2 hbz hM
  clear HS HA
  go_wp2_with fail
  refine HM.out.mono ?_
  rintro e w3 ⟨rfl, hN3, hC3, _, hb3⟩
  have H3 := Aside0.mk (And.intro hN3 (And.intro hC3 (H2.out.2.2.trans hb3)))
  have HP := Aside0.mk (peek_in hN3 0 py rfl)
  clear hN3 hC3 hb3 HM
  go_wp2_with fail
  refine HP.out.mono ?_
  rintro e w4 ⟨rfl, hb4⟩
  have hN4 := H3.out.1.below hb4
  have hC4 := H3.out.2.1.below hb4
  have hz4 : Below W.heap.size W w4 := H3.out.2.2.trans (hb4.mono H3.out.2.2.size)
  have H4 := Aside0.mk (And.intro hN4 (And.intro hC4 hz4))
  clear hN4 hC4 hz4 hb4 HP
  rw [show pval py = .agg #[.int .i64 0, .int .i64 0, .string ⟨#[121]⟩] from rfl]
  have hbB := below_alloc (Below.refl w4.heap.size w4) (.cells (#[.int .i64 0, .int .i64 0, .string ⟨#[121]⟩] : Array Value) 27)
  have hP := spoil_in (H4.out.1.below hbB) (H4.out.2.1.below hbB) (by decide) 0 py rfl 0 1 (by constructor <;> decide) (by constructor <;> decide) (by decide) (by decide)
  have HP := Aside0.mk hP
  have HBB := Aside0.mk (H4.out.2.2.trans (hbB.mono H4.out.2.2.size))
  clear hbB hP
  go_wp2_with fail
  refine HP.out.mono ?_
  rintro e w5 ⟨rfl, hN5, hC5, _, hb5⟩
  have HL := Aside0.mk (len_c hN5)
  have H5 := Aside0.mk (HBB.out.trans hb5)
  clear hN5 hC5 hb5 HP HBB
  rw [show (List.set (mv ([] ++ [px, py]) 0 px 1) 0 ⟨py.a, py.b, spb py.s (plc py.s.size 0) 1, py.ha, py.hb⟩).length = 2 from rfl] at HL
  go_wp2_with fail
  refine HL.out.mono ?_
  rintro e w' ⟨rfl, hww⟩
  subst w'
  go_wp2
  go_ret
  exact ⟨rfl, H5.out⟩
end Go.Proofs.Ytbcgeajnmnnbhaa.Nt
