/- cornucopialaw15.alive: walked. -/
import Derived.Test.YtikhjnokfakgiaaPkD
set_option linter.unusedSimpArgs false
set_option linter.unusedVariables false
namespace Go.Proofs.Ytikhjnokfakgiaa.Pk
open Go.Sort Go.RowKit Go.Maps Go.Proofs Go.Proofs.Ytikhjnokfakgiaa.Rw Go.Proofs.Ytikhjnokfakgiaa.PAll Go.Proofs.YtikhjnokfakgiaaW.PrintWords Go.Proofs.Ytikhjnokfakgiaa.Pb
attribute [local go_sem] put_fresh
attribute [-go_sem] Builtin.append_

def mkT (n : Int) : Tb := ⟨n, 0, 5, ⟨#[97]⟩, ⟨#[98]⟩⟩
def L4 : List Tb := [mkT 4, mkT 3, mkT 2, mkT 1]
def frN (n : Nat) : List Tb := L4.take (4 - n)
theorem frN_put {n : Nat} (h0 : 0 < n) (h4 : n ≤ 4) : frN (n - 1) = frN n ++ [mkT n] := by
  rcases (by omega : n = 1 ∨ n = 2 ∨ n = 3 ∨ n = 4) with rfl | rfl | rfl | rfl <;> rfl
theorem frN_len {n : Nat} (h4 : n ≤ 4) : (frN n).length = 4 - n := by
  unfold frN
  rw [List.length_take]
  show min (4 - n) 4 = _
  omega
theorem fit4 : Fit L4 := fun x hx => by
  simp only [L4, mkT, List.mem_cons, List.not_mem_nil, or_false] at hx
  rcases hx with rfl | rfl | rfl | rfl <;> exact ⟨by decide, by decide⟩
theorem nx4 : nx (sc L4) 3 = (0, 100) := by
  simp [nx, sc, scoreP, onP, L4, mkT, part, sumP]
theorem nx0 : nx (sc []) 3 = (0, 0) := by
  simp [nx, sc, scoreP, onP, part, sumP]
theorem on40 : onP L4 0 = L4 := by simp [onP, L4, mkT]
theorem on41 : onP L4 (0 + 1) = [] := by simp [onP, L4, mkT]
theorem own_past {w w' : World} {base b c : Nat} {A : Option Addr} {e : TypeId} {L : List Tb} (h : Rw.Own KT e w base A c L) (hG : w.grownBy w' (some b)) (hb : b < base) : Rw.Own KT e w' base A c L := h.grown hG fun g eA hg => by
  subst eA
  have h1 := h.lt.1
  have h2 : g = b := by simpa using hg
  omega
/-- What stays behind the loop. -/
structure Az (W : World) (A A1 A2 : Option Addr) (l F T : List Tb) (J : Nat) (V O : Obj) (w : World) : Prop where
  bel : Below W.heap.size W w
  ver : w.heap[W.heap.size]? = some V
  job : w.heap[J]? = some O
  row : Reads KT w A l
  f : Reads KT w A1 F
  t : Reads KT w A2 T
theorem Az.step {W w w' : World} {A A1 A2 : Option Addr} {l F T : List Tb} {J : Nat} {V O : Obj} (h : Az W A A1 A2 l F T J V O w) (hb : Below w.heap.size w w') : Az W A A1 A2 l F T J V O w' :=
  ⟨h.bel.trans (hb.mono h.bel.size), (hb.block _ (Array.getElem?_eq_some_iff.1 h.ver).1).trans h.ver, (hb.block _ (Array.getElem?_eq_some_iff.1 h.job).1).trans h.job, h.row.below hb, h.f.below hb, h.t.below hb⟩
theorem room_c (w : World) : Calls Try.prog 19 #[.int .i64 2] w fun e w' => e = .returned (.int .i64 30000) ∧ Below w.heap.size w w' := by
  obtain ⟨K, hK⟩ := Room2
  exact (pick_Room.calls K 2 30000 w (hK K (Nat.le_refl _))).mono fun e w' h => by
    first
      | exact h
      | exact ⟨h.1, h.2.below⟩
      | (obtain ⟨h1, h2⟩ := h; subst h2; exact ⟨h1, Below.refl _ _⟩)
set_option maxRecDepth 100000 in
set_option maxHeartbeats 8000000 in
theorem alive_c (W : World) : Calls Try.prog 9 #[] W fun e w' => e = .returned (.bool true) ∧ Below W.heap.size W w' := by
  have H0 : Aside0 ((W.alloc (vbox 0 9 0 (.slice none 0 0))).heap[W.heap.size]? = some (vbox 0 9 0 (.slice none (4 - 4) 0)) ∧ Rw.Own KT 42 (W.alloc (vbox 0 9 0 (.slice none 0 0))) (W.heap.size + 1) none 0 (frN 4) ∧ Below W.heap.size W (W.alloc (vbox 0 9 0 (.slice none 0 0)))) := ⟨⟨heap_alloc_new W _, Rw.Own.nil _ _ _ _, below_alloc (Below.refl _ _) _⟩⟩
  go_enter Try.func9, Try.ntmps9
  go_wp2
  go_loopw [2] (fun i wr => ∃ (n : Nat) (A : Option Addr) (c : Nat), n ≤ 4 ∧ i = .int .i64 n ∧ Aside0 (wr.heap[W.heap.size]? = some (vbox 0 9 0 (.slice A (4 - n) c)) ∧ Rw.Own KT 42 wr (W.heap.size + 1) A c (frN n) ∧ Below W.heap.size W wr)) (fun i _ => (intOf i).toNat)
  case atStart => exact ⟨4, none, 0, Nat.le_refl _, rfl, H0⟩
  case round =>
    obtain ⟨n, A, c, hn, rfl, H1⟩ := hrel
    obtain ⟨w1, hw1⟩ : ∃ w1, w1 = wr := ⟨_, rfl⟩
    subst wr
    clear H0
    by_cases hp : 0 < n
    · have d1 : decide ((0 : Int) < (n : Int)) = true := decide_eq_true (by omega)
      have d2 : decide (0 < n) = true := decide_eq_true hp
      have v3 : w1.cell? ⟨W.heap.size, 3, none⟩ = some (.slice A (4 - n) c) := blk_cell H1.out.1 3
      have hWs := H1.out.2.2.size
      have hVl := (Array.getElem?_eq_some_iff.1 H1.out.1).1
      have ba := below_alloc (Below.refl w1.heap.size w1) (boxE (mkT n))
      obtain ⟨p, k, w2, r2, o2, b2⟩ := ap1 (n := 4 - n) (m := 1) (frN_len hn) rfl (H1.out.2.1.below ba) (reads_box (heap_alloc_new w1 (boxE (mkT n)))) 1 (by omega) (by simp; omega)
      have hV2 : w2.heap[W.heap.size]? = some (vbox 0 9 0 (.slice A (4 - n) c)) := (b2.block _ (Nat.lt_succ_self _)).trans ((ba.block _ hVl).trans H1.out.1)
      have v2 : w2.cell? ⟨W.heap.size, 3, none⟩ = some (.slice A (4 - n) c) := blk_cell hV2 3
      have f2 : w2.frozen? ⟨W.heap.size, 3, none⟩ = false := blk_frozen hV2 3
      have hV3 : (w2.setCell ⟨W.heap.size, 3, none⟩ (.slice p (4 - (n - 1)) k)).heap[W.heap.size]? = some (vbox 0 9 0 (.slice p (4 - (n - 1)) k)) := (set_blk (j := 3) (.slice p (4 - (n - 1)) k) hV2).trans rfl
      have hG : w2.grownBy (w2.setCell ⟨W.heap.size, 3, none⟩ (.slice p (4 - (n - 1)) k)) (some W.heap.size) := sets_grown [.slice p (4 - (n - 1)) k] 3 w2
      have hB2 : Below W.heap.size W w2 := (H1.out.2.2.trans (ba.mono hWs)).trans (b2.mono (Nat.le_succ _))
      have hO3 : Rw.Own KT 42 (w2.setCell ⟨W.heap.size, 3, none⟩ (.slice p (4 - (n - 1)) k)) (W.heap.size + 1) p k (frN (n - 1)) := by rw [frN_put hp hn]; exact own_past o2 hG (Nat.lt_succ_self _)
      have H3 := Aside0.mk (And.intro hV3 (And.intro hO3 (hB2.grown hG hB2.size (fun k e => by cases e; exact Nat.le_refl _))))
      clear hO3
      have hn1 : 4 - n + 1 = 4 - (n - 1) := by omega
      rw [hn1] at r2
      have hw : wrap64 ((n : Int) - 1) = ((n - 1 : Nat) : Int) := by unfold wrap64; omega
      have HW := Aside0.mk hw
      dsimp only [boxE, mkT] at r2
      clear ba hVl hV2 o2 b2 hV3 hG hB2 hn1 hw
      go_wp2_with fail
      exact ⟨⟨n - 1, p, k, by omega, by first | exact congrArg (Value.int .i64) HW.out | exact congrArg (Value.int .i64) (by omega), H3⟩, by simp only [intOf]; omega⟩
    · obtain rfl : n = 0 := by omega
      have d1 : decide ((0 : Int) < ((0 : Nat) : Int)) = false := by decide
      have hVw := H1.out.1
      rw [show 4 - 0 = 4 from rfl] at hVw
      obtain ⟨v0, v1, v2, v3⟩ := ver_cells hVw
      have hc : 4 ≤ c := H1.out.2.1.cap.1
      have hrow : Reads KT w1 A L4 := H1.out.2.1.reads
      have HX := Aside0.mk (next_c (l := L4) (n := 4) rfl hrow hc (by decide) fit4 0 9 0)
      have HV := Aside0.mk (And.intro hVw (And.intro hrow H1.out.2.2))
      clear hVw hrow H1
      go_wp2_with fail
      refine HX.out.mono ?_
      rintro e w2 h
      have h := h.2
      rw [nx4] at h
      obtain ⟨A1, c1, A2, c2, F, T, rfl, hF, hT, hTl, hb2⟩ := h (by decide)
      obtain rfl : F = L4 := (hF.2.2.2.1 rfl).trans on40
      obtain rfl : T = [] := by
        rw [on41] at hT
        cases T with
        | nil => rfl
        | cons x r => exact absurd (hT x (List.mem_cons_self ..)) (List.not_mem_nil)
      have ba := below_alloc (Below.refl w2.heap.size w2) (jbox (.int .i64 0) (.slice A1 4 c1) (.slice A2 0 c2))
      have H2 : Aside0 (Az W A A1 A2 L4 L4 [] w2.heap.size (vbox 0 9 0 (.slice A 4 c)) (jbox (.int .i64 0) (.slice A1 4 c1) (.slice A2 0 c2)) (w2.alloc (jbox (.int .i64 0) (.slice A1 4 c1) (.slice A2 0 c2)))) := ⟨⟨(HV.out.2.2.trans (hb2.mono HV.out.2.2.size)).trans (ba.mono (HV.out.2.2.trans (hb2.mono HV.out.2.2.size)).size), (ba.block _ (Nat.lt_of_lt_of_le (Array.getElem?_eq_some_iff.1 HV.out.1).1 hb2.size)).trans ((hb2.block _ (Array.getElem?_eq_some_iff.1 HV.out.1).1).trans HV.out.1), heap_alloc_new w2 _, (HV.out.2.1.below hb2).below ba, hF.1.below ba, hF.2.1.below ba⟩⟩
      clear hF hT hTl hb2 ba HX HV v0 v1 v2 v3
      have hl4 : L4.length = 4 := rfl
      have hl0 : ([] : List Tb).length = 0 := rfl
      rw [hl4, hl0]
      clear hl4 hl0 h
      go_wp2_with fail
      obtain ⟨J, hJ⟩ : ∃ J, J = w2.heap.size := ⟨_, rfl⟩
      rw [← hJ] at H2 ⊢
      dsimp only [jbox] at H2
      generalize w2.alloc (.cells #[.int .i64 0, .slice A1 4 c1, .slice A2 0 c2] 34) = w3 at *
      clear hJ
      have HX := Aside0.mk (next_c (W := w3) (A := none) (c := 0) (l := []) (n := 0) rfl (Reads.nil _ _) (Nat.le_refl _) (by decide) (fun x hx => by cases hx) 0 0 0)
      refine HX.out.mono ?_
      rintro e w4 h
      have h := h.1
      rw [nx0] at h
      obtain ⟨rfl, hb4⟩ := h (by decide)
      have ba := below_alloc (Below.refl w4.heap.size w4) (jbox (.int .i64 0) (.slice none 0 0) (.slice none 0 0))
      have H4 := Aside0.mk ((H2.out.step hb4).step ba)
      have hJ5 := H4.out.job
      have j1 : (w4.alloc (jbox (.int .i64 0) (.slice none 0 0) (.slice none 0 0))).cell? ⟨J, 1, none⟩ = some (.slice A1 4 c1) := blk_cell hJ5 1
      have j2 : (w4.alloc (jbox (.int .i64 0) (.slice none 0 0) (.slice none 0 0))).cell? ⟨J, 2, none⟩ = some (.slice A2 0 c2) := blk_cell hJ5 2
      dsimp only [jbox] at H4 j1 j2
      clear hb4 ba HX H2 hJ5
      go_wp2_with fail
      generalize w4.alloc (.cells #[.int .i64 0, .slice none 0 0, .slice none 0 0] 34) = w5 at *
      refine (room_c _).mono ?_
      rintro e w6 ⟨rfl, hb6⟩
      have H6 := Aside0.mk (H4.out.step hb6)
      obtain ⟨v0, v1, v2, v3⟩ := ver_cells H6.out.ver
      have HS := Aside0.mk (score_c (l := L4) (n := 4) rfl H6.out.row hc (by decide) fit4 0 9 0 0 (.inl rfl))
      rw [show scoreP L4 0 = 100 by simp [scoreP, onP, L4, mkT]] at HS
      clear hb6 H4 j1 j2
      go_wp2_with fail
      refine HS.out.mono ?_
      rintro e w7 ⟨rfl, hb7⟩
      have H7 := Aside0.mk (H6.out.step hb7)
      clear hb7 HS H6 v0 v1 v2 v3
      obtain ⟨v0, v1, v2, v3⟩ := ver_cells H7.out.ver
      have j0 : w7.cell? ⟨J, 0, none⟩ = some (.int .i64 0) := blk_cell H7.out.job 0
      have j1 : w7.cell? ⟨J, 1, none⟩ = some (.slice A1 4 c1) := blk_cell H7.out.job 1
      have j2 : w7.cell? ⟨J, 2, none⟩ = some (.slice A2 0 c2) := blk_cell H7.out.job 2
      have hwf : ∀ x ∈ L4, (Lit.int .i64 x.f0).wf = true := fun x hx => by
        simp only [L4, mkT, List.mem_cons, List.not_mem_nil, or_false] at hx
        rcases hx with rfl | rfl | rfl | rfl <;> decide
      have HBt := Aside0.mk (bottom_c (c := c) (c1 := c1) (c2 := c2) (n := 4) (m := 0) (q := 4) (l := L4) (F := L4) (T := []) rfl rfl rfl H7.out.row H7.out.f H7.out.t (by decide) (by decide) (by decide) (by decide) (fun x hx => by
        simp only [L4, mkT, List.mem_cons, List.not_mem_nil, or_false] at hx
        rcases hx with rfl | rfl | rfl | rfl <;> rfl) (by rw [List.append_nil]; exact hwf) hwf 0 9 0 0)
      clear hwf
      go_wp2_with fail
      refine HBt.out.mono ?_
      rintro e w8 ⟨rfl, hb8⟩
      have H8 := Aside0.mk (H7.out.step hb8).bel
      clear hb8 HBt H7 v0 v1 v2 v3 j0 j1 j2
      go_wp2
      go_ret
      exact ⟨rfl, H8.out⟩
end Go.Proofs.Ytikhjnokfakgiaa.Pk
