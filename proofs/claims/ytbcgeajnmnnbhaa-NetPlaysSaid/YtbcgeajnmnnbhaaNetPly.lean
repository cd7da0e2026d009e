/- NetPlays: walked. -/
import Derived.Test.YtbcgeajnmnnbhaaNetT
import Derived.Lib.QuietBelow
import Derived.BigQuiet
import Derived.Deep.CutBlock
import Derived.Deep.DeepCutAuto
set_option linter.unusedSimpArgs false
set_option linter.unusedVariables false
namespace Go.Proofs.Ytbcgeajnmnnbhaa.Nt
open Go.Sort Go.BigFrame Go.RowKit Go.Maps Go.Proofs.Ytbcgeajnmnnbhaa.PAll Go.Proofs.YtbcgeajnmnnbhaaW.PrintWords
attribute [local go_sem] put_fresh
attribute [-go_sem] Builtin.append_

theorem below_drewN' {w : World} (n : Nat) : Below w.heap.size w (w.drewN n) := by with_reducible repeat (first | exact Below.refl _ _ | apply pw_below_drewN)
theorem stay_row {w5 w6 w7 w8 : World} {base B R g n c : Nat} {xs : List Value} (hg : w5.ownsRow base 27 3 (.slice (some ⟨g, 0, none⟩) n c) n xs) (hl : g < w5.heap.size) (hne : ¬ Owns w5 B g) (hgR : g ≠ R) (h6 : Kp w5.drew w6 B) (hs : w5.drew.heap.size ≤ w6.heap.size) (h7 : Below w6.heap.size w6 w7) (h8 : w7.grownBy w8 (some R)) : w8.ownsRow base 27 3 (.slice (some ⟨g, 0, none⟩) n c) n xs := by
  refine own_move hg fun j hj => ?_
  have hgj : g = j := by simpa [Value.ownBlock] using hj
  subst hgj
  have hs5 : w5.heap.size ≤ w6.heap.size := hs
  have e6 : w6.heap[g]? = w5.heap[g]? := (h6 g hl hne).1
  have hz7 := h7.size
  exact (h8.block g (by omega) (fun e => hgR (Option.some.inj e))).trans ((h7.block g (by omega)).trans e6)
abbrev rnet0 : Obj := .cells #[.slice none 0 0, .slice none 0 0] 43
abbrev net0 : Obj := .cells #[.slice none 0 0, .map none] 46
theorem start1 {W w1 : World} (hN : NetAt w1 W.heap.size W.heap.size (.map none) []) (hC : CutAt w1 W.heap.size (.map none) 0 no0) (hb : Below W.heap.size W w1) : St W (w1.alloc rnet0) W.heap.size w1.heap.size [] [] (Cc []) [] 0 := by
  have bA := below_alloc (Below.refl w1.heap.size w1) rnet0
  refine ⟨⟨_, 0, hN.below bA, hC.below bA, Nat.le_refl _⟩, ⟨hb.size, none, 0, none, 0, heap_alloc_new w1 rnet0, World.ownsRow_nil _ _ _ _, World.ownsRow_nil _ _ _ _⟩, hb.trans (bA.mono hb.size)⟩
theorem start2 {W w : World} {B R : Nat} (H : St W w B R [] [] (Cc []) [] 0) : St W (w.alloc net0) w.heap.size R [] [] (Cc []) [] 0 := by
  have bA := below_alloc (Below.refl w.heap.size w) net0
  obtain ⟨h1, h2, h3⟩ := (H.below bA).1
  exact ⟨⟨.map none, 0, ⟨H.bel.size, _, heap_alloc_new w net0, World.ownsRow_nil _ _ _ _⟩, .inl ⟨rfl, fun _ _ => rfl⟩, Nat.le_refl _⟩, h2, h3⟩
def p12 : Pk := ⟨1, 2, ⟨#[]⟩, by constructor <;> decide, by constructor <;> decide⟩
set_option maxRecDepth 100000 in
set_option maxHeartbeats 60000000 in
theorem NetPlays_in (zero : Bool) (A : Option Addr) (c : Nat) (l : List Sop) (W : World) (hr : Kd.C RoS.k48 W A l.length l) (hc : l.length ≤ c) (hl : l.length ≤ 150) (hok : ∀ x ∈ l, OpOk x) :
    Calls Try.prog 6 #[.bool zero, .slice A l.length c] W fun e w' => e = .returned (.bool true) ∧ Below W.heap.size W w' := by
  have hd : decide ((150 : Int) < (l.length : Int)) = false := decide_eq_false (by omega)
  have hd' : decide (150 < l.length) = false := decide_eq_false (by omega)
  have HI := Aside0.mk (And.intro hr (And.intro hl hok))
  clear hr hc hl hok
  go_enter Try.func6, Try.ntmps6
  go_wp2_with fail
  refine (new_c W).mono ?_
  rintro e w1 ⟨rfl, hN1, hC1, hb1⟩
  have H1 := Aside0.mk (start1 hN1 hC1 hb1)
  clear hN1 hC1 hb1
  go_upto_if 30 with (fail)
  go_cut [5] (fun s5 wx => ∃ B, s5 = .pointer (some ⟨B, 0, none⟩) ∧ Aside0 (St W wx B w1.heap.size [] [] (Cc []) [] 0))
  case first =>
    cases zero with
    | false =>
      go_wp2_with fail
      go_meet
      case rel => exact ⟨_, rfl, H1⟩
    | true =>
      have H2 := Aside0.mk (start2 H1.out)
      rw [show (w1.alloc rnet0).heap.size = w1.heap.size + 1 by simp] at H2
      go_wp2_with fail
      go_meet
      case rel => exact ⟨_, rfl, H2⟩
  case rest =>
  obtain ⟨B, rfl, H2⟩ := hcut
  clear H1
  generalize w1.heap.size = R at *
  go_wp2_with fail
  go_loopw [7] (fun i wr => ∃ (k : Nat) (L : List Pk) (Cs : List (Int × Int)), k ≤ l.length ∧ i = .int .i64 k ∧ Aside0 (St W wr B R L L (Cc Cs) Cs k ∧ Ok L ∧ Cs.length ≤ k)) (fun i _ => l.length - (intOf i).toNat)
  case atStart => exact ⟨0, [], [], Nat.zero_le _, rfl, ⟨H2.out, ok_nil, Nat.le_refl _⟩⟩
  case round =>
    obtain ⟨k, L, Cs, hk, rfl, H3⟩ := hrel
    clear H2
    by_cases hlt : k < l.length
    · have hwk := Aside0.mk (show wrap64 ((k : Int) + 1) = (k : Int) + 1 by have := HI.out.2.1; unfold wrap64; omega)
      obtain ⟨x, hx⟩ : ∃ x, l[k]? = some x := ⟨_, List.getElem?_eq_getElem hlt⟩
      obtain ⟨q, off, P, cp, rfl, hq, hcp, hP, o0, o1, o2, o3, o4⟩ := op_at HI.out.1 hx
      have hOp := Aside0.mk (HI.out.2.2 x (List.mem_of_getElem? hx))
      have hbq := H3.out.1.bel.block q hq
      have x0 := (World.cell?_of_block (a := ⟨q, off + k * 5, none⟩) hbq).trans o0
      have x1 := (World.cell?_of_block (a := ⟨q, off + k * 5 + 1, none⟩) hbq).trans o1
      have x2 := (World.cell?_of_block (a := ⟨q, off + k * 5 + 2, none⟩) hbq).trans o2
      have x3 := (World.cell?_of_block (a := ⟨q, off + k * 5 + 3, none⟩) hbq).trans o3
      have x4 := (World.cell?_of_block (a := ⟨q, off + k * 5 + 4, none⟩) hbq).trans o4
      have HP := Aside0.mk (And.intro hP hcp)
      clear hbq o0 o1 o2 o3 o4 hq hcp hP hx
      obtain ⟨kd, hkd⟩ : ∃ v, x.f0 = v := ⟨_, rfl⟩
      obtain ⟨oa, hoa⟩ : ∃ v, x.f1 = v := ⟨_, rfl⟩
      obtain ⟨ob, hob⟩ : ∃ v, x.f2 = v := ⟨_, rfl⟩
      obtain ⟨oc, hoc⟩ : ∃ v, x.f3 = v := ⟨_, rfl⟩
      have HO := Aside0.mk hOp.out
      unfold OpOk at HO
      rw [hkd] at x0 HO
      rw [hoa] at x1 HO
      rw [hob] at x2 HO
      rw [hoc] at x3 HO
      obtain ⟨ps, hps⟩ : ∃ v, x.f4 = v := ⟨_, rfl⟩
      rw [hps] at x4 HP HO
      clear hkd hoa hob hoc hps hOp
      have hwf : ∀ y ∈ ps, Wf y := fun y hy => (HO.out.2.2.2.2.1 y hy).1
      have hpl : ps.length < 4611686018427387904 := by have := HO.out.2.2.2.2.2; omega
      have hsz : ∀ y ∈ ps.map toK, y.s.size ≤ 140737488351232 := fun y hy => by
        obtain ⟨z, hz, rfl⟩ := List.mem_map.1 hy
        rw [(toK_v (hwf z hz)).2.2]
        exact (HO.out.2.2.2.2.1 z hz).2
      have hsr := src_of_C HP.out.1 hwf
      have HS := Aside0.mk (And.intro hsr (And.intro hwf (And.intro hpl hsz)))
      have hbA := below_alloc (Below.refl wr.heap.size wr) (.cells #[.int .i64 kd, .int .i64 oa, .int .i64 ob, .int .i64 oc, .slice P ps.length cp] 48)
      have hbW := H3.out.1.bel.trans (hbA.mono H3.out.1.bel.size)
      obtain ⟨sm, hsm60, hsm⟩ := small_c (C_of_src (hsr.below hbW) hwf hpl) HP.out.2 hpl
      have HM := Aside0.mk hsm
      have H60 := Aside0.mk hsm60
      have hob := heap_alloc_new wr (.cells #[.int .i64 kd, .int .i64 oa, .int .i64 ob, .int .i64 oc, .slice P ps.length cp] 48)
      have H4 := Aside0.mk (And.intro (H3.out.1.below hbA).1 (And.intro H3.out.2.1 (And.intro H3.out.2.2 (And.intro hob hbW))))
      clear hwf hpl hsz hsr hbA hbW hsm hsm60 hob H3
      go_wp2_with fail
      refine HM.out.mono ?_
      rintro e w4 ⟨rfl, hb4⟩
      have hb4' := hb4
      have H5 := Aside0.mk (And.intro (H4.out.1.below hb4).1 (And.intro H4.out.2.1 (And.intro H4.out.2.2.1 ((H4.out.1.below hb4).2 _ _ H4.out.2.2.2.1))))
      clear hb4 hb4' HM H4
      generalize wr.heap.size = o at *
      cases sm with
      | false =>
        go_wp2_with fail
        go_ret
        exact ⟨rfl, H5.out.1.bel⟩
      | true =>
        have H61 : Aside0 (ps.length ≤ 60) := ⟨H60.out rfl⟩
        clear H60
        have b0 : w4.cell? ⟨o, 0, none⟩ = some (.int .i64 kd) := blk_cell H5.out.2.2.2 0
        go_upto_block 2 with (fail)
        go_cut [9, 10] (fun s9 s10 wx => ∃ (a : Bool) (L' : List Pk) (Cs' : List (Int × Int)), s9 = .bool a ∧ s10 = .bool a ∧ Aside0 (St W wx B R L' L' (Cc Cs') Cs' (k + 1) ∧ Ok L' ∧ Cs'.length ≤ k + 1 ∧ wx.heap[o]? = some (.cells #[.int .i64 kd, .int .i64 oa, .int .i64 ob, .int .i64 oc, .slice P ps.length cp] 48 (0, 0))))
        case first =>
          by_cases hk7 : kd = 1 ∨ kd = 2 ∨ kd = 3 ∨ kd = 4 ∨ kd = 5 ∨ kd = 6 ∨ kd = 7 ∨ kd = 8 ∨ kd = 9
          · rcases hk7 with rfl | rfl | rfl | rfl | rfl | rfl | rfl | rfl | rfl
            · as_aux_lemma =>
                have hsl := lent_c (w := w4) (c := cp) (HS.out.1.below H5.out.1.bel) (by rw [List.length_map]; exact HO.out.2.2.2.2.2)
                rw [List.length_map] at hsl
                have HL := Aside0.mk hsl
                have b4 : w4.cell? ⟨o, 4, none⟩ = some (.slice P ps.length cp) := blk_cell H5.out.2.2.2 4
                clear hsl
                go_wp2_with fail
                refine HL.out.mono ?_
                rintro e w5 ⟨g, c5, rfl, hg5, hb5⟩
                have hgl := own_lt hg5 g rfl
                have hne : ¬ Owns w5 B g := by
                  obtain ⟨m_, n_, hN_, _⟩ := H5.out.1.net
                  obtain ⟨p_, c_, hNb_, hr_⟩ := net_v hN_
                  have hBl := hN_.lt
                  rintro (e | ⟨v_, m2_, hb_, hv_⟩)
                  · omega
                  · rw [(hb5.block B hBl).trans hNb_] at hb_
                    cases hb_
                    have := own_lt hr_ g hv_
                    omega
                have hgR : g ≠ R := by have := H5.out.1.ref.lt; omega
                have hsm : Src w5 (some ⟨g, 0, none⟩) (ps.map toK) := by
                  have := (own_src (L := ps.map toK ++ [pmk]) (by simp) hg5).head ps.length
                  rwa [List.take_left' (by simp)] at this
                have hpr := prow_of_src hsm c5 (Owns w5 B) (fun g' o' e h => by cases e; exact hne)
                rw [List.length_map] at hpr
                have hst5 := (H5.out.1.below hb5)
                have HN := Aside0.mk (fun (w : World) (hw : Below w5.heap.size w5 w) (hp : PRow w (.slice (some ⟨g, 0, none⟩) ps.length c5) (ps.map toK) (Owns w B)) => n_send (hst5.1.below hw).1 H5.out.2.1.1 _ _ hp (by rw [List.length_map]; exact HS.out.2.2.1) HS.out.2.2.2)
                have HG := Aside0.mk (And.intro hg5 (And.intro hgl.2 (And.intro hne (And.intro hgR (And.intro hsm hst5.1)))))
                have hob5 := hst5.2 _ _ H5.out.2.2.2
                have hpd : PRow w5.drew (.slice (some ⟨g, 0, none⟩) ps.length c5) (ps.map toK) (Owns w5.drew B) := hpr
                have HND := Aside0.mk (HN.out w5.drew (below_drew1 (Below.refl _ _)) hpd)
                have OB := Aside0.mk (show ∀ w' : World, w'.heap[o]? = some (.cells #[.int .i64 1, .int .i64 oa, .int .i64 ob, .int .i64 oc, .slice P ps.length cp] 48 (0, 0)) → w'.cell? ⟨o, 4, none⟩ = some (.slice P ps.length cp) ∧ Aside0 (w'.heap[o]? = some (.cells #[.int .i64 1, .int .i64 oa, .int .i64 ob, .int .i64 oc, .slice P ps.length cp] 48 (0, 0))) from fun w' h => ⟨blk_cell h 4, ⟨h⟩⟩)
                have HOB5 := Aside0.mk hob5
                have HSM := Aside0.mk (fun w6 w7 w8 (h6 : Kp w5.drew w6 B ∧ w5.drew.heap.size ≤ w6.heap.size) (h7 : Below w6.heap.size w6 w7) (h8 : w7.grownBy w8 (some R)) => stay_row hg5 hgl.2 hne hgR h6.1 h6.2 h7 h8)
                have hl60 : Aside0 (ps.length ≤ 60) := ⟨H61.out⟩
                clear hgl hne hgR hsm hpr hst5 hob5 hpd HN hg5 hb5 b4 HL
                go_upto_region 23 with (fail)
                go_region_held3 (fun w' => w'.cell? ⟨o, 4, none⟩ = some (.slice P ps.length cp) ∧ Aside0 (w'.heap[o]? = some (.cells #[.int .i64 1, .int .i64 oa, .int .i64 ob, .int .i64 oc, .slice P ps.length cp] 48 (0, 0))))
                  (first
                    | exact OB.out _ HOB5.out
                    | (go_split_ands
                       first
                       | (refine OB.out _ (Aside0.out ?_); assumption)
                       | (refine OB.out _ (hf6.out _ _ (Aside0.out ?_)); assumption)
                       | (refine OB.out _ (hf7.out _ _ (Aside0.out ?_)); assumption)
                       | (refine OB.out _ (hf8.out _ _ (Aside0.out ?_)); assumption)
                       | (refine OB.out _ (hf9.out _ _ (Aside0.out ?_)); assumption)))
                  (first
                    | (go_at_call 10; refine HND.out.mono ?_; rintro e w6 ⟨rfl, hs6', hf6', hk6', hz6'⟩; have hs6 := Aside0.mk hs6'; have hf6 := Aside0.mk hf6'; have hk6 := Aside0.mk (And.intro hk6' hz6'); clear hs6' hf6' hk6' hz6')
                    | (go_at_call 22; have hpr_ := prow_of_src (own_src (L := ps.map toK) (by simp) ho7.out) c7 (fun q => q = R) (fun g' o' e h => by have h1_ := own_lt ho7.out g' (by rw [e]; rfl); have h2_ := hs6.out.ref.lt; intro e2; omega); rw [List.length_map] at hpr_; refine (r_send hs7.out H5.out.2.1.1 (by have := H5.out.2.2.1; have := HI.out.2.1; omega) _ _ hpr_ (by rw [List.length_map]; exact HS.out.2.2.1)).mono ?_; rintro e w8 ⟨rfl, hs8', hf8', hg8'⟩; have hs8 := Aside0.mk hs8'; have hf8 := Aside0.mk hf8'; have hg8 := Aside0.mk hg8'; clear hs8' hf8' hg8' hpr_)
                    | (go_at_call 23; have hpc_ := plain_c (c := cp) (HS.out.1.below hs6.out.bel) (by rw [List.length_map]; exact hl60.out); rw [List.length_map] at hpc_; refine hpc_.mono ?_; rintro e w7 ⟨p7, c7, rfl, ho7', hb7'⟩; have ho7 := Aside0.mk ho7'; have hb7 := Aside0.mk hb7'; have hf7 := Aside0.mk (Fo.below hb7'); have hs7 := Aside0.mk (hs6.out.below hb7').1; clear ho7' hb7' hpc_)
                    | (go_at_call 24; refine (stays_c HS.out.2.1 hl60.out (HSM.out _ _ _ hk6.out hb7.out hg8.out) (HS.out.1.below hs8.out.bel) HP.out.2).mono ?_; rintro e w9 ⟨rfl, hb9'⟩; have hf9 := Aside0.mk (Fo.below hb9'); have hs9 := Aside0.mk (hs8.out.below hb9').1; clear hb9'))
                all_goals
                  go_split_ands
                  have hob : Aside0 (w9.heap[o]? = some (.cells #[.int .i64 1, .int .i64 oa, .int .i64 ob, .int .i64 oc, .slice P ps.length cp] 48 (0, 0))) := by assumption
                  go_wp2_with fail
                  go_meet
                  case rel => exact ⟨false, L ++ sent (Cc Cs) L.length (ps.map toK), Cs, rfl, rfl, ⟨hs9.out.more (Nat.le_succ _), ok_sent _ H5.out.2.1 HS.out.2.2.2, Nat.le_succ_of_le H5.out.2.2.1, hob.out⟩⟩
            · as_aux_lemma =>
                have b1 : w4.cell? ⟨o, 1, none⟩ = some (.int .i64 oa) := blk_cell H5.out.2.2.2 1
                go_wp2_with fail
                refine (n_pull H5.out.1 H5.out.2.1.1 oa).mono ?_
                rintro e w5 ⟨rfl, hs5, hf5⟩
                have hob5 := hf5 _ _ H5.out.2.2.2
                generalize hpk : pkA L oa = pk at *
                have bA := below_alloc (Below.refl w5.heap.size w5) (.cells #[.int .i64 pk.a, .int .i64 pk.b, .string pk.s] 27)
                have hA1 := heap_alloc_new w5 (.cells #[.int .i64 pk.a, .int .i64 pk.b, .string pk.s] 27)
                have hs6 := hs5.below bA
                have hob6 := hs6.2 _ _ hob5
                have hR := r_pull hs6.1 H5.out.2.1.1 oa
                rw [hpk] at hR
                have HR := Aside0.mk hR
                have b6 := blk_cell hob6 1
                simp only [List.getElem?_toArray, List.getElem?_cons_zero, List.getElem?_cons_succ] at b6
                have HA := Aside0.mk (And.intro hA1 hob6)
                have hz6 : (w5.alloc (.cells #[.int .i64 pk.a, .int .i64 pk.b, .string pk.s] 27)).heap.size = w5.heap.size + 1 := by simp
                have hRl := hs6.1.ref.lt
                have hRl5 := hs5.ref.lt
                have HZ := Aside0.mk (And.intro hz6 hRl5)
                clear hs5 hf5 hob5 bA hA1 hs6 hob6 hR b1 b0 hz6 hRl hRl5
                unfold pval at HR ⊢
                go_wp2_with fail
                refine HR.out.mono ?_
                rintro e w7 ⟨rfl, hs7, hf7, hg7⟩
                have hb1 : w7.heap[w5.heap.size]? = _ := (hg7.block w5.heap.size (by have := HZ.out; omega) (fun e => by have := Option.some.inj e; have := HZ.out; omega)).trans HA.out.1
                have bB := below_alloc (Below.refl w7.heap.size w7) (box pk)
                have hB1 := heap_alloc_new w7 (box pk)
                have hs8 := hs7.below bB
                have hob8 := hs8.2 _ _ (hf7 _ _ HA.out.2)
                have hb1' := (heap_alloc_old w7 (box pk) (Array.getElem?_eq_some_iff.1 hb1).1).trans hb1
                dsimp only [box] at bB hB1 hs8 hob8 hb1'
                have y0 := blk_cell hb1' 0
                have y1 := blk_cell hb1' 1
                have y2 := blk_cell hb1' 2
                have z0 := blk_cell hB1 0
                have z1 := blk_cell hB1 1
                have z2 := blk_cell hB1 2
                simp only [List.getElem?_toArray, List.getElem?_cons_zero, List.getElem?_cons_succ] at y0 y1 y2 z0 z1 z2
                have H8 := Aside0.mk (And.intro hs8.1 hob8)
                clear b6 HR HA hs7 hf7 hg7 hb1 hb1' bB hB1 hs8 hob8
                generalize hbk : isB L oa = bk at *
                cases bk
                all_goals
                  go_wp2_with fail
                  refine (same_c pk _).mono ?_
                  rintro e w9 ⟨rfl, hb9⟩
                  have H9 := Aside0.mk (And.intro (H8.out.1.below hb9).1 ((H8.out.1.below hb9).2 _ _ H8.out.2))
                  clear hb9 y0 y1 y2 z0 z1 z2
                  go_wp2_with fail
                  go_meet
                  case rel => exact ⟨false, plL L oa, Cs, rfl, rfl, ⟨H9.out.1.more (Nat.le_succ _), ok_pl H5.out.2.1 oa, Nat.le_succ_of_le H5.out.2.2.1, H9.out.2⟩⟩
            · as_aux_lemma =>
                have b1 : w4.cell? ⟨o, 1, none⟩ = some (.int .i64 oa) := blk_cell H5.out.2.2.2 1
                go_wp2_with fail
                refine (r_pull H5.out.1 H5.out.2.1.1 oa).mono ?_
                rintro e w5 ⟨rfl, hs5, hf5, _⟩
                have hob5 := hf5 _ _ H5.out.2.2.2
                have b5 : w5.cell? ⟨o, 1, none⟩ = some (.int .i64 oa) := blk_cell hob5 1
                have H6 := Aside0.mk (And.intro hs5 hob5)
                clear hs5 hf5 hob5 b1 b0
                unfold pval
                go_wp2_with fail
                refine (n_drop H6.out.1 H5.out.2.1.1 oa).mono ?_
                rintro e w7 ⟨rfl, hs7, hf7⟩
                have H7 := Aside0.mk (And.intro hs7 (hf7 _ _ H6.out.2))
                clear hs7 hf7 b5
                go_wp2_with fail
                go_meet
                case rel => exact ⟨isB L oa, plL L oa, Cs, rfl, rfl, ⟨H7.out.1.more (Nat.le_succ _), ok_pl H5.out.2.1 oa, Nat.le_succ_of_le H5.out.2.2.1, H7.out.2⟩⟩
            · as_aux_lemma =>
                have OB := Aside0.mk (show ∀ w' : World, w'.heap[o]? = some (.cells #[.int .i64 4, .int .i64 oa, .int .i64 ob, .int .i64 oc, .slice P ps.length cp] 48 (0, 0)) → w'.cell? ⟨o, 1, none⟩ = some (.int .i64 oa) ∧ w'.cell? ⟨o, 2, none⟩ = some (.int .i64 ob) ∧ w'.cell? ⟨o, 3, none⟩ = some (.int .i64 oc) ∧ w'.cell? ⟨o, 4, none⟩ = some (.slice P ps.length cp) ∧ Aside0 (w'.heap[o]? = some (.cells #[.int .i64 4, .int .i64 oa, .int .i64 ob, .int .i64 oc, .slice P ps.length cp] 48 (0, 0))) from fun w' h => ⟨blk_cell h 1, blk_cell h 2, blk_cell h 3, blk_cell h 4, ⟨h⟩⟩)
                have HD := Aside0.mk (H5.out.1.below (below_drew1 (Below.refl _ _))).1
                go_wp2_with fail
                go_region_held3 (fun w' => w'.cell? ⟨o, 1, none⟩ = some (.int .i64 oa) ∧ w'.cell? ⟨o, 2, none⟩ = some (.int .i64 ob) ∧ w'.cell? ⟨o, 3, none⟩ = some (.int .i64 oc) ∧ w'.cell? ⟨o, 4, none⟩ = some (.slice P ps.length cp) ∧ Aside0 (w'.heap[o]? = some (.cells #[.int .i64 4, .int .i64 oa, .int .i64 ob, .int .i64 oc, .slice P ps.length cp] 48 (0, 0))))
                  (first
                    | exact OB.out _ H5.out.2.2.2
                    | (go_split_ands
                       first
                       | (refine OB.out _ (Aside0.out ?_); assumption)
                       | (refine OB.out _ (hf5.out _ _ (Aside0.out ?_)); assumption)
                       | (refine OB.out _ (hf7.out _ _ (Aside0.out ?_)); assumption)))
                  (first
                    | (go_at_call 16; refine (n_double HD.out oa).mono ?_; rintro e w5 ⟨rfl, hs5', hf5'⟩; have hs5 := Aside0.mk hs5'; have hf5 := Aside0.mk hf5'; clear hs5' hf5')
                    | (go_at_call 27; refine (r_double hs5.out oa).mono ?_; rintro e w7 ⟨rfl, hs7', hf7'⟩; have hs7 := Aside0.mk hs7'; have hf7 := Aside0.mk hf7'; clear hs7' hf7'))
                all_goals
                  go_split_ands
                  have hob : Aside0 (w7.heap[o]? = some (.cells #[.int .i64 4, .int .i64 oa, .int .i64 ob, .int .i64 oc, .slice P ps.length cp] 48 (0, 0))) := by assumption
                  go_wp2_with fail
                  go_meet
                  case rel => exact ⟨dbB L oa, dbL L oa, Cs, rfl, rfl, ⟨hs7.out.more (Nat.le_succ _), ok_db H5.out.2.1 oa, Nat.le_succ_of_le H5.out.2.2.1, hob.out⟩⟩
            · as_aux_lemma =>
                have OB := Aside0.mk (show ∀ w' : World, w'.heap[o]? = some (.cells #[.int .i64 5, .int .i64 oa, .int .i64 ob, .int .i64 oc, .slice P ps.length cp] 48 (0, 0)) → w'.cell? ⟨o, 1, none⟩ = some (.int .i64 oa) ∧ w'.cell? ⟨o, 2, none⟩ = some (.int .i64 ob) ∧ w'.cell? ⟨o, 3, none⟩ = some (.int .i64 oc) ∧ w'.cell? ⟨o, 4, none⟩ = some (.slice P ps.length cp) ∧ Aside0 (w'.heap[o]? = some (.cells #[.int .i64 5, .int .i64 oa, .int .i64 ob, .int .i64 oc, .slice P ps.length cp] 48 (0, 0))) from fun w' h => ⟨blk_cell h 1, blk_cell h 2, blk_cell h 3, blk_cell h 4, ⟨h⟩⟩)
                have HD := Aside0.mk (H5.out.1.below (below_drew1 (Below.refl _ _))).1
                go_wp2_with fail
                go_region_held3 (fun w' => w'.cell? ⟨o, 1, none⟩ = some (.int .i64 oa) ∧ w'.cell? ⟨o, 2, none⟩ = some (.int .i64 ob) ∧ w'.cell? ⟨o, 3, none⟩ = some (.int .i64 oc) ∧ w'.cell? ⟨o, 4, none⟩ = some (.slice P ps.length cp) ∧ Aside0 (w'.heap[o]? = some (.cells #[.int .i64 5, .int .i64 oa, .int .i64 ob, .int .i64 oc, .slice P ps.length cp] 48 (0, 0))))
                  (first
                    | exact OB.out _ H5.out.2.2.2
                    | (go_split_ands
                       first
                       | (refine OB.out _ (Aside0.out ?_); assumption)
                       | (refine OB.out _ (hf5.out _ _ (Aside0.out ?_)); assumption)
                       | (refine OB.out _ (hf7.out _ _ (Aside0.out ?_)); assumption)))
                  (first
                    | (go_at_call 11; refine (n_move HD.out H5.out.2.1.1 oa ob).mono ?_; rintro e w5 ⟨rfl, hs5', hf5'⟩; have hs5 := Aside0.mk hs5'; have hf5 := Aside0.mk hf5'; clear hs5' hf5')
                    | (go_at_call 28; refine (r_move hs5.out H5.out.2.1.1 oa ob).mono ?_; rintro e w7 ⟨rfl, hs7', hf7'⟩; have hs7 := Aside0.mk hs7'; have hf7 := Aside0.mk hf7'; clear hs7' hf7'))
                all_goals
                  go_split_ands
                  have hob : Aside0 (w7.heap[o]? = some (.cells #[.int .i64 5, .int .i64 oa, .int .i64 ob, .int .i64 oc, .slice P ps.length cp] 48 (0, 0))) := by assumption
                  go_wp2_with fail
                  go_meet
                  case rel => exact ⟨mvB L oa ob, mvL L oa ob, Cs, rfl, rfl, ⟨hs7.out.more (Nat.le_succ _), ok_mv H5.out.2.1 oa ob, Nat.le_succ_of_le H5.out.2.2.1, hob.out⟩⟩
            · as_aux_lemma =>
                have OB := Aside0.mk (show ∀ w' : World, w'.heap[o]? = some (.cells #[.int .i64 6, .int .i64 oa, .int .i64 ob, .int .i64 oc, .slice P ps.length cp] 48 (0, 0)) → w'.cell? ⟨o, 1, none⟩ = some (.int .i64 oa) ∧ w'.cell? ⟨o, 2, none⟩ = some (.int .i64 ob) ∧ w'.cell? ⟨o, 3, none⟩ = some (.int .i64 oc) ∧ w'.cell? ⟨o, 4, none⟩ = some (.slice P ps.length cp) ∧ Aside0 (w'.heap[o]? = some (.cells #[.int .i64 6, .int .i64 oa, .int .i64 ob, .int .i64 oc, .slice P ps.length cp] 48 (0, 0))) from fun w' h => ⟨blk_cell h 1, blk_cell h 2, blk_cell h 3, blk_cell h 4, ⟨h⟩⟩)
                have HD := Aside0.mk (H5.out.1.below (below_drew1 (Below.refl _ _))).1
                go_wp2_with fail
                go_region_held3 (fun w' => w'.cell? ⟨o, 1, none⟩ = some (.int .i64 oa) ∧ w'.cell? ⟨o, 2, none⟩ = some (.int .i64 ob) ∧ w'.cell? ⟨o, 3, none⟩ = some (.int .i64 oc) ∧ w'.cell? ⟨o, 4, none⟩ = some (.slice P ps.length cp) ∧ Aside0 (w'.heap[o]? = some (.cells #[.int .i64 6, .int .i64 oa, .int .i64 ob, .int .i64 oc, .slice P ps.length cp] 48 (0, 0))))
                  (first
                    | exact OB.out _ H5.out.2.2.2
                    | (go_split_ands
                       first
                       | (refine OB.out _ (Aside0.out ?_); assumption)
                       | (refine OB.out _ (hf5.out _ _ (Aside0.out ?_)); assumption)
                       | (refine OB.out _ (hf7.out _ _ (Aside0.out ?_)); assumption)))
                  (first
                    | (go_at_call 12; refine (n_spoil HD.out H5.out.2.1.1 H5.out.2.1.2 oa ob oc HO.out.2.2.1 HO.out.2.2.2.1).mono ?_; rintro e w5 ⟨rfl, hs5', hf5'⟩; have hs5 := Aside0.mk hs5'; have hf5 := Aside0.mk hf5'; clear hs5' hf5')
                    | (go_at_call 29; refine (r_spoil hs5.out H5.out.2.1.1 H5.out.2.1.2 oa ob oc HO.out.2.2.1 HO.out.2.2.2.1).mono ?_; rintro e w7 ⟨rfl, hs7', hf7'⟩; have hs7 := Aside0.mk hs7'; have hf7 := Aside0.mk hf7'; clear hs7' hf7'))
                all_goals
                  go_split_ands
                  have hob : Aside0 (w7.heap[o]? = some (.cells #[.int .i64 6, .int .i64 oa, .int .i64 ob, .int .i64 oc, .slice P ps.length cp] 48 (0, 0))) := by assumption
                  go_wp2_with fail
                  go_meet
                  case rel => exact ⟨spB L oa, spL L oa ob oc, Cs, rfl, rfl, ⟨hs7.out.more (Nat.le_succ _), ok_sp H5.out.2.1 oa ob oc, Nat.le_succ_of_le H5.out.2.2.1, hob.out⟩⟩
            · as_aux_lemma =>
                have b1 : w4.cell? ⟨o, 1, none⟩ = some (.int .i64 oa) := blk_cell H5.out.2.2.2 1
                have b2 : w4.cell? ⟨o, 2, none⟩ = some (.int .i64 ob) := blk_cell H5.out.2.2.2 2
                go_wp2_with fail
                refine (n_cut H5.out.1 (by have := HI.out.2.1; omega) oa ob HO.out.2.1 HO.out.2.2.1 true).mono ?_
                rintro e w5 ⟨rfl, hs5, hf5⟩
                have hob5 := hf5 _ _ H5.out.2.2.2
                have d0 := blk_cell hob5 0
                have d1 : w5.cell? ⟨o, 1, none⟩ = some (.int .i64 oa) := blk_cell hob5 1
                have d2 : w5.cell? ⟨o, 2, none⟩ = some (.int .i64 ob) := blk_cell hob5 2
                simp only [List.getElem?_toArray, List.getElem?_cons_zero] at d0
                have H6 := Aside0.mk (And.intro hs5 hob5)
                clear hs5 hf5 hob5 b1 b2 b0
                go_wp2_with fail
                refine (r_cut H6.out.1 (by have := H5.out.2.2.1; have := HI.out.2.1; omega) oa ob true).mono ?_
                rintro e w7 ⟨rfl, hs7, hf7⟩
                rw [← cc_cutL] at hs7
                have H7 := Aside0.mk (And.intro hs7 (hf7 _ _ H6.out.2))
                clear hs7 hf7 d0 d1 d2
                go_wp2_with fail
                go_meet
                case rel => exact ⟨false, L, cutL Cs oa ob true, rfl, rfl, ⟨H7.out.1, H5.out.2.1, by have h_ := butP_le Cs oa ob; have h2_ := H5.out.2.2.1; simp [cutL]; omega, H7.out.2⟩⟩
            · as_aux_lemma =>
                have b1 : w4.cell? ⟨o, 1, none⟩ = some (.int .i64 oa) := blk_cell H5.out.2.2.2 1
                have b2 : w4.cell? ⟨o, 2, none⟩ = some (.int .i64 ob) := blk_cell H5.out.2.2.2 2
                go_wp2_with fail
                refine (n_cut H5.out.1 (by have := HI.out.2.1; omega) oa ob HO.out.2.1 HO.out.2.2.1 false).mono ?_
                rintro e w5 ⟨rfl, hs5, hf5⟩
                have hob5 := hf5 _ _ H5.out.2.2.2
                have d0 := blk_cell hob5 0
                have d1 : w5.cell? ⟨o, 1, none⟩ = some (.int .i64 oa) := blk_cell hob5 1
                have d2 : w5.cell? ⟨o, 2, none⟩ = some (.int .i64 ob) := blk_cell hob5 2
                simp only [List.getElem?_toArray, List.getElem?_cons_zero] at d0
                have H6 := Aside0.mk (And.intro hs5 hob5)
                clear hs5 hf5 hob5 b1 b2 b0
                go_wp2_with fail
                refine (r_cut H6.out.1 (by have := H5.out.2.2.1; have := HI.out.2.1; omega) oa ob false).mono ?_
                rintro e w7 ⟨rfl, hs7, hf7⟩
                rw [← cc_cutL] at hs7
                have H7 := Aside0.mk (And.intro hs7 (hf7 _ _ H6.out.2))
                clear hs7 hf7 d0 d1 d2
                go_wp2_with fail
                go_meet
                case rel => exact ⟨false, L, cutL Cs oa ob false, rfl, rfl, ⟨H7.out.1, H5.out.2.1, by have h_ := butP_le Cs oa ob; have h2_ := H5.out.2.2.1; simp [cutL]; omega, H7.out.2⟩⟩
            · as_aux_lemma =>
                obtain ⟨pR, cR, r0, r1⟩ := H5.out.1.refR
                have hP := H5.out.1.ref.put (Below.refl _ _) (L' := []) (n2 := 0) (p2 := none) (c2 := 0) rfl (World.ownsRow_nil _ _ _ _)
                have hs5 := H5.out.1.refG hP.1 hP.2
                have H6 := Aside0.mk (And.intro hs5.1 (hs5.2 _ _ H5.out.2.2.2))
                have HC := Aside0.mk (n_clear H6.out.1)
                clear hP hs5
                go_wp2_with fail
                refine HC.out.mono ?_
                rintro e w7 ⟨rfl, hs7, hf7⟩
                have H7 := Aside0.mk (And.intro hs7 (hf7 _ _ H6.out.2))
                clear hs7 hf7 r0 r1 HC
                go_wp2_with fail
                go_meet
                case rel => exact ⟨true, [], Cs, rfl, rfl, ⟨H7.out.1.more (Nat.le_succ _), ok_nil, Nat.le_succ_of_le H5.out.2.2.1, H7.out.2⟩⟩
          · have e1 : (kd == 1) = false := by simp; omega
            have e2 : (kd == 2) = false := by simp; omega
            have e3 : (kd == 3) = false := by simp; omega
            have e4 : (kd == 4) = false := by simp; omega
            have e5 : (kd == 5) = false := by simp; omega
            have e6 : (kd == 6) = false := by simp; omega
            have e7 : (kd == 7) = false := by simp; omega
            have e8 : (kd == 8) = false := by simp; omega
            have e9 : (kd == 9) = false := by simp; omega
            as_aux_lemma =>
              go_wp2_with fail
              go_loopw [17] (fun i2 wr => ∃ (j : Nat) (L' : List Pk), j ≤ 790 ∧ i2 = .int .i64 j ∧ Aside0 (St W wr B R L' L' (Cc Cs) Cs k ∧ Ok L' ∧ wr.heap[o]? = some (.cells #[.int .i64 kd, .int .i64 oa, .int .i64 ob, .int .i64 oc, .slice P ps.length cp] 48 (0, 0)))) (fun i2 _ => 790 - (intOf i2).toNat)
              case atStart => exact ⟨0, L, Nat.zero_le _, rfl, ⟨H5.out.1, H5.out.2.1, H5.out.2.2.2⟩⟩
              case round =>
                obtain ⟨j, L', hj, rfl, H6⟩ := hrel
                by_cases hlj : j < 790
                · have hwj := Aside0.mk (show wrap64 ((j : Int) + 1) = (j : Int) + 1 by unfold wrap64; omega)
                  have hji : (j : Int) < 790 := by omega
                  have hdj : decide ((j : Int) < 790) = true := decide_eq_true hji
                  go_wp2_with fail
                  have bA := below_alloc (Below.refl wr.heap.size wr) (.cells (#[.int .i64 1, .int .i64 2, .string ⟨#[]⟩] : Array Value) 27)
                  obtain ⟨m_, n_, hN_, _⟩ := H6.out.1.net
                  have hpr := prow_new hN_ [p12] (cs := #[.int .i64 1, .int .i64 2, .string ⟨#[]⟩]) rfl 1 rfl
                  have hsA := H6.out.1.below bA
                  have HN := Aside0.mk (n_send hsA.1 H6.out.2.1.1 _ _ hpr (by decide) (by intro x hx; rw [List.mem_singleton.1 hx]; exact Nat.zero_le _))
                  have hobA := hsA.2 _ _ H6.out.2.2
                  have HoA := Aside0.mk hobA
                  clear bA hN_ hpr hsA hobA
                  refine HN.out.mono ?_
                  rintro e w8 ⟨rfl, hs8, hf8, _, _⟩
                  have H8 := Aside0.mk (And.intro hs8 (hf8 _ _ HoA.out))
                  clear hs8 hf8 HN HoA
                  go_wp2_with fail
                  have bB := below_alloc (Below.refl w8.heap.size w8) (box p12)
                  have hsB := H8.out.1.below bB
                  have hpr2 := prow_of_src (src_box (heap_alloc_new w8 (box p12))) 1 (fun q => q = R) (fun g' o' e h => by cases e; have := H8.out.1.ref.lt; omega)
                  have HR := Aside0.mk (r_send hsB.1 H6.out.2.1.1 (by have := H5.out.2.2.1; have := HI.out.2.1; omega) _ _ hpr2 (by decide))
                  have HoB := Aside0.mk (hsB.2 _ _ H8.out.2)
                  clear bB hsB hpr2
                  dsimp only [box, p12] at HR
                  refine HR.out.mono ?_
                  rintro e w9 ⟨rfl, hs9, hf9, _⟩
                  have H9 := Aside0.mk (And.intro hs9 (hf9 _ _ HoB.out))
                  clear hs9 hf9 HR HoB
                  go_wp2_with fail
                  exact ⟨⟨j + 1, _, Nat.succ_le_of_lt hlj, by first | exact iw_succ j | exact iv_succ hwj.out, ⟨H9.out.1, ok_sent _ H6.out.2.1 (by intro x hx; rw [List.mem_singleton.1 hx]; exact Nat.zero_le _), H9.out.2⟩⟩, by first | exact iw_meas hlj | exact iv_meas hwj.out hlj⟩
                · have hjl : j = 790 := by omega
                  subst hjl
                  go_wp2_with fail
                  go_meet
                  case rel => exact ⟨false, L', Cs, rfl, rfl, ⟨H6.out.1.more (Nat.le_succ _), H6.out.2.1, Nat.le_succ_of_le H5.out.2.2.1, H6.out.2.2⟩⟩
        case rest =>
          obtain ⟨a, L2, Cs2, rfl, rfl, H6⟩ := hcut
          clear H5 b0
          have b1 : wc.cell? ⟨o, 1, none⟩ = some (.int .i64 oa) := blk_cell H6.out.2.2.2 1
          have HPK := Aside0.mk (n_peek H6.out.1 oa)
          generalize hbk : isB L2 oa = bk at HPK
          cases bk with
          | false =>
            as_aux_lemma =>
            rw [pkA_out hbk] at HPK
            unfold noPk at HPK
            go_wp2_with fail
            refine HPK.out.mono ?_
            rintro e w5 ⟨rfl, hb5⟩
            have hs5 := H6.out.1.below hb5
            have ho5 := hs5.2 _ _ H6.out.2.2.2
            have bA := below_alloc (Below.refl w5.heap.size w5) (.cells #[.int .i64 0, .int .i64 0, .string ByteArray.empty] 27)
            have hA1 := heap_alloc_new w5 (.cells #[.int .i64 0, .int .i64 0, .string ByteArray.empty] 27)
            have hs6 := hs5.1.below bA
            have ho6 := hs6.2 _ _ ho5
            have H7 := Aside0.mk (And.intro hs6.1 (And.intro H6.out.2.1 H6.out.2.2.1))
            have HA := Aside0.mk (And.intro hA1 ho6)
            clear hs5 ho5 bA hA1 hs6 ho6 hb5 b1 HPK
            go_upto_region 48 with (fail)
            generalize hw6 : w5.alloc (.cells #[.int .i64 0, .int .i64 0, .string ByteArray.empty] 27) = w6 at *
            generalize w5.heap.size = bx at *
            have hNE := neq_pk 0 0 ByteArray.empty
            have hNE2 : ∀ w : World, (binOp .neq 27 (.agg #[.int .i64 0, .int .i64 0, .string ByteArray.empty]) (.agg #[.int .i64 0, .int .i64 0, .string ⟨#[]⟩])).run Try.prog w = .ok (.bool false) w := neq_pk 0 0 ByteArray.empty
            have hNE3 : ∀ w : World, (binOp .neq 27 (.agg #[.int .i64 0, .int .i64 0, .string ⟨#[]⟩]) (.agg #[.int .i64 0, .int .i64 0, .string ⟨#[]⟩])).run Try.prog w = .ok (.bool false) w := neq_pk 0 0 ByteArray.empty
            obtain ⟨pL, cL, q2, e2, _, _, FR, _⟩ := ref_facts H7.out.1.ref
            have LA := Aside0.mk (show ∀ w', Below w6.heap.size w6 w' → w'.cell? ⟨o, 1, none⟩ = some (.int .i64 oa) ∧ w'.cell? ⟨R, 0, none⟩ = some (.slice pL L2.length cL) ∧ w'.cell? ⟨bx, 0, none⟩ = some (.int .i64 0) ∧ w'.cell? ⟨bx, 1, none⟩ = some (.int .i64 0) ∧ w'.cell? ⟨bx, 2, none⟩ = some (.string ByteArray.empty) ∧ Aside0 (Below w6.heap.size w6 w') from fun w' h => by
              have hbx := (h.block bx (Array.getElem?_eq_some_iff.1 HA.out.1).1).trans HA.out.1
              have hox := (h.block o (Array.getElem?_eq_some_iff.1 HA.out.2).1).trans HA.out.2
              exact ⟨blk_cell hox 1, (FR w' h).1, blk_cell hbx 0, blk_cell hbx 1, blk_cell hbx 2, ⟨h⟩⟩)
            have HK := Aside0.mk (isB_out hbk)
            clear FR hbk H6
            have hna : (a != a) = false := bne_self_eq_false a
            all_goals
              rcases HK.out with c1 | ⟨c1, c2⟩
              · have g1 : decide ((0 : Int) ≤ oa) = false := decide_eq_false (by omega)
                obtain ⟨l0, l1, l2, l3, l4, _⟩ := LA.out w6 (Below.refl _ _)
                go_quiet (first | (go_at_call 15; refine Calls.quiet_of_same ((n_len (H7.out.1.below (below_drewN' _)).1))))
                clear l0 l1 l2 l3 l4
                have H8 := Aside0.mk (H7.out.1.below (below_drewN' nq)).1
                go_wp2_with fail
                exact ⟨⟨k + 1, L2, Cs2, Nat.succ_le_of_lt hlt, by first | exact iw_succ k | exact iv_succ hwk.out, ⟨H8.out, H7.out.2.1, H7.out.2.2⟩⟩, by first | exact iw_meas hlt | exact iv_meas hwk.out hlt⟩
              · have g1 : decide ((0 : Int) ≤ oa) = true := decide_eq_true (by omega)
                have g2 : decide (oa < (L2.length : Int)) = false := decide_eq_false (by omega)
                obtain ⟨l0, l1, l2, l3, l4, _⟩ := LA.out w6 (Below.refl _ _)
                go_quiet (first | (go_at_call 15; refine Calls.quiet_of_same ((n_len (H7.out.1.below (below_drewN' _)).1))))
                clear l0 l1 l2 l3 l4
                have H8 := Aside0.mk (H7.out.1.below (below_drewN' nq)).1
                go_wp2_with fail
                exact ⟨⟨k + 1, L2, Cs2, Nat.succ_le_of_lt hlt, by first | exact iw_succ k | exact iv_succ hwk.out, ⟨H8.out, H7.out.2.1, H7.out.2.2⟩⟩, by first | exact iw_meas hlt | exact iv_meas hwk.out hlt⟩
          | true =>
            as_aux_lemma =>
            obtain ⟨j, hj, hx⟩ := isB_in hbk
            subst hj
            generalize pkA L2 (j : Int) = pk at *
            unfold pval at HPK
            go_wp2_with fail
            refine HPK.out.mono ?_
            rintro e w5 ⟨rfl, hb5⟩
            have hs5 := H6.out.1.below hb5
            have ho5 := hs5.2 _ _ H6.out.2.2.2
            have bA := below_alloc (Below.refl w5.heap.size w5) (.cells #[.int .i64 pk.a, .int .i64 pk.b, .string pk.s] 27)
            have hA1 := heap_alloc_new w5 (.cells #[.int .i64 pk.a, .int .i64 pk.b, .string pk.s] 27)
            have hs6 := hs5.1.below bA
            have ho6 := hs6.2 _ _ ho5
            have H7 := Aside0.mk (And.intro hs6.1 (And.intro H6.out.2.1 H6.out.2.2.1))
            have HA := Aside0.mk (And.intro hA1 ho6)
            clear hs5 ho5 bA hA1 hs6 ho6 hb5 b1 HPK
            go_upto_region 48 with (fail)
            generalize hw6 : w5.alloc (.cells #[.int .i64 pk.a, .int .i64 pk.b, .string pk.s] 27) = w6 at *
            generalize w5.heap.size = bx at *
            obtain ⟨pL, cL, q2, e2, _, _, FR, FX⟩ := ref_facts H7.out.1.ref
            obtain ⟨g, rfl, GX⟩ := FX j pk hx
            have LA := Aside0.mk (show ∀ w', Below w6.heap.size w6 w' → w'.cell? ⟨o, 1, none⟩ = some (.int .i64 (j : Int)) ∧ w'.cell? ⟨R, 0, none⟩ = some (.slice (some ⟨g, 0, none⟩) L2.length cL) ∧ w'.cell? ⟨bx, 0, none⟩ = some (.int .i64 pk.a) ∧ w'.cell? ⟨bx, 1, none⟩ = some (.int .i64 pk.b) ∧ w'.cell? ⟨bx, 2, none⟩ = some (.string pk.s) ∧ w'.cell? ⟨g, j * 3, none⟩ = some (.int .i64 pk.a) ∧ w'.cell? ⟨g, j * 3 + 1, none⟩ = some (.int .i64 pk.b) ∧ w'.cell? ⟨g, j * 3 + 2, none⟩ = some (.string pk.s) ∧ Aside0 (Below w6.heap.size w6 w') from fun w' h => by
              have hbx := (h.block bx (Array.getElem?_eq_some_iff.1 HA.out.1).1).trans HA.out.1
              have hox := (h.block o (Array.getElem?_eq_some_iff.1 HA.out.2).1).trans HA.out.2
              exact ⟨blk_cell hox 1, (FR w' h).1, blk_cell hbx 0, blk_cell hbx 1, blk_cell hbx 2, (GX w' h).1, (GX w' h).2.1, (GX w' h).2.2, ⟨h⟩⟩)
            have hjl := (List.getElem?_eq_some_iff.1 hx).1
            clear FR FX GX hbk H6 hx
            have g1 : decide ((0 : Int) ≤ (j : Int)) = true := decide_eq_true (by omega)
            have g2 : decide ((j : Int) < (L2.length : Int)) = true := decide_eq_true (by omega)
            have g3 : decide (j < L2.length) = true := decide_eq_true hjl
            have hna : (a != a) = false := bne_self_eq_false a
            obtain ⟨m0, m1, m2, m3, m4, m5, m6, m7, _⟩ := LA.out w6 (Below.refl _ _)
            have k0 := cell_regrown m0
            have k1 := cell_regrown m1
            have k2 := cell_regrown m2
            have k3 := cell_regrown m3
            have k4 := cell_regrown m4
            have k5 := cell_regrown m5
            have k6 := cell_regrown m6
            have k7 := cell_regrown m7
            have cL : ∀ d os, Calls Try.prog 15 #[.pointer (some ⟨B, 0, none⟩)] (grow (redrawn w6 d) os) fun e w'' => e = .returned (.int .i64 L2.length) ∧ ∃ p : Regrown, w'' = grow (redrawn w6 p.d) p.os := fun d os => Calls.regrown_of ((n_len (H7.out.1.below (below_regrown w6 d os)).1).mono fun e w' ⟨h1, h2⟩ => ⟨h1, by rw [h2]; exact Below.refl _ _⟩)
            have cS : ∀ d os, Calls Try.prog 26 #[.agg #[.int .i64 pk.a, .int .i64 pk.b, .string pk.s], .agg #[.int .i64 pk.a, .int .i64 pk.b, .string pk.s]] (grow (redrawn w6 d) os) fun e w'' => e = .returned (.bool true) ∧ ∃ p : Regrown, w'' = grow (redrawn w6 p.d) p.os := fun d os => Calls.regrown_of (same_c pk _)
            clear m0 m1 m2 m3 m4 m5 m6 m7
            refine wp_region_quiet_below (by kernel_rfl) (by kernel_rfl) ?_
            repeat (go_big_quiet_step (first | exact cL _ _ | exact cS _ _))
            refine wpQuiet_nil ?_
            intro _ hw'
            obtain ⟨⟨dq, osq⟩, hw''⟩ := hw'
            subst hw''
            have H8 := Aside0.mk (H7.out.1.below (below_regrown w6 dq osq)).1
            clear k0 k1 k2 k3 k4 k5 k6 k7 cL cS
            go_wp2_with fail
            exact ⟨⟨k + 1, L2, Cs2, Nat.succ_le_of_lt hlt, by first | exact iw_succ k | exact iv_succ hwk.out, ⟨H8.out, H7.out.2.1, H7.out.2.2⟩⟩, by first | exact iw_meas hlt | exact iv_meas hwk.out hlt⟩
    · as_aux_lemma =>
        have hkl : k = l.length := by omega
        subst hkl
        have hd1 : decide ((l.length : Int) < (l.length : Int)) = false := decide_eq_false (Int.lt_irrefl _)
        have H4 := Aside0.mk (And.intro H3.out.1 H3.out.2.1)
        clear H3
        go_wp2_with fail
        go_loopw [20] (fun i2 wq => ∃ j : Nat, j ≤ L.length ∧ i2 = .int .i64 j ∧ Aside0 (St W wq B R L L (Cc Cs) Cs l.length)) (fun i2 _ => L.length - (intOf i2).toNat)
        case atStart => exact ⟨0, Nat.zero_le _, rfl, ⟨H4.out.1⟩⟩
        case round =>
          obtain ⟨j, hj, rfl, H6⟩ := hrel
          have hL8 := H4.out.2.1
          obtain ⟨pL, cL, q2, e2, _, _, FR, FX⟩ := ref_facts H6.out.ref
          obtain ⟨r0, _, _, _⟩ := FR _ (Below.refl _ _)
          by_cases hlj : j < L.length
          · have hwj := Aside0.mk (show wrap64 ((j : Int) + 1) = (j : Int) + 1 by unfold wrap64; omega)
            have hbk : isB L (j : Int) = true := isB_nat hlj
            obtain ⟨j2, hj2, hx⟩ := isB_in hbk
            obtain rfl : j2 = j := by omega
            have HPK := Aside0.mk (n_peek H6.out (j2 : Int))
            rw [hbk] at HPK
            generalize pkA L (j2 : Int) = pk at *
            unfold pval at HPK
            clear FR FX hj2 hbk hL8
            go_wp2_with fail
            refine HPK.out.mono ?_
            rintro e w5 ⟨rfl, hb5⟩
            have hs5 := H6.out.below hb5
            have bA := below_alloc (Below.refl w5.heap.size w5) (.cells #[.int .i64 pk.a, .int .i64 pk.b, .string pk.s] 27)
            have hA1 := heap_alloc_new w5 (.cells #[.int .i64 pk.a, .int .i64 pk.b, .string pk.s] 27)
            have H7 := Aside0.mk (hs5.1.below bA).1
            have HA := Aside0.mk hA1
            clear hs5 bA hA1 hb5 HPK r0
            go_upto_region 54 with (fail)
            generalize hw6 : w5.alloc (.cells #[.int .i64 pk.a, .int .i64 pk.b, .string pk.s] 27) = w6 at *
            generalize w5.heap.size = bx at *
            obtain ⟨pL, cL, q2, e2, _, _, FR, FX⟩ := ref_facts H7.out.ref
            obtain ⟨g, rfl, GX⟩ := FX j2 pk hx
            have LA := Aside0.mk (show ∀ w', Below w6.heap.size w6 w' → w'.cell? ⟨R, 0, none⟩ = some (.slice (some ⟨g, 0, none⟩) L.length cL) ∧ w'.cell? ⟨bx, 0, none⟩ = some (.int .i64 pk.a) ∧ w'.cell? ⟨bx, 1, none⟩ = some (.int .i64 pk.b) ∧ w'.cell? ⟨bx, 2, none⟩ = some (.string pk.s) ∧ w'.cell? ⟨g, j2 * 3, none⟩ = some (.int .i64 pk.a) ∧ w'.cell? ⟨g, j2 * 3 + 1, none⟩ = some (.int .i64 pk.b) ∧ w'.cell? ⟨g, j2 * 3 + 2, none⟩ = some (.string pk.s) ∧ Aside0 (Below w6.heap.size w6 w') from fun w' h => by
              have hbx := (h.block bx (Array.getElem?_eq_some_iff.1 HA.out).1).trans HA.out
              exact ⟨(FR w' h).1, blk_cell hbx 0, blk_cell hbx 1, blk_cell hbx 2, (GX w' h).1, (GX w' h).2.1, (GX w' h).2.2, ⟨h⟩⟩)
            clear FR FX GX hx
            go_region_held3 (fun w' => w'.cell? ⟨R, 0, none⟩ = some (.slice (some ⟨g, 0, none⟩) L.length cL) ∧ w'.cell? ⟨bx, 0, none⟩ = some (.int .i64 pk.a) ∧ w'.cell? ⟨bx, 1, none⟩ = some (.int .i64 pk.b) ∧ w'.cell? ⟨bx, 2, none⟩ = some (.string pk.s) ∧ w'.cell? ⟨g, j2 * 3, none⟩ = some (.int .i64 pk.a) ∧ w'.cell? ⟨g, j2 * 3 + 1, none⟩ = some (.int .i64 pk.b) ∧ w'.cell? ⟨g, j2 * 3 + 2, none⟩ = some (.string pk.s) ∧ Aside0 (Below w6.heap.size w6 w'))
              (first
                | exact LA.out _ (below_drew1 (Below.refl _ _))
                | (go_split_ands
                   first
                   | (refine LA.out _ (Aside0.out ?_); assumption)
                   | (refine LA.out _ (below_drew1 (Aside0.out ?_)); assumption)
                   | (refine LA.out _ (below_step (Aside0.out ?_) hb8); assumption)))
              (first
                | (go_at_call 26; refine (same_c pk _).mono ?_; rintro e w8 ⟨rfl, hb8⟩))
            all_goals
              go_split_ands
              have hbl : Aside0 (Below w6.heap.size w6 w8) := by assumption
              have H8 := Aside0.mk (H7.out.below hbl.out).1
              go_wp2_with fail
              exact ⟨⟨j2 + 1, Nat.succ_le_of_lt hlj, by first | exact iw_succ j2 | exact iv_succ hwj.out, H8⟩, by first | exact iw_meas hlj | exact iv_meas hwj.out hlj⟩
          · have hjl : j = L.length := by omega
            subst hjl
            have hd2 : decide ((L.length : Int) < (L.length : Int)) = false := decide_eq_false (Int.lt_irrefl _)
            clear FR FX hL8
            go_wp2_with fail
            refine (alive_c _).mono ?_
            rintro e w9 ⟨rfl, hb9⟩
            have H9 := Aside0.mk (H6.out.below hb9).1
            clear hb9
            go_wp2
            go_ret
            exact ⟨rfl, H9.out.bel⟩
end Go.Proofs.Ytbcgeajnmnnbhaa.Nt
