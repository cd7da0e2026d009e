/- DrR, DrP, DrA: these texts as one. -/
import Derived.Test.YtdfaoafeojoceaaDrX
import Derived.Test.YtdfaoafeojoceaaDrZ
set_option linter.unusedSimpArgs false
set_option linter.unusedVariables false
namespace Go.Proofs.Ytdfaoafeojoceaa.Dr
open Go.Maps Go.Proofs Go.Proofs.Ytdfaoafeojoceaa.PAll Go.Proofs.Ytdfaoafeojoceaa.Pb Go.Proofs.Ytdfaoafeojoceaa.Pure Go.Proofs.Ytdfaoafeojoceaa.Rw Go.Proofs.YtdfaoafeojoceaaW.PrintWords Go.RowKit

/-! ### DrR -/
theorem shN_mem (l : List En) (pins : List Int) : ∀ k, k ≤ l.length → ∀ x ∈ shN l pins k, x ∈ l
  | 0, _, x, hx => by cases hx
  | k + 1, hk, x, hx => by
    unfold shN at hx
    split at hx
    · rcases List.mem_append.1 hx with h | h
      · exact shN_mem l pins k (by omega) x h
      · rw [enAt_eq (List.getElem?_eq_getElem (show k < l.length by omega)), List.mem_singleton] at h
        subst h
        exact List.getElem_mem _
    · exact shN_mem l pins k (by omega) x hx
theorem shadow_mem {l : List En} {pins : List Int} {x : En} (h : x ∈ shadowP l pins) : x ∈ l := shN_mem l pins l.length (Nat.le_refl _) x h
theorem skOf_mem (pins : List Int) (l : List En) : ∀ x ∈ skOf pins l, x ∈ l := by
  have key : ∀ (l out : List En), ∀ x ∈ l.foldl (skStep pins) out, x ∈ out ∨ x ∈ l := by
    intro l
    induction l with
    | nil => intro out x hx; exact .inl hx
    | cons y r ih =>
      intro out x hx
      rcases ih _ x hx with h | h
      · unfold skStep at h
        split at h
        · exact .inl h
        · rcases List.mem_append.1 h with h | h
          · exact .inl h
          · rw [List.mem_singleton] at h; subst h; exact .inr (List.mem_cons_self)
      · exact .inr (List.mem_cons_of_mem _ h)
  intro x hx
  rcases key l [] x hx with h | h
  · cases h
  · exact h
theorem sunk_mem {l : List En} {pins : List Int} {x : En} (h : x ∈ sunkP l pins) : x ∈ l := by
  have := skOf_mem pins l.reverse x (List.mem_reverse.1 h)
  exact List.mem_reverse.1 this
theorem sunk_le (l : List En) (pins : List Int) : (sunkP l pins).length ≤ l.length := by
  unfold sunkP
  rw [List.length_reverse]
  have := skOf_le pins l.reverse
  simpa using this
/-- What a call of Run answers. -/
def midP (l : List En) (bottom : Bool) (pins : List Int) : List En := if bottom then sunkP (shadowP l pins) pins else shadowP l pins
def runP (Mo : Option (ByteArray → Option (List Sp))) (l : List En) (bottom : Bool) (pins : List Int) : List En :=
  match Mo with
  | some M => if pins.length = 0 then (midP l bottom pins).filter (fun x => !goesP M x.f0) else midP l bottom pins
  | none => midP l bottom pins
theorem runP_none (l : List En) (bottom : Bool) (pins : List Int) : runP none l bottom pins = midP l bottom pins := rfl
theorem runP_some0 (M : ByteArray → Option (List Sp)) (l : List En) (bottom : Bool) {pins : List Int} (h : pins.length = 0) : runP (some M) l bottom pins = (midP l bottom pins).filter (fun x => !goesP M x.f0) := if_pos h
theorem runP_some (M : ByteArray → Option (List Sp)) (l : List En) (bottom : Bool) {pins : List Int} (h : ¬ pins.length = 0) : runP (some M) l bottom pins = midP l bottom pins := if_neg h
theorem mid_le (l : List En) (bottom : Bool) (pins : List Int) : (midP l bottom pins).length ≤ l.length := by
  have h1 := shN_le l pins l.length
  unfold midP
  cases bottom
  · exact h1
  · exact Nat.le_trans (sunk_le _ _) h1
theorem mid_mem {l : List En} {bottom : Bool} {pins : List Int} {x : En} (h : x ∈ midP l bottom pins) : x ∈ l := by
  unfold midP at h
  cases bottom
  · exact shadow_mem h
  · exact shadow_mem (sunk_mem h)
theorem pred_c {W0 : World} {Bf B n : Nat} {M : ByteArray → Option (List Sp)} (hB : W0.heap[Bf]? = some (.cells #[.pointer (some ⟨B, 0, none⟩)] 25 (0, 0))) (hF : FiltAt W0 B M n) (hM : ∀ s l, M s = some l → l.length ≤ 1000000) :
    PredIn W0 W0.heap.size Bf (fun x => goesP M x.f0) := by
  intro W' x hx hb
  have hb1 := below_alloc (Below.refl W'.heap.size W') (.cells #[.string x.f0, .int .u64 x.f1, .int .i64 x.f2, .string x.f3] 37)
  have hBl := (Array.getElem?_eq_some_iff.1 hB).1
  have hB1 := (hb1.block Bf (Nat.lt_of_lt_of_le hBl hb.size)).trans ((hb.block Bf hBl).trans hB)
  have cB : (W'.alloc (.cells #[.string x.f0, .int .u64 x.f1, .int .i64 x.f2, .string x.f3] 37)).cell? ⟨Bf, 0, none⟩ = some (.pointer (some ⟨B, 0, none⟩)) := blk_cell hB1 0
  have HG := Aside0.mk (goes_c ((hF.below hb).below hb1) hx hM)
  have HB := Aside0.mk hb1
  clear hb hb1 hB1 hF hM
  go_enter Try.func29, Try.ntmps29
  go_wp2_with fail
  refine HG.out.mono ?_
  rintro e w2 ⟨rfl, hb2⟩
  have HZ := Aside0.mk (below_step HB.out hb2)
  clear hb2
  go_wp2
  go_ret
  exact ⟨rfl, HZ.out⟩
set_option maxRecDepth 100000 in
set_option maxHeartbeats 8000000 in
theorem run_c {W : World} {A B : Option Addr} {l : List En} {pins : List Int} (hr : Reads KE W A l) (hp : Reads KN W B pins) (c c2 : Nat) (hl : l.length ≤ 100000) (hn : pins.length ≤ 1000) (hw : ∀ p ∈ pins, (Lit.int .u64 p).wf = true) (hk : ∀ x ∈ l, x.f0.size ≤ 1000000)
    (q : Option Addr) (Mo : Option (ByteArray → Option (List Sp))) (hf : (q = none ∧ Mo = none) ∨ ∃ B M n, q = some ⟨B, 0, none⟩ ∧ Mo = some M ∧ FiltAt W B M n ∧ ∀ s l, M s = some l → l.length ≤ 1000000) (bottom : Bool) :
    Calls Try.prog 13 #[.slice A l.length c, .pointer q, .bool bottom, .slice B pins.length c2] W fun e w' => ∃ A' c', e = .returned (.slice A' (runP Mo l bottom pins).length c') ∧ Rw.Own KE 37 w' W.heap.size A' c' (runP Mo l bottom pins) ∧ Below W.heap.size W w' := by
  have hb0 := below_alloc (Below.refl W.heap.size W) (.cells #[.pointer q] 25)
  have HS := Aside0.mk (shadow_c (hr.below hb0) (hp.below hb0) c c2 hl hn hw)
  have HB0 := Aside0.mk (heap_alloc_new W (.cells #[.pointer q] 25))
  have Hb0 := Aside0.mk hb0
  have HP := Aside0.mk (hp.below hb0)
  have hsle := shN_le l pins l.length
  have HD : Aside0 (∀ B M n, q = some ⟨B, 0, none⟩ → FiltAt W B M n → (∀ s l, M s = some l → l.length ≤ 1000000) → ∀ (w2 : World) (A2 : Option Addr) (c2 : Nat), (W.alloc (.cells #[.pointer q] 25)).heap.size ≤ w2.heap.size → Below (W.alloc (.cells #[.pointer q] 25)).heap.size (W.alloc (.cells #[.pointer q] 25)) w2 → Rw.Own KE 37 w2 (W.alloc (.cells #[.pointer q] 25)).heap.size A2 c2 (midP l bottom pins) →
      Calls Try.prog 28 #[.slice A2 (midP l bottom pins).length c2, .func (.func 29) #[] #[.pointer (some ⟨W.heap.size, 0, none⟩)]] w2 fun e w' => ∃ A' c', e = .returned (.slice A' ((midP l bottom pins).filter fun x => !goesP M x.f0).length c') ∧ Rw.Own KE 37 w' (W.alloc (.cells #[.pointer q] 25)).heap.size A' c' ((midP l bottom pins).filter fun x => !goesP M x.f0) ∧ Below (W.alloc (.cells #[.pointer q] 25)).heap.size (W.alloc (.cells #[.pointer q] 25)) w') := ⟨by
    intro B M n e hF hM w2 A2 c2 hs2 hb2 ho2
    have hmid := mid_le l bottom pins
    exact del_c (pred_c (by rw [heap_alloc_new, e]) (hF.below hb0) hM) hb2 hs2 (Nat.le_refl _) ho2 (fun x hx => hk x (mid_mem hx)) (by omega)⟩
  have HF := Aside0.mk hf
  clear hr hp hw hk hf hb0
  go_enter Try.func13, Try.ntmps13
  go_wp2_with fail
  refine HS.out.mono ?_
  rintro e w1 ⟨A1, c1, rfl, ho1, hb1⟩
  have HO1 := Aside0.mk ho1
  have HB1 := Aside0.mk hb1
  clear ho1 hb1 HS
  cases bottom
  case' true =>
    have HU := Aside0.mk (sunk_c HO1.out.reads (HP.out.below HB1.out) c1 c2 (by show (shN l pins l.length).length ≤ _; omega) (by omega))
    go_wp2_with fail
    refine HU.out.mono ?_
    rintro e w2 ⟨A2, c2', rfl, ho2, hb2⟩
    have HO2 := Aside0.mk (show Rw.Own KE 37 w2 (W.alloc (.cells #[.pointer q] 25)).heap.size A2 c2' (midP l true pins) from ho2.less HB1.out.size)
    have HB2 := Aside0.mk (show Below (W.alloc (.cells #[.pointer q] 25)).heap.size (W.alloc (.cells #[.pointer q] 25)) w2 from HB1.out.trans (hb2.mono HB1.out.size))
    obtain ⟨mid, hmid⟩ : ∃ mid, mid = midP l true pins := ⟨_, rfl⟩
    rw [show sunkP (shadowP l pins) pins = midP l true pins from rfl, ← hmid]
    rw [← hmid] at HO2
    clear ho2 hb2 HU HO1
  case' false =>
    obtain ⟨w2, hw2⟩ : ∃ w2, w2 = w1 := ⟨_, rfl⟩
    obtain ⟨A2, hA2⟩ : ∃ A2, A2 = A1 := ⟨_, rfl⟩
    obtain ⟨c2', hc2⟩ : ∃ c2', c2' = c1 := ⟨_, rfl⟩
    subst w1 A1 c1
    have HO2 := Aside0.mk (show Rw.Own KE 37 w2 (W.alloc (.cells #[.pointer q] 25)).heap.size A2 c2' (midP l false pins) from HO1.out)
    have HB2 := Aside0.mk HB1.out
    obtain ⟨mid, hmid⟩ : ∃ mid, mid = midP l false pins := ⟨_, rfl⟩
    rw [show shadowP l pins = midP l false pins from rfl, ← hmid]
    rw [← hmid] at HO2
    clear HO1
  all_goals
    have cF : w2.cell? ⟨W.heap.size, 0, none⟩ = some (.pointer q) := blk_cell ((HB2.out.block _ (by simp)).trans HB0.out) 0
    have HM := Aside0.mk hmid
    clear hmid
    rcases HF.out with ⟨rfl, rfl⟩ | ⟨Bq, M, n, rfl, rfl, hFilt, hM⟩
    · have HZ := Aside0.mk (And.intro (HO2.out.less (show W.heap.size ≤ _ by simp)) (Hb0.out.trans (HB2.out.mono (by simp))))
      go_wp2
      go_ret
      refine ⟨A2, c2', ?_, ?_, HZ.out.2⟩
      · rw [runP_none, ← HM.out]; rfl
      · rw [runP_none, ← HM.out]; exact HZ.out.1
    · by_cases hn0 : pins.length = 0
      · have HD2 := HD.out Bq M n rfl hFilt hM w2 A2 c2' HB2.out.size HB2.out
        rw [← HM.out] at HD2
        have HD3 := Aside0.mk (HD2 HO2.out)
        have hpl : ((pins.length : Int) == 0) = true := by rw [beq_iff_eq]; omega
        clear HD2 hFilt hM
        have HN := Aside0.mk hn0
        clear hn0
        go_wp2_with fail
        refine HD3.out.mono ?_
        rintro e w3 ⟨A3, c3, rfl, ho3, hb3⟩
        have HZ := Aside0.mk (And.intro (ho3.less (show W.heap.size ≤ _ by simp)) (Hb0.out.trans (hb3.mono (by simp))))
        clear ho3 hb3 HD3
        go_wp2
        go_ret
        refine ⟨A3, c3, ?_, ?_, HZ.out.2⟩
        · rw [runP_some0 _ _ _ HN.out, ← HM.out]; rfl
        · rw [runP_some0 _ _ _ HN.out, ← HM.out]; exact HZ.out.1
      · have hpl : ((pins.length : Int) == 0) = false := by rw [beq_eq_false_iff_ne]; omega
        have HN := Aside0.mk hn0
        have HZ := Aside0.mk (And.intro (HO2.out.less (show W.heap.size ≤ _ by simp)) (Hb0.out.trans (HB2.out.mono (by simp))))
        clear hn0 hFilt hM
        go_wp2
        go_ret
        refine ⟨A2, c2', ?_, ?_, HZ.out.2⟩
        · rw [runP_some _ _ _ HN.out, ← HM.out]; rfl
        · rw [runP_some _ _ _ HN.out, ← HM.out]; exact HZ.out.1

/-! ### DrP -/
theorem u8_nat {a : Int} (h : 0 ≤ a ∧ a < 256) : (((UInt8.ofNat a.toNat).toNat : Nat) : Int) = a := by
  simp
  omega
theorem db_size (a b c d n : Int) : (ba (db a b c d n)).size = 12 := by rw [size_ba, db_length]
theorem dN_db {a b c d n : Int} (h : Dt a b c d n) : dN (ba (db a b c d n)) = n := by
  unfold dN
  rw [ls_ba]
  have e : ((db a b c d n).drop 4).take 8 = be 8 n.toNat := by
    unfold db
    rw [List.drop_append_of_le_length (by simp)]
    simp [List.take_of_length_le]
  rw [e, unL_be]
  have := h.n
  simp
  omega
theorem inSp_db {a b c d n : Int} (h : Dt a b c d n) (x : Sp) : inSp (ba (db a b c d n)) x = ((x.a == a && x.b == b && x.c == c && x.d == d) && decide (x.fr ≤ n) && decide (n ≤ x.tt)) := by
  unfold inSp
  rw [dN_db h]
  simp only [bt_ls, ls_ba]
  have e0 : ((((db a b c d n).getD (0 : Int).toNat 0).toNat : Nat) : Int) = a := u8_nat h.a
  have e1 : ((((db a b c d n).getD (1 : Int).toNat 0).toNat : Nat) : Int) = b := u8_nat h.b
  have e2 : ((((db a b c d n).getD (2 : Int).toNat 0).toNat : Nat) : Int) = c := u8_nat h.c
  have e3 : ((((db a b c d n).getD (3 : Int).toNat 0).toNat : Nat) : Int) = d := u8_nat h.d
  rw [e0, e1, e2, e3]
theorem ls_ext (s : ByteArray) (n : Nat) : ls (s.extract 0 n) = (ls s).take n := by rw [ls_extract, List.drop_zero]
theorem tl_app (pre bs : ByteArray) (h : bs.size = 12) : tl (pre ++ bs) = bs := by
  apply ls_inj
  unfold tl
  rw [ls_extract, ls_append]
  have hz : (pre ++ bs).size = (ls pre).length + (ls bs).length := by rw [← ls_length, ls_append, List.length_append]
  have hb : (ls bs).length = 12 := by rw [ls_length, h]
  rw [hz, List.take_of_length_le (by rw [List.length_append]; exact Nat.le_refl _), hb, Nat.add_sub_cancel, List.drop_left]
/-- The first prefix that has a rule, from a length on downward. -/
theorem goesN_hit (M : ByteArray → Option (List Sp)) (key : ByteArray) (k : Nat) (l : List Sp) (hl : M (key.extract 0 k) = some l) : ∀ m, k < m → (∀ n, k < n → n < m → M (key.extract 0 n) = none) → goesN M key m = l.any (inSp (tl key))
  | 0, h, _ => by omega
  | m + 1, h, hn => by
    show (match M (key.extract 0 m) with | some l => l.any (inSp (tl key)) | none => goesN M key m) = _
    by_cases e : k = m
    · subst e
      rw [hl]
    · rw [hn m (by omega) (by omega)]
      exact goesN_hit M key k l hl m (by omega) (fun n h1 h2 => hn n h1 (by omega))
theorem goesN_miss (M : ByteArray → Option (List Sp)) (key : ByteArray) : ∀ m, (∀ n, n < m → M (key.extract 0 n) = none) → goesN M key m = false
  | 0, _ => rfl
  | m + 1, hn => by
    show (match M (key.extract 0 m) with | some l => l.any (inSp (tl key)) | none => goesN M key m) = _
    rw [hn m (by omega)]
    exact goesN_miss M key m (fun n h => hn n (by omega))
theorem ext_app (pre bs : ByteArray) (n : Nat) (h : n ≤ pre.size) : (pre ++ bs).extract 0 n = pre.extract 0 n := by
  apply ls_inj
  rw [ls_ext, ls_ext, ls_append, List.take_append_of_le_length (by rw [ls_length]; exact h)]
theorem ext_all (pre : ByteArray) : pre.extract 0 pre.size = pre := by
  apply ls_inj
  rw [ls_ext, List.take_of_length_le (by rw [ls_length]; exact Nat.le_refl _)]
theorem ext_size (pre : ByteArray) (n : Nat) (h : n ≤ pre.size) : (pre.extract 0 n).size = n := by
  rw [← ls_length, ls_ext, List.length_take, ls_length]; omega
/-- A key that ends with twelve bytes, at a rule's prefix q: the rules for longer ones are not its own. -/
theorem goesP_at (M : ByteArray → Option (List Sp)) (q rest bs : ByteArray) (hb : bs.size = 12) (l : List Sp) (hq : M q = some l) (hM : ∀ s, q.size < s.size → M s = none) : goesP M (q ++ rest ++ bs) = l.any (inSp bs) := by
  have hsz : (q ++ rest ++ bs).size = q.size + rest.size + 12 := by rw [← ls_length]; simp [hb]; omega
  have hsz2 : (q ++ rest).size = q.size + rest.size := by rw [← ls_length]; simp
  unfold goesP
  rw [goesN_hit M _ q.size l (by rw [ext_app _ _ _ (by omega), ext_app _ _ _ (Nat.le_refl _), ext_all]; exact hq) _ (by omega) (fun n h1 h2 => hM _ (by rw [ext_app _ _ _ (by omega), ext_size _ _ (by omega)]; exact h1)), tl_app _ _ hb]
theorem upd_same (M : ByteArray → Option (List Sp)) (p : ByteArray) (l : List Sp) : upd M p l p = some l := if_pos rfl
theorem upd_other (M : ByteArray → Option (List Sp)) (p : ByteArray) (l : List Sp) {s : ByteArray} (h : s ≠ p) : upd M p l s = M s := if_neg h
theorem size_ne {s p : ByteArray} (h : s.size ≠ p.size) : s ≠ p := fun e => h (by rw [e])
theorem FS.filt {W W' : World} {s : (ByteArray → Option (List Sp)) × Nat} (h : FS W W' s) : FiltAt W' (W.heap.size + 1) s.1 s.2 := ⟨_, h.box, .inr ⟨_, rfl, h.map⟩⟩
/-- Rules just laid. -/
theorem rules_new {w : World} {rs : List Rv} (t : TypeId) {cs : Array Value} (hcs : cs.toList = rs.flatMap KR.enc) (h : ∀ r ∈ rs, Reads KS w r.A r.l ∧ (∀ a, r.A = some a → ∃ g o, a = ⟨g, o, none⟩) ∧ r.l.length ≤ 1000000 ∧ r.p.size ≤ 1000000) : Rules (w.alloc (.cells cs t)) (some ⟨w.heap.size, 0, none⟩) rs :=
  ⟨Reads.new t hcs, fun r hr => (h r hr).1.below (below_alloc (Below.refl _ _) _), fun r hr => (h r hr).2.1, fun r hr => (h r hr).2.2⟩
theorem rules_at {w : World} {rs : List Rv} {b : Nat} (hb : b = w.heap.size) (t : TypeId) {cs : Array Value} (hcs : cs.toList = rs.flatMap KR.enc) (h : ∀ r ∈ rs, Reads KS w r.A r.l ∧ (∀ a, r.A = some a → ∃ g o, a = ⟨g, o, none⟩) ∧ r.l.length ≤ 1000000 ∧ r.p.size ≤ 1000000) : Rules (w.alloc (.cells cs t)) (some ⟨b, 0, none⟩) rs := by
  subst hb; exact rules_new t hcs h
theorem new_at {W : World} {A : Option Addr} {rs : List Rv} {n b : Nat} (h : Rules W A rs) (hn : rs.length = n) (c : Nat) (hl : n ≤ 1000000) (hb : b = W.heap.size + 1) :
    Calls Try.prog 19 #[.slice A n c] W fun e W' => e = .returned (.pointer (some ⟨b, 0, none⟩)) ∧ FiltAt W' b (stOf rs).1 (stOf rs).2 ∧ Below W.heap.size W W' := by
  subst hn hb
  exact (new_c h c hl).mono fun e W' h => ⟨h.1, h.2.filt, h.2.bel⟩
theorem few_of (rs : List Rv) (h : ∀ r ∈ rs, r.l.length ≤ 1000000) : ∀ s l, (stOf rs).1 s = some l → l.length ≤ 1000000 := by
  have key : ∀ (rs : List Rv) (st : (ByteArray → Option (List Sp)) × Nat), (∀ r ∈ rs, r.l.length ≤ 1000000) → (∀ s l, st.1 s = some l → l.length ≤ 1000000) → ∀ s l, (rs.foldl (fun s r => (upd s.1 r.p r.l, if (s.1 r.p).isSome then s.2 else s.2 + 1)) st).1 s = some l → l.length ≤ 1000000 := by
    intro rs
    induction rs with
    | nil => intro st _ h; exact h
    | cons r t ih =>
      intro st h1 h2
      refine ih _ (fun x hx => h1 x (List.mem_cons_of_mem _ hx)) (fun s l hl => ?_)
      simp only [upd] at hl
      split at hl
      · cases hl; exact h1 r List.mem_cons_self
      · exact h2 s l hl
  exact key rs _ h (fun s l hl => by cases hl)

/-! ### DrA -/
def ae1 : En := ⟨⟨#[97]⟩, 2, 2, ⟨#[]⟩⟩
def ae2 : En := ⟨⟨#[97]⟩, 1, 1, ⟨#[]⟩⟩
def asp : Sp := ⟨0, 0, 0, 1, 4, 6⟩
theorem alive_run : (runP none [ae1, ae2] true []).length = 0 := by decide
theorem adt : Dt 0 0 0 1 5 := ⟨by decide, by decide, by decide, by decide, by decide⟩
def abs_ : ByteArray := ba (db 0 0 0 1 5)
theorem abs_bytes : ∃ K, cornucopiaref17_Bytes.f K 0 0 0 1 5 = some abs_ := by
  obtain ⟨K, h⟩ := RBytes_ev adt
  exact ⟨K, h K (Nat.le_refl _)⟩
theorem abs_size : abs_.size = 12 := db_size _ _ _ _ _
def aM : ByteArray → Option (List Sp) := upd (fun _ => none) ⟨#[112]⟩ [asp]
theorem alive_px : goesP aM (⟨#[112, 120]⟩ ++ abs_) = true := by
  have h := goesP_at aM ⟨#[112]⟩ ⟨#[120]⟩ abs_ abs_size [asp] (upd_same _ _ _) (fun s hs => upd_other _ _ _ (size_ne (by have : (⟨#[112]⟩ : ByteArray).size = 1 := rfl; omega)))
  rw [show (⟨#[112]⟩ : ByteArray) ++ ⟨#[120]⟩ = ⟨#[112, 120]⟩ from rfl] at h
  rw [h]
  show (inSp abs_ asp || false) = true
  rw [show abs_ = ba (db 0 0 0 1 5) from rfl, inSp_db adt]
  decide
theorem alive_x : goesP aM (⟨#[120]⟩ ++ abs_) = false := by
  have hz : (⟨#[120]⟩ ++ abs_ : ByteArray).size = 13 := by rw [← ls_length, ls_append, List.length_append, ls_length, ls_length, abs_size]; rfl
  unfold goesP
  refine goesN_miss _ _ _ fun n hn => upd_other _ _ _ fun e => ?_
  rw [ext_app _ _ _ (show n ≤ 1 by omega)] at e
  have : n = 0 ∨ n = 1 := by omega
  rcases this with rfl | rfl
  · exact absurd e (by decide)
  · exact absurd e (by decide)
set_option maxRecDepth 100000 in
set_option maxHeartbeats 8000000 in
theorem alive_c (W : World) : Calls Try.prog 9 #[] W fun e W' => e = .returned (.bool true) ∧ Below W.heap.size W W' := by
  obtain ⟨KB, hKB⟩ := abs_bytes
  have hb0 := below_alloc (Below.refl W.heap.size W) (.cells #[.string ⟨#[97]⟩, .int .u64 2, .int .i64 2, .string ⟨#[]⟩, .string ⟨#[97]⟩, .int .u64 1, .int .i64 1, .string ⟨#[]⟩] 37)
  have HR := Aside0.mk (run_c (W := W.alloc (.cells #[.string ⟨#[97]⟩, .int .u64 2, .int .i64 2, .string ⟨#[]⟩, .string ⟨#[97]⟩, .int .u64 1, .int .i64 1, .string ⟨#[]⟩] 37)) (A := some ⟨W.heap.size, 0, none⟩) (B := none) (l := [ae1, ae2]) (pins := []) (Reads.new _ rfl) (Reads.nil _ _) 2 0 (by decide) (by decide) (fun p hp => by cases hp) (fun x hx => by
    simp only [List.mem_cons, List.not_mem_nil, or_false] at hx
    rcases hx with rfl | rfl <;> decide) none none (.inl ⟨rfl, rfl⟩) true)
  have Hb0 := Aside0.mk hb0
  clear hb0
  go_enter Try.func9, Try.ntmps9
  go_wp2_with fail
  refine HR.out.mono ?_
  rintro e w1 ⟨A1, c1, rfl, _, hb1⟩
  rw [alive_run]
  have H1 := Aside0.mk (Hb0.out.trans (hb1.mono Hb0.out.size))
  clear hb1 HR
  go_wp2_with fail
  have hr1 : Reads KS ((w1.alloc (.cells #[.int .u8 0, .int .u8 0, .int .u8 0, .int .u8 1, .int .u64 5] 53)).alloc (.cells #[.int .u8 0, .int .u8 0, .int .u8 0, .int .u8 1, .int .u64 4, .int .u64 6] 47)) (some ⟨w1.heap.size + 1, 0, none⟩) [asp] := by
    have := Reads.new (K := KS) (L := [asp]) (W := w1.alloc (.cells #[.int .u8 0, .int .u8 0, .int .u8 0, .int .u8 1, .int .u64 5] 53)) (cs := #[.int .u8 0, .int .u8 0, .int .u8 0, .int .u8 1, .int .u64 4, .int .u64 6]) 47 rfl
    simpa using this
  have hru := rules_at (b := w1.heap.size + 1 + 1) (w := (w1.alloc (.cells #[.int .u8 0, .int .u8 0, .int .u8 0, .int .u8 1, .int .u64 5] 53)).alloc (.cells #[.int .u8 0, .int .u8 0, .int .u8 0, .int .u8 1, .int .u64 4, .int .u64 6] 47)) (rs := [⟨⟨#[112]⟩, some ⟨w1.heap.size + 1, 0, none⟩, 1, [asp]⟩]) (by simp) 57 (cs := #[.string ⟨#[112]⟩, .slice (some ⟨w1.heap.size + 1, 0, none⟩) 1 1]) rfl (by
    intro r hr
    simp only [List.mem_singleton] at hr
    subst hr
    exact ⟨hr1, fun a e => ⟨_, _, (Option.some.inj e).symm⟩, by simp, by show (1 : Nat) ≤ _; decide⟩)
  have HN := Aside0.mk (new_at (n := 1) (b := w1.heap.size + 1 + 1 + 1 + 1) hru rfl 1 (by decide) (by simp))
  have hbx : (((w1.alloc (.cells #[.int .u8 0, .int .u8 0, .int .u8 0, .int .u8 1, .int .u64 5] 53)).alloc (.cells #[.int .u8 0, .int .u8 0, .int .u8 0, .int .u8 1, .int .u64 4, .int .u64 6] 47)).alloc (.cells #[.string ⟨#[112]⟩, .slice (some ⟨w1.heap.size + 1, 0, none⟩) 1 1] 57)).heap[w1.heap.size]? = some (.cells #[.int .u8 0, .int .u8 0, .int .u8 0, .int .u8 1, .int .u64 5] 53) := (hao (by simp; omega)).trans ((hao (by simp)).trans (heap_alloc_new w1 _))
  have hb3 := below_alloc (below_alloc (below_alloc (Below.refl w1.heap.size w1) (.cells #[.int .u8 0, .int .u8 0, .int .u8 0, .int .u8 1, .int .u64 5] 53)) (.cells #[.int .u8 0, .int .u8 0, .int .u8 0, .int .u8 1, .int .u64 4, .int .u64 6] 47)) (.cells #[.string ⟨#[112]⟩, .slice (some ⟨w1.heap.size + 1, 0, none⟩) 1 1] 57)
  have Hb3 := Aside0.mk (And.intro hbx (H1.out.trans (hb3.mono H1.out.size)))
  clear hr1 hru hbx hb3
  go_wp2_with fail
  refine HN.out.mono ?_
  rintro e w2 ⟨rfl, hfs, hfb⟩
  have HF := Aside0.mk hfs
  have Hb2 := Aside0.mk (And.intro ((hfb.block _ (by simp; omega)).trans Hb3.out.1) (Hb3.out.2.trans (hfb.mono Hb3.out.2.size)))
  clear hfs hfb HN
  have d0 := blk_cell Hb2.out.1 0
  have d1 := blk_cell Hb2.out.1 1
  have d2 := blk_cell Hb2.out.1 2
  have d3 := blk_cell Hb2.out.1 3
  have d4 := blk_cell Hb2.out.1 4
  simp only [List.getElem?_toArray, List.getElem?_cons_zero, List.getElem?_cons_succ] at d0 d1 d2 d3 d4
  rw [show (stOf [⟨⟨#[112]⟩, some ⟨w1.heap.size + 1, 0, none⟩, 1, [asp]⟩]).1 = aM from rfl, show (stOf [⟨⟨#[112]⟩, some ⟨w1.heap.size + 1, 0, none⟩, 1, [asp]⟩]).2 = 1 from rfl] at HF
  go_wp2_with fail
  refine (cornucopiaref17_Bytes.calls KB 0 0 0 1 5 abs_ _ hKB).mono ?_
  rintro e w3 ⟨rfl, hb3⟩
  have hG := goes_c (HF.out.below hb3) (key := ⟨#[112, 120]⟩ ++ abs_) (by rw [← ls_length, ls_append, List.length_append, ls_length, ls_length, abs_size]; decide) (fun s l hl => by
    unfold aM upd at hl
    split at hl
    · cases hl; decide
    · cases hl)
  rw [alive_px] at hG
  have HG := Aside0.mk hG
  have Hb4 := Aside0.mk (And.intro ((hb3.block _ (Array.getElem?_eq_some_iff.1 Hb2.out.1).1).trans Hb2.out.1) (And.intro (HF.out.below hb3) (Hb2.out.2.trans (hb3.mono Hb2.out.2.size))))
  clear hb3 hG d0 d1 d2 d3 d4
  go_wp2_with fail
  refine HG.out.mono ?_
  rintro e w4 ⟨rfl, hb4⟩
  have Hb5 := Aside0.mk (And.intro ((hb4.block _ (Array.getElem?_eq_some_iff.1 Hb4.out.1).1).trans Hb4.out.1) (And.intro (Hb4.out.2.1.below hb4) (Hb4.out.2.2.trans (hb4.mono Hb4.out.2.2.size))))
  have d0 := blk_cell Hb5.out.1 0
  have d1 := blk_cell Hb5.out.1 1
  have d2 := blk_cell Hb5.out.1 2
  have d3 := blk_cell Hb5.out.1 3
  have d4 := blk_cell Hb5.out.1 4
  simp only [List.getElem?_toArray, List.getElem?_cons_zero, List.getElem?_cons_succ] at d0 d1 d2 d3 d4
  clear hb4 HG
  go_wp2_with fail
  refine (cornucopiaref17_Bytes.calls KB 0 0 0 1 5 abs_ _ hKB).mono ?_
  rintro e w5 ⟨rfl, hb5⟩
  have hG := goes_c (Hb5.out.2.1.below hb5) (key := ⟨#[120]⟩ ++ abs_) (by rw [← ls_length, ls_append, List.length_append, ls_length, ls_length, abs_size]; decide) (fun s l hl => by
    unfold aM upd at hl
    split at hl
    · cases hl; decide
    · cases hl)
  rw [alive_x] at hG
  have HG := Aside0.mk hG
  have Hb6 := Aside0.mk (And.intro (Hb5.out.2.1.below hb5) (Hb5.out.2.2.trans (hb5.mono Hb5.out.2.2.size)))
  clear hb5 hG d0 d1 d2 d3 d4
  go_wp2_with fail
  refine HG.out.mono ?_
  rintro e w6 ⟨rfl, hb6⟩
  have HL := Aside0.mk (len_c (Hb6.out.1.below hb6))
  have Hb7 := Aside0.mk (Hb6.out.2.trans (hb6.mono Hb6.out.2.size))
  clear hb6 HG
  go_wp2_with fail
  refine HL.out.mono ?_
  rintro e w7 ⟨rfl, rfl⟩
  go_wp2
  go_ret
  exact ⟨rfl, Hb7.out⟩
end Go.Proofs.Ytdfaoafeojoceaa.Dr
