/- DrH0, DrH, DrH1: these texts as one. -/
import Derived.Test.YtdfaoafeojoceaaDrI
import Derived.Test.YtdfaoafeojoceaaPAllx13
import Derived.Deep.DeepCutAuto
import Derived.Deep.CutBlock
set_option linter.unusedSimpArgs false
set_option linter.unusedVariables false
namespace Go.Proofs.Ytdfaoafeojoceaa.Dr
open Go.Maps Go.Proofs Go.Proofs.Ytdfaoafeojoceaa.PAll Go.Proofs.Ytdfaoafeojoceaa.Pb Go.Proofs.Ytdfaoafeojoceaa.Pure Go.Proofs.Ytdfaoafeojoceaa.Rw Go.Proofs.YtdfaoafeojoceaaW.PrintMore Go.Proofs.YtdfaoafeojoceaaW.PrintWords Go.RowKit

/-! ### DrH0 -/
theorem dtH {a b c d n : Int} (h : ((Lit.int .u8 a).wf = true ∧ (Lit.int .u8 b).wf = true ∧ (Lit.int .u8 c).wf = true ∧ (Lit.int .u8 d).wf = true) ∧ (Lit.int .u64 n).wf = true) : Dt a b c d n := by
  have k8 : ∀ n, (Lit.int .u8 n).wf = true → 0 ≤ n ∧ n < 256 := fun n h => by simp [Lit.wf, IntKind.min, IntKind.max, IntKind.signed, IntKind.bits] at h; omega
  have k64 : ∀ n, (Lit.int .u64 n).wf = true → 0 ≤ n ∧ n < 18446744073709551616 := fun n h => by simp [Lit.wf, IntKind.min, IntKind.max, IntKind.signed, IntKind.bits] at h; omega
  exact ⟨k8 _ h.1.1, k8 _ h.1.2.1, k8 _ h.1.2.2.1, k8 _ h.1.2.2.2, k64 _ h.2⟩
theorem app_szH (p q : ByteArray) : (p ++ q).size = p.size + q.size := by rw [← ls_length, ls_append, List.length_append, ls_length, ls_length]
structure Dd where
  a : Int
  b : Int
  c : Int
  d : Int
  n : Int
def dcells (x : Dd) : List Value := [.int .u8 x.a, .int .u8 x.b, .int .u8 x.c, .int .u8 x.d, .int .u64 x.n]
def KD : Lie Dd := ⟨dcells, 5, by decide, fun _ => rfl, fun x u hu => by
  simp only [dcells, List.mem_cons, List.not_mem_nil, or_false] at hu
  rcases hu with rfl | rfl | rfl | rfl | rfl <;> rfl⟩
abbrev DtD (x : Dd) : Prop := Dt x.a x.b x.c x.d x.n
def bD (x : Dd) : ByteArray := ba (db x.a x.b x.c x.d x.n)
def keyD (p name : ByteArray) (x : Dd) : ByteArray := p ++ name ++ bD x
theorem bD_size (x : Dd) : (bD x).size = 12 := db_size _ _ _ _ _
theorem key_size (p name : ByteArray) (x : Dd) : (keyD p name x).size = p.size + name.size + 12 := by unfold keyD; rw [app_szH, app_szH, bD_size]
def Good (p name : ByteArray) (D : List Dd) (l : List En) : Prop := ∀ y ∈ l, ∃ x ∈ D, y.f0 = keyD p name x
theorem ins_good {p name : ByteArray} {D : List Dd} {l : List En} (h : Good p name D l) {x : Dd} (hx : x ∈ D) (e : En) (he : e.f0 = keyD p name x) : Good p name D (insL l e) := by
  unfold insL
  split
  · exact h
  · intro y hy
    rw [List.mem_append, List.mem_append] at hy
    rcases hy with (hy | hy) | hy
    · exact h y (List.mem_of_mem_take hy)
    · rw [List.mem_singleton] at hy
      exact ⟨x, hx, by rw [hy, he]⟩
    · exact h y (List.mem_of_mem_drop hy)
theorem ins_len (l : List En) (e : En) : (insL l e).length ≤ l.length + 1 := by
  unfold insL
  split
  · omega
  · simp only [List.length_append, List.length_take, List.length_drop, List.length_singleton]; omega
/-- The rule's filter. -/
def M1 (p : ByteArray) (s : Sp) : ByteArray → Option (List Sp) := upd (fun _ => none) p [s]
theorem goes_in (p name : ByteArray) (s : Sp) (x : Dd) : goesP (M1 p s) (keyD p name x) = inSp (bD x) s := by
  unfold keyD M1
  rw [goesP_at _ p name _ (bD_size x) _ (upd_same _ _ _) (fun t ht => upd_other _ _ _ (size_ne (by omega)))]
  simp
theorem parse_pl {x : Dd} (hd : DtD x) (p name : ByteArray) (s : Sp) (h1 : 1 ≤ s.fr) : ∃ K r1 r2 r3 r4 r5 r6, cornucopiaref17_Parse.f K (bD x) = some (r1, r2, r3, r4, r5, r6) ∧ goesP (M1 p s) (keyD p name x) = ((r1 == s.a && r2 == s.b && r3 == s.c && r4 == s.d) && decide (s.fr ≤ r5) && decide (r5 ≤ s.tt)) := by
  have hz := bD_size x
  obtain ⟨K, hU⟩ := RUnfix_ev (bD x) 4 8 (by omega) (by omega) (by omega) (by omega)
  have hU : cornucopiaref1_Unfix.f K (bD x) 4 8 = some (dN (bD x), 0) := hU K (Nat.le_refl _)
  have hN : dN (bD x) = x.n := dN_db hd
  rw [goes_in]
  by_cases h0 : x.n = 0
  · refine ⟨K, 0, 0, 0, 0, 0, 4, ?_, ?_⟩
    · unfold cornucopiaref17_Parse.f
      rw [if_pos (by omega), hU]
      exact if_pos (by simpa [hN] using h0)
    · unfold inSp
      rw [hN, h0, decide_eq_false (show ¬ s.fr ≤ 0 by omega)]
      simp
  · refine ⟨K, bt (bD x) 0, bt (bD x) 1, bt (bD x) 2, bt (bD x) 3, dN (bD x), 0, ?_, ?_⟩
    · unfold cornucopiaref17_Parse.f
      rw [if_pos (by omega), hU]
      refine (if_neg (by simpa [hN] using h0)).trans ?_
      rw [if_pos (by omega), if_pos (by omega), if_pos (by omega), if_pos (by omega)]
    · unfold inSp
      rw [Bool.beq_comm (a := s.a), Bool.beq_comm (a := s.b), Bool.beq_comm (a := s.c), Bool.beq_comm (a := s.d)]
/-! ### what stays, step by step -/
def mN (p : ByteArray) (s : Sp) (l : List En) (k : Nat) : List En := (shN l [] k).filter (fun x => !goesP (M1 p s) x.f0)
def lastN (l : List En) (k : Nat) : ByteArray := if k = 0 then ⟨#[]⟩ else (enAt l (k - 1)).f0
theorem stays_nil (l : List En) (k : Nat) : staysL l [] k = firstAt l k := by unfold staysL; simp
theorem run_mN (p : ByteArray) (s : Sp) (l : List En) : runP (some (M1 p s)) l false [] = mN p s l l.length := runP_some0 _ _ _ rfl
theorem mN_dup {p : ByteArray} {s : Sp} {l : List En} {k : Nat} (h : firstAt l k = false) : mN p s l (k + 1) = mN p s l k := by
  unfold mN
  rw [shN, stays_nil, h]
  rfl
theorem mN_gone {p : ByteArray} {s : Sp} {l : List En} {k : Nat} (h : goesP (M1 p s) (enAt l k).f0 = true) : mN p s l (k + 1) = mN p s l k := by
  unfold mN
  rw [shN]
  split
  · rw [List.filter_append]; simp [h]
  · rfl
theorem mN_stays {p : ByteArray} {s : Sp} {l : List En} {k : Nat} (hf : firstAt l k = true) (h : goesP (M1 p s) (enAt l k).f0 = false) : mN p s l (k + 1) = mN p s l k ++ [enAt l k] := by
  unfold mN
  rw [shN, stays_nil, hf, if_pos rfl, List.filter_append]
  simp [h]
theorem mN_pre (p : ByteArray) (s : Sp) (l : List En) (k : Nat) : ∀ n, k ≤ n → mN p s l k <+: mN p s l n := by
  intro n hn
  induction n with
  | zero => rw [Nat.le_zero.1 hn]; exact List.prefix_refl _
  | succ n ih =>
    by_cases h : k = n + 1
    · rw [h]; exact List.prefix_refl _
    · refine (ih (by omega)).trans ?_
      unfold mN
      conv => rhs; rw [shN]
      split
      · rw [List.filter_append]; exact List.prefix_append _ _
      · exact List.prefix_refl _
theorem mN_at {p : ByteArray} {s : Sp} {l : List En} {k : Nat} (hk : k < l.length) (hf : firstAt l k = true) (h : goesP (M1 p s) (enAt l k).f0 = false) : (mN p s l l.length)[(mN p s l k).length]? = some (enAt l k) := by
  obtain ⟨t, ht⟩ := mN_pre p s l (k + 1) l.length hk
  rw [← ht, mN_stays hf h, List.append_assoc, List.getElem?_append_right (Nat.le_refl _), Nat.sub_self]
  rfl
theorem mN_le (p : ByteArray) (s : Sp) (l : List En) (k : Nat) : (mN p s l k).length ≤ k := Nat.le_trans (List.length_filter_le _ _) (shN_le l [] k)
theorem first_last {l : List En} {k : Nat} (h : 0 < k) : firstAt l k = !decide (lastN l k = (enAt l k).f0) := by
  obtain ⟨j, rfl⟩ : ∃ j, k = j + 1 := ⟨k - 1, by omega⟩
  rfl

/-! ### DrH -/
set_option maxRecDepth 100000 in
set_option maxHeartbeats 16000000 in
theorem dgoes_out (p : ByteArray) (s : Sp) (A : Option Addr) (c n : Nat) (name : ByteArray) (W : World) (h : (100 : Int) < p.size ∨ (100 : Int) < name.size ∨ (40 : Int) < n ∨ s.fr < 1 ∨ s.tt < s.fr) : Calls Try.prog 5 #[.string p, .agg #[.int .u8 s.a, .int .u8 s.b, .int .u8 s.c, .int .u8 s.d, .int .u64 s.fr, .int .u64 s.tt], .slice A n c, .string name] W fun e W' => e = .returned (.bool true) ∧ Below W.heap.size W W' := by
  have hbx := heap_alloc_new W (.cells #[.int .u8 s.a, .int .u8 s.b, .int .u8 s.c, .int .u8 s.d, .int .u64 s.fr, .int .u64 s.tt] 47)
  have d4 := blk_cell hbx 4
  have d5 := blk_cell hbx 5
  simp only [List.getElem?_toArray, List.getElem?_cons_zero, List.getElem?_cons_succ] at d4 d5
  have HA := Aside0.mk (alive_c (W.alloc (.cells #[.int .u8 s.a, .int .u8 s.b, .int .u8 s.c, .int .u8 s.d, .int .u64 s.fr, .int .u64 s.tt] 47)))
  have Hb := Aside0.mk (below_alloc (Below.refl W.heap.size W) (.cells #[.int .u8 s.a, .int .u8 s.b, .int .u8 s.c, .int .u8 s.d, .int .u64 s.fr, .int .u64 s.tt] 47))
  clear hbx
  have key : decide ((100 : Int) < p.size) = true ∨ decide ((100 : Int) < name.size) = true ∨ decide ((40 : Int) < n) = true ∨ decide (s.fr < 1) = true ∨ decide (s.tt < s.fr) = true := by simpa using h
  clear h
  rcases key with g | g | g | g | g
  all_goals
    go_enter Try.func5, Try.ntmps5
    go_wp2_with fail
    all_goals
      refine HA.out.mono ?_
      rintro e w1 ⟨rfl, hb1⟩
      have HZ := Aside0.mk (below_step Hb.out hb1)
      clear hb1
      go_wp2
      go_ret
      exact ⟨rfl, HZ.out⟩
theorem new1 {w : World} (p : ByteArray) (s : Sp) {b1 b2 b3 : Nat} (hp : p.size ≤ 1000) (hb1 : b1 = w.heap.size) (hb2 : b2 = w.heap.size + 1) (hb3 : b3 = w.heap.size + 3) :
    Calls Try.prog 19 #[.slice (some ⟨b2, 0, none⟩) 1 1] ((w.alloc (.cells #[.int .u8 s.a, .int .u8 s.b, .int .u8 s.c, .int .u8 s.d, .int .u64 s.fr, .int .u64 s.tt] 47)).alloc (.cells #[.string p, .slice (some ⟨b1, 0, none⟩) 1 1] 57)) fun e W' => e = .returned (.pointer (some ⟨b3, 0, none⟩)) ∧ FiltAt W' b3 (M1 p s) 1 ∧ Below w.heap.size w W' := by
  subst hb1
  have hs := Reads.new (K := KS) (L := [s]) (W := w) (cs := #[.int .u8 s.a, .int .u8 s.b, .int .u8 s.c, .int .u8 s.d, .int .u64 s.fr, .int .u64 s.tt]) 47 rfl
  have hz := @World.size_alloc w (.cells #[.int .u8 s.a, .int .u8 s.b, .int .u8 s.c, .int .u8 s.d, .int .u64 s.fr, .int .u64 s.tt] 47)
  have hr := rules_at (b := b2) (w := w.alloc (.cells #[.int .u8 s.a, .int .u8 s.b, .int .u8 s.c, .int .u8 s.d, .int .u64 s.fr, .int .u64 s.tt] 47)) (rs := [⟨p, some ⟨w.heap.size, 0, none⟩, 1, [s]⟩]) (by rw [hb2, hz]) 57 (cs := #[.string p, .slice (some ⟨w.heap.size, 0, none⟩) 1 1]) rfl (by
    intro r hr
    simp only [List.mem_cons, List.not_mem_nil, or_false] at hr
    subst hr
    exact ⟨hs, fun a e => ⟨_, _, (Option.some.inj e).symm⟩, by simp, by simp only; omega⟩)
  refine (new_at (b := b3) hr rfl 1 (by simp) (by simp [hb3])).mono ?_
  rintro e W' ⟨rfl, hF, hb⟩
  exact ⟨rfl, hF, (below_alloc (below_alloc (Below.refl _ _) _) _).trans (hb.mono (by simp; omega))⟩
theorem insert_v {W : World} {b0 c n : Nat} {A : Option Addr} {l : List En} (h : Rw.Own KE 37 W b0 A c l) (hn : l.length = n) (hl : n ≤ 10000) (f0 : ByteArray) (f1 f2 : Int) (f3 : ByteArray) (hk : ∀ y ∈ l, y.f0.size ≤ 1000000) (hx : f0.size ≤ 1000000) (hb : b0 ≤ W.heap.size) :
    Calls Try.prog 17 #[.slice A n c, .agg #[.string f0, .int .u64 f1, .int .i64 f2, .string f3]] W (InsO W b0 l ⟨f0, f1, f2, f3⟩) := by
  subst hn
  exact insert_c h hl ⟨f0, f1, f2, f3⟩ hk hx hb

/-! ### DrH1 -/
abbrev boxS (s : Sp) : Obj := .cells #[.int .u8 s.a, .int .u8 s.b, .int .u8 s.c, .int .u8 s.d, .int .u64 s.fr, .int .u64 s.tt] 47
theorem box_cells {w : World} {b : Nat} {s : Sp} (h : w.heap[b]? = some (boxS s)) : w.cell? ⟨b, 0, none⟩ = some (.int .u8 s.a) ∧ w.cell? ⟨b, 1, none⟩ = some (.int .u8 s.b) ∧ w.cell? ⟨b, 2, none⟩ = some (.int .u8 s.c) ∧ w.cell? ⟨b, 3, none⟩ = some (.int .u8 s.d) ∧ w.cell? ⟨b, 4, none⟩ = some (.int .u64 s.fr) ∧ w.cell? ⟨b, 5, none⟩ = some (.int .u64 s.tt) :=
  ⟨blk_cell h 0, blk_cell h 1, blk_cell h 2, blk_cell h 3, blk_cell h 4, blk_cell h 5⟩
theorem good_size {p name : ByteArray} {D : List Dd} {l : List En} (h : Good p name D l) (h1 : p.size ≤ 100) (h2 : name.size ≤ 100) : ∀ y ∈ l, y.f0.size ≤ 1000000 := fun y hy => by
  obtain ⟨x, _, e⟩ := h y hy
  rw [e, key_size]
  omega
theorem few1 (p : ByteArray) (s : Sp) : ∀ t l, M1 p s t = some l → l.length ≤ 1000000 := by
  intro t l h
  unfold M1 upd at h
  split at h
  · cases h; simp
  · cases h
theorem run1 {W : World} {b0 c n b : Nat} {A : Option Addr} {l : List En} (h : Rw.Own KE 37 W b0 A c l) (hn : l.length = n) (hl : n ≤ 10000) (hk : ∀ x ∈ l, x.f0.size ≤ 1000000) {p : ByteArray} {s : Sp} (hF : FiltAt W b (M1 p s) 1) :
    Calls Try.prog 13 #[.slice A n c, .pointer (some ⟨b, 0, none⟩), .bool false, .slice none 0 0] W fun e w' => ∃ A' c', e = .returned (.slice A' (mN p s l l.length).length c') ∧ Rw.Own KE 37 w' W.heap.size A' c' (mN p s l l.length) ∧ Below W.heap.size W w' := by
  subst hn
  have h := run_c (W := W) (B := none) (pins := []) h.reads (Reads.nil _ none) c 0 (by omega) (by simp) (by simp) hk (some ⟨b, 0, none⟩) (some (M1 p s)) (.inr ⟨b, _, _, rfl, rfl, hF, few1 p s⟩) false
  rw [run_mN] at h
  exact h
theorem neq_self (f0 : ByteArray) (f1 f2 : Int) (f3 : ByteArray) (w : World) : (binOp .neq 37 (.agg #[.string f0, .int .u64 f1, .int .i64 f2, .string f3]) (.agg #[.string f0, .int .u64 f1, .int .i64 f2, .string f3])).run Try.prog w = .ok (.bool false) w := by
  simp only [binOp]
  show (do let b ← Op.equalIn (9998 + 2) 37 (.agg #[.string f0, .int .u64 f1, .int .i64 f2, .string f3]) (.agg #[.string f0, .int .u64 f1, .int .i64 f2, .string f3]); pure (Value.bool (!b))).run Try.prog w = _
  rw [Sem.run_bind, eqA37]
  simp [Result.andThen]
def InsG (W : World) (b0 : Nat) (p name : ByteArray) (D : List Dd) (n : Nat) (e : Ending) (w' : World) : Prop := ∃ A' c' v l', e = .returned (.tuple #[.slice A' (List.length l') c', v]) ∧ (Rw.Own KE 37 w' b0 A' c' l' ∧ Good p name D l') ∧ l'.length ≤ n + 1 ∧ Below W.heap.size W w'
theorem insert_g {W : World} {b0 c n : Nat} {A : Option Addr} {l : List En} {p name : ByteArray} {D : List Dd} (h : Rw.Own KE 37 W b0 A c l) (hn : l.length = n) (hl : n ≤ 10000) (f0 : ByteArray) (f1 f2 : Int) (f3 : ByteArray) (hg : Good p name D l) (z1 : p.size ≤ 100) (z2 : name.size ≤ 100) {x : Dd} (hx : x ∈ D) (hf : keyD p name x = f0) (hb : b0 ≤ W.heap.size) :
    Calls Try.prog 17 #[.slice A n c, .agg #[.string f0, .int .u64 f1, .int .i64 f2, .string f3]] W (InsG W b0 p name D n) := by
  refine (insert_v h hn hl f0 f1 f2 f3 (good_size hg z1 z2) (by rw [← hf, key_size]; omega) hb).mono ?_
  rintro e w4 ⟨A2, c2, v, rfl, ho4, hb4⟩
  have hll := ins_len l ⟨f0, f1, f2, f3⟩
  exact ⟨A2, c2, v, _, rfl, ⟨ho4, ins_good hg hx _ hf.symm⟩, by omega, hb4⟩
set_option maxRecDepth 100000 in
set_option maxHeartbeats 16000000 in
theorem dgoes_in (p : ByteArray) (s : Sp) {A : Option Addr} (c : Nat) {D : List Dd} (name : ByteArray) {W : World} (hr : Reads KD W A D) (hD : ∀ x ∈ D, DtD x) (g1 : ¬ (100 : Int) < p.size) (g2 : ¬ (100 : Int) < name.size) (g3 : ¬ (40 : Int) < D.length) (g4 : ¬ s.fr < 1) (g5 : ¬ s.tt < s.fr) : Calls Try.prog 5 #[.string p, .agg #[.int .u8 s.a, .int .u8 s.b, .int .u8 s.c, .int .u8 s.d, .int .u64 s.fr, .int .u64 s.tt], .slice A D.length c, .string name] W fun e W' => e = .returned (.bool true) ∧ Below W.heap.size W W' := by
  have hbx := heap_alloc_new W (boxS s)
  have d4 := blk_cell hbx 4
  have d5 := blk_cell hbx 5
  have H0 := Aside0.mk (And.intro hbx (below_alloc (Below.refl W.heap.size W) (boxS s)))
  have z1 : p.size ≤ 100 := by omega
  have z2 : name.size ≤ 100 := by omega
  have z3 : D.length ≤ 40 := by omega
  have hpn := app_szH p name
  have HR := Aside0.mk (And.intro hr (And.intro hD (show 1 ≤ s.fr by omega)))
  have g1 : decide ((100 : Int) < p.size) = false := decide_eq_false g1
  have g2 : decide ((100 : Int) < name.size) = false := decide_eq_false g2
  have g3 : decide ((40 : Int) < D.length) = false := decide_eq_false g3
  have g4 : decide (s.fr < 1) = false := decide_eq_false g4
  have g5 : decide (s.tt < s.fr) = false := decide_eq_false g5
  obtain ⟨bx, hbxe⟩ : ∃ bx, bx = W.heap.size := ⟨_, rfl⟩
  have HBX := Aside0.mk hbxe
  clear hbx hr hD hbxe
  go_enter Try.func5, Try.ntmps5
  go_wp2_with fail
  rw [← HBX.out]
  clear g1 g2 g3 g4 g5 d4 d5
  go_loopw [9, 10] (fun s9 i wr => ∃ (k : Nat) (A1 : Option Addr) (c1 : Nat) (l : List En), k ≤ D.length ∧ i = .int .i64 k ∧ s9 = .slice A1 l.length c1 ∧ l.length ≤ k ∧ Aside0 (Rw.Own KE 37 wr W.heap.size A1 c1 l ∧ Good p name D l ∧ wr.heap[bx]? = some (boxS s) ∧ Below W.heap.size W wr)) (fun _ i _ => D.length - (intOf i).toNat)
  case atStart => exact ⟨0, none, 0, [], Nat.zero_le _, rfl, rfl, Nat.le_refl _, ⟨⟨Rw.Own.nil _ _ _ _, (show Good p name D [] from fun y hy => nomatch hy), by rw [HBX.out]; exact H0.out.1, H0.out.2⟩⟩⟩
  case round =>
    obtain ⟨k, A1, c1, l, hk, rfl, rfl, hlk, H1⟩ := hrel
    obtain ⟨w1, hw1⟩ : ∃ w1, w1 = wr := ⟨_, rfl⟩
    subst wr
    by_cases hlt : k < D.length
    · have hwk := Aside0.mk (show wrap64 ((k : Int) + 1) = (k : Int) + 1 by unfold wrap64; omega)
      have hR := HR.out.1.below H1.out.2.2.2
      obtain ⟨g, o, rfl, hg⟩ := hR.where hlt
      obtain ⟨x, hx⟩ : ∃ x, D[k]? = some x := ⟨_, List.getElem?_eq_getElem hlt⟩
      have c0 : w1.cell? ⟨g, o + k * 5, none⟩ = some (.int .u8 x.a) := hR.at hx (i := 0) rfl
      have c1' : w1.cell? ⟨g, o + k * 5 + 1, none⟩ = some (.int .u8 x.b) := hR.at hx (i := 1) rfl
      have c2' : w1.cell? ⟨g, o + k * 5 + 2, none⟩ = some (.int .u8 x.c) := hR.at hx (i := 2) rfl
      have c3 : w1.cell? ⟨g, o + k * 5 + 3, none⟩ = some (.int .u8 x.d) := hR.at hx (i := 3) rfl
      have c4 : w1.cell? ⟨g, o + k * 5 + 4, none⟩ = some (.int .u64 x.n) := hR.at hx (i := 4) rfl
      have hxm := List.mem_of_getElem? hx
      obtain ⟨KB, hKB⟩ := RBytes_ev (HR.out.2.1 x hxm)
      have hKB := hKB KB (Nat.le_refl _)
      have hbs := bD_size x
      have hky : keyD p name x = p ++ name ++ bD x := rfl
      change cornucopiaref17_Bytes.f KB x.a x.b x.c x.d x.n = some (bD x) at hKB
      have HX := Aside0.mk (And.intro hx (And.intro hxm hky))
      clear hx hxm hky hR hg
      generalize bD x = bs at *
      go_wp2_with fail
      refine (cornucopiaref17_Bytes.calls KB x.a x.b x.c x.d x.n bs _ hKB).mono ?_
      rintro e w3 ⟨rfl, hb3⟩
      have H3 := Aside0.mk (And.intro (H1.out.1.below hb3) (And.intro ((hb3.block bx (Array.getElem?_eq_some_iff.1 H1.out.2.2.1).1).trans H1.out.2.2.1) (H1.out.2.2.2.trans (hb3.mono H1.out.2.2.2.size))))
      clear hb3 c0 c1' c2' c3 c4 hKB
      have hps : (p ++ name ++ bs).size = p.size + name.size + 12 := by rw [app_szH, app_szH, hbs]
      go_wp2_with fail
      refine (insert_g H3.out.1 rfl (by omega) _ _ _ _ H1.out.2.1 z1 z2 HX.out.2.1 HX.out.2.2 H3.out.2.2.size).mono ?_
      rintro e w4 ⟨A2, c2, v, l2, rfl, ho4, hl4, hb4⟩
      have H4 : Aside0 (Rw.Own KE 37 w4 W.heap.size A2 c2 l2 ∧ Good p name D l2 ∧ w4.heap[bx]? = some (boxS s) ∧ Below W.heap.size W w4) := ⟨⟨ho4.1, ho4.2, (hb4.block bx (Array.getElem?_eq_some_iff.1 H3.out.2.1).1).trans H3.out.2.1, H3.out.2.2.trans (hb4.mono H3.out.2.2.size)⟩⟩
      have hl5 : l2.length ≤ k + 1 := by omega
      clear ho4 hb4 hl4 hps
      go_wp2_with fail
      exact ⟨⟨k + 1, A2, c2, l2, Nat.succ_le_of_lt hlt, by first | exact iw_succ k | exact iv_succ hwk.out, rfl, hl5, H4⟩, by first | exact iw_meas hlt | exact iv_meas hwk.out hlt⟩
    · have hkD : k = D.length := by omega
      subst hkD
      have hd1 : decide ((D.length : Int) < (D.length : Int)) = false := decide_eq_false (Int.lt_irrefl _)
      obtain ⟨q0, q1, q2, q3, q4, q5⟩ := box_cells H1.out.2.2.1
      clear H0
      go_wp2_with fail
      refine (new1 (w := w1) p s (b1 := w1.heap.size) (b3 := w1.heap.size + 3) (by omega) rfl rfl rfl).mono ?_
      rintro e w5 ⟨rfl, hF, hb5⟩
      have H5 := Aside0.mk (And.intro (H1.out.1.below hb5) (And.intro hF (And.intro ((hb5.block bx (Array.getElem?_eq_some_iff.1 H1.out.2.2.1).1).trans H1.out.2.2.1) (H1.out.2.2.2.trans (hb5.mono H1.out.2.2.2.size)))))
      clear hF hb5 q0 q1 q2 q3 q4 q5 hd1
      go_wp2_with fail
      refine (run1 H5.out.1 rfl (by omega) (good_size H1.out.2.1 z1 z2) H5.out.2.1).mono ?_
      rintro e w6 ⟨A2, c2, rfl, ho6, hb6⟩
      have H6 := Aside0.mk (And.intro (H5.out.1.below hb6).reads (And.intro ho6.reads (And.intro ((hb6.block bx (Array.getElem?_eq_some_iff.1 H5.out.2.2.1).1).trans H5.out.2.2.1) (H5.out.2.2.2.trans (hb6.mono H5.out.2.2.2.size)))))
      have HG := Aside0.mk H1.out.2.1
      clear ho6 hb6 H5 H1
      have hml := mN_le p s l l.length
      obtain ⟨m, hm⟩ : ∃ m, m = mN p s l l.length := ⟨_, rfl⟩
      have HM := Aside0.mk hm
      rw [← hm] at H6 hml ⊢
      clear hm
      go_wp2_with fail
      go_loopw [12, 13, 14] (fun s12 s13 i wr => ∃ (k : Nat), k ≤ l.length ∧ i = .int .i64 k ∧ s12 = .int .i64 (mN p s l k).length ∧ s13 = .string (lastN l k) ∧ Aside0 (Reads KE wr A1 l ∧ Reads KE wr A2 m ∧ wr.heap[bx]? = some (boxS s) ∧ Below W.heap.size W wr)) (fun _ _ i _ => l.length - (intOf i).toNat)
      case atStart => exact ⟨0, Nat.zero_le _, rfl, rfl, rfl, H6⟩
      case round =>
        obtain ⟨k, hk, rfl, rfl, rfl, H7⟩ := hrel
        obtain ⟨w7, hw7⟩ : ∃ w7, w7 = wr := ⟨_, rfl⟩
        subst wr
        by_cases hlt : k < l.length
        · have hwk := Aside0.mk (show wrap64 ((k : Int) + 1) = (k : Int) + 1 by unfold wrap64; omega)
          obtain ⟨g, o, rfl, hg⟩ := H7.out.1.where hlt
          obtain ⟨y, hy⟩ : ∃ y, l[k]? = some y := ⟨_, List.getElem?_eq_getElem hlt⟩
          have hyd := enAt_eq hy
          obtain ⟨x, hxm, hyk⟩ := HG.out y (List.mem_of_getElem? hy)
          obtain ⟨K, r1, r2, r3, r4, r5, r6, hP, hgo⟩ := parse_pl (HR.out.2.1 x hxm) p name s HR.out.2.2
          have hsz : y.f0.size = p.size + name.size + 12 := by rw [hyk, key_size]
          have hext : y.f0.extract (p.size + name.size) y.f0.size = bD x := by
            have := tl_app (p ++ name) (bD x) (bD_size x)
            unfold tl at this
            rw [show p ++ name ++ bD x = y.f0 from hyk.symm, hsz, Nat.add_sub_cancel] at this
            rw [hsz]
            exact this
          have y0 : w7.cell? ⟨g, o + k * 4, none⟩ = some (.string y.f0) := H7.out.1.at hy (i := 0) rfl
          have hfl := @first_last l k
          rw [hyd] at hfl
          rw [← hyk] at hgo
          obtain ⟨nn, hnn⟩ : ∃ nn, nn = p.size + name.size := ⟨_, rfl⟩
          rw [← hnn] at hsz hext
          have hw12 : wrap64 ((y.f0.size : Int) - 12) = (nn : Int) := by rw [hsz]; unfold wrap64; omega
          have hle : (nn : Int) ≤ (y.f0.size : Int) := by omega
          have hl0 : (0 : Int) ≤ (nn : Int) := by omega
          have he := eql_actor r1 r2 r3 r4 s.a s.b s.c s.d
          generalize (r1 == s.a && r2 == s.b && r3 == s.c && r4 == s.d) = q at *
          have HY := Aside0.mk (And.intro hy (And.intro hyd (And.intro hgo hsz)))
          have H9 : ∀ w8, Below w7.heap.size w7 w8 → Aside0 (Reads KE w8 (some ⟨g, o, none⟩) l ∧ Reads KE w8 A2 m ∧ w8.heap[bx]? = some (boxS s) ∧ Below W.heap.size W w8) := fun w8 h => ⟨⟨H7.out.1.below h, H7.out.2.1.below h, (h.block bx (Array.getElem?_eq_some_iff.1 H7.out.2.2.1).1).trans H7.out.2.2.1, H7.out.2.2.2.trans (h.mono H7.out.2.2.2.size)⟩⟩
          have H9 := Aside0.mk H9
          clear hy hyd hgo hsz hg hxm hyk hnn hpn
          generalize bD x = bs at *
          generalize lastN l k = la at *
          have hlk : lastN l (k + 1) = y.f0 := by show (if k + 1 = 0 then _ else (enAt l (k + 1 - 1)).f0) = _; rw [if_neg (by omega), Nat.add_sub_cancel, HY.out.2.1]
          have hlk := Aside0.mk hlk
          rcases Nat.eq_zero_or_pos k with hk0 | hk0
          case' inl =>
            have hd0 : decide ((0 : Int) < (k : Int)) = false := decide_eq_false (by omega)
            have hd0' : decide (0 < k) = false := decide_eq_false (by omega)
            have HF := Aside0.mk (show firstAt l k = true by rw [hk0]; rfl)
            clear hfl hk0
            go_wp2_with fail
            clear hd0 hd0'
          case' inr =>
            have hd0 : decide ((0 : Int) < (k : Int)) = true := decide_eq_true (by omega)
            have hd0' : decide (0 < k) = true := decide_eq_true hk0
            have HFe := hfl hk0
            by_cases hyx : la = y.f0
            case' pos =>
              have HF := Aside0.mk (show firstAt l k = false by rw [HFe, decide_eq_true hyx]; rfl)
              have hst : (y.f0.toList == la.toList) = true := by rw [hyx]; exact beq_self_eq_true _
              have hmm := mN_dup (p := p) (s := s) HF.out
              clear hfl HFe hk0
              go_wp2_with fail
              exact ⟨⟨k + 1, hlt, by first | exact iw_succ k | exact iv_succ hwk.out, by rw [hmm], by rw [hlk.out, hyx], H7⟩, by first | exact iw_meas hlt | exact iv_meas hwk.out hlt⟩
            case' neg =>
              have HF := Aside0.mk (show firstAt l k = true by rw [HFe, decide_eq_false hyx]; rfl)
              have hst : (y.f0.toList == la.toList) = false := beq_eq_false_iff_ne.2 fun e => hyx (ls_inj (by rw [← toList_ls, ← toList_ls, e]))
              clear hfl HFe hk0
              go_wp2_with fail
              clear hd0 hd0' hst hyx
          all_goals
            refine (cornucopiaref17_Parse.calls K bs r1 r2 r3 r4 r5 r6 _ hP).mono ?_
            rintro e w8 ⟨rfl, hb8⟩
            have H10 := H9.out w8 hb8
            have hba := below_alloc (Below.refl w8.heap.size w8) (.cells #[.int .u8 r1, .int .u8 r2, .int .u8 r3, .int .u8 r4, .int .u64 r5] 53)
            have hbn := heap_alloc_new w8 (.cells #[.int .u8 r1, .int .u8 r2, .int .u8 r3, .int .u8 r4, .int .u64 r5] 53)
            have H11 : Aside0 (Reads KE (w8.alloc (.cells #[.int .u8 r1, .int .u8 r2, .int .u8 r3, .int .u8 r4, .int .u64 r5] 53)) (some ⟨g, o, none⟩) l ∧ Reads KE (w8.alloc (.cells #[.int .u8 r1, .int .u8 r2, .int .u8 r3, .int .u8 r4, .int .u64 r5] 53)) A2 m ∧ (w8.alloc (.cells #[.int .u8 r1, .int .u8 r2, .int .u8 r3, .int .u8 r4, .int .u64 r5] 53)).heap[bx]? = some (boxS s) ∧ Below W.heap.size W (w8.alloc (.cells #[.int .u8 r1, .int .u8 r2, .int .u8 r3, .int .u8 r4, .int .u64 r5] 53))) := ⟨⟨H10.out.1.below hba, H10.out.2.1.below hba, (hba.block bx (Array.getElem?_eq_some_iff.1 H10.out.2.2.1).1).trans H10.out.2.2.1, H10.out.2.2.2.trans (hba.mono H10.out.2.2.2.size)⟩⟩
            obtain ⟨q0, q1, q2, q3, q4, q5⟩ := box_cells H11.out.2.2.1
            have t0 : (w8.alloc (.cells #[.int .u8 r1, .int .u8 r2, .int .u8 r3, .int .u8 r4, .int .u64 r5] 53)).cell? ⟨w8.heap.size, 0, none⟩ = some (.int .u8 r1) := blk_cell hbn 0
            have t1 : (w8.alloc (.cells #[.int .u8 r1, .int .u8 r2, .int .u8 r3, .int .u8 r4, .int .u64 r5] 53)).cell? ⟨w8.heap.size, 1, none⟩ = some (.int .u8 r2) := blk_cell hbn 1
            have t2 : (w8.alloc (.cells #[.int .u8 r1, .int .u8 r2, .int .u8 r3, .int .u8 r4, .int .u64 r5] 53)).cell? ⟨w8.heap.size, 2, none⟩ = some (.int .u8 r3) := blk_cell hbn 2
            have t3 : (w8.alloc (.cells #[.int .u8 r1, .int .u8 r2, .int .u8 r3, .int .u8 r4, .int .u64 r5] 53)).cell? ⟨w8.heap.size, 3, none⟩ = some (.int .u8 r4) := blk_cell hbn 3
            have t4 : (w8.alloc (.cells #[.int .u8 r1, .int .u8 r2, .int .u8 r3, .int .u8 r4, .int .u64 r5] 53)).cell? ⟨w8.heap.size, 4, none⟩ = some (.int .u64 r5) := blk_cell hbn 4
            clear hba hbn hb8 H9 H10 y0 hP hw12 hle hl0 hext
            cases hg : goesP (M1 p s) y.f0
            case' true =>
              have hmg := mN_gone (p := p) (s := s) (l := l) (k := k) (by rw [HY.out.2.1]; exact hg)
              have hq := HY.out.2.2.1
              rw [hg] at hq
              simp only [Bool.true_eq, Bool.and_eq_true, decide_eq_true_eq] at hq
              obtain ⟨⟨rfl, hq1⟩, hq2⟩ := hq
              go_wp2_with fail
              exact ⟨⟨k + 1, hlt, by first | exact iw_succ k | exact iv_succ hwk.out, by rw [hmg], by rw [hlk.out], H11⟩, by first | exact iw_meas hlt | exact iv_meas hwk.out hlt⟩
            case' false =>
              have hms := mN_stays (p := p) (s := s) HF.out (by rw [HY.out.2.1]; exact hg)
              have hat := mN_at (p := p) (s := s) hlt HF.out (by rw [HY.out.2.1]; exact hg)
              rw [← HM.out, HY.out.2.1] at hat
              rw [HY.out.2.1] at hms
              have hmk := mN_le p s l k
              generalize mN p s l k = mk at *
              have hatl := (List.getElem?_eq_some_iff.1 hat).1
              obtain ⟨g2, o2, rfl, hg2⟩ := H11.out.2.1.where hatl
              have hwa := Aside0.mk (show wrap64 ((mk.length : Int) + 1) = (mk.length : Int) + 1 by unfold wrap64; omega)
              have hq := HY.out.2.2.1
              rw [hg] at hq
              have key : q = false ∨ (q = true ∧ ¬ s.fr ≤ r5) ∨ (q = true ∧ s.fr ≤ r5 ∧ ¬ r5 ≤ s.tt) := by
                cases q
                · exact .inl rfl
                · by_cases h1 : s.fr ≤ r5
                  · by_cases h2 : r5 ≤ s.tt
                    · simp [h1, h2] at hq
                    · exact .inr (.inr ⟨rfl, h1, h2⟩)
                  · exact .inr (.inl ⟨rfl, h1⟩)
              have HMS := Aside0.mk (And.intro hms (And.intro hat hmk))
              have d1 : decide ((m.length : Int) ≤ (mk.length : Int)) = false := decide_eq_false (by omega)
              have d2 : decide (m.length ≤ mk.length) = false := decide_eq_false (by omega)
              have hne := neq_self y.f0 y.f1 y.f2 y.f3
              clear hq hms hat hmk hg hg2
              rcases key with rfl | ⟨rfl, h1⟩ | ⟨rfl, h1, h2⟩
              all_goals
                go_upto_region 20 with (fail)
                clear q0 q1 q2 q3 q4 q5 t0 t1 t2 t3 t4 he
                generalize (w8.alloc (.cells #[.int .u8 r1, .int .u8 r2, .int .u8 r3, .int .u8 r4, .int .u64 r5] 53)) = w9 at *
                have c0 : w9.cell? ⟨g, o + k * 4, none⟩ = some (.string y.f0) := H11.out.1.at HY.out.1 (i := 0) rfl
                have c1' : w9.cell? ⟨g, o + k * 4 + 1, none⟩ = some (.int .u64 y.f1) := H11.out.1.at HY.out.1 (i := 1) rfl
                have c2' : w9.cell? ⟨g, o + k * 4 + 2, none⟩ = some (.int .i64 y.f2) := H11.out.1.at HY.out.1 (i := 2) rfl
                have c3 : w9.cell? ⟨g, o + k * 4 + 3, none⟩ = some (.string y.f3) := H11.out.1.at HY.out.1 (i := 3) rfl
                have m0 : w9.cell? ⟨g2, o2 + mk.length * 4, none⟩ = some (.string y.f0) := H11.out.2.1.at HMS.out.2.1 (i := 0) rfl
                have m1 : w9.cell? ⟨g2, o2 + mk.length * 4 + 1, none⟩ = some (.int .u64 y.f1) := H11.out.2.1.at HMS.out.2.1 (i := 1) rfl
                have m2 : w9.cell? ⟨g2, o2 + mk.length * 4 + 2, none⟩ = some (.int .i64 y.f2) := H11.out.2.1.at HMS.out.2.1 (i := 2) rfl
                have m3 : w9.cell? ⟨g2, o2 + mk.length * 4 + 3, none⟩ = some (.string y.f3) := H11.out.2.1.at HMS.out.2.1 (i := 3) rfl
                go_quiet (fail)
                all_goals
                  clear c0 c1' c2' c3 m0 m1 m2 m3
                  have hbq : Below w9.heap.size w9 (w9.drewN nq) := by with_reducible repeat (first | exact Below.refl _ _ | apply pw_below_drewN)
                  have H12 : Aside0 (Reads KE (w9.drewN nq) (some ⟨g, o, none⟩) l ∧ Reads KE (w9.drewN nq) (some ⟨g2, o2, none⟩) m ∧ (w9.drewN nq).heap[bx]? = some (boxS s) ∧ Below W.heap.size W (w9.drewN nq)) := ⟨⟨H11.out.1.below hbq, H11.out.2.1.below hbq, (hbq.block bx (Array.getElem?_eq_some_iff.1 H11.out.2.2.1).1).trans H11.out.2.2.1, H11.out.2.2.2.trans (hbq.mono H11.out.2.2.2.size)⟩⟩
                  clear hbq
                  go_wp2_with fail
                  exact ⟨⟨k + 1, hlt, by first | exact iw_succ k | exact iv_succ hwk.out, by rw [HMS.out.1, List.length_append]; first | exact iw_succ _ | exact iv_succ hwa.out, by rw [hlk.out], H12⟩, by first | exact iw_meas hlt | exact iv_meas hwk.out hlt⟩
        · have hkl : k = l.length := by omega
          subst hkl
          have hd1 : decide ((l.length : Int) < (l.length : Int)) = false := decide_eq_false (Int.lt_irrefl _)
          rw [← HM.out]
          go_wp2_with fail
          refine (alive_c w7).mono ?_
          rintro e w8 ⟨rfl, hb8⟩
          have H8 := Aside0.mk (H7.out.2.2.2.trans (hb8.mono H7.out.2.2.2.size))
          clear hb8
          have hbb : ((m.length : Int) == (m.length : Int)) = true := beq_self_eq_true _
          go_wp2
          go_ret
          exact ⟨rfl, H8.out⟩
end Go.Proofs.Ytdfaoafeojoceaa.Dr
