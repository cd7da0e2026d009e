/- DotRemoves: what is taken out is not in, all else stays; put in again it is as it was: walked. -/
import Derived.Test.YthljboogcjpgiaaDotRow
import Derived.Test.YthljboogcjpgiaaDotLive
import Derived.Deep.QuietTactic
import Derived.BigQuiet
set_option linter.unusedSimpArgs false
set_option linter.unusedVariables false
namespace Go.Proofs.Ythljboogcjpgiaa.Ds
open Go.RowKit Go.Maps Go.Sort Go.Shelf Go.Proofs.Ythljboogcjpgiaa.PAll Go.Proofs.YthljboogcjpgiaaW.PrintWords

theorem own_lt {w : World} {base : Nat} {e : TypeId} {size n : Nat} {v : Value} {xs : List Value} (h : w.ownsRow base e size v n xs) (k : Nat) (hk : v.ownBlock = some k) : base ≤ k ∧ k < w.heap.size := by
  rcases h.2 with ⟨h0, _⟩ | ⟨g, c', cur, hv, hg, hbb, _⟩
  · rw [h0] at hk; cases hk
  · rw [hv] at hk
    have hk' : g = k := by simpa [Value.ownBlock] using hk
    subst hk'
    exact ⟨hg, (Array.getElem?_eq_some_iff.1 hbb).1⟩
theorem own_grown {w w' : World} {base b : Nat} {e : TypeId} {size n : Nat} {v : Value} {xs : List Value} (h : w.ownsRow base e size v n xs) (hg : w.grownBy w' (some b)) (hb : b < base) : w'.ownsRow base e size v n xs :=
  own_move h fun k hk => hg.block k (own_lt h k hk).2 (fun e => by
    have := (own_lt h k hk).1
    injection e with e
    omega)
theorem own_bel {w w' : World} {base : Nat} {e : TypeId} {size n : Nat} {v : Value} {xs : List Value} (h : w.ownsRow base e size v n xs) (hb : Below w.heap.size w w') : w'.ownsRow base e size v n xs :=
  own_move h fun k hk => hb.block k (own_lt h k hk).2
theorem iv_cast (k : Nat) : Value.int .i64 ((k : Int) + 1) = Value.int .i64 ((k + 1 : Nat) : Int) := congrArg (Value.int .i64) (by omega)
theorem iv_meas2 {k n : Nat} (hk : k < n) : n - (intOf (Value.int .i64 ((k : Int) + 1))).toNat < n - (intOf (Value.int .i64 (k : Int))).toNat := by simp only [intOf]; omega
theorem DRow.to {W W' : World} {v : Value} {l : List Vd} {no : Nat → Prop} (h : DRow W v l (fun q => W.heap.size ≤ q)) (hW : Below W.heap.size W W') (hno : ∀ q, no q → W.heap.size ≤ q) : DRow W' v l no := h.below hW (fun q _ h1 h2 => h1 (hno q h2))
theorem DRow.at {W : World} {p : Option Addr} {cap : Nat} {l : List Vd} {no : Nat → Prop} (h : DRow W (.slice p l.length cap) l no) {k : Nat} (hk : k < l.length) : ∃ q off x, p = some ⟨q, off, none⟩ ∧ l[k]? = some x ∧ q < W.heap.size ∧
    W.cell? ⟨q, off + k * 5, none⟩ = some (.int .u8 x.1.f0.f0) ∧ W.cell? ⟨q, off + k * 5 + 1, none⟩ = some (.int .u8 x.1.f0.f1) ∧ W.cell? ⟨q, off + k * 5 + 2, none⟩ = some (.int .u8 x.1.f0.f2) ∧ W.cell? ⟨q, off + k * 5 + 3, none⟩ = some (.int .u8 x.1.f0.f3) ∧ W.cell? ⟨q, off + k * 5 + 4, none⟩ = some (.int .u64 x.1.f1) := by
  obtain ⟨p0, c0, e, hr⟩ := h
  obtain ⟨rfl, _, rfl⟩ := Value.slice.inj e
  obtain ⟨q, off, rfl, hq, hno, hc⟩ := hr (by intro e; simp [e] at hk)
  obtain ⟨x, hx⟩ : ∃ x, l[k]? = some x := ⟨_, List.getElem?_eq_getElem hk⟩
  exact ⟨q, off, x, rfl, hx, hq, hc k x hx 0 (by decide), hc k x hx 1 (by decide), hc k x hx 2 (by decide), hc k x hx 3 (by decide), hc k x hx 4 (by decide)⟩
theorem inB_take {x y : Vd} {m : List Vd} {t : Nat} (h : m[t]? = some y) : inB x (m.take (t + 1)) = (inB x (m.take t) || (rkv y == rkv x)) := by
  rw [List.take_add_one, h]
  simp [inB]
theorem eq_dot (w : World) (x0 x1 x2 x3 x4 y0 y1 y2 y3 y4 : Int) : (binOp .eql 26 (.agg #[.int .u8 x0, .int .u8 x1, .int .u8 x2, .int .u8 x3, .int .u64 x4]) (.agg #[.int .u8 y0, .int .u8 y1, .int .u8 y2, .int .u8 y3, .int .u64 y4])).run Try.prog w = .ok (.bool ((x0 == y0 && (x1 == y1 && (x2 == y2 && (x3 == y3)))) && x4 == y4)) w := by
  have h := eqA26 9997 w x0 y0 x1 y1 x2 y2 x3 y3 x4 y4
  simp only [binOp]
  simp [Op.equal, Op.maxDepth, h]
theorem eq_vd (w : World) (x y : Vd) : (binOp .eql 26 (.agg #[.int .u8 y.1.f0.f0, .int .u8 y.1.f0.f1, .int .u8 y.1.f0.f2, .int .u8 y.1.f0.f3, .int .u64 y.1.f1]) (.agg #[.int .u8 x.1.f0.f0, .int .u8 x.1.f0.f1, .int .u8 x.1.f0.f2, .int .u8 x.1.f0.f3, .int .u64 x.1.f1])).run Try.prog w = .ok (.bool (rkv y == rkv x)) w := by
  rw [eq_dot]
  refine congrArg (fun z => Result.ok (Value.bool z) w) ?_
  rw [Bool.eq_iff_iff]
  simp only [Bool.and_eq_true, beq_iff_eq]
  constructor
  · rintro ⟨⟨h0, h1, h2, h3⟩, h4⟩
    unfold rkv rk
    rw [h0, h1, h2, h3, h4]
  · intro h
    rw [rkv_inj h]
    exact ⟨⟨rfl, rfl, rfl, rfl⟩, rfl⟩
set_option maxRecDepth 100000 in
set_option maxHeartbeats 8000000 in
theorem removes_c (v v' : Value) (l m : List Vd) (W : World) (hl : DRow W v l (fun q => W.heap.size ≤ q)) (hm : DRow W v' m (fun q => W.heap.size ≤ q)) (hll : l.length < 4611686018427387904) (hml : m.length < 4611686018427387904) :
    Calls Try.prog 6 #[v, v'] W fun e w' => e = .returned (.bool true) ∧ Below W.heap.size W w' := by
  have HL := Aside0.mk hl
  have HM := Aside0.mk hm
  obtain ⟨p, cap, rfl, hrow⟩ := hl
  obtain ⟨p', cap', rfl, hrow'⟩ := hm
  have HR := Aside0.mk hrow'
  clear hrow hrow'
  by_cases c1 : (l.length : Int) > 40
  · go_enter Try.func6, Try.ntmps6
    go_wp2_with (go_at_call 8; refine (alive_c _).mono ?_; rintro e w1 ⟨rfl, hb1⟩)
    go_ret
    exact ⟨rfl, hb1⟩
  by_cases c2 : (m.length : Int) > 40
  · go_enter Try.func6, Try.ntmps6
    go_wp2_with (go_at_call 8; refine (alive_c _).mono ?_; rintro e w1 ⟨rfl, hb1⟩)
    go_ret
    exact ⟨rfl, hb1⟩
  have k1 : l.length ≤ 40 := by omega
  have k2 : m.length ≤ 40 := by omega
  have hS0 := rising_addAll l [] (by simp [Rising])
  have hSl : (addAll [] l).length ≤ 40 := by have := addAll_length [] l; simp at this; omega
  have hSv : ∀ x ∈ addAll [] l, 1 ≤ x.1.f1 := fun x hx => by
    rcases (mem_addAll x l []).1 hx with h | h
    · cases h
    · exact h.2
  generalize hSS : addAll [] l = S at *
  have HSS := Aside0.mk (And.intro hS0 (And.intro hSv (And.intro hSl hSS)))
  clear hS0 hSv hSS
  have hN := new_c (.slice p l.length cap) l W (HL.out.to (Below.refl _ _) (fun q h => h.elim)) (Nat.lt_of_lt_of_le hll (by decide))
  rw [HSS.out.2.2.2] at hN
  have HN := Aside0.mk hN
  clear hN hll hml c1 c2
  obtain ⟨dn, hdn⟩ : ∃ dn : Int, dn = (S.length : Int) - ((delAll S m).length : Int) := ⟨_, rfl⟩
  have hdle := delAll_le m S
  have hdn0 : 0 ≤ dn := by omega
  have hdn1 : dn ≤ 40 := by omega
  have HDN := Aside0.mk hdn
  clear hdn hdle
  go_enter Try.func6, Try.ntmps6
  go_wp2_with (first
    | (go_at_call 20; refine HN.out.mono ?_; rintro e w1 ⟨B, b, rfl, hS1, hb1, hB, hb⟩; have hLi := Aside0.mk (list_c B b _ S w1 hS1 (by omega)); have H1 := Aside0.mk (And.intro hS1 hb1); clear hS1 hb1)
    | (go_at_call 24; refine hLi.out.mono ?_; rintro e w2 ⟨vw, rfl, hrw, hnil, hb2⟩; have hDe0 := (del_any B b _ S m (.slice p' m.length cap') w2 (H1.out.1.below hb2) (HM.out.to (below_step H1.out.2 hb2) (fun q h => by rcases h with rfl | rfl <;> assumption)) (by omega) (by omega)); rw [← HDN.out] at hDe0; have hDe := Aside0.mk hDe0; clear hDe0; have H2 := Aside0.mk (And.intro hrw (And.intro hnil hb2)); clear hrw hnil hb2)
    | (go_at_call 25; refine hDe.out.mono ?_; rintro e w3 ⟨rfl, hS3, hg3⟩))
  have hz1 : B < w1.heap.size := H1.out.1.ltB
  have hz1' : b < w1.heap.size := H1.out.1.ltb
  have hW3 : Below W.heap.size W w3 := (below_step H1.out.2 H2.out.2.2).grown hg3 (Nat.le_trans H1.out.2.size H2.out.2.2.size) (fun j e => by cases e; exact hb)
  have hrw3 := own_grown H2.out.1 hg3 hz1'
  obtain ⟨pw, cw, hvw, _⟩ := drow_owns hrw3
  subst hvw
  have hD3 := drow_owns hrw3
  have hTm : ∀ x, inB x (delAll S m) = (inB x S && !inB x m) := fun x => by
    rw [Bool.eq_iff_iff, Bool.and_eq_true, Bool.not_eq_true', inB_iff, inB_iff, mem_delAll, ← Bool.not_eq_true, inB_iff]
  have hTl := delAll_le m S
  have hTA := add_del S m HSS.out.1 HSS.out.2.1
  generalize delAll S m = T at *
  have H3 := Aside0.mk (And.intro hS3 (And.intro hW3 (And.intro hrw3 (And.intro hD3 (And.intro hTm hTA)))))
  have HF := Aside0.mk (And.intro hSl (And.intro hTl (And.intro k1 (And.intro k2 (And.intro hz1 (And.intro hz1' (And.intro hdn0 hdn1)))))))
  clear hS3 hW3 hrw3 hD3 hTm hTA hg3 hLi hDe hSl hTl k1 k2 hz1 hz1' hdn0 hdn1
  go_loopw [8] (fun i wr => ∃ k : Nat, k ≤ m.length ∧ i = .int .i64 k ∧ SetAt wr B b l.length T ∧ Below w3.heap.size w3 wr) (fun i _ => m.length - (intOf i).toNat)
  case atStart => exact ⟨0, Nat.zero_le _, rfl, H3.out.1, Below.refl _ _⟩
  case round =>
    obtain ⟨k, hk, rfl, hS4, hb4⟩ := hrel
    by_cases hlt : k < m.length
    · have hwk := Aside0.mk (wrap_k k m.length hlt (by have := HF.out.2.2.2.1; omega))
      obtain ⟨q, off, x, rfl, hx, hq, e0, e1, e2, e3, e4⟩ := (HM.out.to (no := fun _ => False) (below_step H3.out.2.1 hb4) (fun q h => h.elim)).at hlt
      have hH := has_c B b l.length T x wr hS4
      rw [show inB x T = false from by rw [H3.out.2.2.2.2.1, show inB x m = true from (inB_iff x m).2 (List.mem_of_getElem? hx)]; simp] at hH
      simp only [vval, venc, dcells] at hH
      have HH := Aside0.mk hH
      have X1 := Aside0.mk (And.intro hS4 hb4)
      clear hH hx hS4 hb4
      go_wp2_with (go_at_call 26; refine HH.out.mono ?_; rintro e w5 ⟨rfl, hb5⟩)
      refine ⟨⟨k + 1, Nat.succ_le_of_lt hlt, by first | exact iv_succ hwk.out | exact iv_cast _, X1.out.1.below hb5, below_step X1.out.2 hb5⟩, by first | exact iv_meas hwk.out hlt | exact iv_meas2 hlt⟩
    · have HX := Aside0.mk (And.intro hS4 hb4)
      clear hS4 hb4
      go_wp2
      go_loopw [9] (fun i wr2 => ∃ k2 : Nat, k2 ≤ S.length ∧ i = .int .i64 k2 ∧ SetAt wr2 B b l.length T ∧ Below w3.heap.size w3 wr2) (fun i _ => S.length - (intOf i).toNat)
      case atStart => exact ⟨0, Nat.zero_le _, rfl, HX.out.1, HX.out.2⟩
      case round =>
        obtain ⟨k2, hk2, rfl, hS4, hb4⟩ := hrel
        by_cases hlt2 : k2 < S.length
        · have hwk2 := Aside0.mk (wrap_k k2 S.length hlt2 (by have := HF.out.1; omega))
          have hX1 := Aside0.mk (And.intro hS4 hb4)
          clear hS4 hb4
          generalize wr = w20 at *
          go_wp2
          obtain ⟨qw, offw, x, rfl, hx, hqw, x0, x1, x2, x3, x4⟩ := (H3.out.2.2.2.1.below (no' := fun q => q < w1.heap.size) hX1.out.2 (fun q _ h => h)).at hlt2
          have HXX := Aside0.mk hx
          clear hx
          have hx' := Aside0.mk (And.intro x0 (And.intro x1 (And.intro x2 (And.intro x3 x4))))
          clear x0 x1 x2 x3 x4
          go_loopw [10, 11] (fun g i w6 => ∃ t : Nat, t ≤ m.length ∧ i = .int .i64 t ∧ g = .bool (inB x (m.take t)) ∧ Below w20.heap.size w20 w6) (fun _ i _ => m.length - (intOf i).toNat)
          case atStart => exact ⟨0, Nat.zero_le _, rfl, rfl, Below.refl _ _⟩
          case round =>
            obtain ⟨t, ht, rfl, rfl, hb6⟩ := hrel
            by_cases hlt3 : t < m.length
            · have hwt := Aside0.mk (wrap_k t m.length hlt3 (by have := HF.out.2.2.2.1; omega))
              have hb06 := Aside0.mk (below_step hX1.out.2 hb6)
              have hbx := Aside0.mk hb6
              obtain ⟨q, off, y, rfl, hy, hq, y0, y1, y2, y3, y4⟩ := (HM.out.to (no := fun _ => False) (below_step H3.out.2.1 hb06.out) (fun q h => h.elim)).at hlt3
              have hT1 := Aside0.mk (inB_take (x := x) hy)
              have x0 := (World.cell?_of_block (a := ⟨qw, offw + k2 * 5, none⟩) (hb6.block qw hqw)).trans hx'.out.1
              have x1 := (World.cell?_of_block (a := ⟨qw, offw + k2 * 5 + 1, none⟩) (hb6.block qw hqw)).trans hx'.out.2.1
              have x2 := (World.cell?_of_block (a := ⟨qw, offw + k2 * 5 + 2, none⟩) (hb6.block qw hqw)).trans hx'.out.2.2.1
              have x3 := (World.cell?_of_block (a := ⟨qw, offw + k2 * 5 + 3, none⟩) (hb6.block qw hqw)).trans hx'.out.2.2.2.1
              have x4 := (World.cell?_of_block (a := ⟨qw, offw + k2 * 5 + 4, none⟩) (hb6.block qw hqw)).trans hx'.out.2.2.2.2
              have hqq := fun w => eq_vd w x y
              clear hb6 hy
              generalize hz : (rkv y == rkv x) = z at *
              clear hz
              generalize hg0 : inB x (m.take t) = g0 at *
              clear hg0
              cases g0 with
              | true =>
                clear x0 x1 x2 x3 x4 y0 y1 y2 y3 y4 hqq
                go_wp2
                go_region
                go_wp2
                exact ⟨⟨t + 1, Nat.succ_le_of_lt hlt3, by first | exact iv_succ hwt.out | exact iv_cast _, by rw [hT1.out]; simp, below_drew1 hbx.out⟩, by first | exact iv_meas hwt.out hlt3 | exact iv_meas2 hlt3⟩
              | false =>
                go_wp2
                go_quiet (fail)
                go_wp2
                exact ⟨⟨t + 1, Nat.succ_le_of_lt hlt3, by first | exact iv_succ hwt.out | exact iv_cast _, by rw [hT1.out]; simp, pw_below_drewN hbx.out _⟩, by first | exact iv_meas hwt.out hlt3 | exact iv_meas2 hlt3⟩
            · have htm : t = m.length := by omega
              subst htm
              have hb06 := below_step hX1.out.2 hb6
              have hS6 := hX1.out.1.below hb6
              have hH := has_c B b l.length T x wr hS6
              have hxS : inB x S = true := (inB_iff x S).2 (List.mem_of_getElem? HXX.out)
              have hgt : inB x T = !inB x m := by rw [H3.out.2.2.2.2.1, hxS, Bool.true_and]
              rw [hgt] at hH
              rw [List.take_length] at *
              have x0 := (World.cell?_of_block (a := ⟨qw, offw + k2 * 5, none⟩) (hb6.block qw hqw)).trans hx'.out.1
              have x1 := (World.cell?_of_block (a := ⟨qw, offw + k2 * 5 + 1, none⟩) (hb6.block qw hqw)).trans hx'.out.2.1
              have x2 := (World.cell?_of_block (a := ⟨qw, offw + k2 * 5 + 2, none⟩) (hb6.block qw hqw)).trans hx'.out.2.2.1
              have x3 := (World.cell?_of_block (a := ⟨qw, offw + k2 * 5 + 3, none⟩) (hb6.block qw hqw)).trans hx'.out.2.2.2.1
              have x4 := (World.cell?_of_block (a := ⟨qw, offw + k2 * 5 + 4, none⟩) (hb6.block qw hqw)).trans hx'.out.2.2.2.2
              simp only [vval, venc, dcells] at hH
              generalize inB x m = g0 at *
              have HH := Aside0.mk hH
              have X6 := Aside0.mk (And.intro hb06 hS6)
              clear hH hb06 hS6 hb6 hxS hgt
              cases g0 with
              | true =>
                go_wp2_with (go_at_call 26; refine HH.out.mono ?_; rintro e w7 ⟨rfl, hb7⟩)
                exact ⟨⟨k2 + 1, Nat.succ_le_of_lt hlt2, by first | exact iv_succ hwk2.out | exact iv_cast _, X6.out.2.below hb7, below_step X6.out.1 hb7⟩, by first | exact iv_meas hwk2.out hlt2 | exact iv_meas2 hlt2⟩
              | false =>
                go_wp2_with (go_at_call 26; refine HH.out.mono ?_; rintro e w7 ⟨rfl, hb7⟩)
                exact ⟨⟨k2 + 1, Nat.succ_le_of_lt hlt2, by first | exact iv_succ hwk2.out | exact iv_cast _, X6.out.2.below hb7, below_step X6.out.1 hb7⟩, by first | exact iv_meas hwk2.out hlt2 | exact iv_meas2 hlt2⟩
        · have hX1 := Aside0.mk (And.intro hS4 hb4)
          clear hS4 hb4
          generalize wr = w20 at *
          have hkk : k2 = S.length := by omega
          clear hlt hlt2 hk2 hk
          subst hkk
          have hd1 : decide ((S.length : Int) < (S.length : Int)) = false := decide_eq_false (Int.lt_irrefl _)
          have hbq : ((T.length : Int) == wrap64 ((S.length : Int) - dn)) = true := by
            rw [beq_iff_eq]
            obtain ⟨h1, h2, h3, h4, h5, h6, h7, h8⟩ := HF.out
            have := HDN.out
            unfold wrap64
            omega
          go_wp2_with (first
            | (go_at_call 8; refine (alive_c _).mono ?_; rintro e w8 ⟨rfl, hb8⟩; have hS8 := Aside0.mk (hX1.out.1.below hb8); have hLen := Aside0.mk (len_c B b l.length T w8 hS8.out); have hAdd0 := (add_any B b l.length T S (.slice pw S.length cw) (some b) (some b) w8 (.inr ⟨rfl, rfl, hS8.out⟩) (H3.out.2.2.2.1.below (below_step hX1.out.2 hb8) (fun q _ h1 h2 => h1 (by obtain ⟨_, _, _, _, g5, g6, _, _⟩ := HF.out; rcases h2 with rfl | rfl <;> assumption))) (Nat.lt_of_le_of_lt (show l.length + S.length ≤ 80 by obtain ⟨g1, g2, g3, _, _, _, _, _⟩ := HF.out; omega) (by decide))); rw [H3.out.2.2.2.2.2, ← HDN.out] at hAdd0; have hAdd := Aside0.mk hAdd0; clear hAdd0; have H8 := Aside0.mk hb8; clear hb8)
            | (go_at_call 27; refine hLen.out.mono ?_; rintro e w9 ⟨rfl, rfl⟩)
            | (go_at_call 28; refine hAdd.out.mono ?_; rintro e w10 ⟨rfl, hS10, hg10⟩; have hLi2 := Aside0.mk (list_c B b _ S w10 hS10 (by obtain ⟨g1, _⟩ := HF.out; omega)); have H10 := Aside0.mk (And.intro hS10 hg10); clear hS10 hg10)
            | (go_at_call 24; refine hLi2.out.mono ?_; rintro e w11 ⟨v11, rfl, hrw11, hnil11, hb11⟩; obtain ⟨p11, c11, hv11, _⟩ := drow_owns hrw11; subst hv11; have hSD := Aside0.mk (sameDots_c hrw11 (own_bel (own_grown (own_bel H3.out.2.2.1 (below_step hX1.out.2 H8.out)) H10.out.2 HF.out.2.2.2.2.2.1) hb11) (by obtain ⟨g1, _⟩ := HF.out; omega)); have H11 := Aside0.mk hb11; clear hrw11 hnil11 hb11)
            | (go_at_call 23; refine hSD.out.mono ?_; rintro e w12 ⟨rfl, nq, rfl⟩))
          go_ret
          have hb8 := below_step (below_step H3.out.2.1 hX1.out.2) H8.out
          exact ⟨rfl, pw_below_drewN (below_step (hb8.grown H10.out.2 hb8.size (fun j e => by cases e; exact hb)) H11.out) nq⟩
end Go.Proofs.Ythljboogcjpgiaa.Ds
