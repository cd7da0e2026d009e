/- pick.Overlap: walked. -/
import Derived.Test.YtikhjnokfakgiaaPkF
import Derived.Laws.Cover1
import Derived.Deep.AppendLies
set_option linter.unusedSimpArgs false
set_option linter.unusedVariables false
namespace Go.Proofs.Ytikhjnokfakgiaa.Pk
open Go.RowKit Go.Proofs.Ytikhjnokfakgiaa.PAll Go.Proofs.YtikhjnokfakgiaaW.PrintWords
attribute [local go_sem] put_fresh
attribute [-go_sem] Builtin.append_

theorem info_tb : (Try.prog.info? 42).map (fun i => (i.zero, i.size, i.bytes)) = some (some (.agg #[.int .i64 0, .int .i64 0, .int .i64 0, .string ByteArray.empty, .string ByteArray.empty]), 5, 56) := by kernel_rfl
theorem tlen : ∀ (L : List Tb), (L.flatMap tcells).length = L.length * 5
  | [] => rfl
  | x :: r => by rw [List.flatMap_cons, List.length_append, tlen r, List.length_cons]; show 5 + _ = _; omega
theorem tone (x : Tb) : ∀ u ∈ tcells x, u.oneCell' = true := by
  intro u hu
  simp only [tcells, List.mem_cons, List.not_mem_nil, or_false] at hu
  rcases hu with rfl | rfl | rfl | rfl | rfl <;> rfl
theorem owns_slice {w : World} {base : Nat} {e : TypeId} {size n : Nat} {v : Value} {xs : List Value} (h : w.ownsRow base e size v n xs) : ∃ p c, v = .slice p n c := by
  rcases h.2 with ⟨rfl, rfl⟩ | ⟨g, cap, cur, rfl, _⟩
  · exact ⟨none, 0, rfl⟩
  · exact ⟨_, _, rfl⟩
theorem own_lt {w : World} {base : Nat} {e : TypeId} {size n : Nat} {v : Value} {xs : List Value} (h : w.ownsRow base e size v n xs) (k : Nat) (hk : v.ownBlock = some k) : base ≤ k ∧ k < w.heap.size := by
  rcases h.2 with ⟨h0, _⟩ | ⟨g, c', cur, hv, hg, hbb, _⟩
  · rw [h0] at hk; cases hk
  · rw [hv] at hk
    have hk' : g = k := by simpa [Value.ownBlock] using hk
    subst hk'
    exact ⟨hg, (Array.getElem?_eq_some_iff.1 hbb).1⟩
theorem own_bel {w w' : World} {base : Nat} {e : TypeId} {size n : Nat} {v : Value} {xs : List Value} (h : w.ownsRow base e size v n xs) (hb : Below w.heap.size w w') : w'.ownsRow base e size v n xs :=
  own_move h fun k hk => hb.block k (own_lt h k hk).2
/-- A table more. -/
theorem app_tb {d : World} {base cn b : Nat} {A0 : Option Addr} {L : List Tb} {y : Tb} (hown : d.ownsRow base 42 5 (.slice A0 L.length cn) L.length (L.flatMap tcells)) (hb : d.heap[b]? = some (.cells #[.int .i64 y.f0, .int .i64 y.f1, .int .i64 y.f2, .string y.f3, .string y.f4] 42 (0, 0))) (hl : L.length ≤ 1000000) (hbase : base ≤ d.heap.size) :
    ∃ p2 c2 w2, (∀ ty, (Builtin.append_ #[23, 23] ty #[.slice A0 L.length cn, .slice (some ⟨b, 0, none⟩) 1 1]).run Try.prog d = .ok (.slice p2 (L.length + 1) c2) w2) ∧
      w2.ownsRow base 42 5 (.slice p2 (L.length + 1) c2) (L.length + 1) ((L ++ [y]).flatMap tcells) ∧ d.grownBy w2 (Value.slice A0 L.length cn).ownBlock := by
  obtain ⟨i0, hi, hz0, hz1, hz2⟩ := info_parts info_tb
  have key := fun ty => run_append_own d base 23 ty 42 i0 _ 5 56 Try.underlying23 hi hz0 hz1 hz2 rfl (by decide) _ L.length _ hown ⟨b, 0, none⟩ 1 1 (tcells y) rfl (fun j u hu => by rw [add_o, Nat.zero_add, blk_cell hb, ← hu]; simp [tcells]) (tone y) (by unfold maxLen; omega) (by omega) hbase
  obtain ⟨v', w', hr, ho, hgr, _⟩ := key 0
  obtain ⟨p2, c2, rfl⟩ := owns_slice ho
  rw [show L.flatMap tcells ++ tcells y = (L ++ [y]).flatMap tcells by simp] at ho
  exact ⟨p2, c2, w', fun ty => hr, ho, hgr⟩
set_option maxRecDepth 100000 in
set_option maxHeartbeats 4000000 in
theorem over_c {w : World} {A : Option Addr} {c : Nat} {l : List Tb} (hr : Kd.C k42 w A l.length l) (hl : l.length < 1000000) (s1 s2 : ByteArray) :
    Calls Try.prog 27 #[.slice A l.length c, .string s1, .string s2] w fun e w' => ∃ p c' M, e = .returned (.slice p (List.length M) c') ∧ (M.length ≤ l.length ∧ ∀ x ∈ M, x ∈ l) ∧ w'.ownsRow w.heap.size 42 5 (.slice p M.length c') M.length (M.flatMap tcells) ∧ Below w.heap.size w w' := by
  have HC := Aside0.mk hr
  clear hr
  go_enter Try.func27, Try.ntmps27
  go_wp2
  go_loopw [7, 12] (fun v i wr => ∃ (k : Nat) (M : List Tb) (p1 : Option Addr) (c1 : Nat), k ≤ l.length ∧ i = .int .i64 k ∧ v = .slice p1 M.length c1 ∧ Aside0 ((M.length ≤ k ∧ ∀ x ∈ M, x ∈ l) ∧ wr.ownsRow w.heap.size 42 5 (.slice p1 M.length c1) M.length (M.flatMap tcells) ∧ Below w.heap.size w wr)) (fun _ i _ => l.length - (intOf i).toNat)
  case atStart => exact ⟨0, [], none, 0, Nat.zero_le _, rfl, rfl, ⟨⟨Nat.le_refl _, fun x hx => by cases hx⟩, World.ownsRow_nil _ _ _ _, Below.refl _ _⟩⟩
  case round =>
    obtain ⟨k, M, p1, c1, hk, rfl, rfl, H1⟩ := hrel
    by_cases hlt : k < l.length
    · obtain ⟨x, hx⟩ : ∃ x, l[k]? = some x := ⟨_, List.getElem?_eq_getElem hlt⟩
      obtain ⟨q, off, rfl, hq, hc⟩ := tb_row HC.out (by omega)
      have hb := H1.out.2.2.block q hq
      have x0 : wr.cell? ⟨q, off + k * 5, none⟩ = some (.int .i64 x.f0) := (World.cell?_of_block (a := ⟨q, off + k * 5, none⟩) hb).trans (hc k x hx 0 (by decide))
      have x1 : wr.cell? ⟨q, off + k * 5 + 1, none⟩ = some (.int .i64 x.f1) := (World.cell?_of_block (a := ⟨q, off + k * 5 + 1, none⟩) hb).trans (hc k x hx 1 (by decide))
      have x2 : wr.cell? ⟨q, off + k * 5 + 2, none⟩ = some (.int .i64 x.f2) := (World.cell?_of_block (a := ⟨q, off + k * 5 + 2, none⟩) hb).trans (hc k x hx 2 (by decide))
      have x3 : wr.cell? ⟨q, off + k * 5 + 3, none⟩ = some (.string x.f3) := (World.cell?_of_block (a := ⟨q, off + k * 5 + 3, none⟩) hb).trans (hc k x hx 3 (by decide))
      have x4 : wr.cell? ⟨q, off + k * 5 + 4, none⟩ = some (.string x.f4) := (World.cell?_of_block (a := ⟨q, off + k * 5 + 4, none⟩) hb).trans (hc k x hx 4 (by decide))
      have hwk := Aside0.mk (show wrap64 ((k : Int) + 1) = (k : Int) + 1 by unfold wrap64; omega)
      have hML := H1.out.1.1
      have HXM := Aside0.mk (List.mem_of_getElem? hx)
      have b2 := below_alloc (below_alloc (Below.refl wr.heap.size wr) (tbox x)) (tbox x)
      obtain ⟨p2, c2, w2, r2, o2, g2⟩ := app_tb (own_bel H1.out.2.1 b2) (y := x) (b := wr.heap.size + 1) (by have := heap_alloc_new (wr.alloc (tbox x)) (tbox x); simpa using this) (by omega) (by have := H1.out.2.2.size; simp; omega)
      have hb2 : Below w.heap.size w w2 := (H1.out.2.2.trans (b2.mono H1.out.2.2.size)).grown g2 (by have := H1.out.2.2.size; simp; omega) (fun j ej => (own_lt H1.out.2.1 j ej).1)
      have HA := Aside0.mk (And.intro o2 hb2)
      have HN := Aside0.mk (And.intro (own_bel H1.out.2.1 (below_alloc (Below.refl wr.heap.size wr) (tbox x))) (H1.out.2.2.trans ((below_alloc (Below.refl wr.heap.size wr) (tbox x)).mono H1.out.2.2.size)))
      dsimp only [tbox] at r2
      clear hb hc hq hx b2 o2 g2 hb2
      go_wp2_with fail
      all_goals
        first
          | exact ⟨⟨k + 1, M, p1, c1, Nat.succ_le_of_lt hlt, by first | exact iw_succ k | exact iv_succ hwk.out, rfl, ⟨⟨Nat.le_succ_of_le hML, H1.out.1.2⟩, HN.out⟩⟩, by first | exact iw_meas hlt | exact iv_meas hwk.out hlt⟩
          | exact ⟨⟨k + 1, M ++ [x], p2, c2, Nat.succ_le_of_lt hlt, by first | exact iw_succ k | exact iv_succ hwk.out, by rw [List.length_append]; rfl, ⟨⟨by rw [List.length_append]; exact Nat.succ_le_succ hML, fun z hz => (List.mem_append.1 hz).elim (H1.out.1.2 z) (fun h => by rw [List.mem_singleton.1 h]; exact HXM.out)⟩, by rw [List.length_append]; exact HA.out⟩⟩, by first | exact iw_meas hlt | exact iv_meas hwk.out hlt⟩
    · have hkl : k = l.length := by omega
      subst hkl
      have hd1 : decide ((l.length : Int) < (l.length : Int)) = false := decide_eq_false (Int.lt_irrefl _)
      go_wp2
      go_ret
      exact ⟨p1, c1, M, rfl, H1.out.1, H1.out.2.1, H1.out.2.2⟩
end Go.Proofs.Ytikhjnokfakgiaa.Pk
