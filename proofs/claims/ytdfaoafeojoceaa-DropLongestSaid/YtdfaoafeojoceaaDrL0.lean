/- DropLongest: walked, where it ends at once. -/
import Derived.Test.YtdfaoafeojoceaaDrY
set_option linter.unusedSimpArgs false
set_option linter.unusedVariables false
namespace Go.Proofs.Ytdfaoafeojoceaa.Dr
open Go.RowKit Go.Maps Go.Proofs Go.Proofs.Ytdfaoafeojoceaa.Rw Go.Proofs.Ytdfaoafeojoceaa.PAll Go.Proofs.YtdfaoafeojoceaaW.PrintWords Go.Proofs.Ytdfaoafeojoceaa.Pb Go.Proofs.Ytdfaoafeojoceaa.Pure
attribute [local go_sem] put_fresh
attribute [-go_sem] Builtin.append_

theorem dt {a b c d n : Int} (h : ((Lit.int .u8 a).wf = true ∧ (Lit.int .u8 b).wf = true ∧ (Lit.int .u8 c).wf = true ∧ (Lit.int .u8 d).wf = true) ∧ (Lit.int .u64 n).wf = true) : Dt a b c d n := by
  have k8 : ∀ n, (Lit.int .u8 n).wf = true → 0 ≤ n ∧ n < 256 := fun n h => by simp [Lit.wf, IntKind.min, IntKind.max, IntKind.signed, IntKind.bits] at h; omega
  have k64 : ∀ n, (Lit.int .u64 n).wf = true → 0 ≤ n ∧ n < 18446744073709551616 := fun n h => by simp [Lit.wf, IntKind.min, IntKind.max, IntKind.signed, IntKind.bits] at h; omega
  exact ⟨k8 _ h.1.1, k8 _ h.1.2.1, k8 _ h.1.2.2.1, k8 _ h.1.2.2.2, k64 _ h.2⟩
set_option maxRecDepth 100000 in
set_option maxHeartbeats 16000000 in
theorem longest_out (p more name : ByteArray) (a b c d n : Int) (x y : Bool) (W : World) (h : (100 : Int) < p.size ∨ (more.size : Int) < 1 ∨ (100 : Int) < more.size ∨ (100 : Int) < name.size ∨ n = 0) : Calls Try.prog 6 #[.string p, .string more, .string name, .agg #[.int .u8 a, .int .u8 b, .int .u8 c, .int .u8 d, .int .u64 n], .bool x, .bool y] W fun e W' => e = .returned (.bool true) ∧ Below W.heap.size W W' := by
  have hbx := heap_alloc_new W (.cells #[.int .u8 a, .int .u8 b, .int .u8 c, .int .u8 d, .int .u64 n] 53)
  have d4 := blk_cell hbx 4
  simp only [List.getElem?_toArray, List.getElem?_cons_zero, List.getElem?_cons_succ] at d4
  have HA := Aside0.mk (alive_c (W.alloc (.cells #[.int .u8 a, .int .u8 b, .int .u8 c, .int .u8 d, .int .u64 n] 53)))
  have Hb := Aside0.mk (below_alloc (Below.refl W.heap.size W) (.cells #[.int .u8 a, .int .u8 b, .int .u8 c, .int .u8 d, .int .u64 n] 53))
  clear hbx
  have key : decide ((100 : Int) < p.size) = true ∨ decide ((more.size : Int) < 1) = true ∨ decide ((100 : Int) < more.size) = true ∨ decide ((100 : Int) < name.size) = true ∨ n = 0 := by simpa using h
  clear h
  rcases key with g | g | g | g | rfl
  all_goals
    go_enter Try.func6, Try.ntmps6
    go_wp2_with fail
    all_goals
      refine HA.out.mono ?_
      rintro e w1 ⟨rfl, hb1⟩
      have HZ := Aside0.mk (below_step Hb.out hb1)
      clear hb1
      go_wp2
      go_ret
      exact ⟨rfl, HZ.out⟩
end Go.Proofs.Ytdfaoafeojoceaa.Dr
