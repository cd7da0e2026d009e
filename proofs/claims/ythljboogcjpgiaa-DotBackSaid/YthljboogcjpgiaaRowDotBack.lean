/- DotBack: the row of the law, out of its walk and the plain theorem. -/
import Derived.Test.YthljboogcjpgiaaRows
import Derived.Test.YthljboogcjpgiaaDotBack
import Derived.Test.YthljboogcjpgiaaRo
import Derived.Test.YthljboogcjpgiaaPAllx12
import Derived.WalkKit
import Derived.ProofKit
import Derived.OpenShut
import Derived.ShutString
import Derived.ChangeOld
import Derived.Below
import Derived.SizedLaws
import Derived.Test.YthljboogcjpgiaaRoS
namespace Go.Proofs.Ythljboogcjpgiaa.dotBack
open Go.ChangeShapes Go.WideShapes Go.ChangeAt Go.RowKit Go.Proofs.Ythljboogcjpgiaa.PAll Go.Proofs.Ythljboogcjpgiaa.Pure
open Go.ChangeMaps (open_string shut_string)
set_option linter.unusedVariables false
theorem own : ownKnob Try.prog.godebug = none := by kernel_rfl
theorem laidOut : laidOutB Try.prog = true := by kernel_rfl
set_option maxRecDepth 100000 in
theorem lifted (os : Os) (started : os.Started) (H : Type) (enc : TypeId × Value → H) :
    ReturnsInHanded {} Try.checked os 4 .any (Rows.dotBackSpec.pre6 enc Try.prog Try.f4 Rows.dotBackRow.domain false) (Rows.dotBackSpec.post enc Try.prog Try.f4 false true false false) := by
  refine returnsInHanded_of_change_sized (C := Try.checked) own started (by kernel_rfl) Try.func4
    (ChangeSpec.witness6 (enc := enc) (C := Try.checked) false ⟨#[], #[.int .i64 0, .agg #[.int .u8 0, .int .u8 0, .int .u8 0, .int .u8 0, .int .u64 0], .agg #[.int .u8 0, .int .u8 0, .int .u8 0, .int .u8 0, .int .u64 0]], []⟩ 8 (by kernel_rfl) (by kernel_rfl) (by kernel_rfl) (by kernel_rfl)) ?_
  intro W base args ds gs before hval0 hW hcnd hsz0 _
  have hsz : (DataW.weightsEach Try.prog (Try.f4.params.toList ++ Rows.dotBackSpec.plain.varTypes Try.prog) (ds ++ gs)).all (· ≤ reachBytes) = true := hsz0
  have hval : ∀ (j : Nat) t v, Try.f4.params[j]? = some t → args[j]? = some v → Value.okWide Try.prog W .any base t v := hval0
  have hW' := hW
  obtain ⟨p, q, hA0, hV, rfl, hfz, hnd⟩ := hW
  have hA : DataW.TrodAll enc Try.prog W 0 (fun _ => true) true Try.f4.params.toList args.toList ds p := hA0
  rw [Try.params4] at hA hval hsz
  obtain ⟨v0, vs0, d0, ds0, p0, q0, hargs, rfl, rfl, h0, r0⟩ := trodAll_cons hA
  obtain ⟨v1, vs1, d1, ds1, p1, q1, rfl, rfl, rfl, h1, r1⟩ := trodAll_cons r0
  obtain ⟨v2, vs2, d2, ds2, p2, q2, rfl, rfl, rfl, h2, r2⟩ := trodAll_cons r1
  obtain ⟨rfl, rfl, rfl⟩ := trodAll_nil r2
  obtain rfl : args = #[v0, v1, v2] := by cases args; simp_all
  obtain ⟨rfl, rfl⟩ := trodVars_none hV
  obtain ⟨a0, rfl, rfl, rfl, w0⟩ := open_int Try.underlying3 (hval 0 3 v0 rfl rfl) h0
  obtain ⟨cs1, rfl, _⟩ := okWide_struct Try.underlying26 (hval 1 26 v1 rfl rfl)
  have k1 := h1
  have lt1 : ∀ x ∈ p1, x.block < W.heap.size := by obtain ⟨m, hm⟩ := k1; exact DataW.trod_lt m _ _ _ hm
  obtain ⟨s1, ks1, b1⟩ := Ro.open_agg_arg (RoS.opens26) h1 (Ro.weights_param hsz (j := 1) (t := 26) rfl rfl)
  obtain rfl : cs1 = #[.int .u8 s1.f0.f0, .int .u8 s1.f0.f1, .int .u8 s1.f0.f2, .int .u8 s1.f0.f3, .int .u64 s1.f1] := Array.toList_inj.1 (RoS.cells26 ks1)
  obtain ⟨cs2, rfl, _⟩ := okWide_struct Try.underlying26 (hval 2 26 v2 rfl rfl)
  have k2 := h2
  have lt2 : ∀ x ∈ p2, x.block < W.heap.size := by obtain ⟨m, hm⟩ := k2; exact DataW.trod_lt m _ _ _ hm
  obtain ⟨s2, ks2, b2⟩ := Ro.open_agg_arg (RoS.opens26) h2 (Ro.weights_param hsz (j := 2) (t := 26) rfl rfl)
  obtain rfl : cs2 = #[.int .u8 s2.f0.f0, .int .u8 s2.f0.f1, .int .u8 s2.f0.f2, .int .u8 s2.f0.f3, .int .u64 s2.f1] := Array.toList_inj.1 (RoS.cells26 ks2)
  clear hA0 hval0 hsz0 hsz
  obtain ⟨k, hk⟩ := DotBack_pure a0 (dt b1) (dt b2)
  refine (cornucopialaw18_DotBack.calls k a0 s1.f0.f0 s1.f0.f1 s1.f0.f2 s1.f0.f3 s1.f1 s2.f0.f0 s2.f0.f1 s2.f0.f2 s2.f0.f3 s2.f1 true W hk).mono fun e W' ⟨he, bel⟩ => ?_
  subst he
  exact ⟨_, rfl, _, _, _, [], _, [], hW', trodAll_mk1 (shut_bool Try.underlying4 _), (trodAll_cons_mk (shut_int Try.underlying3 w0) (trodAll_cons_mk (Below.trod laidOut (by kernel_rfl) (of_decide_eq_true (by kernel_rfl)) k1 bel lt1) (trodAll_cons_mk (Below.trod laidOut (by kernel_rfl) (of_decide_eq_true (by kernel_rfl)) k2 bel lt2) trodAll_mk0))), rfl, bel.frame _, fun h => by cases h⟩
theorem over : Rows.dotBackRow.holds Try.pinned (OpenSpec.ofChange Rows.dotBackSpec) :=
  OpenClaim.holds_of_wide 4 Try.f4 rfl rfl rfl rfl rfl rfl rfl ⟨rfl, rfl, rfl, rfl, rfl⟩ rfl rfl rfl rfl rfl (by kernel_rfl) Try.func4 (by kernel_rfl)
    (of_decide_eq_true (by kernel_rfl)) (by unfold Func.isWrapper; first | (rw [if_pos (by decide +kernel)]; kernel_rfl) | (rw [if_neg (by decide +kernel)]; exact ⟨rfl, rfl⟩))
    (fun os started H enc _ => lifted os started H enc)
theorem proved : Rows.DotBackSaid := over
#print axioms proved
end Go.Proofs.Ythljboogcjpgiaa.dotBack
namespace Go.Proofs.Ythljboogcjpgiaa
/-- The row, under a short name, for the claim. -/
theorem dotBack_holds : Rows.DotBackSaid := dotBack.proved
end Go.Proofs.Ythljboogcjpgiaa
