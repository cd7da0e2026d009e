/- Records that come in, in the words of the walks. -/
import Derived.Test.YtbejofbbmpmnfaaDoorRo
import Derived.Test.YtbejofbbmpmnfaaDoorPAllx0
namespace Go.Proofs.YtbejofbbmpmnfaaDoor.RoS
open Go.RowKit Go.Proofs.YtbejofbbmpmnfaaDoorW.PrintWords Go.Proofs.YtbejofbbmpmnfaaDoor.PAll
theorem opens35 {H : Type} {enc : TypeId × Value → H} {W : World} : Ro.Opens enc Tryd.prog W 35 k35 (fun x : S35 => (Lit.int .i64 x.f0).wf = true ∧ x.f1.size ≤ 140737488351232 ∧ (Lit.int .u64 x.f2).wf = true ∧ (Lit.int .i64 x.f3).wf = true) := by
  have h := Ro.opens_struct (H := H) (enc := enc) (W := W) Tryd.underlying35 (by kernel_rfl) (Ro.opensF_cons rfl (by kernel_rfl) (Ro.opens_int Tryd.underlying3) (Ro.opensF_cons rfl (by kernel_rfl) (Ro.opens_string Tryd.underlying9) (Ro.opensF_cons rfl (by kernel_rfl) (Ro.opens_int Tryd.underlying28) (Ro.opensF_one rfl (by kernel_rfl) (Ro.opens_int Tryd.underlying3))))) (fun x : S35 => (x.f0, x.f1, x.f2, x.f3)) (fun y => ⟨y.1, y.2.1, y.2.2.1, y.2.2.2⟩) (fun _ => rfl)
  exact h
end Go.Proofs.YtbejofbbmpmnfaaDoor.RoS
