/- Records that come in, in the words of the walks. -/
import Derived.Test.YtdfaoafeojoceaaRo
import Derived.Test.YtdfaoafeojoceaaPAllx0
namespace Go.Proofs.Ytdfaoafeojoceaa.RoS
open Go.RowKit Go.Proofs.YtdfaoafeojoceaaW.PrintWords Go.Proofs.Ytdfaoafeojoceaa.PAll
theorem opens37 {H : Type} {enc : TypeId × Value → H} {W : World} : Ro.Opens enc Try.prog W 37 k37 (fun x : S37 => x.f0.size ≤ 140737488351232 ∧ (Lit.int .u64 x.f1).wf = true ∧ (Lit.int .i64 x.f2).wf = true ∧ x.f3.size ≤ 140737488351232) := by
  have h := Ro.opens_struct (H := H) (enc := enc) (W := W) Try.underlying37 (by kernel_rfl) (Ro.opensF_cons rfl (by kernel_rfl) (Ro.opens_string Try.underlying9) (Ro.opensF_cons rfl (by kernel_rfl) (Ro.opens_int Try.underlying35) (Ro.opensF_cons rfl (by kernel_rfl) (Ro.opens_int Try.underlying3) (Ro.opensF_one rfl (by kernel_rfl) (Ro.opens_string Try.underlying9))))) (fun x : S37 => (x.f0, x.f1, x.f2, x.f3)) (fun y => ⟨y.1, y.2.1, y.2.2.1, y.2.2.2⟩) (fun _ => rfl)
  exact h
theorem cells37 {W : World} {y : S37} {cs : List Value} (h : k37.K W y cs) : cs = [.string y.f0, .int .u64 y.f1, .int .i64 y.f2, .string y.f3] := by
  obtain ⟨a0, b0, rfl, h0, g0⟩ := h
  obtain ⟨a1, b1, rfl, h1, g1⟩ := g0
  obtain ⟨a2, b2, rfl, h2, g2⟩ := g1
  obtain rfl := h0
  obtain rfl := h1
  obtain rfl := h2
  obtain rfl := g2
  rfl
end Go.Proofs.Ytdfaoafeojoceaa.RoS
