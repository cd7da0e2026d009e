/- Records that come in, in the words of the walks. -/
import Derived.Test.YthljboogcjpgiaaRo
import Derived.Test.YthljboogcjpgiaaPAllx0
namespace Go.Proofs.Ythljboogcjpgiaa.RoS
open Go.RowKit Go.Proofs.YthljboogcjpgiaaW.PrintWords Go.Proofs.Ythljboogcjpgiaa.PAll
theorem opens23 {H : Type} {enc : TypeId × Value → H} {W : World} : Ro.Opens enc Try.prog W 23 k23 (fun x : S23 => (Lit.int .u8 x.f0).wf = true ∧ (Lit.int .u8 x.f1).wf = true ∧ (Lit.int .u8 x.f2).wf = true ∧ (Lit.int .u8 x.f3).wf = true) := by
  have h := Ro.opens_array (H := H) (enc := enc) (W := W) Try.underlying23 (by kernel_rfl) (Ro.opensA_cons (by kernel_rfl) (Ro.opens_int Try.underlying5) (Ro.opensA_cons (by kernel_rfl) (Ro.opens_int Try.underlying5) (Ro.opensA_cons (by kernel_rfl) (Ro.opens_int Try.underlying5) (Ro.opensA_one (by kernel_rfl) (Ro.opens_int Try.underlying5))))) (fun x : S23 => (x.f0, x.f1, x.f2, x.f3)) (fun y => ⟨y.1, y.2.1, y.2.2.1, y.2.2.2⟩) (fun _ => rfl)
  exact h
theorem cells23 {W : World} {y : S23} {cs : List Value} (h : k23.K W y cs) : cs = [.int .u8 y.f0, .int .u8 y.f1, .int .u8 y.f2, .int .u8 y.f3] := by
  obtain ⟨a0, b0, rfl, h0, g0⟩ := h
  obtain ⟨a1, b1, rfl, h1, g1⟩ := g0
  obtain ⟨a2, b2, rfl, h2, g2⟩ := g1
  obtain rfl := h0
  obtain rfl := h1
  obtain rfl := h2
  obtain rfl := g2
  rfl
theorem opens26 {H : Type} {enc : TypeId × Value → H} {W : World} : Ro.Opens enc Try.prog W 26 k26 (fun x : S26 => ((Lit.int .u8 x.f0.f0).wf = true ∧ (Lit.int .u8 x.f0.f1).wf = true ∧ (Lit.int .u8 x.f0.f2).wf = true ∧ (Lit.int .u8 x.f0.f3).wf = true) ∧ (Lit.int .u64 x.f1).wf = true) := by
  have h := Ro.opens_struct (H := H) (enc := enc) (W := W) Try.underlying26 (by kernel_rfl) (Ro.opensF_cons rfl (by kernel_rfl) (RoS.opens23) (Ro.opensF_one rfl (by kernel_rfl) (Ro.opens_int Try.underlying24))) (fun x : S26 => (x.f0, x.f1)) (fun y => ⟨y.1, y.2⟩) (fun _ => rfl)
  exact h
theorem cells26 {W : World} {y : S26} {cs : List Value} (h : k26.K W y cs) : cs = [.int .u8 y.f0.f0, .int .u8 y.f0.f1, .int .u8 y.f0.f2, .int .u8 y.f0.f3, .int .u64 y.f1] := by
  obtain ⟨a0, b0, rfl, h0, g0⟩ := h
  obtain rfl := cells23 h0
  obtain rfl := g0
  rfl
end Go.Proofs.Ythljboogcjpgiaa.RoS
