/- Records that come in, in the words of the walks. -/
import Derived.Test.YtikhjnokfakgiaaRo
import Derived.Test.YtikhjnokfakgiaaPAllx0
namespace Go.Proofs.Ytikhjnokfakgiaa.RoS
open Go.RowKit Go.Proofs.YtikhjnokfakgiaaW.PrintWords Go.Proofs.Ytikhjnokfakgiaa.PAll
theorem opens42 {H : Type} {enc : TypeId × Value → H} {W : World} : Ro.Opens enc Try.prog W 42 k42 (fun x : S42 => (Lit.int .i64 x.f0).wf = true ∧ (Lit.int .i64 x.f1).wf = true ∧ (Lit.int .i64 x.f2).wf = true ∧ x.f3.size ≤ 140737488351232 ∧ x.f4.size ≤ 140737488351232) := by
  have h := Ro.opens_struct (H := H) (enc := enc) (W := W) Try.underlying42 (by kernel_rfl) (Ro.opensF_cons rfl (by kernel_rfl) (Ro.opens_int Try.underlying3) (Ro.opensF_cons rfl (by kernel_rfl) (Ro.opens_int Try.underlying3) (Ro.opensF_cons rfl (by kernel_rfl) (Ro.opens_int Try.underlying3) (Ro.opensF_cons rfl (by kernel_rfl) (Ro.opens_string Try.underlying9) (Ro.opensF_one rfl (by kernel_rfl) (Ro.opens_string Try.underlying9)))))) (fun x : S42 => (x.f0, x.f1, x.f2, x.f3, x.f4)) (fun y => ⟨y.1, y.2.1, y.2.2.1, y.2.2.2.1, y.2.2.2.2⟩) (fun _ => rfl)
  exact h
theorem cells42 {W : World} {y : S42} {cs : List Value} (h : k42.K W y cs) : cs = [.int .i64 y.f0, .int .i64 y.f1, .int .i64 y.f2, .string y.f3, .string y.f4] := by
  obtain ⟨a0, b0, rfl, h0, g0⟩ := h
  obtain ⟨a1, b1, rfl, h1, g1⟩ := g0
  obtain ⟨a2, b2, rfl, h2, g2⟩ := g1
  obtain ⟨a3, b3, rfl, h3, g3⟩ := g2
  obtain rfl := h0
  obtain rfl := h1
  obtain rfl := h2
  obtain rfl := h3
  obtain rfl := g3
  rfl
structure S25 where
  f0 : Int
  f1 : Int
  f2 : Int
  f3 : (List S42)
def k25 : Kd S25 := Kd.iso (Kd.pair (Kd.int .i64) (Kd.pair (Kd.int .i64) (Kd.pair (Kd.int .u64) (Kd.slice 42 k42)))) (fun x : S25 => (x.f0, x.f1, x.f2, x.f3))
theorem opens25 {H : Type} {enc : TypeId × Value → H} {W : World} : Ro.Opens enc Try.prog W 25 k25 (fun x : S25 => (Lit.int .i64 x.f0).wf = true ∧ (Lit.int .i64 x.f1).wf = true ∧ (Lit.int .u64 x.f2).wf = true ∧ (x.f3.length * Try.prog.bytesOf 42 ≤ 140737488351232 ∧ ∀ q_ ∈ x.f3, ((Lit.int .i64 q_.f0).wf = true ∧ (Lit.int .i64 q_.f1).wf = true ∧ (Lit.int .i64 q_.f2).wf = true ∧ q_.f3.size ≤ 140737488351232 ∧ q_.f4.size ≤ 140737488351232))) := by
  have h := Ro.opens_struct (H := H) (enc := enc) (W := W) Try.underlying25 (by kernel_rfl) (Ro.opensF_cons rfl (by kernel_rfl) (Ro.opens_int Try.underlying3) (Ro.opensF_cons rfl (by kernel_rfl) (Ro.opens_int Try.underlying3) (Ro.opensF_cons rfl (by kernel_rfl) (Ro.opens_int Try.underlying22) (Ro.opensF_one rfl (by kernel_rfl) (Ro.opens_slice Try.underlying23 (by kernel_rfl) (RoS.opens42)))))) (fun x : S25 => (x.f0, x.f1, x.f2, x.f3)) (fun y => ⟨y.1, y.2.1, y.2.2.1, y.2.2.2⟩) (fun _ => rfl)
  exact h
theorem opened25 {W : World} {y : S25} {cs : List Value} (h : k25.K W y cs) : ∃ A3 c3, cs = [.int .i64 y.f0, .int .i64 y.f1, .int .u64 y.f2, .slice A3 y.f3.length c3] ∧ y.f3.length ≤ c3 ∧ (k42).C W A3 y.f3.length y.f3 := by
  obtain ⟨a0, b0, rfl, h0, g0⟩ := h
  obtain ⟨a1, b1, rfl, h1, g1⟩ := g0
  obtain ⟨a2, b2, rfl, h2, g2⟩ := g1
  obtain rfl := h0
  obtain rfl := h1
  obtain rfl := h2
  obtain ⟨A3, c3, rfl, hc3, hr3⟩ := g2
  exact ⟨A3, c3, rfl, hc3, hr3⟩
end Go.Proofs.Ytikhjnokfakgiaa.RoS
