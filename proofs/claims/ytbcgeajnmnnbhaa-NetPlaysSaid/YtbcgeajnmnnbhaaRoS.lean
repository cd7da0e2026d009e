/- Records that come in, in the words of the walks. -/
import Derived.Test.YtbcgeajnmnnbhaaRo
import Derived.Test.YtbcgeajnmnnbhaaPAllx0
namespace Go.Proofs.Ytbcgeajnmnnbhaa.RoS
open Go.RowKit Go.Proofs.YtbcgeajnmnnbhaaW.PrintWords Go.Proofs.Ytbcgeajnmnnbhaa.PAll
theorem opens27 {H : Type} {enc : TypeId × Value → H} {W : World} : Ro.Opens enc Try.prog W 27 k27 (fun x : S27 => (Lit.int .i64 x.f0).wf = true ∧ (Lit.int .i64 x.f1).wf = true ∧ x.f2.size ≤ 140737488351232) := by
  have h := Ro.opens_struct (H := H) (enc := enc) (W := W) Try.underlying27 (by kernel_rfl) (Ro.opensF_cons rfl (by kernel_rfl) (Ro.opens_int Try.underlying3) (Ro.opensF_cons rfl (by kernel_rfl) (Ro.opens_int Try.underlying3) (Ro.opensF_one rfl (by kernel_rfl) (Ro.opens_string Try.underlying9)))) (fun x : S27 => (x.f0, x.f1, x.f2)) (fun y => ⟨y.1, y.2.1, y.2.2⟩) (fun _ => rfl)
  exact h
theorem cells27 {W : World} {y : S27} {cs : List Value} (h : k27.K W y cs) : cs = [.int .i64 y.f0, .int .i64 y.f1, .string y.f2] := by
  obtain ⟨a0, b0, rfl, h0, g0⟩ := h
  obtain ⟨a1, b1, rfl, h1, g1⟩ := g0
  obtain rfl := h0
  obtain rfl := h1
  obtain rfl := g1
  rfl
structure S48 where
  f0 : Int
  f1 : Int
  f2 : Int
  f3 : Int
  f4 : (List S27)
def k48 : Kd S48 := Kd.iso (Kd.pair (Kd.int .i64) (Kd.pair (Kd.int .i64) (Kd.pair (Kd.int .i64) (Kd.pair (Kd.int .i64) (Kd.slice 27 k27))))) (fun x : S48 => (x.f0, x.f1, x.f2, x.f3, x.f4))
theorem opens48 {H : Type} {enc : TypeId × Value → H} {W : World} : Ro.Opens enc Try.prog W 48 k48 (fun x : S48 => (Lit.int .i64 x.f0).wf = true ∧ (Lit.int .i64 x.f1).wf = true ∧ (Lit.int .i64 x.f2).wf = true ∧ (Lit.int .i64 x.f3).wf = true ∧ (x.f4.length * Try.prog.bytesOf 27 ≤ 140737488351232 ∧ ∀ q_ ∈ x.f4, ((Lit.int .i64 q_.f0).wf = true ∧ (Lit.int .i64 q_.f1).wf = true ∧ q_.f2.size ≤ 140737488351232))) := by
  have h := Ro.opens_struct (H := H) (enc := enc) (W := W) Try.underlying48 (by kernel_rfl) (Ro.opensF_cons rfl (by kernel_rfl) (Ro.opens_int Try.underlying3) (Ro.opensF_cons rfl (by kernel_rfl) (Ro.opens_int Try.underlying3) (Ro.opensF_cons rfl (by kernel_rfl) (Ro.opens_int Try.underlying3) (Ro.opensF_cons rfl (by kernel_rfl) (Ro.opens_int Try.underlying3) (Ro.opensF_one rfl (by kernel_rfl) (Ro.opens_slice Try.underlying36 (by kernel_rfl) (RoS.opens27))))))) (fun x : S48 => (x.f0, x.f1, x.f2, x.f3, x.f4)) (fun y => ⟨y.1, y.2.1, y.2.2.1, y.2.2.2.1, y.2.2.2.2⟩) (fun _ => rfl)
  exact h
end Go.Proofs.Ytbcgeajnmnnbhaa.RoS
