/- Records that come in, in the words of the walks. -/
import Derived.Test.YtdigpaniganndaaDoorRo
import Derived.Test.YtdigpaniganndaaDoorPAllx0
namespace Go.Proofs.YtdigpaniganndaaDoor.RoS
open Go.RowKit Go.Proofs.YtdigpaniganndaaDoorW.PrintWords Go.Proofs.YtdigpaniganndaaDoor.PAll
theorem opens23 {H : Type} {enc : TypeId × Value → H} {W : World} : Ro.Opens enc Tryd.prog W 23 k23 (fun x : S23 => (Lit.int .u8 x.f0).wf = true ∧ (Lit.int .u8 x.f1).wf = true ∧ (Lit.int .u8 x.f2).wf = true ∧ (Lit.int .u8 x.f3).wf = true) := by
  have h := Ro.opens_array (H := H) (enc := enc) (W := W) Tryd.underlying23 (by kernel_rfl) (Ro.opensA_cons (by kernel_rfl) (Ro.opens_int Tryd.underlying5) (Ro.opensA_cons (by kernel_rfl) (Ro.opens_int Tryd.underlying5) (Ro.opensA_cons (by kernel_rfl) (Ro.opens_int Tryd.underlying5) (Ro.opensA_one (by kernel_rfl) (Ro.opens_int Tryd.underlying5))))) (fun x : S23 => (x.f0, x.f1, x.f2, x.f3)) (fun y => ⟨y.1, y.2.1, y.2.2.1, y.2.2.2⟩) (fun _ => rfl)
  exact h
theorem cells23 {W : World} {y : S23} {cs : List Value} (h : k23.K W y cs) : cs = [.int .u8 y.f0, .int .u8 y.f1, .int .u8 y.f2, .int .u8 y.f3] := by
  obtain ⟨a0, b0, rfl, h0, g0⟩ := h
  obtain ⟨a1, b1, rfl, h1, g1⟩ := g0
  obtain ⟨a2, b2, rfl, h2, g2⟩ := g1
  obtain rfl := h0
  obtain rfl := h1
  obtain rfl := h2
  obtain rfl := g2
  rfl
theorem opens26 {H : Type} {enc : TypeId × Value → H} {W : World} : Ro.Opens enc Tryd.prog W 26 k26 (fun x : S26 => ((Lit.int .u8 x.f0.f0).wf = true ∧ (Lit.int .u8 x.f0.f1).wf = true ∧ (Lit.int .u8 x.f0.f2).wf = true ∧ (Lit.int .u8 x.f0.f3).wf = true) ∧ (Lit.int .u64 x.f1).wf = true) := by
  have h := Ro.opens_struct (H := H) (enc := enc) (W := W) Tryd.underlying26 (by kernel_rfl) (Ro.opensF_cons rfl (by kernel_rfl) (RoS.opens23) (Ro.opensF_one rfl (by kernel_rfl) (Ro.opens_int Tryd.underlying24))) (fun x : S26 => (x.f0, x.f1)) (fun y => ⟨y.1, y.2⟩) (fun _ => rfl)
  exact h
theorem cells26 {W : World} {y : S26} {cs : List Value} (h : k26.K W y cs) : cs = [.int .u8 y.f0.f0, .int .u8 y.f0.f1, .int .u8 y.f0.f2, .int .u8 y.f0.f3, .int .u64 y.f1] := by
  obtain ⟨a0, b0, rfl, h0, g0⟩ := h
  obtain rfl := cells23 h0
  obtain rfl := g0
  rfl
structure S29 where
  f0 : ByteArray
  f1 : Int
  f2 : ByteArray
  f3 : S26
def k29 : Kd S29 := Kd.iso (Kd.pair Kd.string (Kd.pair (Kd.int .i64) (Kd.pair Kd.string k26))) (fun x : S29 => (x.f0, x.f1, x.f2, x.f3))
theorem opens29 {H : Type} {enc : TypeId × Value → H} {W : World} : Ro.Opens enc Tryd.prog W 29 k29 (fun x : S29 => x.f0.size ≤ 140737488351232 ∧ (Lit.int .i64 x.f1).wf = true ∧ x.f2.size ≤ 140737488351232 ∧ (((Lit.int .u8 x.f3.f0.f0).wf = true ∧ (Lit.int .u8 x.f3.f0.f1).wf = true ∧ (Lit.int .u8 x.f3.f0.f2).wf = true ∧ (Lit.int .u8 x.f3.f0.f3).wf = true) ∧ (Lit.int .u64 x.f3.f1).wf = true)) := by
  have h := Ro.opens_struct (H := H) (enc := enc) (W := W) Tryd.underlying29 (by kernel_rfl) (Ro.opensF_cons rfl (by kernel_rfl) (Ro.opens_string Tryd.underlying9) (Ro.opensF_cons rfl (by kernel_rfl) (Ro.opens_int Tryd.underlying3) (Ro.opensF_cons rfl (by kernel_rfl) (Ro.opens_string Tryd.underlying9) (Ro.opensF_one rfl (by kernel_rfl) (RoS.opens26))))) (fun x : S29 => (x.f0, x.f1, x.f2, x.f3)) (fun y => ⟨y.1, y.2.1, y.2.2.1, y.2.2.2⟩) (fun _ => rfl)
  exact h
theorem cells29 {W : World} {y : S29} {cs : List Value} (h : k29.K W y cs) : cs = [.string y.f0, .int .i64 y.f1, .string y.f2, .int .u8 y.f3.f0.f0, .int .u8 y.f3.f0.f1, .int .u8 y.f3.f0.f2, .int .u8 y.f3.f0.f3, .int .u64 y.f3.f1] := by
  obtain ⟨a0, b0, rfl, h0, g0⟩ := h
  obtain ⟨a1, b1, rfl, h1, g1⟩ := g0
  obtain ⟨a2, b2, rfl, h2, g2⟩ := g1
  obtain rfl := h0
  obtain rfl := h1
  obtain rfl := h2
  obtain rfl := cells26 g2
  rfl
end Go.Proofs.YtdigpaniganndaaDoor.RoS
