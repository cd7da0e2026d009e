/- Records that come in, in the words of the walks. -/
import Derived.Test.YtdfaoafeojoceaaRo
import Derived.Test.YtdfaoafeojoceaaPAllx0
namespace Go.Proofs.Ytdfaoafeojoceaa.RoS
open Go.RowKit Go.Proofs.YtdfaoafeojoceaaW.PrintWords Go.Proofs.Ytdfaoafeojoceaa.PAll
structure S45 where
  f0 : Int
  f1 : Int
  f2 : Int
  f3 : Int
def k45 : Kd S45 := Kd.iso (Kd.pair (Kd.int .u8) (Kd.pair (Kd.int .u8) (Kd.pair (Kd.int .u8) (Kd.int .u8)))) (fun x : S45 => (x.f0, x.f1, x.f2, x.f3))
theorem opens45 {H : Type} {enc : TypeId × Value → H} {W : World} : Ro.Opens enc Try.prog W 45 k45 (fun x : S45 => (Lit.int .u8 x.f0).wf = true ∧ (Lit.int .u8 x.f1).wf = true ∧ (Lit.int .u8 x.f2).wf = true ∧ (Lit.int .u8 x.f3).wf = true) := by
  have h := Ro.opens_array (H := H) (enc := enc) (W := W) Try.underlying45 (by kernel_rfl) (Ro.opensA_cons (by kernel_rfl) (Ro.opens_int Try.underlying5) (Ro.opensA_cons (by kernel_rfl) (Ro.opens_int Try.underlying5) (Ro.opensA_cons (by kernel_rfl) (Ro.opens_int Try.underlying5) (Ro.opensA_one (by kernel_rfl) (Ro.opens_int Try.underlying5))))) (fun x : S45 => (x.f0, x.f1, x.f2, x.f3)) (fun y => ⟨y.1, y.2.1, y.2.2.1, y.2.2.2⟩) (fun _ => rfl)
  exact h
theorem cells45 {W : World} {y : S45} {cs : List Value} (h : k45.K W y cs) : cs = [.int .u8 y.f0, .int .u8 y.f1, .int .u8 y.f2, .int .u8 y.f3] := by
  obtain ⟨a0, b0, rfl, h0, g0⟩ := h
  obtain ⟨a1, b1, rfl, h1, g1⟩ := g0
  obtain ⟨a2, b2, rfl, h2, g2⟩ := g1
  obtain rfl := h0
  obtain rfl := h1
  obtain rfl := h2
  obtain rfl := g2
  rfl
structure S47 where
  f0 : S45
  f1 : Int
  f2 : Int
def k47 : Kd S47 := Kd.iso (Kd.pair k45 (Kd.pair (Kd.int .u64) (Kd.int .u64))) (fun x : S47 => (x.f0, x.f1, x.f2))
theorem opens47 {H : Type} {enc : TypeId × Value → H} {W : World} : Ro.Opens enc Try.prog W 47 k47 (fun x : S47 => ((Lit.int .u8 x.f0.f0).wf = true ∧ (Lit.int .u8 x.f0.f1).wf = true ∧ (Lit.int .u8 x.f0.f2).wf = true ∧ (Lit.int .u8 x.f0.f3).wf = true) ∧ (Lit.int .u64 x.f1).wf = true ∧ (Lit.int .u64 x.f2).wf = true) := by
  have h := Ro.opens_struct (H := H) (enc := enc) (W := W) Try.underlying47 (by kernel_rfl) (Ro.opensF_cons rfl (by kernel_rfl) (RoS.opens45) (Ro.opensF_cons rfl (by kernel_rfl) (Ro.opens_int Try.underlying35) (Ro.opensF_one rfl (by kernel_rfl) (Ro.opens_int Try.underlying35)))) (fun x : S47 => (x.f0, x.f1, x.f2)) (fun y => ⟨y.1, y.2.1, y.2.2⟩) (fun _ => rfl)
  exact h
theorem cells47 {W : World} {y : S47} {cs : List Value} (h : k47.K W y cs) : cs = [.int .u8 y.f0.f0, .int .u8 y.f0.f1, .int .u8 y.f0.f2, .int .u8 y.f0.f3, .int .u64 y.f1, .int .u64 y.f2] := by
  obtain ⟨a0, b0, rfl, h0, g0⟩ := h
  obtain ⟨a1, b1, rfl, h1, g1⟩ := g0
  obtain rfl := cells45 h0
  obtain rfl := h1
  obtain rfl := g1
  rfl
structure S53 where
  f0 : S45
  f1 : Int
def k53 : Kd S53 := Kd.iso (Kd.pair k45 (Kd.int .u64)) (fun x : S53 => (x.f0, x.f1))
theorem opens53 {H : Type} {enc : TypeId × Value → H} {W : World} : Ro.Opens enc Try.prog W 53 k53 (fun x : S53 => ((Lit.int .u8 x.f0.f0).wf = true ∧ (Lit.int .u8 x.f0.f1).wf = true ∧ (Lit.int .u8 x.f0.f2).wf = true ∧ (Lit.int .u8 x.f0.f3).wf = true) ∧ (Lit.int .u64 x.f1).wf = true) := by
  have h := Ro.opens_struct (H := H) (enc := enc) (W := W) Try.underlying53 (by kernel_rfl) (Ro.opensF_cons rfl (by kernel_rfl) (RoS.opens45) (Ro.opensF_one rfl (by kernel_rfl) (Ro.opens_int Try.underlying35))) (fun x : S53 => (x.f0, x.f1)) (fun y => ⟨y.1, y.2⟩) (fun _ => rfl)
  exact h
theorem cells53 {W : World} {y : S53} {cs : List Value} (h : k53.K W y cs) : cs = [.int .u8 y.f0.f0, .int .u8 y.f0.f1, .int .u8 y.f0.f2, .int .u8 y.f0.f3, .int .u64 y.f1] := by
  obtain ⟨a0, b0, rfl, h0, g0⟩ := h
  obtain rfl := cells45 h0
  obtain rfl := g0
  rfl
end Go.Proofs.Ytdfaoafeojoceaa.RoS
