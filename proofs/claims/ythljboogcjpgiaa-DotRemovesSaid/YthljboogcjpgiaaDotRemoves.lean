/- DotRemoves: what is taken out is not in, all else stays; put in again it is as it was. -/
import Derived.Test.YthljboogcjpgiaaDotRem
namespace Go.Proofs.Ythljboogcjpgiaa.Pure
open Go.RowKit Go.Proofs.Ythljboogcjpgiaa.PAll Go.Proofs.YthljboogcjpgiaaW.PrintWords
theorem wd_of {x : Ds.Dt} (h : ((Lit.int .u8 x.f0.f0).wf = true ∧ (Lit.int .u8 x.f0.f1).wf = true ∧ (Lit.int .u8 x.f0.f2).wf = true ∧ (Lit.int .u8 x.f0.f3).wf = true) ∧ (Lit.int .u64 x.f1).wf = true) : Ds.Wd x :=
  ⟨(Ds.wf8_iff _).1 h.1.1, (Ds.wf8_iff _).1 h.1.2.1, (Ds.wf8_iff _).1 h.1.2.2.1, (Ds.wf8_iff _).1 h.1.2.2.2, (Ds.wf64_iff _).1 h.2⟩
abbrev Bd (l : List Ds.Dt) : Prop := l.length * Try.prog.bytesOf 26 ≤ 140737488351232 ∧ ∀ x ∈ l, ((Lit.int .u8 x.f0.f0).wf = true ∧ (Lit.int .u8 x.f0.f1).wf = true ∧ (Lit.int .u8 x.f0.f2).wf = true ∧ (Lit.int .u8 x.f0.f3).wf = true) ∧ (Lit.int .u64 x.f1).wf = true
theorem bd_len {l : List Ds.Dt} (h : Bd l) : l.length < 4611686018427387904 := by
  have := h.1
  rw [show Try.prog.bytesOf 26 = 16 from by kernel_rfl] at this
  omega
theorem DotRemoves_row (A0 : Option Addr) (c0 : Nat) (l0 : List Ds.Dt) (A1 : Option Addr) (c1 : Nat) (l1 : List Ds.Dt) (W : World) (hr0 : Kd.C k26 W A0 l0.length l0) (hr1 : Kd.C k26 W A1 l1.length l1) (b0 : Bd l0) (b1 : Bd l1) :
    Calls Try.prog 6 #[.slice A0 l0.length c0, .slice A1 l1.length c1] W fun e w' => e = .returned (.bool true) ∧ Below W.heap.size W w' :=
  Ds.removes_c _ _ (Ds.toV l0 fun x hx => wd_of (b0.2 x hx)) (Ds.toV l1 fun x hx => wd_of (b1.2 x hx)) W (Ds.drow_of_C hr0 _) (Ds.drow_of_C hr1 _) (by rw [Ds.toV_length]; exact bd_len b0) (by rw [Ds.toV_length]; exact bd_len b1)
end Go.Proofs.Ythljboogcjpgiaa.Pure
