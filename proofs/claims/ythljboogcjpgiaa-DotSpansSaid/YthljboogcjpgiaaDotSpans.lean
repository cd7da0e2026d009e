/- DotSpans: spans have just a set's dots, in order, none beside another one; the order of adding plays no part. -/
import Derived.Test.YthljboogcjpgiaaDotSps
namespace Go.Proofs.Ythljboogcjpgiaa.Pure
open Go.RowKit Go.Proofs.Ythljboogcjpgiaa.PAll Go.Proofs.YthljboogcjpgiaaW.PrintWords
theorem wd_of {x : Ds.Dt} (h : ((Lit.int .u8 x.f0.f0).wf = true ∧ (Lit.int .u8 x.f0.f1).wf = true ∧ (Lit.int .u8 x.f0.f2).wf = true ∧ (Lit.int .u8 x.f0.f3).wf = true) ∧ (Lit.int .u64 x.f1).wf = true) : Ds.Wd x :=
  ⟨(Ds.wf8_iff _).1 h.1.1, (Ds.wf8_iff _).1 h.1.2.1, (Ds.wf8_iff _).1 h.1.2.2.1, (Ds.wf8_iff _).1 h.1.2.2.2, (Ds.wf64_iff _).1 h.2⟩
abbrev Bd (l : List Ds.Dt) : Prop := l.length * Try.prog.bytesOf 26 ≤ 140737488351232 ∧ ∀ x ∈ l, ((Lit.int .u8 x.f0.f0).wf = true ∧ (Lit.int .u8 x.f0.f1).wf = true ∧ (Lit.int .u8 x.f0.f2).wf = true ∧ (Lit.int .u8 x.f0.f3).wf = true) ∧ (Lit.int .u64 x.f1).wf = true
theorem bd_len {l : List Ds.Dt} (h : Bd l) : l.length < 4611686018427387904 := by
  have := h.1
  rw [show Try.prog.bytesOf 26 = 16 from by kernel_rfl] at this
  omega
theorem DotSpans_row (A0 : Option Addr) (c0 : Nat) (l0 : List Ds.Dt) (a b : Int) (W : World) (hr0 : Kd.C k26 W A0 l0.length l0) (b0 : Bd l0) :
    Calls Try.prog 5 #[.slice A0 l0.length c0, .int .i64 a, .int .i64 b] W fun e w' => e = .returned (.bool true) ∧ Below W.heap.size W w' := by
  have h := Ds.dspans_c (.slice A0 l0.length c0) (Ds.toV l0 fun x hx => wd_of (b0.2 x hx)) a b W (Ds.drow_of_C hr0 _) (by rw [Ds.toV_length]; exact bd_len b0)
  exact h
end Go.Proofs.Ythljboogcjpgiaa.Pure
