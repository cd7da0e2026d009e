/- Two dots of a row exchanged. -/
import Derived.Test.YthljboogcjpgiaaDotSpa
import Derived.Shelf.SlSortCmp.ReverseRangeK
import Derived.Shelf.RegionOpenPlain
import Derived.Deep.DeepCutAuto
set_option linter.unusedSimpArgs false
set_option linter.unusedVariables false
namespace Go.Proofs.Ythljboogcjpgiaa.Ds
open Go.RowKit Go.Maps Go.Sort Go.Shelf Go.Proofs Go.Proofs.Ythljboogcjpgiaa.PAll Go.Proofs.YthljboogcjpgiaaW.PrintWords

theorem step_store_runI {P : Program} {ops : Array Oper} {o : Oper} {a : Act} {w : World} {K : Act → World → Prop} {Q : Exit → Act → World → Prop} {E : Prop}
    (hg : o.guard = none) (p x : Operand) (t : TypeId) (hop : o.op = Op.store t p x) (ad : Addr) (u : Value) (hp : a.eval p = .pointer (some ad)) (hx : a.eval x = u) {w' : World} (hr : (storeVar t ad u).run P w = .ok () w') (hK : K (a.put o.dst undef) w') :
    if Region.wanted o (yielded ops a.tmps) = true then Oper.wp P o a w K Q else E := by
  have hw : Region.wanted o (yielded ops a.tmps) = true := by simp [Region.wanted, hg]
  rw [if_pos hw]
  unfold Oper.wp
  simp [execOp, hop, Instr.storeAt, Instr.sureAddr, hp, hx, hr, Result.andThen]
  exact hK
theorem run_store_d {w w' : World} {b o : Nat} {x : Vd} (h : (storeCells ⟨b, o, none⟩ (venc x) 0).run Try.prog w = .ok () w') : (storeVar 26 ⟨b, o, none⟩ (vval x)).run Try.prog w = .ok () w' := by
  have hz := Try.sizeOf26 w
  unfold storeVar
  simp [hz, vval, Value.cells, venc_length, h, Result.andThen]
theorem swp_perm {d : Array Vd} {i j : Nat} (hi : i < d.size) (hj : j < d.size) : (swp d i j).toList.Perm d.toList := by
  have e : swp d i j = d.swap i j hi hj := by
    unfold swp
    rw [Array.swap_def]
    simp [Array.setIfInBounds, hi, hj, getElem!_pos d i hi, getElem!_pos d j hj]
  rw [e]
  exact (Array.swap_perm hi hj).toList
end Go.Proofs.Ythljboogcjpgiaa.Ds
