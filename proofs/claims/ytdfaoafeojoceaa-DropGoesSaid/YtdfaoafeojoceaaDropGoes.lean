/- DropGoes: with a filter just those keys go whose dots are in the rules, and all others stay. -/
import Derived.Test.YtdfaoafeojoceaaDrHH
namespace Go.Proofs.Ytdfaoafeojoceaa.Pure
open Go.RowKit Go.Proofs.Ytdfaoafeojoceaa.Rw Go.Proofs.Ytdfaoafeojoceaa.PAll Go.Proofs.YtdfaoafeojoceaaW.PrintWords
/-- Things of some kind whose cells are a dot's. -/
def KV {α : Type} (g : α → Dr.Dd) : Lie α := ⟨fun x => Dr.dcells (g x), 5, by decide, fun _ => rfl, fun x u hu => Dr.KD.one (g x) u hu⟩
theorem DropGoes_row {α : Type} {Q : Kd α} (g : α → Dr.Dd) {W : World} (hs : Q.sz = 5) (ho : ∀ x cs, Q.K W x cs → cs = Dr.dcells (g x)) (p : ByteArray) (a b c d fr tt : Int) (A : Option Addr) (cc : Nat) (l : List α) (name : ByteArray) (hr : Q.C W A l.length l) (hb : ∀ x ∈ l, Dr.DtD (g x)) :
    Calls Try.prog 5 #[.string p, .agg #[.int .u8 a, .int .u8 b, .int .u8 c, .int .u8 d, .int .u64 fr, .int .u64 tt], .slice A l.length cc, .string name] W fun e w' => e = .returned (.bool true) ∧ Below W.heap.size W w' := by
  by_cases g1 : (100 : Int) < p.size
  · exact Dr.dgoes_out p ⟨a, b, c, d, fr, tt⟩ A cc l.length name W (.inl g1)
  by_cases g2 : (100 : Int) < name.size
  · exact Dr.dgoes_out p ⟨a, b, c, d, fr, tt⟩ A cc l.length name W (.inr (.inl g2))
  by_cases g3 : (40 : Int) < l.length
  · exact Dr.dgoes_out p ⟨a, b, c, d, fr, tt⟩ A cc l.length name W (.inr (.inr (.inl g3)))
  by_cases g4 : fr < 1
  · exact Dr.dgoes_out p ⟨a, b, c, d, fr, tt⟩ A cc l.length name W (.inr (.inr (.inr (.inl g4))))
  by_cases g5 : tt < fr
  · exact Dr.dgoes_out p ⟨a, b, c, d, fr, tt⟩ A cc l.length name W (.inr (.inr (.inr (.inr g5))))
  have h := Reads.of_kd (K := KV g) hs ho (fun x cs _ => ⟨_, rfl⟩) hr
  have h2 : Reads Dr.KD W A (l.map g) := by
    intro h0
    rw [List.length_map] at h0
    have := h h0
    rwa [show (l.map g).flatMap Dr.KD.enc = l.flatMap (KV g).enc by rw [List.flatMap_map]; rfl]
  have h3 := Dr.dgoes_in p ⟨a, b, c, d, fr, tt⟩ cc name h2 (fun x hx => by
    obtain ⟨y, hy, rfl⟩ := List.mem_map.1 hx
    exact hb y hy) g1 g2 (by rwa [List.length_map]) g4 g5
  rw [List.length_map] at h3
  exact h3
end Go.Proofs.Ytdfaoafeojoceaa.Pure
