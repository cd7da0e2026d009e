/- DropLongest: rules just laid; which keys go. -/
import Derived.Test.YtdfaoafeojoceaaDrL0
set_option linter.unusedSimpArgs false
set_option linter.unusedVariables false
namespace Go.Proofs.Ytdfaoafeojoceaa.Dr
open Go.RowKit Go.Maps Go.Proofs Go.Proofs.Ytdfaoafeojoceaa.Rw Go.Proofs.Ytdfaoafeojoceaa.PAll Go.Proofs.YtdfaoafeojoceaaW.PrintWords Go.Proofs.Ytdfaoafeojoceaa.Pb Go.Proofs.Ytdfaoafeojoceaa.Pure
attribute [local go_sem] put_fresh
attribute [-go_sem] Builtin.append_

/-- Two rules just laid: New. -/
theorem new2 {w : World} (p q : ByteArray) {Aa Ab : Option Addr} {na ca nb cb b1 b2 : Nat} (la lb : List Sp) (hla : la.length = na) (hlb : lb.length = nb) (ra : Reads KS w Aa la ∧ ∀ a, Aa = some a → ∃ g o, a = ⟨g, o, none⟩) (rb : Reads KS w Ab lb ∧ ∀ a, Ab = some a → ∃ g o, a = ⟨g, o, none⟩) (h1 : na ≤ 100) (h2 : nb ≤ 100) (hp : p.size ≤ 1000) (hq : q.size ≤ 1000) (hb1 : b1 = w.heap.size) (hb2 : b2 = w.heap.size + 2) :
    Calls Try.prog 19 #[.slice (some ⟨b1, 0, none⟩) 2 2] (w.alloc (.cells #[.string p, .slice Aa na ca, .string q, .slice Ab nb cb] 57)) fun e W' => e = .returned (.pointer (some ⟨b2, 0, none⟩)) ∧ FiltAt W' b2 (upd (upd (fun _ => none) p la) q lb) (if (upd (fun _ => none) p la q).isSome then 1 else 2) ∧ Below w.heap.size w W' := by
  subst hla hlb hb1 hb2
  have hr := rules_new (w := w) (rs := [⟨p, Aa, ca, la⟩, ⟨q, Ab, cb, lb⟩]) 57 (cs := #[.string p, .slice Aa la.length ca, .string q, .slice Ab lb.length cb]) rfl (by
    intro r hr
    simp only [List.mem_cons, List.not_mem_nil, or_false] at hr
    rcases hr with rfl | rfl
    · exact ⟨ra.1, ra.2, by simp only; omega, by simp only; omega⟩
    · exact ⟨rb.1, rb.2, by simp only; omega, by simp only; omega⟩)
  refine (new_at (b := w.heap.size + 2) hr rfl 2 (by simp) (by simp)).mono ?_
  rintro e W' ⟨rfl, hF, hb⟩
  exact ⟨rfl, hF, (below_alloc (Below.refl _ _) _).trans (hb.mono (by simp))⟩
def lsp (v : Bool) (x : Sp) : List Sp := if v then [x] else []
theorem lsp_any {a b c d n : Int} (h : Dt a b c d n) (v : Bool) : (lsp v ⟨a, b, c, d, n, n⟩).any (inSp (ba (db a b c d n))) = v := by
  cases v
  · rfl
  · show (inSp (ba (db a b c d n)) ⟨a, b, c, d, n, n⟩ || false) = true
    rw [inSp_db h]
    simp
theorem app_ne {p more : ByteArray} (h : 1 ≤ more.size) : p ++ more ≠ p := fun e => by
  have := congrArg ByteArray.size e
  rw [← ls_length, ls_append, List.length_append, ls_length, ls_length] at this
  omega
theorem app_sz (p q : ByteArray) : (p ++ q).size = p.size + q.size := by rw [← ls_length, ls_append, List.length_append, ls_length, ls_length]
/-- The longer prefix's rule alone. -/
theorem goes_f {a b c d n : Int} (h : Dt a b c d n) (p more name : ByteArray) (hm : 1 ≤ more.size) (la : List Sp) (y : Bool) : goesP (upd (upd (fun _ => none) p la) (p ++ more) (lsp y ⟨a, b, c, d, n, n⟩)) (p ++ more ++ name ++ ba (db a b c d n)) = y := by
  rw [goesP_at _ (p ++ more) name _ (db_size _ _ _ _ _) _ (upd_same _ _ _) (fun s hs => by
    have := app_sz p more
    rw [upd_other _ _ _ (size_ne (by omega)), upd_other _ _ _ (size_ne (by omega))]), lsp_any h]
theorem goes_g {a b c d n : Int} (h : Dt a b c d n) (p more name : ByteArray) (la : List Sp) (y : Bool) : goesP (upd (upd (fun _ => none) p la) p (lsp y ⟨a, b, c, d, n, n⟩)) (p ++ more ++ name ++ ba (db a b c d n)) = y := by
  rw [show p ++ more ++ name = p ++ (more ++ name) from ls_inj (by simp)]
  rw [goesP_at _ p (more ++ name) _ (db_size _ _ _ _ _) _ (upd_same _ _ _) (fun s hs => by
    rw [upd_other _ _ _ (size_ne (by omega)), upd_other _ _ _ (size_ne (by omega))]), lsp_any h]
theorem few_upd (p q : ByteArray) (la lb : List Sp) (h1 : la.length ≤ 100) (h2 : lb.length ≤ 100) : ∀ s l, upd (upd (fun _ => none) p la) q lb s = some l → l.length ≤ 1000000 := by
  intro s l hl
  unfold upd at hl
  split at hl
  · cases hl; omega
  · split at hl
    · cases hl; omega
    · cases hl
theorem lsp_len (v : Bool) (x : Sp) : (lsp v x).length ≤ 100 := by cases v <;> simp [lsp]
theorem cnt_f {p more : ByteArray} (h : 1 ≤ more.size) (la : List Sp) : (if (upd (fun _ => none) p la (p ++ more)).isSome then 1 else 2) = 2 := by rw [upd_other _ _ _ (app_ne h)]; rfl
theorem cnt_g (p : ByteArray) (la : List Sp) : (if (upd (fun _ => none) p la p).isSome then 1 else 2) = 1 := by rw [upd_same]; rfl
end Go.Proofs.Ytdfaoafeojoceaa.Dr
