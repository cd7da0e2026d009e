/- Tables that come in; pick.ends: walked. -/
import Derived.Test.YtikhjnokfakgiaaPAllx0
import Derived.Test.YtikhjnokfakgiaaPb
import Derived.Lib.MinMaxS
import Derived.KernelRfl
import Derived.Deep.RegionWith
set_option linter.unusedSimpArgs false
set_option linter.unusedVariables false
namespace Go.Proofs.Ytikhjnokfakgiaa.Pk
open Go.RowKit Go.Proofs.Ytikhjnokfakgiaa.PAll Go.Proofs.YtikhjnokfakgiaaW.PrintWords

abbrev Tb := S42
def tcells (x : Tb) : List Value := [.int .i64 x.f0, .int .i64 x.f1, .int .i64 x.f2, .string x.f3, .string x.f4]
theorem cell_plain {w : World} {a : Addr} {u : Value} (h : w.cell? a = some u) : ∃ b o, a = ⟨b, o, none⟩ ∧ b < w.heap.size := by
  obtain ⟨b, o, x⟩ := a
  cases x with
  | none => exact ⟨b, o, rfl, World.block_lt_of_cell? w _ h⟩
  | some y =>
    simp [World.cell?] at h
    split at h <;> cases h
theorem add_o (b o n : Nat) : (⟨b, o, none⟩ : Addr).add n = ⟨b, o + n, none⟩ := by
  unfold Addr.add
  split
  · rename_i h; rw [h]; rfl
  · rfl
/-- A row of tables: where it stands. -/
theorem tb_row {W : World} {A : Option Addr} {l : List Tb} (hr : Kd.C k42 W A l.length l) (hp : 0 < l.length) : ∃ q off, A = some ⟨q, off, none⟩ ∧ q < W.heap.size ∧ ∀ k x, l[k]? = some x → ∀ i, i < 5 → W.cell? ⟨q, off + k * 5 + i, none⟩ = (tcells x)[i]? := by
  obtain ⟨ad, rfl, hc⟩ := hr.2.2 hp
  have key : ∀ j x, l[j]? = some x → ∀ c, c < 5 → W.cell? (ad.add (j * 5 + c)) = (tcells x)[c]? := fun j x hx c hc5 => by
    obtain ⟨cs, hl, hK, hcell⟩ := hc j x hx
    obtain rfl := k42_open hK
    have hcc : c = 0 ∨ c = 1 ∨ c = 2 ∨ c = 3 ∨ c = 4 := by omega
    rcases hcc with rfl | rfl | rfl | rfl | rfl <;> exact hcell _ _ rfl
  obtain ⟨x0, hx0⟩ : ∃ x, l[0]? = some x := ⟨_, List.getElem?_eq_getElem hp⟩
  have h0 := key 0 x0 hx0 0 (by decide)
  rw [Nat.zero_mul, Nat.zero_add] at h0
  obtain ⟨b, o, hb, hlt⟩ := cell_plain (u := .int .i64 x0.f0) h0
  obtain rfl : ad = ⟨b, o, none⟩ := hb
  refine ⟨b, o, rfl, hlt, fun k x hx i hi => ?_⟩
  have := key k x hx i hi
  rw [add_o] at this
  rw [Nat.add_assoc]
  exact this
theorem iw_succ (k : Nat) : Value.int .i64 ((k : Int) + 1) = Value.int .i64 ((k + 1 : Nat) : Int) := congrArg (Value.int .i64) (by omega)
theorem iw_meas {k n : Nat} (hk : k < n) : n - (intOf (Value.int .i64 ((k : Int) + 1))).toNat < n - (intOf (Value.int .i64 (k : Int))).toNat := by
  simp only [intOf]; omega
theorem iv_succ {k : Nat} (h : wrap64 ((k : Int) + 1) = (k : Int) + 1) : Value.int .i64 (wrap64 ((k : Int) + 1)) = Value.int .i64 ((k + 1 : Nat) : Int) := congrArg (Value.int .i64) (h.trans (by omega))
theorem iv_meas {k n : Nat} (h : wrap64 ((k : Int) + 1) = (k : Int) + 1) (hk : k < n) : n - (intOf (Value.int .i64 (wrap64 ((k : Int) + 1)))).toNat < n - (intOf (Value.int .i64 (k : Int))).toNat := by
  rw [h]; simp only [intOf]; omega
theorem put_fresh {w : World} {t : TypeId} {cs : Array Value} (j : Nat) (v : Value) : (w.alloc (.cells cs t)).setCell ⟨w.heap.size, j, none⟩ v = w.alloc (.cells (cs.setIfInBounds j v) t) := by
  have e : ∀ h : Array Obj, h.size = w.heap.size → (h.push (.cells cs t)).modify w.heap.size (fun o => match o with | .cells c ty fr => .cells (c.setIfInBounds j v) ty fr | o => o) = h.push (.cells (cs.setIfInBounds j v) t) := by
    intro h hs
    apply Array.ext
    · simp
    · intro i h1 h2
      by_cases hi : i = w.heap.size
      · subst hi
        simp [Array.getElem_modify, ← hs]
      · have : i < h.size := by simp at h2; omega
        simp [Array.getElem_modify, Array.getElem_push, this, Ne.symm hi]
  simp only [World.setCell, World.alloc]
  congr 1
  exact e w.heap rfl
attribute [local go_sem] put_fresh Lib.run_min_strs Lib.run_max_strs
set_option maxRecDepth 100000 in
set_option maxHeartbeats 4000000 in
theorem ends_c {w : World} {A : Option Addr} {c : Nat} {l : List Tb} (hr : Kd.C k42 w A l.length l) (hp : 0 < l.length) (hl : l.length < 1000000) :
    Calls Try.prog 26 #[.slice A l.length c] w fun e w' => ∃ s1 s2, e = .returned (.tuple #[.string s1, .string s2]) ∧ Below w.heap.size w w' := by
  obtain ⟨q, off, rfl, hq, hc⟩ := tb_row hr hp
  have HC := Aside0.mk (And.intro hq hc)
  obtain ⟨x0, hx0⟩ : ∃ x, l[0]? = some x := ⟨_, List.getElem?_eq_getElem hp⟩
  have y3 : w.cell? ⟨q, off + 3, none⟩ = some (.string x0.f3) := by have := hc 0 x0 hx0 3 (by decide); simpa [tcells] using this
  have y4 : w.cell? ⟨q, off + 4, none⟩ = some (.string x0.f4) := by have := hc 0 x0 hx0 4 (by decide); simpa [tcells] using this
  have hpi : (0 : Int) < (l.length : Int) := by omega
  clear hr hc hx0 hq
  go_enter Try.func26, Try.ntmps26
  go_wp2
  go_region
  go_wp2
  go_loopw [4, 5, 18] (fun s t i wr => ∃ (k : Nat) (s1 s2 : ByteArray), k ≤ l.length ∧ i = .int .i64 k ∧ s = .string s1 ∧ t = .string s2 ∧ Aside0 (Below w.heap.size w wr)) (fun _ _ i _ => l.length - (intOf i).toNat)
  case atStart => exact ⟨0, _, _, Nat.zero_le _, rfl, rfl, rfl, ⟨below_drew1 (Below.refl _ _)⟩⟩
  case round =>
    obtain ⟨k, s1, s2, hk, rfl, rfl, rfl, H1⟩ := hrel
    by_cases hlt : k < l.length
    · obtain ⟨x, hx⟩ : ∃ x, l[k]? = some x := ⟨_, List.getElem?_eq_getElem hlt⟩
      have hb := H1.out.block q HC.out.1
      have x0 : wr.cell? ⟨q, off + k * 5, none⟩ = some (.int .i64 x.f0) := (World.cell?_of_block (a := ⟨q, off + k * 5, none⟩) hb).trans (HC.out.2 k x hx 0 (by decide))
      have x1 : wr.cell? ⟨q, off + k * 5 + 1, none⟩ = some (.int .i64 x.f1) := (World.cell?_of_block (a := ⟨q, off + k * 5 + 1, none⟩) hb).trans (HC.out.2 k x hx 1 (by decide))
      have x2 : wr.cell? ⟨q, off + k * 5 + 2, none⟩ = some (.int .i64 x.f2) := (World.cell?_of_block (a := ⟨q, off + k * 5 + 2, none⟩) hb).trans (HC.out.2 k x hx 2 (by decide))
      have x3 : wr.cell? ⟨q, off + k * 5 + 3, none⟩ = some (.string x.f3) := (World.cell?_of_block (a := ⟨q, off + k * 5 + 3, none⟩) hb).trans (HC.out.2 k x hx 3 (by decide))
      have x4 : wr.cell? ⟨q, off + k * 5 + 4, none⟩ = some (.string x.f4) := (World.cell?_of_block (a := ⟨q, off + k * 5 + 4, none⟩) hb).trans (HC.out.2 k x hx 4 (by decide))
      have hwk := Aside0.mk (show wrap64 ((k : Int) + 1) = (k : Int) + 1 by unfold wrap64; omega)
      have hbx := heap_alloc_new wr (.cells #[.int .i64 x.f0, .int .i64 x.f1, .int .i64 x.f2, .string x.f3, .string x.f4] 42)
      have z3 : (wr.alloc (.cells #[.int .i64 x.f0, .int .i64 x.f1, .int .i64 x.f2, .string x.f3, .string x.f4] 42)).drew.cell? ⟨wr.heap.size, 3, none⟩ = some (.string x.f3) := blk_cell hbx 3
      have z4 : (wr.alloc (.cells #[.int .i64 x.f0, .int .i64 x.f1, .int .i64 x.f2, .string x.f3, .string x.f4] 42)).drew.cell? ⟨wr.heap.size, 4, none⟩ = some (.string x.f4) := blk_cell hbx 4
      have HB := Aside0.mk (H1.out.trans ((below_drew1 (below_alloc (Below.refl wr.heap.size wr) (.cells #[.int .i64 x.f0, .int .i64 x.f1, .int .i64 x.f2, .string x.f3, .string x.f4] 42))).mono H1.out.size))
      clear hbx hb hx
      go_wp2
      go_region
      all_goals
        go_wp2
        exact ⟨⟨k + 1, _, _, Nat.succ_le_of_lt hlt, by first | exact iw_succ k | exact iv_succ hwk.out, rfl, rfl, HB⟩, by first | exact iw_meas hlt | exact iv_meas hwk.out hlt⟩
    · have hkl : k = l.length := by omega
      subst hkl
      have hd1 : decide ((l.length : Int) < (l.length : Int)) = false := decide_eq_false (Int.lt_irrefl _)
      go_wp2
      exact bodyPost_ret (v := .tuple #[.string s1, .string s2]) (by simp [results, Try.results26, go_sem]) rfl ⟨s1, s2, rfl, H1.out⟩
end Go.Proofs.Ytikhjnokfakgiaa.Pk
