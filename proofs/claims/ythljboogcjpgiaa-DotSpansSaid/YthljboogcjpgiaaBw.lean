/- A strings.Builder that a call has made itself, by what it holds: how it stands through blocks that are laid, draws, and calls that only make memory. No program is named here. -/
import Derived.Lib.FrozenHead
import Derived.Test.YthljboogcjpgiaaWWords
namespace Go.Proofs.Ythljboogcjpgiaa
open Go.RowKit Go.Proofs.YthljboogcjpgiaaW.PrintWords

/-- Builder at block g, from block B on the call's own, holding the text s. (T: the Builder's type number, e: uint8's.) -/
def IsB (T e : TypeId) (w : World) (B g : Nat) (s : ByteArray) : Prop := Lib.IsBuilderF T e B g (Lib.strCells s) w

theorem atF_below {T e : TypeId} {B b : Nat} {p : Value} {bs : List Value} {w w1 : World} (h : Lib.BuilderAtF T e B b p bs w) (hb : Below w.heap.size w w1) : Lib.BuilderAtF T e B b p bs w1 := by
  have hlt := h.lt
  obtain ⟨hB, v, hv, hown, hne⟩ := h
  exact ⟨hB, v, (hb.block b hlt).trans hv, hown.kept (grown_of_below hb none) (by cases hv : v.ownBlock <;> simp), hne⟩

theorem IsB.below {T e : TypeId} {w w1 : World} {B g : Nat} {s : ByteArray} (h : IsB T e w B g s) (hb : Below w.heap.size w w1) : IsB T e w1 B g s :=
  h.elim (fun x => .inl (atF_below x hb)) (fun x => .inr (atF_below x hb))
theorem IsB.alloc {T e : TypeId} {w : World} {B g : Nat} {s : ByteArray} (h : IsB T e w B g s) (o : Obj) : IsB T e (w.alloc o) B g s := h.below (below_alloc (Below.refl _ _) o)
theorem IsB.drewN {T e : TypeId} {w : World} {B g : Nat} {s : ByteArray} (h : IsB T e w B g s) (n : Nat) : IsB T e (w.drewN n) B g s := h
theorem IsB.drew {T e : TypeId} {w : World} {B g : Nat} {s : ByteArray} (h : IsB T e w B g s) : IsB T e w.drew B g s := h
theorem IsB.lt {T e : TypeId} {w : World} {B g : Nat} {s : ByteArray} (h : IsB T e w B g s) : g < w.heap.size := h.elim (fun x => x.lt) (fun x => x.lt)
theorem IsB.new (T e : TypeId) (w : World) (B : Nat) (hB : B ≤ w.heap.size) : IsB T e (w.alloc (.cells #[.pointer none, .slice none 0 0] T)) B w.heap.size ⟨#[]⟩ :=
  .inl ⟨hB, .slice none 0 0, by simpa using heap_alloc_new w _, World.ownsRowF_nil _ _ _ _, by simp [Value.ownBlock]⟩
theorem strCells_app (a b : ByteArray) : Lib.strCells a ++ Lib.strCells b = Lib.strCells (a ++ b) := by
  simp [Lib.strCells, ByteArray.data_append]
theorem ba_mk (s : ByteArray) : (⟨s.data.toList.toArray⟩ : ByteArray) = s := by simp
/-- A literal of one, two, three texts, read as a slice. -/
theorem strs_lit (W : World) (e : TypeId) (l : List ByteArray) (hl : l.length ≤ 9223372036854775807) : Kd.C Kd.string (W.alloc (.cells (pw_strs l).toArray e)) (some ⟨W.heap.size, 0, none⟩) l.length l := by
  refine ⟨rfl, hl, fun _ => ⟨_, rfl, fun j p hj => ⟨[.string p], rfl, rfl, fun i u hu => ?_⟩⟩⟩
  have hi : i = 0 := by
    rcases i with _ | i
    · rfl
    · simp at hu
  subst hi
  simp at hu
  subst hu
  show (W.alloc (.cells (pw_strs l).toArray e)).cell? ((⟨W.heap.size, 0, none⟩ : Addr).add (j * 1 + 0)) = _
  rw [add_plain, blk_cell (heap_alloc_new W _)]
  simp [pw_strs, hj]
theorem strs_lit1 (W : World) (e : TypeId) (a : ByteArray) : Kd.C Kd.string (W.alloc (.cells #[.string a] e)) (some ⟨W.heap.size, 0, none⟩) [a].length [a] := strs_lit W e [a] (by simp)
theorem strs_lit2 (W : World) (e : TypeId) (a b : ByteArray) : Kd.C Kd.string (W.alloc (.cells #[.string a, .string b] e)) (some ⟨W.heap.size, 0, none⟩) [a, b].length [a, b] := strs_lit W e [a, b] (by simp)
theorem strs_lit3 (W : World) (e : TypeId) (a b c : ByteArray) : Kd.C Kd.string (W.alloc (.cells #[.string a, .string b, .string c] e)) (some ⟨W.heap.size, 0, none⟩) [a, b, c].length [a, b, c] := strs_lit W e [a, b, c] (by simp)
end Go.Proofs.Ythljboogcjpgiaa
