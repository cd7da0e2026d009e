/- Plain words on strings as lists of bytes, on whole numbers that don't wrap, and on rounds. No program is named here. -/
import Derived.Test.YtikhjnokfakgiaaWWords
import Derived.Test.YtikhjnokfakgiaaWMore
import Derived.Laws.BitsAllLaws
import Derived.Lib.Strings
set_option linter.unusedSimpArgs false
set_option linter.unusedVariables false
namespace Go.Proofs.Ytikhjnokfakgiaa.Pb
open Go.RowKit Go.Proofs.YtikhjnokfakgiaaW.PrintWords Go.Proofs.YtikhjnokfakgiaaW.PrintMore

/-- A string's bytes, and back. -/
def ls (s : ByteArray) : List UInt8 := s.data.toList
def ba (l : List UInt8) : ByteArray := ⟨l.toArray⟩
@[simp] theorem ls_ba (l : List UInt8) : ls (ba l) = l := by simp [ls, ba]
@[simp] theorem ba_ls (s : ByteArray) : ba (ls s) = s := by simp [ls, ba]
theorem ls_mk (a : Array UInt8) : ls ⟨a⟩ = a.toList := rfl
@[simp] theorem ls_append (a b : ByteArray) : ls (a ++ b) = ls a ++ ls b := by simp [ls, ByteArray.data_append]
@[simp] theorem ba_append (a b : List UInt8) : ba (a ++ b) = ba a ++ ba b := by
  apply ByteArray.ext; simp [ba, ByteArray.data_append]
@[simp] theorem ls_length (s : ByteArray) : (ls s).length = s.size := data_length s
@[simp] theorem size_ba (l : List UInt8) : (ba l).size = l.length := by simp [ba, ByteArray.size]
theorem ls_inj {a b : ByteArray} (h : ls a = ls b) : a = b := by rw [← ba_ls a, h, ba_ls]
theorem toList_ls (s : ByteArray) : s.toList = ls s := ByteArray.toList_eq s
theorem ls_extract (s : ByteArray) (i j : Nat) : ls (s.extract i j) = ((ls s).take j).drop i := by
  simp only [ls, ByteArray.data_extract, Array.toList_extract, List.extract_eq_take_drop]
  rw [List.drop_take]
theorem ls_empty : ls (⟨#[]⟩ : ByteArray) = [] := rfl
theorem bt_ls (s : ByteArray) (i : Int) : bt s i = (((ls s).getD i.toNat 0).toNat : Int) := by
  unfold bt ls
  split
  · rename_i h
    rw [List.getD_eq_getElem?_getD, List.getElem?_eq_getElem (by rw [Array.length_toList]; exact h)]
    rfl
  · rename_i h
    rw [List.getD_eq_getElem?_getD, List.getElem?_eq_none (by rw [Array.length_toList]; exact Nat.le_of_not_lt h)]
    rfl
theorem ls_strOfNums (l : List Nat) : ls (strOfNums (l.map fun n : Nat => (n : Int))) = l.map UInt8.ofNat := by
  simp [ls, strOfNums, Function.comp_def]

theorem wrap64_id {x : Int} (h1 : -9223372036854775808 ≤ x) (h2 : x ≤ 9223372036854775807) : wrap64 x = x := by unfold wrap64; omega
theorem u64_id {x : Int} (h1 : 0 ≤ x) (h2 : x < 18446744073709551616) : IntKind.u64.wrap x = x := by rw [IntKind.wrap_u64]; omega

theorem rdOf_eq {α : Type} (z : α) (l : List α) (i : Int) : rdOf z l i = l.getD i.toNat z := rfl
theorem drop_cons {α : Type} (z : α) (l : List α) (i : Nat) (h : i < l.length) : l.drop i = l.getD i z :: l.drop (i + 1) := by
  rw [List.drop_eq_getElem_cons h, List.getD_eq_getElem?_getD, List.getElem?_eq_getElem h]; rfl

theorem Ev.uniq {α : Type} {g : Nat → Option α} {r r' : α} (h : Ev g r) (h' : Ev g r') : r = r' := by
  obtain ⟨K, h⟩ := h
  obtain ⟨K', h'⟩ := h'
  have a := h (max K K') (by omega)
  rw [h' (max K K') (by omega)] at a
  exact (Option.some.inj a).symm
theorem Ev.iteT {α : Type} {c : Prop} [Decidable c] {f g : Nat → Option α} {r : α} (hc : c) (h : Ev f r) : Ev (fun k => if c then f k else g k) r := Ev.congr (fun _ => if_pos hc) h
theorem Ev.iteF {α : Type} {c : Prop} [Decidable c] {f g : Nat → Option α} {r : α} (hc : ¬ c) (h : Ev g r) : Ev (fun k => if c then f k else g k) r := Ev.congr (fun _ => if_neg hc) h
theorem Ev.bindC {α β : Type} {g : Option α} {f : Nat → α → Option β} {a : α} {r : β} (h : g = some a) (k : Ev (fun n => f n a) r) : Ev (fun n => g.bind (f n)) r := Ev.congr (fun n => by rw [h]; rfl) k
theorem Ev.someBind {α β : Type} {f : Nat → α → Option β} {a : α} {r : β} (k : Ev (fun n => f n a) r) : Ev (fun n => (some a).bind (f n)) r := k
end Go.Proofs.Ytikhjnokfakgiaa.Pb
