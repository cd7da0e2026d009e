/- Chapter 3 in plain words: frames and seals; what the printed functions answer. -/
import Derived.Test.YtghfkihmiamblaaPAllx2
import Derived.Test.YtghfkihmiamblaaPAllx3
import Derived.Test.YtghfkihmiamblaaPAllx4
import Derived.Test.YtghfkihmiamblaaPAllx5
import Derived.Test.YtghfkihmiamblaaSum0
import Derived.Test.YtghfkihmiamblaaNum0
set_option linter.unusedSimpArgs false
set_option linter.unusedVariables false
namespace Go.Proofs.Ytghfkihmiamblaa.Pure
open Go.RowKit Go.Proofs.Ytghfkihmiamblaa.PAll Go.Proofs.YtghfkihmiamblaaW.PrintWords Go.Proofs.YtghfkihmiamblaaW.PrintMore Go.Proofs.Ytghfkihmiamblaa.Pb

def frame (s : ByteArray) : List UInt8 := be 4 s.size ++ (be 4 (crc (be 4 s.size ++ ls s)) ++ ls s)
def frames (l : List ByteArray) : List UInt8 := l.flatMap frame
theorem frame_length (s : ByteArray) : (frame s).length = s.size + 8 := by simp [frame]; omega
@[simp] theorem frames_nil : frames [] = [] := rfl
@[simp] theorem frames_cons (s : ByteArray) (l : List ByteArray) : frames (s :: l) = frame s ++ frames l := rfl
theorem frames_append (a b : List ByteArray) : frames (a ++ b) = frames a ++ frames b := by simp [frames]

theorem four_ev (c : Nat) (h : c < 4294967296) : Ev (fun k => sum_four.f k (c : Int)) (ba (be 4 c)) := by
  unfold sum_four.f
  rw [u64_id (by omega) (by omega)]
  exact Ev.bind (Fix_ev c 4 (by omega) (by omega) (by omega)) (Ev.now _)
theorem get_ev (b : ByteArray) (t : Nat) (h : t + 4 ≤ b.size) (hs : b.size ≤ 140737488355328) : Ev (fun k => sum_get.f k b (t : Int)) ((unL 0 (((ls b).drop t).take 4) : Nat) : Int) := by
  unfold sum_get.f
  refine Ev.bind (Unfix_ev b t 4 (by omega) (by omega) h (by omega)) ?_
  have hl := unL_lt (((ls b).drop t).take 4) 0 0 (by omega)
  have hn : (((ls b).drop t).take 4).length ≤ 4 := List.length_take_le _ _
  have h4 : unL 0 (((ls b).drop t).take 4) < 256 ^ 4 := Nat.lt_of_lt_of_le hl (Nat.pow_le_pow_right (by omega) (by omega))
  refine Ev.congr (f := fun _ => some ((unL 0 (((ls b).drop t).take 4) : Nat) : Int)) (fun k => ?_) (Ev.now _)
  show some (((unL 0 (((ls b).drop t).take 4) : Nat) : Int) % 4294967296) = _
  rw [show ((unL 0 (((ls b).drop t).take 4) : Nat) : Int) % 4294967296 = ((unL 0 (((ls b).drop t).take 4) : Nat) : Int) by omega]

theorem Frame_g : ∀ (l : List ByteArray) (acc : ByteArray), (∀ s ∈ l, s.size ≤ 16777216) → acc.size + (frames l).length ≤ 140737488355328 → Ev (fun k => sum_Frame.g k l acc) (acc ++ ba (frames l))
  | [], acc, _, _ => by
    have e : acc ++ ba (frames []) = acc := ls_inj (by simp)
    rw [e]
    exact Ev.now _
  | s :: l, acc, hs, hl => by
    have h1 := hs s (by simp)
    rw [frames_cons, List.length_append, frame_length] at hl
    show Ev (fun k => (sum_four.f k ((s.size : Int) % 4294967296)).bind fun n => (sum_Crc.f k [n, s]).bind fun c => (sum_four.f k c).bind fun m =>
      if n.size + m.size + s.size + acc.size ≤ 140737488355328 then sum_Frame.g k l (acc ++ (n ++ m ++ s)) else none) _
    rw [show (s.size : Int) % 4294967296 = ((s.size : Nat) : Int) by omega]
    refine Ev.bind (four_ev s.size (by omega)) (Ev.bind (Crc_ev _ (by simp) ?_) (Ev.bind (four_ev _ (crc_lt _)) ?_))
    · intro x hx
      simp only [List.mem_cons, List.not_mem_nil, or_false] at hx
      rcases hx with rfl | rfl
      · simp
      · omega
    · refine Ev.iteT (by simp; omega) ?_
      have h := Frame_g l (acc ++ (ba (be 4 s.size) ++ ba (be 4 (crc (cat [ba (be 4 s.size), s]))) ++ s)) (fun x hx => hs x (by simp [hx])) (by simp; omega)
      have e : acc ++ (ba (be 4 s.size) ++ ba (be 4 (crc (cat [ba (be 4 s.size), s]))) ++ s) ++ ba (frames l) = acc ++ ba (frames (s :: l)) :=
        ls_inj (by simp [frame, cat])
      rw [e] at h
      exact h
theorem Frame_ev (l : List ByteArray) (hs : ∀ s ∈ l, s.size ≤ 16777216) (hl : (frames l).length ≤ 140737488355328) : Ev (fun k => sum_Frame.f k l) (ba (frames l)) := by
  have h := Frame_g l ⟨#[]⟩ hs (by show 0 + _ ≤ _; omega)
  have e : (⟨#[]⟩ : ByteArray) ++ ba (frames l) = ba (frames l) := ls_inj (by simp [ls_empty])
  rw [e] at h
  exact h

theorem Clone_some (s : ByteArray) (h : s.size ≤ 281474976710656) : strings_Clone.f s = some s := if_pos h

/-! ### Scan -/
theorem scan_stop8 (b : ByteArray) (out : List ByteArray) (t : Nat) (h : b.size < t + 8) (ht : t ≤ b.size) (hs : b.size ≤ 140737488355328) : Ev (fun k => sum_Scan.l0 k b out (t : Int)) (out, (t : Int)) := by
  have e1 : wrap64 ((b.size : Int) - (t : Int)) = (b.size : Int) - (t : Int) := wrap64_id (by omega) (by omega)
  exact Ev.step (fun k => if_neg (by rw [e1]; omega)) (Ev.now _)
theorem scan_stopn (b : ByteArray) (out : List ByteArray) (t n : Nat) (h8 : t + 8 ≤ b.size) (hn : unL 0 (((ls b).drop t).take 4) = n) (hn2 : n ≤ 16777216) (h : b.size < t + 8 + n) (hs : b.size ≤ 140737488355328) :
    Ev (fun k => sum_Scan.l0 k b out (t : Int)) (out, (t : Int)) := by
  have e1 : wrap64 ((b.size : Int) - (t : Int)) = (b.size : Int) - (t : Int) := wrap64_id (by omega) (by omega)
  have e2 : wrap64 ((t : Int) + 8) = (t : Int) + 8 := wrap64_id (by omega) (by omega)
  have e3 : wrap64 (n : Int) = (n : Int) := wrap64_id (by omega) (by omega)
  have e4 : wrap64 ((b.size : Int) - ((t : Int) + 8)) = (b.size : Int) - ((t : Int) + 8) := wrap64_id (by omega) (by omega)
  have hg := get_ev b t (by omega) hs
  rw [hn] at hg
  refine Ev.step (fun k => if_pos (by rw [e1]; omega)) (Ev.bind hg ?_)
  rw [e2, e3, e4]
  exact Ev.iteF (by omega) (Ev.iteT (by omega) (Ev.now _))
theorem scan_step {r : List ByteArray × Int} (b : ByteArray) (out : List ByteArray) (t : Nat) (s : ByteArray) (hsz : s.size ≤ 16777216) (h8 : t + 8 + s.size ≤ b.size) (hs : b.size ≤ 140737488355328) (ho : out.length < 8796093022208)
    (hn : ((ls b).drop t).take 4 = be 4 s.size) (hc : ((ls b).drop (t + 4)).take 4 = be 4 (crc (be 4 s.size ++ ls s))) (hx : ((ls b).drop (t + 8)).take s.size = ls s)
    (h : Ev (fun k => sum_Scan.l0 k b (out ++ [s]) ((t + 8 + s.size : Nat) : Int)) r) : Ev (fun k => sum_Scan.l0 k b out (t : Int)) r := by
  have hp : (256 : Nat) ^ 4 = 4294967296 := by decide
  have e1 : wrap64 ((b.size : Int) - (t : Int)) = (b.size : Int) - (t : Int) := wrap64_id (by omega) (by omega)
  have e2 : wrap64 ((t : Int) + 8) = ((t + 8 : Nat) : Int) := by rw [wrap64_id (by omega) (by omega)]; omega
  have e3 : wrap64 (s.size : Int) = (s.size : Int) := wrap64_id (by omega) (by omega)
  have e4 : wrap64 ((b.size : Int) - ((t + 8 : Nat) : Int)) = (b.size : Int) - ((t + 8 : Nat) : Int) := wrap64_id (by omega) (by omega)
  have e5 : wrap64 ((t : Int) + 4) = ((t + 4 : Nat) : Int) := by rw [wrap64_id (by omega) (by omega)]; omega
  have e6 : wrap64 (((t + 8 : Nat) : Int) + (s.size : Int)) = ((t + 8 + s.size : Nat) : Int) := by rw [wrap64_id (by omega) (by omega)]; omega
  have hg := get_ev b t (by omega) hs
  rw [hn, unL_be, Nat.zero_mul, Nat.zero_add, hp, Nat.mod_eq_of_lt (by omega)] at hg
  have hg2 := get_ev b (t + 4) (by omega) hs
  have hcl := crc_lt (be 4 s.size ++ ls s)
  rw [hc, unL_be, Nat.zero_mul, Nat.zero_add, hp, Nat.mod_eq_of_lt hcl] at hg2
  have x1 : b.extract t (t + 4) = ba (be 4 s.size) := ls_inj (by rw [ls_extract, ls_ba, List.drop_take, show t + 4 - t = 4 by omega, hn])
  have x2 : b.extract (t + 8) (t + 8 + s.size) = s := ls_inj (by rw [ls_extract, List.drop_take, show t + 8 + s.size - (t + 8) = s.size by omega, hx])
  refine Ev.step (fun k => if_pos (by rw [e1]; omega)) (Ev.bind hg ?_)
  rw [e2, e3, e4, e5, e6]
  refine Ev.iteF (by omega) (Ev.iteF (by omega) (Ev.iteT (by omega) (Ev.iteT (by omega) (Ev.iteT (by omega) (Ev.iteT (by omega) (Ev.iteT (by omega) (Ev.iteT (by omega) ?_)))))))
  simp only [Int.toNat_natCast]
  rw [x1, x2]
  refine Ev.bind (Crc_ev _ (by simp) ?_) (Ev.bind hg2 ?_)
  · intro x hx
    simp only [List.mem_cons, List.not_mem_nil, or_false] at hx
    rcases hx with rfl | rfl
    · simp
    · omega
  refine Ev.iteT (by simp [cat]) ?_
  refine Ev.bindC (Clone_some s (by omega)) ?_
  exact Ev.iteT ho h

theorem take_take_app {α : Type} (a b : List α) (n m : Nat) (hm : m ≤ a.length) (hn : m ≤ n) : ((a ++ b).take n).take m = a.take m := by
  rw [List.take_take, Nat.min_eq_left hn, List.take_append_of_le_length hm]

/-- What Scan finds in the front of frames that begin at t: the first j of them, all if they are there. -/
theorem scan_frames (b : ByteArray) (hs : b.size ≤ 140737488355328) : ∀ (l out : List ByteArray) (t : Nat), (∀ s ∈ l, s.size ≤ 16777216) → t ≤ b.size → (ls b).drop t = (frames l).take (b.size - t) → out.length + l.length < 8796093022208 →
    ∃ j, j ≤ l.length ∧ Ev (fun k => sum_Scan.l0 k b out (t : Int)) (out ++ l.take j, ((t + (frames (l.take j)).length : Nat) : Int)) ∧ t + (frames (l.take j)).length ≤ b.size ∧ ((frames l).length ≤ b.size - t → j = l.length)
  | [], out, t, _, ht, hd, _ => by
    have hl := congrArg List.length hd
    simp at hl
    refine ⟨0, by simp, ?_, by simpa using ht, fun _ => rfl⟩
    simp only [List.take_nil, List.append_nil, frames_nil, List.length_nil, Nat.add_zero]
    exact scan_stop8 b out t (by omega) ht hs
  | s :: l, out, t, hz, ht, hd, ho => by
    have hsz := hz s (by simp)
    have hp : (256 : Nat) ^ 4 = 4294967296 := by decide
    have stop : ∀ (h : Ev (fun k => sum_Scan.l0 k b out (t : Int)) (out, (t : Int))) (hlt : b.size < t + (s.size + 8)), ∃ j, j ≤ (s :: l).length ∧ Ev (fun k => sum_Scan.l0 k b out (t : Int)) (out ++ (s :: l).take j, ((t + (frames ((s :: l).take j)).length : Nat) : Int)) ∧ t + (frames ((s :: l).take j)).length ≤ b.size ∧ ((frames (s :: l)).length ≤ b.size - t → j = (s :: l).length) := fun h hlt => by
      refine ⟨0, by simp, by simpa using h, by simpa using ht, fun hh => ?_⟩
      rw [frames_cons, List.length_append, frame_length] at hh
      omega
    by_cases c8 : b.size < t + 8
    · exact stop (scan_stop8 b out t c8 ht hs) (by omega)
    have hl4 : (be 4 s.size ++ (be 4 (crc (be 4 s.size ++ ls s)) ++ ls s) ++ frames l) = be 4 s.size ++ ((be 4 (crc (be 4 s.size ++ ls s)) ++ ls s) ++ frames l) := List.append_assoc _ _ _
    have h4 : ((ls b).drop t).take 4 = be 4 s.size := by
      rw [hd, frames_cons]
      show ((be 4 s.size ++ (be 4 (crc (be 4 s.size ++ ls s)) ++ ls s) ++ frames l).take (b.size - t)).take 4 = _
      rw [hl4, take_take_app _ _ _ _ (by simp) (by omega), List.take_of_length_le (by simp)]
    by_cases cn : b.size < t + 8 + s.size
    · refine stop (scan_stopn b out t s.size (by omega) ?_ hsz cn hs) (by omega)
      rw [h4, unL_be, Nat.zero_mul, Nat.zero_add, hp, Nat.mod_eq_of_lt (by omega)]
    -- the whole frame is there
    have hwhole : (ls b).drop t = be 4 s.size ++ (be 4 (crc (be 4 s.size ++ ls s)) ++ (ls s ++ (frames l).take (b.size - (t + 8 + s.size)))) := by
      rw [hd, frames_cons]
      show ((be 4 s.size ++ (be 4 (crc (be 4 s.size ++ ls s)) ++ ls s)) ++ frames l).take (b.size - t) = _
      rw [List.take_append, List.take_of_length_le (by simp; omega)]
      have : b.size - t - (be 4 s.size ++ (be 4 (crc (be 4 s.size ++ ls s)) ++ ls s)).length = b.size - (t + 8 + s.size) := by simp; omega
      rw [this]
      simp only [List.append_assoc]
    have hd4 : (ls b).drop (t + 4) = be 4 (crc (be 4 s.size ++ ls s)) ++ (ls s ++ (frames l).take (b.size - (t + 8 + s.size))) := by
      rw [← List.drop_drop, hwhole, List.drop_left' (by simp)]
    have hd8 : (ls b).drop (t + 8) = ls s ++ (frames l).take (b.size - (t + 8 + s.size)) := by
      rw [show t + 8 = t + 4 + 4 by omega, ← List.drop_drop, hd4, List.drop_left' (by simp)]
    have hdn : (ls b).drop (t + 8 + s.size) = (frames l).take (b.size - (t + 8 + s.size)) := by
      rw [← List.drop_drop, hd8, List.drop_left' (by simp)]
    obtain ⟨j, hj, hev, hle, hall⟩ := scan_frames b hs l (out ++ [s]) (t + 8 + s.size) (fun x hx => hz x (by simp [hx])) (by omega) hdn (by simp at ho ⊢; omega)
    refine ⟨j + 1, by simp; omega, ?_, ?_, ?_⟩
    · refine scan_step b out t s hsz (by omega) hs (by omega) h4 ?_ ?_ ?_
      · rw [hd4, List.take_left' (by simp)]
      · rw [hd8, List.take_left' (by simp)]
      · have e : out ++ (s :: l).take (j + 1) = out ++ [s] ++ l.take j := by simp
        have e2 : t + (frames ((s :: l).take (j + 1))).length = t + 8 + s.size + (frames (l.take j)).length := by
          rw [List.take_succ_cons, frames_cons, List.length_append, frame_length]; omega
        rw [e, e2]
        exact hev
    · rw [List.take_succ_cons, frames_cons, List.length_append, frame_length]; omega
    · intro hh
      rw [frames_cons, List.length_append, frame_length] at hh
      have := hall (by omega)
      simp; omega
/-- Scan of a front of frames. -/
theorem Scan_ev (l : List ByteArray) (n : Nat) (hz : ∀ s ∈ l, s.size ≤ 16777216) (hl : l.length < 8796093022208) (hn : n ≤ (frames l).length) (hs : (frames l).length ≤ 140737488355328) :
    ∃ j, j ≤ l.length ∧ Ev (fun k => sum_Scan.f k (ba ((frames l).take n))) (l.take j, (((frames (l.take j)).length : Nat) : Int)) ∧ (frames (l.take j)).length ≤ n ∧ (n = (frames l).length → j = l.length) := by
  have hlen : (ba ((frames l).take n)).size = n := by rw [size_ba, List.length_take]; omega
  obtain ⟨j, hj, hev, hle, hall⟩ := scan_frames (ba ((frames l).take n)) (by omega) l [] 0 hz (by omega) (by rw [List.drop_zero, ls_ba, hlen, Nat.sub_zero]) (by simpa using hl)
  rw [hlen] at hle hall
  simp only [Nat.zero_add, List.nil_append] at hev hle
  exact ⟨j, hj, hev, hle, fun h => hall (by omega)⟩
end Go.Proofs.Ytghfkihmiamblaa.Pure
