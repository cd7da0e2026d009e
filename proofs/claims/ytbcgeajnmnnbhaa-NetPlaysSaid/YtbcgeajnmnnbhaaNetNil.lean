/- A nil net: walked. -/
import Derived.Test.YtbcgeajnmnnbhaaNetSpo
set_option linter.unusedSimpArgs false
set_option linter.unusedVariables false
namespace Go.Proofs.Ytbcgeajnmnnbhaa.Nt
open Go.RowKit Go.Maps Go.Proofs.Ytbcgeajnmnnbhaa.PAll Go.Proofs.YtbcgeajnmnnbhaaW.PrintWords
attribute [local go_sem] put_fresh
attribute [-go_sem] Builtin.append_

theorem is_nil (k : Int) (W : World) : Calls Try.prog 33 #[.pointer none, .int .i64 k] W fun e W' => e = .returned (.bool false) ∧ W' = W := by
  go_enter Try.func33, Try.ntmps33
  go_wp2
  go_ret
  exact ⟨rfl, rfl⟩
theorem len_nil (W : World) : Calls Try.prog 15 #[.pointer none] W fun e W' => e = .returned (.int .i64 0) ∧ W' = W := by
  go_enter Try.func15, Try.ntmps15
  go_wp2
  go_ret
  exact ⟨rfl, rfl⟩
theorem send_nil (v : Value) (W : World) : Calls Try.prog 10 #[.pointer none, v] W fun e W' => e = .returned (.int .i64 0) ∧ W' = W := by
  go_enter Try.func10, Try.ntmps10
  go_wp2
  go_ret
  exact ⟨rfl, rfl⟩
theorem cut_nil (a b : Int) (o : Bool) (W : World) : Calls Try.prog 18 #[.pointer none, .int .i64 a, .int .i64 b, .bool o] W fun e W' => e = .returned (.tuple #[]) ∧ W' = W := by
  go_enter Try.func18, Try.ntmps18
  go_wp2
  exact bodyPost_ret (v := .tuple #[]) (by simp [results, Try.results18]) rfl ⟨rfl, rfl⟩
theorem clear_nil (W : World) : Calls Try.prog 19 #[.pointer none] W fun e W' => e = .returned (.int .i64 0) ∧ W' = W := by
  go_enter Try.func19, Try.ntmps19
  go_wp2_with (go_at_call 15; refine (len_nil _).mono ?_; rintro e w' ⟨rfl, hww⟩; subst w')
  go_ret
  exact ⟨rfl, rfl⟩
theorem double_nil (k : Int) (W : World) : Calls Try.prog 16 #[.pointer none, .int .i64 k] W fun e W' => e = .returned (.bool false) ∧ W' = W := by
  go_enter Try.func16, Try.ntmps16
  go_wp2_with (go_at_call 33; refine (is_nil _ _).mono ?_; rintro e w' ⟨rfl, hww⟩; subst w')
  go_ret
  exact ⟨rfl, rfl⟩
theorem move_nil (k z : Int) (W : World) : Calls Try.prog 11 #[.pointer none, .int .i64 k, .int .i64 z] W fun e W' => e = .returned (.bool false) ∧ W' = W := by
  go_enter Try.func11, Try.ntmps11
  go_wp2_with (go_at_call 33; refine (is_nil _ _).mono ?_; rintro e w' ⟨rfl, hww⟩; subst w')
  go_ret
  exact ⟨rfl, rfl⟩
theorem spoil_nil (k z b : Int) (W : World) : Calls Try.prog 12 #[.pointer none, .int .i64 k, .int .i64 z, .int .i64 b] W fun e W' => e = .returned (.bool false) ∧ W' = W := by
  go_enter Try.func12, Try.ntmps12
  go_wp2_with (go_at_call 33; refine (is_nil _ _).mono ?_; rintro e w' ⟨rfl, hww⟩; subst w')
  go_ret
  exact ⟨rfl, rfl⟩
set_option maxRecDepth 100000 in
set_option maxHeartbeats 4000000 in
theorem peek_nil (k : Int) (W : World) :
    Calls Try.prog 13 #[.pointer none, .int .i64 k] W fun e W' => e = .returned (.tuple #[noPk, .bool false]) ∧ Below W.heap.size W W' := by
  go_enter Try.func13, Try.ntmps13
  go_wp2_with (go_at_call 33; refine (is_nil _ _).mono ?_; rintro e w' ⟨rfl, rfl⟩)
  have z0 : (W.alloc (.cells #[.int .i64 0, .int .i64 0, .string ByteArray.empty] 27)).cell? ⟨W.heap.size, 0, none⟩ = some (.int .i64 0) := blk_cell (heap_alloc_new W _) 0
  have z1 : (W.alloc (.cells #[.int .i64 0, .int .i64 0, .string ByteArray.empty] 27)).cell? ⟨W.heap.size, 1, none⟩ = some (.int .i64 0) := blk_cell (heap_alloc_new W _) 1
  have z2 : (W.alloc (.cells #[.int .i64 0, .int .i64 0, .string ByteArray.empty] 27)).cell? ⟨W.heap.size, 2, none⟩ = some (.string ByteArray.empty) := blk_cell (heap_alloc_new W _) 2
  exact bodyPost_ret (v := .tuple #[noPk, .bool false]) (by simp [results, Try.results13, go_sem, z0, z1, z2, noPk]; rfl) rfl ⟨rfl, below_alloc (Below.refl _ _) _⟩
set_option maxRecDepth 100000 in
set_option maxHeartbeats 4000000 in
theorem pull_nil (k : Int) (W : World) :
    Calls Try.prog 14 #[.pointer none, .int .i64 k] W fun e W' => e = .returned (.tuple #[noPk, .bool false]) ∧ Below W.heap.size W W' := by
  go_enter Try.func14, Try.ntmps14
  go_wp2_with (go_at_call 33; refine (is_nil _ _).mono ?_; rintro e w' ⟨rfl, rfl⟩)
  have z0 : (W.alloc (.cells #[.int .i64 0, .int .i64 0, .string ByteArray.empty] 27)).cell? ⟨W.heap.size, 0, none⟩ = some (.int .i64 0) := blk_cell (heap_alloc_new W _) 0
  have z1 : (W.alloc (.cells #[.int .i64 0, .int .i64 0, .string ByteArray.empty] 27)).cell? ⟨W.heap.size, 1, none⟩ = some (.int .i64 0) := blk_cell (heap_alloc_new W _) 1
  have z2 : (W.alloc (.cells #[.int .i64 0, .int .i64 0, .string ByteArray.empty] 27)).cell? ⟨W.heap.size, 2, none⟩ = some (.string ByteArray.empty) := blk_cell (heap_alloc_new W _) 2
  exact bodyPost_ret (v := .tuple #[noPk, .bool false]) (by simp [results, Try.results14, go_sem, z0, z1, z2, noPk]; rfl) rfl ⟨rfl, below_alloc (Below.refl _ _) _⟩
set_option maxRecDepth 100000 in
set_option maxHeartbeats 4000000 in
theorem drop_nil (k : Int) (W : World) :
    Calls Try.prog 17 #[.pointer none, .int .i64 k] W fun e W' => e = .returned (.bool false) ∧ Below W.heap.size W W' := by
  have HP := Aside0.mk (pull_nil k W)
  go_enter Try.func17, Try.ntmps17
  go_wp2_with fail
  refine HP.out.mono ?_
  rintro e w3 ⟨rfl, H3⟩
  have H3' := Aside0.mk H3
  clear H3
  unfold noPk
  go_wp2
  go_ret
  exact ⟨rfl, below_alloc H3'.out _⟩
end Go.Proofs.Ytbcgeajnmnnbhaa.Nt
