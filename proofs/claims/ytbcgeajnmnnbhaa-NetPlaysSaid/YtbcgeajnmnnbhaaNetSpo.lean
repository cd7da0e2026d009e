/- Spoil: walked. -/
import Derived.Test.YtbcgeajnmnnbhaaNetClr
import Derived.Laws.IdiomStrings
import Derived.Laws.BitsAllLaws
set_option linter.unusedSimpArgs false
set_option linter.unusedVariables false
namespace Go.Proofs.Ytbcgeajnmnnbhaa.Nt
open Go.RowKit Go.Maps Go.Proofs.Ytbcgeajnmnnbhaa.PAll Go.Proofs.YtbcgeajnmnnbhaaW.PrintWords
attribute [local go_sem] put_fresh
attribute [-go_sem] Builtin.append_

set_option maxRecDepth 100000 in
set_option maxHeartbeats 4000000 in
theorem spoil_no {W : World} {base B : Nat} {m : Value} {L : List Pk} (hN : NetAt W base B m L) (k : Int) (at' by' : Int) (hk : isB L k = false) :
    Calls Try.prog 12 #[.pointer (some ⟨B, 0, none⟩), .int .i64 k, .int .i64 at', .int .i64 by'] W fun e W' => e = .returned (.bool false) ∧ W' = W := by
  have H1 := Aside0.mk (is_c hN k)
  rw [hk] at H1
  clear hN
  go_enter Try.func12, Try.ntmps12
  go_wp2_with (go_at_call 33; refine H1.out.mono ?_; rintro e w' ⟨rfl, hww⟩; subst w')
  go_ret
  exact ⟨rfl, rfl⟩
theorem cellF {w : World} {b j : Nat} {cs : Array Value} {t : TypeId} {fr : Nat × Nat} (h : w.heap[b]? = some (.cells cs t fr)) : w.cell? ⟨b, j, none⟩ = cs[j]? := cell_of_row w b j cs t fr h
theorem frozF {w : World} {b j : Nat} {cs : Array Value} {t : TypeId} {fr : Nat × Nat} (h : w.heap[b]? = some (.cells cs t fr)) (hj : j < fr.1) : w.frozen? ⟨b, j, none⟩ = false := by
  simp [World.frozen?, h]
  omega
theorem pk_set : ∀ (L : List Pk) (k : Nat) (x : Pk) (s' : ByteArray), L[k]? = some x → (L.flatMap penc).set (k * 3 + 2) (.string s') = (L.set k ⟨x.a, x.b, s', x.ha, x.hb⟩).flatMap penc
  | [], _, _, _, h => by simp at h
  | y :: r, 0, x, s', h => by
    simp at h
    subst h
    simp [penc]
  | y :: r, k + 1, x, s', h => by
    rw [List.flatMap_cons, List.set_append_right _ _ (by rw [penc_length]; omega), penc_length, show (k + 1) * 3 + 2 - 3 = k * 3 + 2 by omega, pk_set r k x s' (by simpa using h)]
    rfl
/-- A string with one byte spoilt. -/
def spb (s : ByteArray) (t : Nat) (b : Int) : ByteArray := ⟨s.data.setIfInBounds t (s.data[t]! ^^^ UInt8.ofNat (b % 256).toNat)⟩
theorem spb_size (s : ByteArray) (t : Nat) (b : Int) : (spb s t b).data.size = s.data.size := by simp [spb]
theorem spb_byte (s : ByteArray) {t : Nat} (ht : t < s.data.size) (b : Int) : bits .xor .u8 ((s.data[t].toNat : Nat) : Int) (b % 256) = ((s.data[t]! ^^^ UInt8.ofNat (b % 256).toNat).toNat : Int) := by
  have h1 := s.data[t].toNat_lt
  rw [u8_xor _ _ (by omega) (by omega) (by omega) (by omega), getElem!_pos s.data t ht, UInt8.toNat_xor, UInt8.toNat_ofNat']
  have h2 : (b % 256).toNat < 256 := by omega
  rw [Nat.mod_eq_of_lt h2]
  rfl
/-- The bytes' cells with one spoilt are the spoilt string's. -/
theorem spb_cells {w : World} {N cp : Nat} {T : TypeId} {fr : Nat × Nat} (s : ByteArray) {t : Nat} (ht : t < s.data.size) (b : Int) (h : w.heap[N]? = some (.cells ((bytesRow s cp).setIfInBounds t (.int .u8 (bits .xor .u8 ((s.data[t].toNat : Nat) : Int) (b % 256)))) T fr)) :
    (convert 65 9 (.slice (some ⟨N, 0, none⟩) s.size cp)).run Try.prog w = .ok (.string (spb s t b)) w := by
  have hl : (spb s t b).data.toList.length = s.size := by rw [Array.length_toList, spb_size]; rfl
  have := run_convert_bytes_back (P := Try.prog) w 65 9 5 ⟨N, 0, none⟩ cp (spb s t b).data.toList Try.underlying65 Try.underlying5 Try.underlying9 (fun j hj => by
    have hjs : j < s.data.size := by rw [Array.length_toList, spb_size] at hj; exact hj
    rw [Addr.add_lit, Nat.zero_add, cellF h, Array.getElem?_setIfInBounds]
    by_cases e : t = j
    · subst e
      rw [if_pos rfl, if_pos (by unfold bytesRow; simp; omega), spb_byte s ht]
      simp [spb]
    · rw [if_neg e, bytesRow_at s cp j hjs]
      simp [spb, e])
  rw [hl] at this
  rw [this]
/-- The place that is spoilt. -/
def plc (n : Nat) (z : Int) : Nat := (if Int.tmod z n < 0 then Int.tmod z n + n else Int.tmod z n).toNat
theorem plc_lt {n : Nat} (hn : 0 < n) (z : Int) : plc n z < n := by
  unfold plc
  have h1 := Int.tmod_lt_of_pos z (show (0 : Int) < n by omega)
  have h2 : -(n : Int) < Int.tmod z n := by
    have := Int.lt_tmod_of_pos z (show (0 : Int) < n by omega)
    omega
  split <;> omega
set_option maxRecDepth 100000 in
set_option maxHeartbeats 8000000 in
theorem spoil_in {W : World} {base B n : Nat} {m : Value} {C : Int → Int → Bool} {L : List Pk} (hN : NetAt W base B m L) (hC : CutAt W B m n C) (hL : L.length ≤ 800) (k : Nat) (x : Pk) (hx : L[k]? = some x) (z b : Int) (hz : I64 z) (hb : I64 b) (h0 : 0 < x.s.size) (hsz : x.s.size ≤ 281474976710656) :
    Calls Try.prog 12 #[.pointer (some ⟨B, 0, none⟩), .int .i64 k, .int .i64 z, .int .i64 b] W fun e W' => e = .returned (.bool true) ∧ NetAt W' base B m (L.set k ⟨x.a, x.b, spb x.s (plc x.s.size z) b, x.ha, x.hb⟩) ∧ CutAt W' B m n C ∧ Kp W W' B ∧ Below base W W' := by
  have hk : k < L.length := (List.getElem?_eq_some_iff.1 hx).1
  obtain ⟨p, c, hB, hr⟩ := net_v hN
  obtain ⟨g, x', rfl, hx', x0, x1, x2⟩ := own_at hr hk
  obtain rfl : x' = x := Option.some.inj (hx'.symm.trans hx)
  have hgl := own_lt hr g rfl
  have hbl := hN.lt
  have hc : W.cell? ⟨B, 0, none⟩ = some (.slice (some ⟨g, 0, none⟩) L.length c) := blk_cell hB 0
  have hki : (k : Int) < (L.length : Int) := by omega
  have hI := is_c hN (k : Int)
  rw [isB_nat hk] at hI
  have HI := Aside0.mk hI
  have hE : x'.s.toList.isEmpty = false := by
    rw [Lib.toList_data]
    cases hl : x'.s.data.toList with
    | nil =>
      have h1 : x'.s.size = x'.s.data.toList.length := by rw [Array.length_toList]; rfl
      rw [hl] at h1
      exact absurd h0 (by rw [h1]; decide)
    | cons y l => rfl
  have hcv := run_bytes_of_string (P := Try.prog) W 9 65 5 x'.s Try.underlying9 Try.underlying65 Try.underlying5
  generalize hcp : grownCap W x'.s.size 0 5 = cp at hcv
  have htl := plc_lt h0 z
  have htm1 := Int.tmod_lt_of_pos z (show (0 : Int) < x'.s.size by omega)
  have htm2 := Int.lt_tmod_of_pos z (show (0 : Int) < x'.s.size by omega)
  have hpl : (plc x'.s.size z : Int) = if Int.tmod z x'.s.size < 0 then Int.tmod z x'.s.size + x'.s.size else Int.tmod z x'.s.size := by
    unfold plc
    rw [Int.toNat_of_nonneg]
    split <;> omega
  generalize plc x'.s.size z = t at htl hpl ⊢
  have hblk : (W.alloc (.cells (bytesRow x'.s cp) 5 ((bytesRow x'.s cp).size, (bytesRow x'.s cp).size + 1))).drew.heap[W.heap.size]? = some (.cells (bytesRow x'.s cp) 5 ((bytesRow x'.s cp).size, (bytesRow x'.s cp).size + 1)) := heap_alloc_new W _
  have htd : t < x'.s.data.size := htl
  have q0 : (W.alloc (.cells (bytesRow x'.s cp) 5 ((bytesRow x'.s cp).size, (bytesRow x'.s cp).size + 1))).drew.cell? ⟨W.heap.size, t, none⟩ = some (.int .u8 (x'.s.data[t].toNat : Int)) := (cellF hblk).trans (bytesRow_at x'.s cp t htd)
  have hbz : x'.s.data.size ≤ (bytesRow x'.s cp).size := by unfold bytesRow; simp
  have q1 : (W.alloc (.cells (bytesRow x'.s cp) 5 ((bytesRow x'.s cp).size, (bytesRow x'.s cp).size + 1))).drew.frozen? ⟨W.heap.size, t, none⟩ = false := frozF hblk (by show t < (bytesRow x'.s cp).size; omega)
  have htI : (t : Int) < (x'.s.size : Int) := by omega
  have hw2b : ((W.alloc (.cells (bytesRow x'.s cp) 5 ((bytesRow x'.s cp).size, (bytesRow x'.s cp).size + 1))).setCell ⟨W.heap.size, t, none⟩ (.int .u8 (bits .xor .u8 ((x'.s.data[t].toNat : Nat) : Int) (b % 256)))).drew.heap[W.heap.size]? = some (.cells ((bytesRow x'.s cp).setIfInBounds t (.int .u8 (bits .xor .u8 ((x'.s.data[t].toNat : Nat) : Int) (b % 256)))) 5 ((bytesRow x'.s cp).size, (bytesRow x'.s cp).size + 1)) := set_blk (w := W.alloc (.cells (bytesRow x'.s cp) 5 ((bytesRow x'.s cp).size, (bytesRow x'.s cp).size + 1))) (j := t) _ hblk
  have hw2o : Below W.heap.size W ((W.alloc (.cells (bytesRow x'.s cp) 5 ((bytesRow x'.s cp).size, (bytesRow x'.s cp).size + 1))).setCell ⟨W.heap.size, t, none⟩ (.int .u8 (bits .xor .u8 ((x'.s.data[t].toNat : Nat) : Int) (b % 256)))).drew := ⟨rfl, rfl, rfl, by show W.heap.size ≤ ((W.alloc (.cells (bytesRow x'.s cp) 5 ((bytesRow x'.s cp).size, (bytesRow x'.s cp).size + 1))).setCell ⟨W.heap.size, t, none⟩ (.int .u8 (bits .xor .u8 ((x'.s.data[t].toNat : Nat) : Int) (b % 256)))).heap.size; simp, fun j hj => (set_other (w := W.alloc (.cells (bytesRow x'.s cp) 5 ((bytesRow x'.s cp).size, (bytesRow x'.s cp).size + 1))) _ (by omega)).trans (heap_alloc_old _ _ hj)⟩
  have hcb := spb_cells x'.s htd b hw2b
  have hcbd := spb_cells (w := ((W.alloc (.cells (bytesRow x'.s cp) 5 ((bytesRow x'.s cp).size, (bytesRow x'.s cp).size + 1))).setCell ⟨W.heap.size, t, none⟩ (.int .u8 (bits .xor .u8 ((x'.s.data[t].toNat : Nat) : Int) (b % 256)))).drew.drew) x'.s htd b hw2b
  have HB := Aside0.mk (And.intro hw2o (And.intro hcb hcbd))
  have HA := Aside0.mk (And.intro hN (And.intro hC (And.intro hB (And.intro hr (And.intro hgl hbl)))))
  have HX := Aside0.mk hx
  clear hw2b hw2o hcb hcbd hbz hblk hr hB hx hx' hI hgl hbl hN hC
  go_enter Try.func12, Try.ntmps12
  go_upto_region 4 with (go_at_call 33; refine HI.out.mono ?_; rintro e w' ⟨rfl, hww⟩; subst w')
  have hn0 : ¬ ((x'.s.size : Int) = 0) := by omega
  by_cases hneg : Int.tmod z x'.s.size < 0
  · rw [if_pos hneg] at hpl
    have hw : wrap64 (Int.tmod z x'.s.size + x'.s.size) = (t : Int) := by rw [← hpl]; unfold wrap64; omega
    clear hpl htm1 htm2
    go_wp2_with fail
    generalize ((W.alloc (.cells (bytesRow x'.s cp) 5 ((bytesRow x'.s cp).size, (bytesRow x'.s cp).size + 1))).setCell ⟨W.heap.size, t, none⟩ (.int .u8 (bits .xor .u8 ((x'.s.data[t].toNat : Nat) : Int) (b % 256)))).drew = w2 at *
    obtain ⟨hb2, hcb, hcbd⟩ := HB.out
    obtain ⟨hN, hC, hB, hr, hgl, hbl⟩ := HA.out
    obtain ⟨g0, cap0, cur, hgv, hg0, hcur, hn0', hcp0, hz0, ht0⟩ := hr.2.resolve_left (by rintro ⟨h, _⟩; cases h)
    cases hgv
    have hcur2 := (hb2.block g hgl.2).trans hcur
    have hB2 := (hb2.block B hbl).trans hB
    have c0 : w2.cell? ⟨B, 0, none⟩ = some (.slice (some ⟨g, 0, none⟩) L.length c) := blk_cell hB2 0
    have s0 : w2.cell? ⟨g, k * 3 + 2, none⟩ = some (.string x'.s) := (World.cell?_of_block (a := ⟨g, k * 3 + 2, none⟩) (hb2.block g hgl.2)).trans x2
    have s1 : w2.frozen? ⟨g, k * 3 + 2, none⟩ = false := blk_frozen hcur2 _
    have HC := Aside0.mk (And.intro hcur2 (And.intro hB2 (And.intro hz0 (And.intro ht0 (And.intro hn0' hcp0)))))
    clear hcur hcur2 hB2 hN hC hB hr hgl hbl hb2 ht0 hz0 hcv q0 q1 x0 x1 x2 hc hn0' hcp0 hg0
    go_region
    go_wp2
    go_ret
    obtain ⟨hcur2, hB2, hz0, ht0, hn0', hcp0⟩ := HC.out
    obtain ⟨hN, hC, hB, hr, hgl, hbl⟩ := HA.out
    obtain ⟨hb2, _, _⟩ := HB.out
    have hg' := set_blk (j := k * 3 + 2) (.string (spb x'.s t b)) hcur2
    have old : ∀ j, j < W.heap.size → j ≠ g → (w2.setCell ⟨g, k * 3 + 2, none⟩ (.string (spb x'.s t b))).heap[j]? = W.heap[j]? := fun j h1 h2 => (set_other _ (Ne.symm h2)).trans (hb2.block j h1)
    have hsz2 : (w2.setCell ⟨g, k * 3 + 2, none⟩ (.string (spb x'.s t b))).heap.size = w2.heap.size := by simp
    have hB9 : (w2.setCell ⟨g, k * 3 + 2, none⟩ (.string (spb x'.s t b))).drew.heap[B]? = some (.cells #[.slice (some ⟨g, 0, none⟩) L.length c, m] 46 (0, 0)) := (old B hbl (by omega)).trans hB
    have hbb := hN.1
    have hszW := hb2.size
    refine ⟨rfl, ⟨hN.1, _, hB9, ?_⟩, hC.keep fun b' hm => ?_, fun q hq hno => ⟨old q hq (fun e => hno (.inr ⟨_, _, hB, by rw [e]; rfl⟩)), fun ho => ?_⟩, ⟨hb2.os, hb2.tape, hb2.output, by show W.heap.size ≤ (w2.setCell ⟨g, k * 3 + 2, none⟩ (.string (spb x'.s t b))).heap.size; omega, fun j hj => old j (by omega) (by omega)⟩⟩
    · rw [List.length_set]
      refine ⟨by rw [pmap_len, List.length_set], .inr ⟨g, c, _, rfl, hgl.1, hg', hn0', hcp0, by simpa using hz0, ?_⟩⟩
      rw [Array.toList_setIfInBounds, List.take_set, ht0, pk_set L k x' _ HX.out]
    · have hlt := hC.lt hm
      obtain ⟨es, clock, hmap⟩ := hC.isMap hm
      refine old b' hlt.2 (fun e => ?_)
      obtain ⟨cells, hcs⟩ := own_typed hr g rfl
      rw [e, hcs] at hmap
      cases hmap
    · rcases ho with e | ⟨v', m', hb', hv'⟩
      · exact hno (.inl e)
      · rw [hB9] at hb'
        cases hb'
        exact hno (.inr ⟨_, _, hB, hv'⟩)
  · rw [if_neg hneg] at hpl
    have hw : Int.tmod z x'.s.size = (t : Int) := hpl.symm
    clear hpl htm1 htm2
    go_wp2_with fail
    generalize ((W.alloc (.cells (bytesRow x'.s cp) 5 ((bytesRow x'.s cp).size, (bytesRow x'.s cp).size + 1))).setCell ⟨W.heap.size, t, none⟩ (.int .u8 (bits .xor .u8 ((x'.s.data[t].toNat : Nat) : Int) (b % 256)))).drew = w2 at *
    obtain ⟨hb2, hcb, hcbd⟩ := HB.out
    obtain ⟨hN, hC, hB, hr, hgl, hbl⟩ := HA.out
    obtain ⟨g0, cap0, cur, hgv, hg0, hcur, hn0', hcp0, hz0, ht0⟩ := hr.2.resolve_left (by rintro ⟨h, _⟩; cases h)
    cases hgv
    have hcur2 := (hb2.block g hgl.2).trans hcur
    have hB2 := (hb2.block B hbl).trans hB
    have c0 : w2.cell? ⟨B, 0, none⟩ = some (.slice (some ⟨g, 0, none⟩) L.length c) := blk_cell hB2 0
    have s0 : w2.cell? ⟨g, k * 3 + 2, none⟩ = some (.string x'.s) := (World.cell?_of_block (a := ⟨g, k * 3 + 2, none⟩) (hb2.block g hgl.2)).trans x2
    have s1 : w2.frozen? ⟨g, k * 3 + 2, none⟩ = false := blk_frozen hcur2 _
    have HC := Aside0.mk (And.intro hcur2 (And.intro hB2 (And.intro hz0 (And.intro ht0 (And.intro hn0' hcp0)))))
    clear hcur hcur2 hB2 hN hC hB hr hgl hbl hb2 ht0 hz0 hcv q0 q1 x0 x1 x2 hc hn0' hcp0 hg0
    go_region
    go_wp2
    go_ret
    obtain ⟨hcur2, hB2, hz0, ht0, hn0', hcp0⟩ := HC.out
    obtain ⟨hN, hC, hB, hr, hgl, hbl⟩ := HA.out
    obtain ⟨hb2, _, _⟩ := HB.out
    have hg' := set_blk (j := k * 3 + 2) (.string (spb x'.s t b)) hcur2
    have old : ∀ j, j < W.heap.size → j ≠ g → (w2.setCell ⟨g, k * 3 + 2, none⟩ (.string (spb x'.s t b))).heap[j]? = W.heap[j]? := fun j h1 h2 => (set_other _ (Ne.symm h2)).trans (hb2.block j h1)
    have hsz2 : (w2.setCell ⟨g, k * 3 + 2, none⟩ (.string (spb x'.s t b))).heap.size = w2.heap.size := by simp
    have hB9 : (w2.setCell ⟨g, k * 3 + 2, none⟩ (.string (spb x'.s t b))).drew.heap[B]? = some (.cells #[.slice (some ⟨g, 0, none⟩) L.length c, m] 46 (0, 0)) := (old B hbl (by omega)).trans hB
    have hbb := hN.1
    have hszW := hb2.size
    refine ⟨rfl, ⟨hN.1, _, hB9, ?_⟩, hC.keep fun b' hm => ?_, fun q hq hno => ⟨old q hq (fun e => hno (.inr ⟨_, _, hB, by rw [e]; rfl⟩)), fun ho => ?_⟩, ⟨hb2.os, hb2.tape, hb2.output, by show W.heap.size ≤ (w2.setCell ⟨g, k * 3 + 2, none⟩ (.string (spb x'.s t b))).heap.size; omega, fun j hj => old j (by omega) (by omega)⟩⟩
    · rw [List.length_set]
      refine ⟨by rw [pmap_len, List.length_set], .inr ⟨g, c, _, rfl, hgl.1, hg', hn0', hcp0, by simpa using hz0, ?_⟩⟩
      rw [Array.toList_setIfInBounds, List.take_set, ht0, pk_set L k x' _ HX.out]
    · have hlt := hC.lt hm
      obtain ⟨es, clock, hmap⟩ := hC.isMap hm
      refine old b' hlt.2 (fun e => ?_)
      obtain ⟨cells, hcs⟩ := own_typed hr g rfl
      rw [e, hcs] at hmap
      cases hmap
    · rcases ho with e | ⟨v', m', hb', hv'⟩
      · exact hno (.inl e)
      · rw [hB9] at hb'
        cases hb'
        exact hno (.inr ⟨_, _, hB, hv'⟩)
end Go.Proofs.Ytbcgeajnmnnbhaa.Nt
