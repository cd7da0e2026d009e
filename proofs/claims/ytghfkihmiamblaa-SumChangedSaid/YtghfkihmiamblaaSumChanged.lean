/- SumChanged: a sealed text of which one byte is changed is refused, as is one that is cut short to less than its sum: the walk, by hand. -/
import Derived.Test.YtghfkihmiamblaaPAllx6
import Derived.Test.YtghfkihmiamblaaPAllx7
import Derived.Test.YtghfkihmiamblaaSumCh0
import Derived.Test.YtghfkihmiamblaaSumBack
set_option linter.unusedSimpArgs false
set_option linter.unusedVariables false
namespace Go.Proofs.Ytghfkihmiamblaa.Pure
open Go.RowKit Go.Proofs.Ytghfkihmiamblaa.PAll Go.Proofs.YtghfkihmiamblaaW.PrintWords Go.Proofs.YtghfkihmiamblaaW.PrintMore Go.Proofs.Ytghfkihmiamblaa.Pb

theorem nums_of (l : List UInt8) : strOfNums (l.map fun c => (c.toNat : Int)) = ba l := by
  apply ls_inj
  simp [ls, strOfNums, ba, Function.comp_def]
set_option maxHeartbeats 4000000 in
set_option maxRecDepth 100000 in
theorem changed_alive (a0 : ByteArray) (a1 a2 : Int) (w : World) (h : 3000 < a0.size ∨ a0.size ≤ 3000 ∧ a2 % 256 = 0) :
    Calls Try.prog 4 #[.string a0, .int .i64 a1, .int .i64 a2] w fun e w' => e = .returned (.bool true) ∧ Below w.heap.size w w' := by
  obtain ⟨k, hk⟩ := alive_ev.rounds
  have hk' := Aside0.mk hk
  clear hk
  rcases h with h | ⟨h, h2⟩
  · have d1 : decide (3000 < (a0.size : Int)) = true := decide_eq_true (by omega)
    have d2 : decide (3000 < a0.size) = true := decide_eq_true h
    clear h
    go_enter Try.func4, Try.ntmps4
    go_wp2_with fail
    refine (cornucopialaw3_alive.calls k true _ hk'.out).mono ?_
    rintro e w1 ⟨rfl, hb⟩
    go_wp2
    go_ret
    exact ⟨rfl, hb⟩
  · have d1 : decide (3000 < (a0.size : Int)) = false := decide_eq_false (by omega)
    have d2 : decide (3000 < a0.size) = false := decide_eq_false (by omega)
    have d3 : (a2 % 256 == 0) = true := beq_iff_eq.2 h2
    clear h h2
    go_enter Try.func4, Try.ntmps4
    go_wp2_with fail
    refine (cornucopialaw3_alive.calls k true _ hk'.out).mono ?_
    rintro e w1 ⟨rfl, hb⟩
    go_wp2
    go_ret
    exact ⟨rfl, hb⟩

theorem bytes_setCell_cell (W : World) (e : TypeId) (t : ByteArray) (g k j : Nat) (y : UInt8) (hg : g = W.heap.size) (hk : k < t.size) (hj : j < t.size) :
    ((Lib.bytesWorld W e t).setCell ⟨g, k, none⟩ (.int .u8 (y.toNat : Int))).cell? ⟨g, j, none⟩ = some (.int .u8 ((((ls t).set k y).getD j 0).toNat : Int)) := by
  subst hg
  have hb := Lib.bytesWorld_at_new W e t
  have hc := Lib.bytesWorld_cell W e t j hj
  have hlen : (ls t).length = t.size := ls_length t
  by_cases h : j = k
  · subst h
    have h2 : j < (Lib.bytesCells W e t).size := by
      have : (Lib.bytesWorld W e t).cell? ⟨W.heap.size, j, none⟩ = (Lib.bytesCells W e t)[j]? := by simp [World.cell?, hb]
      rw [this] at hc
      exact (Array.getElem?_eq_some_iff.1 hc).1
    simp [World.cell?, World.setCell, Array.getElem?_modify, hb, h2, List.getD_eq_getElem?_getD, List.getElem?_set_self (show j < (ls t).length by omega)]
  · have h3 : ((ls t).set k y).getD j 0 = (ls t).getD j 0 := by
      rw [List.getD_eq_getElem?_getD, List.getElem?_set_ne (Ne.symm h), ← List.getD_eq_getElem?_getD]
    rw [h3, ← show (Lib.bytesWorld W e t).cell? ⟨W.heap.size, j, none⟩ = some (.int .u8 (((ls t).getD j 0).toNat : Int)) from hc]
    simp [World.cell?, World.setCell, Array.getElem?_modify, hb, Array.getElem?_setIfInBounds_ne (Ne.symm h)]
theorem bytes_frozen (W : World) (e : TypeId) (t : ByteArray) (k : Nat) (hk : k < t.size) : (Lib.bytesWorld W e t).frozen? ⟨W.heap.size, k, none⟩ = false := by
  have hb := Lib.bytesWorld_at_new W e t
  have hs : t.size ≤ (Lib.bytesCells W e t).size := by simp [Lib.bytesCells]
  simp [World.frozen?, hb]
  first | done | omega
theorem conv_cells {P : Program} {w : World} (src dst e : TypeId) (hs : P.underlying src = some (.slice e)) (he : P.underlying e = some (.int .u8)) (hd : P.underlying dst = some .string) (g len cap : Nat) (l : List UInt8) (hl : len ≤ l.length)
    (hc : ∀ i, i < len → w.cell? ⟨g, i, none⟩ = some (.int .u8 ((l.getD i 0).toNat : Int))) : (convert src dst (.slice (some ⟨g, 0, none⟩) len cap)).run P w = .ok (.string (ba (l.take len))) w := by
  have h := run_convert_bytes_arg (P := P) w src e hs he g 0 len cap ((l.take len).map fun c => (c.toNat : Int)) (by rw [List.length_map, List.length_take]; omega) (fun i hi => ?_) dst hd
  · rw [nums_of] at h
    exact h
  · rw [Nat.zero_add, hc i hi]
    have hi2 : i < l.length := by omega
    simp [List.getD_eq_getElem?_getD, List.getElem?_take, hi, hi2]

set_option maxHeartbeats 8000000 in
set_option maxRecDepth 100000 in
theorem changed_main (a0 : ByteArray) (a1 a2 : Int) (w : World) (h1 : a0.size ≤ 3000) (h2 : a2 % 256 ≠ 0) :
    Calls Try.prog 4 #[.string a0, .int .i64 a1, .int .i64 a2] w fun e w' => e = .returned (.bool true) ∧ Below w.heap.size w w' := by
  -- the sealed text, the place, the new byte
  obtain ⟨t, htd⟩ : ∃ t, t = a0 ++ ba (be 4 (crc (ls a0))) := ⟨_, rfl⟩
  have htl : ls t = ls a0 ++ be 4 (crc (ls a0)) := by rw [htd]; simp
  have hts : t.size = a0.size + 4 := by rw [← ls_length, htl]; simp
  obtain ⟨k, hk, hkm⟩ : ∃ k : Nat, k < t.size ∧ (¬ (a1.tmod (t.size : Int) < 0) ∧ a1.tmod (t.size : Int) = (k : Int) ∨ a1.tmod (t.size : Int) < 0 ∧ a1.tmod (t.size : Int) + (t.size : Int) = (k : Int)) := by
    have hp : (0 : Int) < (t.size : Int) := by omega
    have b1 := Int.tmod_lt_of_pos a1 hp
    have b2 : -(t.size : Int) < a1.tmod (t.size : Int) := by
      have := Int.lt_tmod_of_pos a1 hp
      omega
    by_cases c : a1.tmod (t.size : Int) < 0
    · exact ⟨(a1.tmod (t.size : Int) + (t.size : Int)).toNat, by omega, .inr ⟨c, by omega⟩⟩
    · exact ⟨(a1.tmod (t.size : Int)).toNat, by omega, .inl ⟨c, by omega⟩⟩
  obtain ⟨x, hx⟩ : ∃ x, x = (ls t).getD k 0 := ⟨_, rfl⟩
  have hxl := x.toNat_lt
  obtain ⟨y, hy⟩ : ∃ y : UInt8, y = UInt8.ofNat (x.toNat ^^^ (a2 % 256).toNat) := ⟨_, rfl⟩
  have h256 : (a2 % 256).toNat < 256 := by omega
  have hxor : x.toNat ^^^ (a2 % 256).toNat < 256 := Nat.xor_lt_two_pow (n := 8) hxl h256
  have hyn : y.toNat = x.toNat ^^^ (a2 % 256).toNat := by rw [hy, UInt8.toNat_ofNat']; exact Nat.mod_eq_of_lt hxor
  have hyx : y ≠ x := fun h => by
    have h3 : x.toNat ^^^ (a2 % 256).toNat = x.toNat ^^^ 0 := by rw [← hyn, h, Nat.xor_zero]
    have := xor_left_inj h3
    omega
  have hbits : Go.bits .xor .u8 (x.toNat : Int) (a2 % 256) = (y.toNat : Int) := by
    rw [hyn, show a2 % 256 = (((a2 % 256).toNat : Nat) : Int) by omega, u8_xor_nat _ _ hxl h256, Int.toNat_natCast]
  -- what Open answers
  obtain ⟨z, hz⟩ : ∃ z, z = ba ((ls t).set k y) := ⟨_, rfl⟩
  have hzl : ls z = (ls t).set k y := by rw [hz]; simp
  have hzs : z.size = a0.size + 4 := by rw [← ls_length, hzl, List.length_set, ls_length]; exact hts
  have hbad : Ev (fun k => sum_Open.f k z) ((⟨#[]⟩ : ByteArray), 6) := Open_bad z (by omega) (by omega) (by
    have e : z.size - 4 = (ls a0).length := by rw [ls_length]; omega
    rw [e, hzl, htl]
    exact sealed_change (ls a0) k y (by rw [ls_length]; omega) (by rw [← htl, ← hx]; exact hyx))
  obtain ⟨z3, hz3⟩ : ∃ z3, z3 = ba (((ls t).set k y).take 3) := ⟨_, rfl⟩
  have hshort : Ev (fun k => sum_Open.f k z3) ((⟨#[]⟩ : ByteArray), 5) := Open_short z3 (by rw [hz3, size_ba, List.length_take]; omega)
  have hseal := Seal_ev a0 (by omega)
  rw [← htd] at hseal
  obtain ⟨n1, hs'⟩ := hseal.rounds
  obtain ⟨n2, hb'⟩ := hbad.rounds
  obtain ⟨n3, hh'⟩ := hshort.rounds
  obtain ⟨n4, ha'⟩ := alive_ev.rounds
  have HS := Aside0.mk hs'
  have HBad := Aside0.mk hb'
  have HSh := Aside0.mk hh'
  have HA := Aside0.mk ha'
  have HT := Aside0.mk hts
  have HX := Aside0.mk hx
  have HZ := Aside0.mk hz
  have HZ3 := Aside0.mk hz3
  have d1 : decide (3000 < (a0.size : Int)) = false := decide_eq_false (by omega)
  have d2 : decide (3000 < a0.size) = false := decide_eq_false (by omega)
  have d3 : (a2 % 256 == 0) = false := beq_eq_false_iff_ne.2 h2
  have d4 : ((t.size : Int) != (a0.size : Int) + 4) = false := by rw [hts]; simp
  have hp1 : ¬ ((t.size : Int) = 0) := by omega
  have hlo : -9223372036854775808 ≤ (t.size : Int) := by omega
  have hhi : (t.size : Int) ≤ 3004 := by omega
  have ha0 : (a0.size : Int) ≤ 3000 := by omega
  have ha1 : 0 ≤ (a0.size : Int) := by omega
  have hxy : 0 ≤ (x.toNat : Int) := by omega
  clear hs' hb' hh' ha' hbad hshort hseal hts hx hz hz3 htd htl hy hyn hyx hxor hzl hzs h1 h2 h256
  rcases hkm with ⟨hm, hk2⟩ | ⟨hm, hk2⟩
  · have d5 : decide ((k : Int) < 0) = false := decide_eq_false (by omega)
    clear hm
    go_enter Try.func4, Try.ntmps4
    go_wp2_with fail
    refine (sum_Seal.calls n1 a0 t _ HS.out).mono ?_
    rintro e w1 ⟨rfl, hb1⟩
    have HB1 := Aside0.mk hb1
    have kb := print_bytes (P := Try.prog) 9 30 5 Try.underlying9 Try.underlying30 Try.underlying5 t w1
    have kc : (Lib.bytesWorld w1 5 t).cell? ⟨w1.heap.size, k, none⟩ = some (.int .u8 (x.toNat : Int)) := by rw [HX.out]; exact Lib.bytesWorld_cell w1 5 t k hk
    have kf : (Lib.bytesWorld w1 5 t).frozen? ⟨w1.heap.size, k, none⟩ = false := bytes_frozen w1 5 t k hk
    have hcc : Aside0 (∀ i, i < t.size → ((Lib.bytesWorld w1 5 t).setCell ⟨w1.heap.size, k, none⟩ (.int .u8 (y.toNat : Int))).cell? ⟨w1.heap.size, i, none⟩ = some (.int .u8 ((((ls t).set k y).getD i 0).toNat : Int))) := ⟨fun i hi => bytes_setCell_cell w1 5 t _ k i y rfl hk hi⟩
    have hkz : Aside0 (((ls t).set k y).length = t.size) := ⟨by rw [List.length_set, ls_length]⟩
    have hcap : Aside0 (t.size ≤ grownCap w1 t.size 0 5) := ⟨grownCap_ge w1 t.size 0 5⟩
    have kv : (convert 30 9 (.slice (some ⟨w1.heap.size, 0, none⟩) t.size (grownCap w1 t.size 0 5))).run Try.prog ((Lib.bytesWorld w1 5 t).setCell ⟨w1.heap.size, k, none⟩ (.int .u8 (y.toNat : Int))) = .ok (.string z) ((Lib.bytesWorld w1 5 t).setCell ⟨w1.heap.size, k, none⟩ (.int .u8 (y.toNat : Int))) := by
      have h := conv_cells (P := Try.prog) 30 9 5 Try.underlying30 Try.underlying5 Try.underlying9 w1.heap.size t.size (grownCap w1 t.size 0 5) ((ls t).set k y) (by rw [hkz.out]; exact Nat.le_refl _) hcc.out
      rw [List.take_of_length_le (by rw [hkz.out]; exact Nat.le_refl _), ← HZ.out] at h
      exact h
    go_wp2_with fail
    refine (sum_Open.calls n2 z ⟨#[]⟩ 6 _ HBad.out).mono ?_
    rintro e w2 ⟨rfl, hb2⟩
    have HB2 := Aside0.mk (below_step ((bytes_below HB1.out HB1.out.size 5 t).setCell (p := ⟨w1.heap.size, k, none⟩) HB1.out.size (.int .u8 (y.toNat : Int))) hb2)
    have hcc2 : Aside0 (∀ i, i < t.size → w2.cell? ⟨w1.heap.size, i, none⟩ = some (.int .u8 ((((ls t).set k y).getD i 0).toNat : Int))) := ⟨fun i hi => pw_cell_below hb2 (hcc.out i hi)⟩
    have h3 : 3 ≤ grownCap w1 t.size 0 5 := by have := hcap.out; have := HT.out; omega
    have kv3 : (convert 30 9 (.slice (some ⟨w1.heap.size, 0, none⟩) 3 (grownCap w1 t.size 0 5))).run Try.prog w2 = .ok (.string z3) w2 := by
      have h := conv_cells (P := Try.prog) (w := w2) 30 9 5 Try.underlying30 Try.underlying5 Try.underlying9 w1.heap.size 3 (grownCap w1 t.size 0 5) ((ls t).set k y) (by rw [hkz.out]; have := HT.out; omega) (fun i hi => hcc2.out i (by have := HT.out; omega))
      rw [← HZ3.out] at h
      exact h
    clear kv kc kf kb hb1 hb2
    go_wp2_with fail
    refine (sum_Open.calls n3 z3 ⟨#[]⟩ 5 _ HSh.out).mono ?_
    rintro e w3 ⟨rfl, hb3⟩
    have HB3 := Aside0.mk (below_step HB2.out hb3)
    clear kv3 hb3
    go_wp2_with fail
    refine (cornucopialaw3_alive.calls n4 true _ HA.out).mono ?_
    rintro e w4 ⟨rfl, hb4⟩
    have HB4 := Aside0.mk (below_step HB3.out hb4)
    clear hb4
    go_wp2
    go_ret
    exact ⟨rfl, HB4.out⟩
  · have d5 : decide (a1.tmod (t.size : Int) < 0) = true := decide_eq_true hm
    have d6 : wrap64 (a1.tmod (t.size : Int) + (t.size : Int)) = (k : Int) := by rw [hk2]; exact wrap64_id (by omega) (by omega)
    clear hm hk2
    go_enter Try.func4, Try.ntmps4
    go_wp2_with fail
    refine (sum_Seal.calls n1 a0 t _ HS.out).mono ?_
    rintro e w1 ⟨rfl, hb1⟩
    have HB1 := Aside0.mk hb1
    have kb := print_bytes (P := Try.prog) 9 30 5 Try.underlying9 Try.underlying30 Try.underlying5 t w1
    have kc : (Lib.bytesWorld w1 5 t).cell? ⟨w1.heap.size, k, none⟩ = some (.int .u8 (x.toNat : Int)) := by rw [HX.out]; exact Lib.bytesWorld_cell w1 5 t k hk
    have kf : (Lib.bytesWorld w1 5 t).frozen? ⟨w1.heap.size, k, none⟩ = false := bytes_frozen w1 5 t k hk
    have hcc : Aside0 (∀ i, i < t.size → ((Lib.bytesWorld w1 5 t).setCell ⟨w1.heap.size, k, none⟩ (.int .u8 (y.toNat : Int))).cell? ⟨w1.heap.size, i, none⟩ = some (.int .u8 ((((ls t).set k y).getD i 0).toNat : Int))) := ⟨fun i hi => bytes_setCell_cell w1 5 t _ k i y rfl hk hi⟩
    have hkz : Aside0 (((ls t).set k y).length = t.size) := ⟨by rw [List.length_set, ls_length]⟩
    have hcap : Aside0 (t.size ≤ grownCap w1 t.size 0 5) := ⟨grownCap_ge w1 t.size 0 5⟩
    have kv : (convert 30 9 (.slice (some ⟨w1.heap.size, 0, none⟩) t.size (grownCap w1 t.size 0 5))).run Try.prog ((Lib.bytesWorld w1 5 t).setCell ⟨w1.heap.size, k, none⟩ (.int .u8 (y.toNat : Int))) = .ok (.string z) ((Lib.bytesWorld w1 5 t).setCell ⟨w1.heap.size, k, none⟩ (.int .u8 (y.toNat : Int))) := by
      have h := conv_cells (P := Try.prog) 30 9 5 Try.underlying30 Try.underlying5 Try.underlying9 w1.heap.size t.size (grownCap w1 t.size 0 5) ((ls t).set k y) (by rw [hkz.out]; exact Nat.le_refl _) hcc.out
      rw [List.take_of_length_le (by rw [hkz.out]; exact Nat.le_refl _), ← HZ.out] at h
      exact h
    go_wp2_with fail
    refine (sum_Open.calls n2 z ⟨#[]⟩ 6 _ HBad.out).mono ?_
    rintro e w2 ⟨rfl, hb2⟩
    have HB2 := Aside0.mk (below_step ((bytes_below HB1.out HB1.out.size 5 t).setCell (p := ⟨w1.heap.size, k, none⟩) HB1.out.size (.int .u8 (y.toNat : Int))) hb2)
    have hcc2 : Aside0 (∀ i, i < t.size → w2.cell? ⟨w1.heap.size, i, none⟩ = some (.int .u8 ((((ls t).set k y).getD i 0).toNat : Int))) := ⟨fun i hi => pw_cell_below hb2 (hcc.out i hi)⟩
    have h3 : 3 ≤ grownCap w1 t.size 0 5 := by have := hcap.out; have := HT.out; omega
    have kv3 : (convert 30 9 (.slice (some ⟨w1.heap.size, 0, none⟩) 3 (grownCap w1 t.size 0 5))).run Try.prog w2 = .ok (.string z3) w2 := by
      have h := conv_cells (P := Try.prog) (w := w2) 30 9 5 Try.underlying30 Try.underlying5 Try.underlying9 w1.heap.size 3 (grownCap w1 t.size 0 5) ((ls t).set k y) (by rw [hkz.out]; have := HT.out; omega) (fun i hi => hcc2.out i (by have := HT.out; omega))
      rw [← HZ3.out] at h
      exact h
    clear kv kc kf kb hb1 hb2
    go_wp2_with fail
    refine (sum_Open.calls n3 z3 ⟨#[]⟩ 5 _ HSh.out).mono ?_
    rintro e w3 ⟨rfl, hb3⟩
    have HB3 := Aside0.mk (below_step HB2.out hb3)
    clear kv3 hb3
    go_wp2_with fail
    refine (cornucopialaw3_alive.calls n4 true _ HA.out).mono ?_
    rintro e w4 ⟨rfl, hb4⟩
    have HB4 := Aside0.mk (below_step HB3.out hb4)
    clear hb4
    go_wp2
    go_ret
    exact ⟨rfl, HB4.out⟩
theorem SumChanged_walk (a0 : ByteArray) (a1 a2 : Int) (w : World) : Calls Try.prog 4 #[.string a0, .int .i64 a1, .int .i64 a2] w fun e w' => e = .returned (.bool true) ∧ Below w.heap.size w w' := by
  by_cases c : 3000 < a0.size
  · exact changed_alive a0 a1 a2 w (.inl c)
  by_cases c2 : a2 % 256 = 0
  · exact changed_alive a0 a1 a2 w (.inr ⟨by omega, c2⟩)
  · exact changed_main a0 a1 a2 w (by omega) c2
end Go.Proofs.Ytghfkihmiamblaa.Pure
