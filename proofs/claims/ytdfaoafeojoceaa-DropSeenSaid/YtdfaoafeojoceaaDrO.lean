/- DropNone: walked. -/
import Derived.Test.YtdfaoafeojoceaaDrY
import Derived.Test.YtdfaoafeojoceaaDrQ
set_option linter.unusedSimpArgs false
set_option linter.unusedVariables false
namespace Go.Proofs.Ytdfaoafeojoceaa.Dr
open Go.RowKit Go.Maps Go.Proofs Go.Proofs.Ytdfaoafeojoceaa.Rw Go.Proofs.Ytdfaoafeojoceaa.PAll Go.Proofs.YtdfaoafeojoceaaW.PrintWords Go.Proofs.Ytdfaoafeojoceaa.Pb Go.Proofs.Ytdfaoafeojoceaa.Pure
attribute [local go_sem] put_fresh
attribute [-go_sem] Builtin.append_

theorem add_o (b o n : Nat) : (⟨b, o, none⟩ : Addr).add n = ⟨b, o + n, none⟩ := by
  unfold Addr.add; split <;> simp_all
theorem to_kd {W : World} {A : Option Addr} {L : List En} (h : Reads KE W A L) (hl : L.length ≤ 9223372036854775807) : Kd.C k37 W A L.length L :=
  ⟨rfl, hl, fun h0 => by
    obtain ⟨g, o, rfl, hg, hc⟩ := h h0
    refine ⟨_, rfl, fun j x hx => ⟨ecells x, rfl, ⟨[_], _, rfl, rfl, [_], _, rfl, rfl, [_], [_], rfl, rfl, rfl⟩, fun i u hu => ?_⟩⟩
    have hi : i < 4 := (List.getElem?_eq_some_iff.1 hu).1
    have := hc (j * 4 + i) u (by
      have := map_at (K := KE) hx (show i < KE.size from hi)
      exact this.trans hu)
    rw [add_o]
    exact this⟩
theorem of_kdE {W : World} {A : Option Addr} {L : List En} (h : Kd.C k37 W A L.length L) : Reads KE W A L :=
  Reads.of_kd (K := KE) rfl (fun x cs hx => k37_open hx) (fun x cs _ => ⟨_, rfl⟩) h
theorem of_kdN {W : World} {A : Option Addr} {L : List Int} (h : Kd.C (Kd.int .u64) W A L.length L) : Reads KN W A L :=
  Reads.of_kd (K := KN) rfl (fun x cs hx => hx) (fun x cs _ => ⟨_, rfl⟩) h
theorem goes_none (key : ByteArray) : goesP (fun _ => none) key = false := goesN_miss _ _ _ fun _ _ => rfl
theorem run_none (l : List En) (bottom : Bool) : runP (some fun _ => none) l bottom [] = runP none l bottom [] := by
  rw [runP_some0 _ _ _ rfl, runP_none]
  exact List.filter_eq_self.2 fun x _ => by rw [goes_none]; rfl
theorem filt_zero (w : World) : FiltAt (w.alloc (.cells #[.map none] 28)) w.heap.size (fun _ => none) 0 := ⟨_, heap_alloc_new w _, .inl ⟨rfl, fun _ => rfl, rfl⟩⟩
set_option maxRecDepth 100000 in
set_option maxHeartbeats 16000000 in
theorem DropNone_walk (key : ByteArray) (A : Option Addr) (c : Nat) (l : List En) (W : World) (hr : Kd.C k37 W A l.length l) (hc : l.length ≤ c) : Calls Try.prog 3 #[.string key, .slice A l.length c] W fun e W' => e = .returned (.bool true) ∧ Below W.heap.size W W' := by
  have HK := Aside0.mk hr
  obtain ⟨r, ⟨K1, hS⟩, hr1⟩ := Small_ev l
  have hS := hS K1 (Nat.le_refl _)
  have HR := Aside0.mk hr1
  clear hr hr1
  by_cases g : (300 : Int) < key.size
  · have g1 : decide ((300 : Int) < key.size) = true := decide_eq_true g
    go_enter Try.func3, Try.ntmps3
    go_wp2_with fail
    refine (alive_c W).mono ?_
    rintro e w1 ⟨rfl, hb1⟩
    have HB := Aside0.mk hb1
    clear hb1
    go_wp2
    go_ret
    exact ⟨rfl, HB.out⟩
  have g1 : decide ((300 : Int) < key.size) = false := decide_eq_false g
  have hks : key.size ≤ 1000000 := by omega
  go_enter Try.func3, Try.ntmps3
  go_wp2_with fail
  refine (cornucopialaw5_Small.calls K1 A c l r W HK.out hc hS).mono ?_
  rintro e w1 ⟨rfl, hb1⟩
  have HB1 := Aside0.mk hb1
  clear hb1 hS
  cases r with
  | false =>
    go_wp2_with fail
    refine (alive_c w1).mono ?_
    rintro e w2 ⟨rfl, hb2⟩
    have HB := Aside0.mk (below_step HB1.out hb2)
    clear hb2
    go_wp2
    go_ret
    exact ⟨rfl, HB.out⟩
  | true =>
    obtain ⟨hl, hsz⟩ := HR.out rfl
    obtain ⟨r2, ⟨K2, hO⟩, _⟩ := Ordered_ev l (by omega) (fun x hx => by have := (hsz x hx).1; omega)
    have hO := hO K2 (Nat.le_refl _)
    have HSZ := Aside0.mk hsz
    clear hsz HR
    go_wp2_with fail
    refine (cornucopialaw5_Ordered.calls K2 A c l r2 w1 (Kd.C_below HK.out HB1.out) hc hO).mono ?_
    rintro e w2 ⟨rfl, hb2⟩
    have HB2 := Aside0.mk (below_step HB1.out hb2)
    clear hb2 hO
    cases r2 with
    | false =>
      go_wp2_with fail
      refine (alive_c w2).mono ?_
      rintro e w3 ⟨rfl, hb3⟩
      have HB := Aside0.mk (below_step HB2.out hb3)
      clear hb3
      go_wp2
      go_ret
      exact ⟨rfl, HB.out⟩
    | true =>
      go_wp2_with fail
      have HF := Aside0.mk (filt_zero w2)
      have HB3 := Aside0.mk (below_alloc HB2.out (.cells #[.map none] 28))
      have HA := Aside0.mk (alive_c (w2.alloc (.cells #[.map none] 28)))
      refine HA.out.mono ?_
      rintro e w4 ⟨rfl, hb4⟩
      have HF4 := Aside0.mk (HF.out.below hb4)
      have HB4 := Aside0.mk (below_step HB3.out hb4)
      clear hb4 HA HF
      go_wp2_with fail
      refine (goes_nil w4 key).mono ?_
      rintro e w5 ⟨rfl, hw5⟩
      subst w5
      have hG := goes_c HF4.out hks (fun s l h => by cases h)
      rw [goes_none] at hG
      have HG := Aside0.mk hG
      clear hG
      go_wp2_with fail
      refine HG.out.mono ?_
      rintro e w5 ⟨rfl, hb5⟩
      have HF5 := Aside0.mk (HF4.out.below hb5)
      have HB5 := Aside0.mk (below_step HB4.out hb5)
      clear hb5 HF4 HG
      go_wp2_with fail
      refine (len_nil w5).mono ?_
      rintro e w6 ⟨rfl, hw6⟩
      subst w6
      have HL := Aside0.mk (len_c HF5.out)
      go_wp2_with fail
      refine HL.out.mono ?_
      rintro e w6 ⟨rfl, hw6⟩
      subst w6
      have hl2 : l.length ≤ 100000 := by omega
      have hRd := of_kdE (Kd.C_below HK.out HB5.out)
      have HR1 := Aside0.mk (run_c (B := none) (pins := []) hRd (Reads.nil _ _) c 0 hl2 (by decide) (fun p hp => by cases hp) (fun x hx => by have := (HSZ.out x hx).1; omega) (some ⟨w2.heap.size, 0, none⟩) (some fun _ => none) (.inr ⟨_, _, _, rfl, rfl, HF5.out, fun s l h => by cases h⟩) false)
      clear HL hRd
      go_wp2_with fail
      refine HR1.out.mono ?_
      rintro e w7 ⟨A1, c1, rfl, ho1, hb7⟩
      have HO1 := Aside0.mk ho1
      have HB7 := Aside0.mk (below_step HB5.out hb7)
      clear ho1 hb7 HR1
      have HR2 := Aside0.mk (run_c (B := none) (pins := []) (of_kdE (Kd.C_below HK.out HB7.out)) (Reads.nil _ _) c 0 hl2 (by decide) (fun p hp => by cases hp) (fun x hx => by have := (HSZ.out x hx).1; omega) none none (.inl ⟨rfl, rfl⟩) false)
      go_wp2_with fail
      refine HR2.out.mono ?_
      rintro e w8 ⟨A2, c2, rfl, ho2, hb8⟩
      have HO2 := Aside0.mk ho2
      have HO3 := Aside0.mk (HO1.out.below hb8)
      have HB8 := Aside0.mk (below_step HB7.out hb8)
      clear ho2 hb8 HR2 HO1
      have hml := mid_le l false []
      obtain ⟨K3, hE⟩ := Same_ev (midP l false []) (by omega)
      have hE := hE K3 (Nat.le_refl _)
      rw [run_none] at HO3 ⊢
      rw [runP_none] at HO2 HO3 ⊢
      have HQ := Aside0.mk (cornucopiabook_SameEntries.calls K3 A1 c1 _ A2 c2 _ true w8 (to_kd HO3.out.reads (by omega)) HO3.out.cap.1 (to_kd HO2.out.reads (by omega)) HO2.out.cap.1 hE)
      clear hE
      go_wp2_with fail
      refine HQ.out.mono ?_
      rintro e w9 ⟨rfl, ⟨nd, rfl⟩⟩
      have HZ := Aside0.mk (pw_below_drewN HB8.out nd)
      go_wp2
      go_ret
      exact ⟨rfl, HZ.out⟩
end Go.Proofs.Ytdfaoafeojoceaa.Dr
