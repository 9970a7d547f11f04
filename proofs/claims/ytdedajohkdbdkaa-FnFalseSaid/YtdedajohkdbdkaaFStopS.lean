/- Contracts of l15Pair and of the reference's StopChamber. -/
import Derived.Test.YtdedajohkdbdkaaFStop
namespace Go.Proofs.Ytdedajohkdbdkaa
set_option linter.unusedVariables false
open Go.RowKit
set_option maxRecDepth 100000 in
set_option maxHeartbeats 2000000 in
theorem l15Pair_any (m : Mk) (A : Option Addr) (c : Nat) (t : List (List Int)) (k dd : Int) (w : World) (h : RII w A t) (h0 : 0 < t.length) (ht0 : t[0].length ≤ 12) (ht10 : t.length ≤ 10) :
    Calls Try.prog 34 #[.agg #[.int .i64 m.c, .int .i64 m.d, .int .i64 m.s, .int .i64 m.a, .int .i64 m.l, .slice A t.length c], .int .i64 k, .int .i64 dd] w fun e w' => e = .returned (.bool (pairOK t k dd)) ∧ Below w.heap.size w w' := by
  have B0 := (Below.refl w.heap.size w).alloc (Nat.le_refl _) (.cells #[.int .i64 m.c, .int .i64 m.d, .int .i64 m.s, .int .i64 m.a, .int .i64 m.l, .slice A t.length c] 28)
  have hhd : (t.headD []) = t[0] := headD_len h0
  obtain ⟨b, o, A', c', rfl, hc, hcc, hr⟩ := h.at_ h0
  simp only [Nat.add_zero] at hc
  have hbw : b < w.heap.size := World.block_lt_of_cell? w _ hc
  cases hk : inB k 0 ((t.length : Int) - 1) with
  | false =>
    have HR := Lib.hid (show pairOK t k dd = false by unfold pairOK; rw [hk]; rfl)
    have HK := Lib.hid hk; clear hk
    go_enter Try.func34, Try.ntmps34
    go_wp2_with fail
    refine (l01In_any _ _ _ _).mono ?_
    rw [HK.out]
    rintro e w1 ⟨rfl, rfl⟩
    go_wp2_with fail
    go_ret
    exact ⟨retB HR.out.symm, B0⟩
  | true =>
    have HR := Lib.hid (show pairOK t k dd = inB dd 0 ((t[0].length : Int) - 1) by unfold pairOK; rw [hk, hhd]; rfl)
    have HK := Lib.hid hk; clear hk
    have HHD := Lib.hid hhd; clear hhd
    go_enter Try.func34, Try.ntmps34
    go_wp2_with fail
    refine (l01In_any _ _ _ _).mono ?_
    rw [HK.out]
    rintro e w1 ⟨rfl, rfl⟩
    go_wp2_with fail
    refine (l01In_any _ _ _ _).mono ?_
    rintro e w1 ⟨rfl, rfl⟩
    go_wp2_with fail
    go_ret
    exact ⟨retB HR.out.symm, B0⟩
set_option maxRecDepth 100000 in
set_option maxHeartbeats 8000000 in
theorem specStopChamber_any (m : Mk) (A : Option Addr) (c : Nat) (t : List (List Int)) (B : Option Addr) (d : Nat) (cuts : List (List Int)) (k dd : Int) (w : World) (h : RII w A t) (g : RII w B cuts)
    (hwk : (Lit.int .i64 k).wf = true) (hwd : (Lit.int .i64 dd).wf = true) :
    Calls Try.prog 11 #[.agg #[.int .i64 m.c, .int .i64 m.d, .int .i64 m.s, .int .i64 m.a, .int .i64 m.l, .slice A t.length c], .slice B cuts.length d, .int .i64 k, .int .i64 dd] w (ResNC w (stopR m t cuts k dd)) := by
  have B0 := (Below.refl w.heap.size w).alloc (Nat.le_refl _) (.cells #[.int .i64 m.c, .int .i64 m.d, .int .i64 m.s, .int .i64 m.a, .int .i64 m.l, .slice A t.length c] 28)
  have bx : BoxC (w.alloc (.cells #[.int .i64 m.c, .int .i64 m.d, .int .i64 m.s, .int .i64 m.a, .int .i64 m.l, .slice A t.length c] 28)) w.heap.size 0 [.int .i64 m.c, .int .i64 m.d, .int .i64 m.s, .int .i64 m.a, .int .i64 m.l, .slice A t.length c] := by simp [BoxC, Go.World.cell?_alloc_at]
  have HCC := Lib.hid (l15Code_any m A c t B d cuts (w.alloc (.cells #[.int .i64 m.c, .int .i64 m.d, .int .i64 m.s, .int .i64 m.a, .int .i64 m.l, .slice A t.length c] 28)) (h.below B0) (g.below B0))
  have hgl := g.le
  by_cases h1 : cutsC m t cuts = 0
  rotate_left
  · have HN := Lib.hid (stop_no (k := k) (d := dd) h1)
    have t1 : (cutsC m t cuts != 0) = true := by simpa using h1
    have t2 : (cutsC m t cuts == 0) = false := by simpa using h1
    have H1 := Lib.hid h1; clear h1
    go_enter Try.func11, Try.ntmps11
    go_wp2_with fail
    refine HCC.out.mono ?_
    rintro e w1 ⟨rfl, b1⟩
    go_wp2_with fail
    go_ret2
    exact resNC_of HN.out (B0.trans (b1.mono B0.size))
  have hok := cutsC_ok h1
  have hlen : cuts.length = t.length := (cutsC_0 h1).2.1
  rw [h1] at HCC
  have H1 := Lib.hid h1; clear h1
  have t1 := hok.t1
  have t10 := hok.t10
  have h0 : 0 < t.length := by omega
  have hw0 := hok.head h0
  have ht0 : t[0].length ≤ 12 := (hok.row 0 h0).2.2
  have ht1 : 1 ≤ t[0].length := (hok.row 0 h0).2.1
  have hcl10 : cuts.length ≤ 10 := by omega
  have HP := Lib.hid hok
  clear hok
  have HPR := Lib.hid (fun W (hW : Below w.heap.size w W) => l15Pair_any m A c t k dd W (h.below hW) h0 ht0 t10)
  cases hpr : pairOK t k dd with
  | false =>
    have HN := Lib.hid (stop_no2 H1.out hpr)
    rw [hpr] at HPR
    have HK := Lib.hid hpr; clear hpr
    have HLE := Lib.hid hlen; clear hlen hw0
    go_enter Try.func11, Try.ntmps11
    go_wp2_with fail
    refine HCC.out.mono ?_
    rintro e w1 ⟨rfl, b1⟩
    have B1 := B0.trans (b1.mono B0.size)
    obtain ⟨q0, q1, q2, q3, q4, q5, _⟩ := bx.below b1
    go_wp2_with fail
    refine (HPR.out _ B1).mono ?_
    rintro e w2 ⟨rfl, b2⟩
    go_wp2_with fail
    go_ret2
    exact resNC_of HN.out (B1.trans (b2.mono B1.size))
  | true =>
    have hkd : inB k 0 ((t.length : Int) - 1) = true ∧ inB dd 0 (((t.headD []).length : Int) - 1) = true := by unfold pairOK at hpr; rwa [Bool.and_eq_true] at hpr
    rw [hw0] at hkd
    have hk2 := inB_iff.1 hkd.1
    have hd2 := inB_iff.1 hkd.2
    obtain ⟨kk, rfl⟩ : ∃ kk : Nat, k = (kk : Int) := ⟨k.toNat, by omega⟩
    obtain ⟨dn, rfl⟩ : ∃ dn : Nat, dd = (dn : Int) := ⟨dd.toNat, by omega⟩
    have hkl : kk < cuts.length := by omega
    have hdl : dn < t[0].length := by omega
    have HY := Lib.hid (stop_yes (k := (kk : Int)) (d := (dn : Int)) H1.out hpr)
    rw [hpr] at HPR
    have hcm : (cuts[kk].length : Int) = m.c := HP.out.len hkl
    have HPL := fun W (hW : Below w.heap.size w W) => l15Lock_any m A c t B d cuts dn W (h.below hW) (g.below hW) HP.out (by rw [hw0]; exact hdl)
    obtain ⟨l, hl⟩ : ∃ l, l = hullF m.c.toNat m.d.toNat (keysFor t cuts dn) := ⟨_, rfl⟩
    rw [← hl] at HPL
    have HPLL := Lib.hid HPL
    have HST := Lib.hid (show firstStop l cuts[kk] l.length = stopR m t cuts kk dn by
      rw [← HY.out]; unfold stopL; rw [hl, hullF_length, Int.toNat_natCast, Int.toNat_natCast, getD_row hkl])
    have hll : l.length ≤ cuts[kk].length := by rw [hl, hullF_length]; omega
    have HK := Lib.hid hpr
    clear HPL hl hpr hlen hw0 hcm hk2 hd2 HY hkd
    go_enter Try.func11, Try.ntmps11
    go_wp2_with fail
    refine HCC.out.mono ?_
    rintro e w1 ⟨rfl, b1⟩
    have B1 := B0.trans (b1.mono B0.size)
    have BX1 := Lib.hid (bx.below b1)
    obtain ⟨q0, q1, q2, q3, q4, q5, _⟩ := BX1.out
    go_wp2_with fail
    refine (HPR.out _ B1).mono ?_
    rintro e w2 ⟨rfl, b2⟩
    have B2 := B1.trans (b2.mono B1.size)
    clear q0 q1 q2 q3 q4 q5
    obtain ⟨q0, q1, q2, q3, q4, q5, _⟩ := BX1.out.below b2
    go_wp2_with fail
    refine (HPLL.out _ B2).mono ?_
    rintro e w3 ⟨A', c', rfl, hccl, hrl, oL, b3⟩
    have B3 := B2.trans (b3.mono B2.size)
    obtain ⟨bC, oC, AC, cC, rfl, hcC, hccC, hrC⟩ := (g.below B3).at_ hkl
    have hbC := World.block_lt_of_cell? w3 _ hcC
    simp only at hbC
    have hrcl := hrC.le
    have hlle := hrl.le
    have HR := Lib.hid (And.intro hrl hrC)
    have B4 := B3.alloc B3.size (.cells #[.slice A' l.length c'] 52)
    clear oL q0 q1 q2 q3 q4 q5 hrl hrC
    go_wp2_with fail
    go_loopw [12] (fun i wr => ∃ j n : Nat, j ≤ l.length ∧ i = .int .i64 j ∧ wr = (w3.alloc (.cells #[.slice A' l.length c'] 52)).drewN n ∧ (List.range j).all (opensAt l cuts[kk]) = true) (fun i _ => l.length - (intOf i).toNat)
    case atStart => exact ⟨0, 0, by omega, rfl, rfl, rfl⟩
    case round =>
      obtain ⟨j, n, hj, rfl, rfl, hst⟩ := hrel
      have Hst := Lib.hid hst; clear hst
      by_cases hlt2 : j < l.length
      · have hlt : j < cuts[kk].length := by omega
        obtain ⟨b2, o2, rfl, hc2⟩ := HR.out.2.at_ hlt
        obtain ⟨b, o, A2, c2, rfl, hc, hcc, hr⟩ := HR.out.1.at_ hlt2
        have hbw := World.block_lt_of_cell? w3 _ hc
        have hbw2 := World.block_lt_of_cell? w3 _ hc2
        simp only at hbw hbw2
        have i0 : (0 : Int) ≤ (j : Int) := by omega
        have i1 : (j : Int) < (l.length : Int) := by omega
        have i2 : (j : Int) < (cuts[kk].length : Int) := by omega
        have i3 : (0 : Int) ≤ (kk : Int) := by omega
        have i4 : (kk : Int) < (cuts.length : Int) := by omega
        have HS := Lib.hid (opensAt_in hlt2 hlt)
        have E1 := fun n => l01Has_any A2 c2 l[j] cuts[kk][j] ((w3.alloc (.cells #[.slice (some ⟨b, o, none⟩) l.length c'] 52)).drewN n) (hr.below (belowD ((Below.refl _ _).alloc (Nat.le_refl _) _) _))
        cases hp : hasI l[j] cuts[kk][j] with
        | false =>
          have HH := Lib.hid ((firstStop_hit Hst.out (show opensAt l cuts[kk] j = false by rw [HS.out, hp]) l.length hlt2).symm.trans HST.out)
          rw [hp] at E1
          have E2 := Lib.hid E1; clear E1
          go_wp2_with fail
          go_quiet ((go_at_call 36; first | exact quietSA (E2.out _) | exact quietS (E2.out _)))
          go_wp2_with fail
          go_ret2
          exact resNC_of HH.out (by first | exact belowD B4 _ | exact belowD (belowD B4 _) _)
        | true =>
          have HO := Lib.hid (show (List.range (j + 1)).all (opensAt l cuts[kk]) = true by rw [rangeAll_next, Hst.out, HS.out, hp]; rfl)
          rw [hp] at E1
          have E2 := Lib.hid E1; clear E1
          go_wp2_with fail
          go_quiet ((go_at_call 36; first | exact quietSA (E2.out _) | exact quietS (E2.out _)))
          go_wp2_with fail
          go_roundw
          case rel => exact ⟨j + 1, _, by omega, by go_num, by first | rfl | exact World.drewN_drewN _ _ _, HO.out⟩
          case measure => simp [intOf]; omega
      · obtain rfl : j = l.length := by omega
        have HH := Lib.hid ((firstStop_all Hst.out).symm.trans HST.out)
        go_wp2_with fail
        go_ret2
        exact resNC_of HH.out (belowD B4 _)
end Go.Proofs.Ytdedajohkdbdkaa
