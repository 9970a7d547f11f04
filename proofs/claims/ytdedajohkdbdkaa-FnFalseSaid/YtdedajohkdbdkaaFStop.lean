/- Contracts of StopChamber. -/
import Derived.Test.YtdedajohkdbdkaaFSysLaws2
namespace Go.Proofs.Ytdedajohkdbdkaa
set_option linter.unusedVariables false
open Go.RowKit
/-- the first of n chambers in which the cut does not stand in the lock's set -/
def firstStop (l : List (List Int)) (xs : List Int) : Nat → Int × Int
  | 0 => (0, 4)
  | n + 1 => if (firstStop l xs n).2 = 4 then (if opensAt l xs n = true then (0, 4) else ((n : Int), 0)) else firstStop l xs n
theorem firstStop_all {l : List (List Int)} {xs : List Int} : ∀ {n : Nat}, (List.range n).all (opensAt l xs) = true → firstStop l xs n = (0, 4)
  | 0, _ => rfl
  | n + 1, h => by
    rw [rangeAll_next, Bool.and_eq_true] at h
    unfold firstStop
    rw [firstStop_all h.1, if_pos rfl, if_pos h.2]
theorem firstStop_hit {l : List (List Int)} {xs : List Int} {k : Nat} (h : (List.range k).all (opensAt l xs) = true) (h2 : opensAt l xs k = false) : ∀ n, k < n → firstStop l xs n = ((k : Int), 0)
  | 0, hn => by omega
  | n + 1, hn => by
    by_cases e : k = n
    · subst e
      unfold firstStop
      rw [firstStop_all h, if_pos rfl, if_neg (by rw [h2]; simp)]
    · unfold firstStop
      rw [firstStop_hit h h2 n (by omega), if_neg (by simp)]
def pairOK (t : List (List Int)) (k d : Int) : Bool := inB k 0 (t.length - 1) && inB d 0 ((t.headD []).length - 1)
def stopL (m : Mk) (t cuts : List (List Int)) (k d : Int) : Int × Int := firstStop (hullF m.c.toNat m.d.toNat (keysFor t cuts d.toNat)) (cuts.getD k.toNat []) m.c.toNat
def stopR (m : Mk) (t cuts : List (List Int)) (k d : Int) : Int × Int := if cutsC m t cuts = 0 then (if pairOK t k d = true then stopL m t cuts k d else (0, 2)) else (0, cutsC m t cuts)
theorem stop_no {m : Mk} {t cuts : List (List Int)} {k d : Int} (h : cutsC m t cuts ≠ 0) : (0, cutsC m t cuts) = stopR m t cuts k d := by unfold stopR; rw [if_neg h]
theorem stop_no2 {m : Mk} {t cuts : List (List Int)} {k d : Int} (h : cutsC m t cuts = 0) (h2 : pairOK t k d = false) : (0, 2) = stopR m t cuts k d := by unfold stopR; rw [if_pos h, if_neg (by rw [h2]; simp)]
theorem stop_yes {m : Mk} {t cuts : List (List Int)} {k d : Int} (h : cutsC m t cuts = 0) (h2 : pairOK t k d = true) : stopL m t cuts k d = stopR m t cuts k d := by unfold stopR; rw [if_pos h, if_pos h2]
set_option maxRecDepth 100000 in
set_option maxHeartbeats 8000000 in
theorem implStopChamber_any (m : Mk) (A : Option Addr) (c : Nat) (t : List (List Int)) (B : Option Addr) (d : Nat) (cuts : List (List Int)) (k dd : Int) (w : World) (h : RII w A t) (g : RII w B cuts)
    (hwk : (Lit.int .i64 k).wf = true) (hwd : (Lit.int .i64 dd).wf = true) :
    Calls Try.prog 10 #[.agg #[.int .i64 m.c, .int .i64 m.d, .int .i64 m.s, .int .i64 m.a, .int .i64 m.l, .slice A t.length c], .slice B cuts.length d, .int .i64 k, .int .i64 dd] w (ResNC w (stopR m t cuts k dd)) := by
  have B0 := (Below.refl w.heap.size w).alloc (Nat.le_refl _) (.cells #[.int .i64 m.c, .int .i64 m.d, .int .i64 m.s, .int .i64 m.a, .int .i64 m.l, .slice A t.length c] 28)
  have bx : BoxC (w.alloc (.cells #[.int .i64 m.c, .int .i64 m.d, .int .i64 m.s, .int .i64 m.a, .int .i64 m.l, .slice A t.length c] 28)) w.heap.size 0 [.int .i64 m.c, .int .i64 m.d, .int .i64 m.s, .int .i64 m.a, .int .i64 m.l, .slice A t.length c] := by simp [BoxC, Go.World.cell?_alloc_at]
  have HCC := Lib.hid (cutsCode_any m A c t B d cuts (w.alloc (.cells #[.int .i64 m.c, .int .i64 m.d, .int .i64 m.s, .int .i64 m.a, .int .i64 m.l, .slice A t.length c] 28)) (h.below B0) (g.below B0))
  have hgl := g.le
  by_cases h1 : cutsC m t cuts = 0
  rotate_left
  · have HN := Lib.hid (stop_no (k := k) (d := dd) h1)
    have t1 : (cutsC m t cuts != 0) = true := by simpa using h1
    have H1 := Lib.hid h1; clear h1
    go_enter Try.func10, Try.ntmps10
    go_wp2_with fail
    refine HCC.out.mono ?_
    rintro e w1 ⟨rfl, b1⟩
    go_wp2_with fail
    go_ret2
    exact resNC_of HN.out (B0.trans (b1.mono B0.size))
  have hok := cutsC_ok h1
  have hlen : cuts.length = t.length := (cutsC_0 h1).2.1
  rw [h1] at HCC
  have H1 := Lib.hid h1; clear h1
  have t1 := hok.t1
  have t10 := hok.t10
  have h0 : 0 < t.length := by omega
  have hw0 := hok.head h0
  have ht0 : t[0].length ≤ 12 := (hok.row 0 h0).2.2
  have ht1 : 1 ≤ t[0].length := (hok.row 0 h0).2.1
  have hcl10 : cuts.length ≤ 10 := by omega
  have HP := Lib.hid hok
  clear hok
  have hsub : IntKind.wrap .i64 ((cuts.length : Int) - 1) = (cuts.length : Int) - 1 := by rw [IntKind.wrap_i64]; omega
  cases hk : inB k 0 ((cuts.length : Int) - 1) with
  | false =>
    have HN := Lib.hid (stop_no2 (k := k) (d := dd) H1.out (show pairOK t k dd = false by unfold pairOK; rw [← hlen, hk]; rfl))
    have HK := Lib.hid hk; clear hk
    have HLE := Lib.hid hlen; clear hlen
    go_enter Try.func10, Try.ntmps10
    go_wp2_with fail
    refine HCC.out.mono ?_
    rintro e w1 ⟨rfl, b1⟩
    go_wp2_with fail
    refine (within_any _ _ _ _).mono ?_
    rw [HK.out]
    rintro e w2 ⟨rfl, rfl⟩
    go_wp2_with fail
    go_ret2
    exact resNC_of HN.out (B0.trans (b1.mono B0.size))
  | true =>
  cases hd : inB dd 0 ((t[0].length : Int) - 1) with
  | false =>
    have HN := Lib.hid (stop_no2 (k := k) (d := dd) H1.out (show pairOK t k dd = false by unfold pairOK; rw [hw0, hd, Bool.and_false]))
    have HK := Lib.hid hk; clear hk
    have HD := Lib.hid hd; clear hd
    have HLE := Lib.hid hlen; clear hlen hw0
    go_enter Try.func10, Try.ntmps10
    go_wp2_with fail
    refine HCC.out.mono ?_
    rintro e w1 ⟨rfl, b1⟩
    have B1 := B0.trans (b1.mono B0.size)
    obtain ⟨q0, q1, q2, q3, q4, q5, _⟩ := bx.below b1
    obtain ⟨bT, oT, AT, cT, rfl, hcT, hccT, hrT⟩ := (h.below B1).at_ h0
    simp only [Nat.add_zero] at hcT
    go_wp2_with fail
    refine (within_any _ _ _ _).mono ?_
    rw [HK.out]
    rintro e w2 ⟨rfl, rfl⟩
    go_wp2_with fail
    refine (within_any _ _ _ _).mono ?_
    rw [HD.out]
    rintro e w2 ⟨rfl, rfl⟩
    go_wp2_with fail
    go_ret2
    exact resNC_of HN.out B1
  | true =>
    have hk2 := inB_iff.1 hk
    have hd2 := inB_iff.1 hd
    obtain ⟨kk, rfl⟩ : ∃ kk : Nat, k = (kk : Int) := ⟨k.toNat, by omega⟩
    obtain ⟨dn, rfl⟩ : ∃ dn : Nat, dd = (dn : Int) := ⟨dd.toNat, by omega⟩
    have hkl : kk < cuts.length := by omega
    have hdl : dn < t[0].length := by omega
    have HY := Lib.hid (stop_yes (k := (kk : Int)) (d := (dn : Int)) H1.out (show pairOK t kk dn = true by unfold pairOK; rw [← hlen, hw0, hk, hd]; rfl))
    have HK := Lib.hid hk; have HD := Lib.hid hd
    have HLE := Lib.hid hlen
    have HPL := fun W (hW : Below w.heap.size w W) => partLocks_any m A c t B d cuts W (h.below hW) (g.below hW) HP.out
    obtain ⟨ls, hls⟩ : ∃ ls, ls = locksF m t cuts := ⟨_, rfl⟩
    have hlsl : ls.length = t[0].length := by rw [hls, locksF_len, hw0]
    have hdls : dn < ls.length := by omega
    have HLD := Lib.hid (show ls[dn] = hullF m.c.toNat m.d.toNat (keysFor t cuts dn) by subst hls; exact locksF_at hdls)
    have hcm : (cuts[kk].length : Int) = m.c := HP.out.len hkl
    have hlm : (ls[dn].length : Int) = m.c := by subst hls; exact HP.out.lock_len hdls
    rw [← hls] at HPL
    have HPLL := Lib.hid HPL
    obtain ⟨l, hl⟩ : ∃ l, l = ls[dn] := ⟨_, rfl⟩
    have HST := Lib.hid (show firstStop l cuts[kk] cuts[kk].length = stopR m t cuts kk dn by
      rw [← HY.out]; unfold stopL; rw [hl, HLD.out, Int.toNat_natCast, Int.toNat_natCast, getD_row hkl]; congr 1; omega)
    have hll : cuts[kk].length ≤ l.length := by rw [hl]; omega
    have HLSL := Lib.hid hlsl
    have HL := Lib.hid hl
    clear HPL hls hk hd hlen hw0 hcm hlm hlsl hl hk2 hd2 HY
    go_enter Try.func10, Try.ntmps10
    go_wp2_with fail
    refine HCC.out.mono ?_
    rintro e w1 ⟨rfl, b1⟩
    have B1 := B0.trans (b1.mono B0.size)
    obtain ⟨q0, q1, q2, q3, q4, q5, _⟩ := bx.below b1
    obtain ⟨bT, oT, AT, cT, rfl, hcT, hccT, hrT⟩ := (h.below B1).at_ h0
    simp only [Nat.add_zero] at hcT
    go_wp2_with fail
    refine (within_any _ _ _ _).mono ?_
    rw [HK.out]
    rintro e w2 ⟨rfl, rfl⟩
    go_wp2_with fail
    refine (within_any _ _ _ _).mono ?_
    rw [HD.out]
    rintro e w2 ⟨rfl, rfl⟩
    go_wp2_with fail
    refine (HPLL.out _ B1).mono ?_
    rintro e w3 ⟨AL, cL, rfl, hcL, rL, oL, b3⟩
    obtain ⟨bL, oL', A', c', rfl, hcl, hccl, hrl⟩ := rL.at_ hdls
    have B3 := B1.trans (b3.mono B1.size)
    obtain ⟨bC, oC, AC, cC, rfl, hcC, hccC, hrC⟩ := (g.below B3).at_ hkl
    rw [← HL.out] at hcl hrl
    have hbC := World.block_lt_of_cell? w3 _ hcC
    have hbl := World.block_lt_of_cell? w3 _ hcl
    simp only at hbC hbl
    have hrcl := hrC.le
    have hlsle := rL.le
    have HR := Lib.hid (And.intro hrl hrC)
    have B4 := B3.alloc B3.size (.cells #[.slice A' l.length c'] 52)
    clear rL oL hrT hcT q0 q1 q2 q3 q4 q5 hrl hrC
    go_wp2_with fail
    go_loop [12, 13, 48] (fun _ _ i => ∃ j : Nat, j ≤ cuts[kk].length ∧ i = .int .i64 j ∧ (List.range j).all (opensAt l cuts[kk]) = true) (fun _ _ i => cuts[kk].length - (intOf i).toNat)
    case atStart => exact ⟨0, by omega, rfl, rfl⟩
    case round =>
      obtain ⟨j, hj, rfl, hst⟩ := hrel
      have Hst := Lib.hid hst; clear hst
      by_cases hlt : j < cuts[kk].length
      · have hlt2 : j < l.length := by omega
        obtain ⟨b2, o2, rfl, hc2⟩ := HR.out.2.at_ hlt
        obtain ⟨b, o, A2, c2, rfl, hc, hcc, hr⟩ := HR.out.1.at_ hlt2
        have hbw := World.block_lt_of_cell? w3 _ hc
        have hbw2 := World.block_lt_of_cell? w3 _ hc2
        simp only at hbw hbw2
        have HS := Lib.hid (opensAt_in hlt2 hlt)
        have E1 := Lib.hid (fun W hW => sContains_any A2 c2 l[j] cuts[kk][j] W (hr.below hW))
        cases hp : hasI l[j] cuts[kk][j] with
        | false =>
          have HH := Lib.hid ((firstStop_hit Hst.out (show opensAt l cuts[kk] j = false by rw [HS.out, hp]) cuts[kk].length hlt).symm.trans HST.out)
          go_wp2_with fail
          refine (E1.out _ ((Below.refl _ _).alloc (Nat.le_refl _) _)).mono ?_
          rw [hp]
          rintro e w5 ⟨rfl, rfl⟩
          go_wp2_with fail
          go_ret2
          exact resNC_of HH.out B4
        | true =>
          have HO := Lib.hid (show (List.range (j + 1)).all (opensAt l cuts[kk]) = true by rw [rangeAll_next, Hst.out, HS.out, hp]; rfl)
          go_wp2_with fail
          refine (E1.out _ ((Below.refl _ _).alloc (Nat.le_refl _) _)).mono ?_
          rw [hp]
          rintro e w5 ⟨rfl, rfl⟩
          go_wp2_with fail
          go_round
          case rel => exact ⟨j + 1, by omega, by go_num, HO.out⟩
          case measure => simp [intOf]; omega
      · obtain rfl : j = cuts[kk].length := by omega
        have HH := Lib.hid ((firstStop_all Hst.out).symm.trans HST.out)
        go_wp2_with fail
        go_ret2
        exact resNC_of HH.out B4
end Go.Proofs.Ytdedajohkdbdkaa
