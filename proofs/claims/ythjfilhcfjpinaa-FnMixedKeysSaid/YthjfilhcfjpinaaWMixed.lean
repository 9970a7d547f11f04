/- The walk of the law FnMixedKeys. -/
import Derived.Test.YthjfilhcfjpinaaLikeG
import Derived.Test.YthjfilhcfjpinaaDrProg
import Derived.Test.YthjfilhcfjpinaaDrBest
import Derived.Test.YthjfilhcfjpinaaPMixLaw
namespace Go.Proofs.Ythjfilhcfjpinaa.fnMixedKeys
set_option linter.unusedVariables false
open Go.RowKit
set_option maxRecDepth 100000 in
set_option maxHeartbeats 16000000 in
theorem walk (A : Option Addr) (c : Nat) (bs : List Int) (w : World) (h : RCode w A bs) :
    Calls Try.prog 6 #[.slice A bs.length c] w fun e w' => e = .returned (.bool true) ∧ Below w.heap.size w w' := by
  have HC := Lib.hid h
  clear h
  by_cases hbig : (bs.length : Int) > 4096
  · have HBG := big_any A bs.length c w
    rw [decide_eq_true hbig] at HBG
    have HBB := Lib.hid HBG
    clear hbig HBG
    go_enter Try.func6, Try.ntmps6
    go_wp2_with fail
    refine HBB.out.mono ?_
    rintro e w1 ⟨rfl, rfl⟩
    go_wp2_with fail
    go_ret
    exact ⟨rfl, Below.refl _ _⟩
  · have HBG := big_any A bs.length c w
    rw [decide_eq_false hbig] at HBG
    have HBB := Lib.hid HBG
    clear hbig HBG
    go_enter Try.func6, Try.ntmps6
    go_wp2_with fail
    refine HBB.out.mono ?_
    rintro e w1 ⟨rfl, rfl⟩
    have HB := Lib.hid (Below.refl w.heap.size w)
    have E1 := Lib.hid (drawMixedKeys_any A c bs w HC.out)
    go_wp2_with fail
    refine E1.out.mono ?_
    rintro e v1 ⟨m, A1, c1, xs, A2, c2, ys, st, Z, qz, zs, rfl, hc1, hx, hy, hqz, hz, hb⟩
    clear E1
    replace HB := Lib.hid (HB.out.trans (hb.mono HB.out.size))
    have HXS := Lib.hid (hx.1)
    have HYS := Lib.hid (hy.1)
    have HZS := Lib.hid (hz.1)
    clear hx hy hz hb
    have HC1 := Lib.hid hc1
    have HQZ := Lib.hid hqz
    clear hc1 hqz
    obtain ⟨v1b, hv1b⟩ : ∃ wb, wb = (v1.alloc (.cells #[.int .i64 m.c, .int .i64 m.d, .int .i64 m.s, .int .i64 m.a, .int .i64 m.l] 25)).alloc (.cells #[.slice A1 xs.length c1, .slice A2 ys.length c2, .int .i64 st] 52) := ⟨_, rfl⟩
    have hbx : Below v1.heap.size v1 v1b := by rw [hv1b]; exact ((Below.refl _ _).alloc (Nat.le_refl _) _).alloc (by simp only [World.size_alloc]; omega) _
    replace HXS := Lib.hid (HXS.out.below hbx)
    replace HYS := Lib.hid (HYS.out.below hbx)
    replace HZS := Lib.hid (HZS.out.below hbx)
    replace HB := Lib.hid (HB.out.trans (hbx.mono HB.out.size))
    have HBM := Lib.hid (show BoxC v1b (v1.heap.size) 0 (mkCells m) by rw [hv1b]; exact (BoxC.new (w := v1) (mkCells m) rfl).below ((Below.refl _ _).alloc (Nat.le_refl _) _))
    have HBP := Lib.hid (show BoxC v1b (v1.heap.size + 1) 0 [.slice A1 xs.length c1, .slice A2 ys.length c2, .int .i64 st] by rw [hv1b]; exact BoxC.new (w := (v1.alloc (.cells #[.int .i64 m.c, .int .i64 m.d, .int .i64 m.s, .int .i64 m.a, .int .i64 m.l] 25))) [.slice A1 xs.length c1, .slice A2 ys.length c2, .int .i64 st] (by simp))
    clear hbx
    rcases hg : mixedR m xs ys st zs with ⟨n, kn⟩
    have HGE := Lib.hid hg
    clear hg
    have E2 := Lib.hid (by have := implMixedKeys_any m A1 c1 xs A2 c2 ys st Z qz zs v1b HXS.out HYS.out HZS.out HC1.out HQZ.out; rw [HGE.out] at this; exact this)
    go_wp2_with fail
    rw [← hv1b]
    clear hv1b 
    refine E2.out.mono ?_
    rintro e v2 ⟨rfl, hb⟩
    clear E2
    replace HXS := Lib.hid (HXS.out.below hb)
    replace HYS := Lib.hid (HYS.out.below hb)
    replace HZS := Lib.hid (HZS.out.below hb)
    replace HBM := Lib.hid (HBM.out.below hb)
    replace HBP := Lib.hid (HBP.out.below hb)
    replace HB := Lib.hid (HB.out.trans (hb.mono HB.out.size))
    clear hb
    have E3 := Lib.hid (by have := specMixedKeys_any m A1 c1 xs A2 c2 ys st Z qz zs v2 HXS.out HYS.out HZS.out HC1.out HQZ.out; rw [HGE.out] at this; exact this)
    obtain ⟨q0_0, q0_1, q0_2, q0_3, q0_4, _⟩ := HBM.out
    simp only [Nat.zero_add] at q0_1 q0_2 q0_3 q0_4
    obtain ⟨q1_0, q1_1, q1_2, _⟩ := HBP.out
    simp only [Nat.zero_add] at q1_1 q1_2
    go_wp2_with fail
    clear q0_0 q0_1 q0_2 q0_3 q0_4 q1_0 q1_1 q1_2
    refine E3.out.mono ?_
    rintro e v3 ⟨rfl, hb⟩
    clear E3
    replace HXS := Lib.hid (HXS.out.below hb)
    replace HYS := Lib.hid (HYS.out.below hb)
    replace HZS := Lib.hid (HZS.out.below hb)
    replace HBM := Lib.hid (HBM.out.below hb)
    replace HBP := Lib.hid (HBP.out.below hb)
    replace HB := Lib.hid (HB.out.trans (hb.mono HB.out.size))
    clear hb
    have E4 := Lib.hid (drawBest_any A c bs v3 (HC.out.below HB.out))
    go_wp2_with fail
    refine E4.out.mono ?_
    rintro e v4 ⟨x, Y, qy, ks, k, sp, rfl, hqy, hk, hkb, hsb, hb⟩
    clear E4
    replace HXS := Lib.hid (HXS.out.below hb)
    replace HYS := Lib.hid (HYS.out.below hb)
    replace HZS := Lib.hid (HZS.out.below hb)
    replace HBM := Lib.hid (HBM.out.below hb)
    replace HBP := Lib.hid (HBP.out.below hb)
    replace HB := Lib.hid (HB.out.trans (hb.mono HB.out.size))
    have HKS := Lib.hid (hk)
    clear hk hb
    have HQY := Lib.hid hqy
    have HWK := Lib.hid (wf_small hkb)
    have HWS := Lib.hid (wf_small hsb)
    clear hqy hkb hsb
    obtain ⟨v4b, hv4b⟩ : ∃ wb, wb = v4.alloc (.cells #[.int .i64 x.c, .int .i64 x.d, .int .i64 x.s, .int .i64 x.a, .int .i64 x.l] 25) := ⟨_, rfl⟩
    have hbx : Below v4.heap.size v4 v4b := by rw [hv4b]; exact (Below.refl _ _).alloc (Nat.le_refl _) _
    replace HXS := Lib.hid (HXS.out.below hbx)
    replace HYS := Lib.hid (HYS.out.below hbx)
    replace HZS := Lib.hid (HZS.out.below hbx)
    replace HBM := Lib.hid (HBM.out.below hbx)
    replace HBP := Lib.hid (HBP.out.below hbx)
    replace HKS := Lib.hid (HKS.out.below hbx)
    replace HB := Lib.hid (HB.out.trans (hbx.mono HB.out.size))
    have HBX := Lib.hid (show BoxC v4b (v4.heap.size) 0 (mkCells x) by rw [hv4b]; exact BoxC.new (w := v4) (mkCells x) rfl)
    clear hbx
    rcases hg : bestChR x ks k sp with ⟨cs, mo, kb⟩
    have HBE := Lib.hid hg
    clear hg
    have E5 := Lib.hid (by have := implBestChambers_any x Y qy ks k sp v4b HKS.out HQY.out HWK.out HWS.out; rw [HBE.out] at this; exact this)
    go_wp2_with fail
    rw [← hv4b]
    clear hv4b 
    refine E5.out.mono ?_
    rintro e v5 ⟨A5, c5, rfl, _, hr, _, hb⟩
    clear E5
    replace HXS := Lib.hid (HXS.out.below hb)
    replace HYS := Lib.hid (HYS.out.below hb)
    replace HZS := Lib.hid (HZS.out.below hb)
    replace HBM := Lib.hid (HBM.out.below hb)
    replace HBP := Lib.hid (HBP.out.below hb)
    replace HKS := Lib.hid (HKS.out.below hb)
    replace HBX := Lib.hid (HBX.out.below hb)
    replace HB := Lib.hid (HB.out.trans (hb.mono HB.out.size))
    have HR5 := Lib.hid (show RI v5 A5 cs from hr)
    clear hr hb
    have E6 := Lib.hid (by have := specBestChambers_any x Y qy ks k sp v5 HKS.out HQY.out HWK.out HWS.out; rw [HBE.out] at this; exact this)
    obtain ⟨q0_0, q0_1, q0_2, q0_3, q0_4, _⟩ := HBX.out
    simp only [Nat.zero_add] at q0_1 q0_2 q0_3 q0_4
    go_wp2_with fail
    clear q0_0 q0_1 q0_2 q0_3 q0_4
    refine E6.out.mono ?_
    rintro e v6 ⟨A6, c6, rfl, _, hr, hb⟩
    clear E6
    replace HXS := Lib.hid (HXS.out.below hb)
    replace HYS := Lib.hid (HYS.out.below hb)
    replace HZS := Lib.hid (HZS.out.below hb)
    replace HBM := Lib.hid (HBM.out.below hb)
    replace HBP := Lib.hid (HBP.out.below hb)
    replace HKS := Lib.hid (HKS.out.below hb)
    replace HBX := Lib.hid (HBX.out.below hb)
    replace HR5 := Lib.hid (HR5.out.below hb)
    replace HB := Lib.hid (HB.out.trans (hb.mono HB.out.size))
    have HR6 := Lib.hid (show RI v6 A6 cs from hr)
    clear hr hb
    have E7 := Lib.hid (likeIntsB (c := c5) (d := c6) HR5.out HR6.out)
    go_wp2_with fail
    refine E7.out.mono ?_
    rintro e v7 ⟨rfl, hb⟩
    clear E7
    replace HXS := Lib.hid (HXS.out.below hb)
    replace HYS := Lib.hid (HYS.out.below hb)
    replace HZS := Lib.hid (HZS.out.below hb)
    replace HBM := Lib.hid (HBM.out.below hb)
    replace HBP := Lib.hid (HBP.out.below hb)
    replace HKS := Lib.hid (HKS.out.below hb)
    replace HBX := Lib.hid (HBX.out.below hb)
    replace HR5 := Lib.hid (HR5.out.below hb)
    replace HR6 := Lib.hid (HR6.out.below hb)
    replace HB := Lib.hid (HB.out.trans (hb.mono HB.out.size))
    clear hb
    by_cases hkb : kb = 0
    · subst hkb
      obtain ⟨hl1, hl2⟩ := best_law (m := x) (ms := ks) (n := k) (s := sp) (by rw [HBE.out])
      rw [HBE.out] at hl1 hl2
      have HL1 := Lib.hid (show cChangesR x ks cs sp = (mo, 0) from hl1)
      have hl2' : (cs.length : Int) = k := hl2
      have HL2 := Lib.hid hl2'
      clear hl1 hl2 hl2'
      have E8 := Lib.hid (by have := implCountChanges_any x Y qy ks A5 c5 cs sp v7 HKS.out HR5.out HQY.out; rw [HL1.out] at this; exact this)
      obtain ⟨q0_0, q0_1, q0_2, q0_3, q0_4, _⟩ := HBX.out
      simp only [Nat.zero_add] at q0_1 q0_2 q0_3 q0_4
      go_wp2_with fail
      clear q0_0 q0_1 q0_2 q0_3 q0_4
      refine E8.out.mono ?_
      rintro e v8 ⟨rfl, hb⟩
      clear E8
      replace HXS := Lib.hid (HXS.out.below hb)
      replace HYS := Lib.hid (HYS.out.below hb)
      replace HZS := Lib.hid (HZS.out.below hb)
      replace HBM := Lib.hid (HBM.out.below hb)
      replace HBP := Lib.hid (HBP.out.below hb)
      replace HKS := Lib.hid (HKS.out.below hb)
      replace HBX := Lib.hid (HBX.out.below hb)
      replace HR5 := Lib.hid (HR5.out.below hb)
      replace HR6 := Lib.hid (HR6.out.below hb)
      replace HB := Lib.hid (HB.out.trans (hb.mono HB.out.size))
      clear hb
      have hl2 := HL2.out
      have hl3 : ((cs.length : Int) != k) = false := by rw [hl2]; simp
      clear hl2
      by_cases hk : kn = 0
      rotate_left
      · have hk' : (kn != 0) = true := by simpa using hk
        go_wp2_with fail
        go_ret
        exact ⟨rfl, HB.out⟩
      · subst hk
        have hcc : changeC m xs ys st zs = 0 := by
          have := HGE.out
          unfold mixedR at this
          by_cases h0 : changeC m xs ys st zs = 0
          · exact h0
          · rw [if_neg h0] at this; exact absurd (congrArg Prod.snd this) h0
        have hn : n = ((openers m (hullF m.c.toNat m.d.toNat [xs, zs])).length : Int) - 2 := by
          have := HGE.out
          unfold mixedR at this
          rw [if_pos hcc] at this; injection this with e _; exact e.symm
        obtain ⟨hy6, hn0, hn1⟩ := mixed_law hcc
        rw [← hn] at hn0 hn1
        have HN1 := Lib.hid hn1
        have hy6' : (ys.length : Int) ≤ 6 := by omega
        clear hcc hn hn1
        go_wp2_with fail
        go_loopw [22, 23] (fun a i wr => ∃ k : Nat, i = .int .i64 k ∧ k ≤ ys.length ∧ a = .int .i64 ((2 ^ k : Nat) : Int) ∧ Below v8.heap.size v8 wr) (fun _ i _ => ys.length - (intOf i).toNat)
        case atStart => exact ⟨0, rfl, by omega, rfl, Below.refl _ _⟩
        case round =>
          obtain ⟨k, rfl, hk, rfl, hb⟩ := hrel
          have HBr := Lib.hid hb
          obtain ⟨y0, y1, y2, _⟩ := HBP.out.below hb
          simp only [Nat.zero_add] at y1 y2
          clear hb
          have HP := Lib.hid (show 2 ^ k ≤ 2 ^ 6 from Nat.pow_le_pow_right (by decide) (by omega))
          obtain ⟨pw, hpw⟩ : ∃ pw, pw = 2 ^ k := ⟨_, rfl⟩
          have hpb : pw ≤ 64 := by have := HP.out; rw [← hpw] at this; omega
          rw [← hpw]
          have HPW := Lib.hid hpw
          clear hpw
          by_cases hlt : k < ys.length
          · go_wp2_with fail
            clear y0 y1 y2
            go_roundw
            case rel => exact ⟨k + 1, by go_num, by omega, congrArg (Value.int .i64) (show (2 : Int) * (pw : Int) = ((2 ^ (k + 1) : Nat) : Int) by rw [Nat.pow_succ, ← HPW.out]; omega), HBr.out⟩
            case measure => simp [intOf]; omega
          · obtain rfl : k = ys.length := by omega
            have hn1 := HN1.out
            rw [← HPW.out] at hn1
            go_wp2_with fail
            go_ret
            exact ⟨retB (by first | (simp; done) | (simp; omega)), HB.out.trans (HBr.out.mono HB.out.size)⟩
    · have hkb' : (kb == 0) = false := by simpa using hkb
      by_cases hk : kn = 0
      rotate_left
      · have hk' : (kn != 0) = true := by simpa using hk
        go_wp2_with fail
        go_ret
        exact ⟨rfl, HB.out⟩
      · subst hk
        have hcc : changeC m xs ys st zs = 0 := by
          have := HGE.out
          unfold mixedR at this
          by_cases h0 : changeC m xs ys st zs = 0
          · exact h0
          · rw [if_neg h0] at this; exact absurd (congrArg Prod.snd this) h0
        have hn : n = ((openers m (hullF m.c.toNat m.d.toNat [xs, zs])).length : Int) - 2 := by
          have := HGE.out
          unfold mixedR at this
          rw [if_pos hcc] at this; injection this with e _; exact e.symm
        obtain ⟨hy6, hn0, hn1⟩ := mixed_law hcc
        rw [← hn] at hn0 hn1
        have HN1 := Lib.hid hn1
        have hy6' : (ys.length : Int) ≤ 6 := by omega
        clear hcc hn hn1
        go_wp2_with fail
        go_loopw [22, 23] (fun a i wr => ∃ k : Nat, i = .int .i64 k ∧ k ≤ ys.length ∧ a = .int .i64 ((2 ^ k : Nat) : Int) ∧ Below v7.heap.size v7 wr) (fun _ i _ => ys.length - (intOf i).toNat)
        case atStart => exact ⟨0, rfl, by omega, rfl, Below.refl _ _⟩
        case round =>
          obtain ⟨k, rfl, hk, rfl, hb⟩ := hrel
          have HBr := Lib.hid hb
          obtain ⟨y0, y1, y2, _⟩ := HBP.out.below hb
          simp only [Nat.zero_add] at y1 y2
          clear hb
          have HP := Lib.hid (show 2 ^ k ≤ 2 ^ 6 from Nat.pow_le_pow_right (by decide) (by omega))
          obtain ⟨pw, hpw⟩ : ∃ pw, pw = 2 ^ k := ⟨_, rfl⟩
          have hpb : pw ≤ 64 := by have := HP.out; rw [← hpw] at this; omega
          rw [← hpw]
          have HPW := Lib.hid hpw
          clear hpw
          by_cases hlt : k < ys.length
          · go_wp2_with fail
            clear y0 y1 y2
            go_roundw
            case rel => exact ⟨k + 1, by go_num, by omega, congrArg (Value.int .i64) (show (2 : Int) * (pw : Int) = ((2 ^ (k + 1) : Nat) : Int) by rw [Nat.pow_succ, ← HPW.out]; omega), HBr.out⟩
            case measure => simp [intOf]; omega
          · obtain rfl : k = ys.length := by omega
            have hn1 := HN1.out
            rw [← HPW.out] at hn1
            go_wp2_with fail
            go_ret
            exact ⟨retB (by first | (simp; done) | (simp; omega)), HB.out.trans (HBr.out.mono HB.out.size)⟩
end Go.Proofs.Ythjfilhcfjpinaa.fnMixedKeys
