/- The walk of the law FnMirrored. -/
import Derived.Test.YtdedajohkdbdkaaGreatLikeG
import Derived.Test.YtdedajohkdbdkaaGreatDrSys4
import Derived.Test.YtdedajohkdbdkaaGreatPMirLaw
import Derived.Test.YtdedajohkdbdkaaGreatFSwapKeysI
import Derived.Deep.CutRange
namespace Go.Proofs.YtdedajohkdbdkaaGreat.fnMirrored
set_option linter.unusedVariables false
open Go.RowKit
theorem design0 {m : Mk} {T K : Option Addr} {cT q : Nat} {t cs : List (List Int)} {b : Bool} {w : World} (h : RII w T t) (g : RII w K cs) (he : designF m t cs = b) :
    Calls Tryz.prog 25 #[.agg #[.int .i64 m.c, .int .i64 m.d, .int .i64 m.s, .int .i64 m.a, .int .i64 m.l, .slice T t.length cT], .slice K cs.length q] w fun e w' => e = .returned (.bool b) ∧ Below w.heap.size w w' := by
  have := implIsDesign_any m T cT t K q cs w h g
  rw [he] at this; exact this
theorem system0 {m : Mk} {T : Option Addr} {cT : Nat} {t : List (List Int)} {w : World} (h : RII w T t) (he : isSystem m t = true) :
    Calls Tryz.prog 26 #[.agg #[.int .i64 m.c, .int .i64 m.d, .int .i64 m.s, .int .i64 m.a, .int .i64 m.l, .slice T t.length cT]] w fun e w' => e = .returned (.bool true) ∧ Below w.heap.size w w' := by
  have := implIsSystem_any m T cT t w h
  rw [he] at this; exact this
set_option maxHeartbeats 4000000 in
theorem likeSystemsB {m : Mk} {A B : Option Addr} {c d : Nat} {xss : List (List Int)} {w : World} (h : RII w A xss) (g : RII w B xss) :
    Calls Tryz.prog 24 #[.agg #[.int .i64 m.c, .int .i64 m.d, .int .i64 m.s, .int .i64 m.a, .int .i64 m.l, .slice A xss.length c], .agg #[.int .i64 m.c, .int .i64 m.d, .int .i64 m.s, .int .i64 m.a, .int .i64 m.l, .slice B xss.length d]] w fun e w' => e = .returned (.bool true) ∧ Below w.heap.size w w' := by
  obtain ⟨w1, hw1⟩ : ∃ w1, w1 = (w.alloc (.cells #[.int .i64 m.c, .int .i64 m.d, .int .i64 m.s, .int .i64 m.a, .int .i64 m.l, .slice A xss.length c] 45)).alloc (.cells #[.int .i64 m.c, .int .i64 m.d, .int .i64 m.s, .int .i64 m.a, .int .i64 m.l, .slice B xss.length d] 45) := ⟨_, rfl⟩
  have hb : Below w.heap.size w w1 := by rw [hw1]; exact ((Below.refl w.heap.size w).alloc (Nat.le_refl _) _).alloc (by simp only [World.size_alloc]; omega) _
  have HB := Lib.hid hb
  have HL := Lib.hid (likeLists_same A B c d xss w1 (h.below hb) (g.below hb))
  have x0 : BoxC w1 w.heap.size 0 [.int .i64 m.c, .int .i64 m.d, .int .i64 m.s, .int .i64 m.a, .int .i64 m.l, .slice A xss.length c] := by
    have : BoxC (w.alloc (.cells #[.int .i64 m.c, .int .i64 m.d, .int .i64 m.s, .int .i64 m.a, .int .i64 m.l, .slice A xss.length c] 45)) w.heap.size 0 [.int .i64 m.c, .int .i64 m.d, .int .i64 m.s, .int .i64 m.a, .int .i64 m.l, .slice A xss.length c] := BoxC.new [.int .i64 m.c, .int .i64 m.d, .int .i64 m.s, .int .i64 m.a, .int .i64 m.l, .slice A xss.length c] rfl
    rw [hw1]; exact this.below ((Below.refl _ _).alloc (Nat.le_refl _) _)
  have x1 : BoxC w1 (w.heap.size + 1) 0 [.int .i64 m.c, .int .i64 m.d, .int .i64 m.s, .int .i64 m.a, .int .i64 m.l, .slice B xss.length d] := by
    have : BoxC ((w.alloc (.cells #[.int .i64 m.c, .int .i64 m.d, .int .i64 m.s, .int .i64 m.a, .int .i64 m.l, .slice A xss.length c] 45)).alloc (.cells #[.int .i64 m.c, .int .i64 m.d, .int .i64 m.s, .int .i64 m.a, .int .i64 m.l, .slice B xss.length d] 45)) (w.alloc (.cells #[.int .i64 m.c, .int .i64 m.d, .int .i64 m.s, .int .i64 m.a, .int .i64 m.l, .slice A xss.length c] 45)).heap.size 0 [.int .i64 m.c, .int .i64 m.d, .int .i64 m.s, .int .i64 m.a, .int .i64 m.l, .slice B xss.length d] := BoxC.new [.int .i64 m.c, .int .i64 m.d, .int .i64 m.s, .int .i64 m.a, .int .i64 m.l, .slice B xss.length d] rfl
    simp only [World.size_alloc] at this
    rw [hw1]; exact this
  obtain ⟨p0, p1, p2, p3, p4, p5, _⟩ := x0
  obtain ⟨r0, r1, r2, r3, r4, r5, _⟩ := x1
  simp only [Nat.zero_add] at p1 p2 p3 p4 p5 r1 r2 r3 r4 r5
  clear h g hb
  go_enter Tryz.func24, Tryz.ntmps24
  go_wp2_with fail
  rw [← hw1]
  clear hw1
  go_wp2_with fail
  refine HL.out.mono ?_
  rintro e w2 ⟨rfl, n, rfl⟩
  go_wp2_with fail
  go_ret
  exact ⟨rfl, belowD HB.out n⟩
set_option maxRecDepth 100000 in
set_option maxHeartbeats 16000000 in
theorem walk (A : Option Addr) (c : Nat) (bs : List Int) (w : World) (h : RCode w A bs) :
    Calls Tryz.prog 4 #[.slice A bs.length c] w fun e w' => e = .returned (.bool true) ∧ Below w.heap.size w w' := by
  have HC := Lib.hid h
  clear h
  by_cases hbig : (bs.length : Int) > 4096
  · have HBG := big_any A bs.length c w
    rw [decide_eq_true hbig] at HBG
    have HBB := Lib.hid HBG
    clear hbig HBG
    go_enter Tryz.func4, Tryz.ntmps4
    go_wp2_with fail
    refine HBB.out.mono ?_
    rintro e w1 ⟨rfl, rfl⟩
    go_wp2_with fail
    go_ret
    exact ⟨rfl, Below.refl _ _⟩
  · have HBG := big_any A bs.length c w
    rw [decide_eq_false hbig] at HBG
    have HBB := Lib.hid HBG
    clear hbig HBG
    go_enter Tryz.func4, Tryz.ntmps4
    go_wp2_with fail
    refine HBB.out.mono ?_
    rintro e w1 ⟨rfl, rfl⟩
    have HB := Lib.hid (Below.refl w.heap.size w)
    have E1 := Lib.hid (drawMirror_any A c bs w HC.out)
    go_wp2_with fail
    refine E1.out.mono ?_
    rintro e v1 ⟨m, T, t, cT, K, q, cs, rfl, -, hq, -, hT, hK, hb⟩
    clear E1
    replace HB := Lib.hid (HB.out.trans (hb.mono HB.out.size))
    have HT := Lib.hid (hT)
    have HK := Lib.hid (hK)
    clear hT hK hb
    clear hq
    obtain ⟨v1b, hv1b⟩ : ∃ wb, wb = v1.alloc (.cells #[.int .i64 m.c, .int .i64 m.d, .int .i64 m.s, .int .i64 m.a, .int .i64 m.l, .slice T t.length cT] 45) := ⟨_, rfl⟩
    have hbx : Below v1.heap.size v1 v1b := by rw [hv1b]; exact (Below.refl _ _).alloc (Nat.le_refl _) _
    replace HT := Lib.hid (HT.out.below hbx)
    replace HK := Lib.hid (HK.out.below hbx)
    replace HB := Lib.hid (HB.out.trans (hbx.mono HB.out.size))
    have HBS := Lib.hid (show BoxC v1b (v1.heap.size) 0 [.int .i64 m.c, .int .i64 m.d, .int .i64 m.s, .int .i64 m.a, .int .i64 m.l, .slice T t.length cT] by rw [hv1b]; exact BoxC.new (w := v1) [.int .i64 m.c, .int .i64 m.d, .int .i64 m.s, .int .i64 m.a, .int .i64 m.l, .slice T t.length cT] rfl)
    clear hbx
    rcases hg : mirrorCutsR m t cs with ⟨ms, km⟩
    have HME := Lib.hid hg
    clear hg
    have E2 := Lib.hid (by have := implMirrorCuts_any m T cT t K q cs v1b HT.out HK.out; rw [HME.out] at this; exact this)
    go_wp2_with fail
    rw [← hv1b]
    clear hv1b 
    refine E2.out.mono ?_
    rintro e v2 ⟨AM, cM, rfl, hc2, hr, _, hb⟩
    clear E2
    replace HT := Lib.hid (HT.out.below hb)
    replace HK := Lib.hid (HK.out.below hb)
    replace HBS := Lib.hid (HBS.out.below hb)
    replace HB := Lib.hid (HB.out.trans (hb.mono HB.out.size))
    have HM := Lib.hid (show RII v2 AM ms from hr)
    clear hr hb hc2
    have E3 := Lib.hid (by have := specMirrorCuts_any m T cT t K q cs v2 HT.out HK.out; rw [HME.out] at this; exact this)
    obtain ⟨q0_0, q0_1, q0_2, q0_3, q0_4, q0_5, _⟩ := HBS.out
    simp only [Nat.zero_add] at q0_1 q0_2 q0_3 q0_4 q0_5
    go_wp2_with fail
    clear q0_0 q0_1 q0_2 q0_3 q0_4 q0_5
    refine E3.out.mono ?_
    rintro e v3 ⟨AN, cN, rfl, hc3, hr, _, hb⟩
    clear E3
    replace HT := Lib.hid (HT.out.below hb)
    replace HK := Lib.hid (HK.out.below hb)
    replace HBS := Lib.hid (HBS.out.below hb)
    replace HM := Lib.hid (HM.out.below hb)
    replace HB := Lib.hid (HB.out.trans (hb.mono HB.out.size))
    have HM3 := Lib.hid (show RII v3 AN ms from hr)
    clear hr hb hc3
    have E4 := Lib.hid (drawSwap_any A c bs v3 (HC.out.below HB.out))
    go_wp2_with fail
    refine E4.out.mono ?_
    rintro e v4 ⟨m2, T2, t2, cT2, K2, q2, cs2, kk, dd, rfl, -, hq, -, hT, hK, hkk, hdd, hb⟩
    clear E4
    replace HT := Lib.hid (HT.out.below hb)
    replace HK := Lib.hid (HK.out.below hb)
    replace HBS := Lib.hid (HBS.out.below hb)
    replace HM := Lib.hid (HM.out.below hb)
    replace HM3 := Lib.hid (HM3.out.below hb)
    replace HB := Lib.hid (HB.out.trans (hb.mono HB.out.size))
    have HT2 := Lib.hid (hT)
    have HK2 := Lib.hid (hK)
    clear hT hK hb
    have HWK := Lib.hid (wf_small hkk)
    have HWD := Lib.hid (wf_small hdd)
    clear hq hkk hdd
    obtain ⟨v4b, hv4b⟩ : ∃ wb, wb = v4.alloc (.cells #[.int .i64 m2.c, .int .i64 m2.d, .int .i64 m2.s, .int .i64 m2.a, .int .i64 m2.l, .slice T2 t2.length cT2] 45) := ⟨_, rfl⟩
    have hbx : Below v4.heap.size v4 v4b := by rw [hv4b]; exact (Below.refl _ _).alloc (Nat.le_refl _) _
    replace HT := Lib.hid (HT.out.below hbx)
    replace HK := Lib.hid (HK.out.below hbx)
    replace HBS := Lib.hid (HBS.out.below hbx)
    replace HM := Lib.hid (HM.out.below hbx)
    replace HM3 := Lib.hid (HM3.out.below hbx)
    replace HT2 := Lib.hid (HT2.out.below hbx)
    replace HK2 := Lib.hid (HK2.out.below hbx)
    replace HB := Lib.hid (HB.out.trans (hbx.mono HB.out.size))
    have HBX := Lib.hid (show BoxC v4b (v4.heap.size) 0 [.int .i64 m2.c, .int .i64 m2.d, .int .i64 m2.s, .int .i64 m2.a, .int .i64 m2.l, .slice T2 t2.length cT2] by rw [hv4b]; exact BoxC.new (w := v4) [.int .i64 m2.c, .int .i64 m2.d, .int .i64 m2.s, .int .i64 m2.a, .int .i64 m2.l, .slice T2 t2.length cT2] rfl)
    clear hbx
    rcases hg : swapR m2 t2 cs2 kk dd with ⟨mu, tu, su, ks⟩
    have HSE := Lib.hid hg
    clear hg
    have E5 := Lib.hid (by have := implSwapKeys_any m2 T2 cT2 t2 K2 q2 cs2 kk dd v4b HT2.out HK2.out HWK.out HWD.out; rw [HSE.out] at this; exact this)
    go_wp2_with fail
    rw [← hv4b]
    clear hv4b 
    refine E5.out.mono ?_
    rintro e v5 ⟨TU, cU, SU, dU, mid, rfl, _, _, h1, h2, h3, _, hb⟩
    clear E5
    replace HT := Lib.hid (HT.out.below hb)
    replace HK := Lib.hid (HK.out.below hb)
    replace HBS := Lib.hid (HBS.out.below hb)
    replace HM := Lib.hid (HM.out.below hb)
    replace HM3 := Lib.hid (HM3.out.below hb)
    replace HT2 := Lib.hid (HT2.out.below hb)
    replace HK2 := Lib.hid (HK2.out.below hb)
    replace HBX := Lib.hid (HBX.out.below hb)
    replace HB := Lib.hid (HB.out.trans (hb.mono HB.out.size))
    have HTU := Lib.hid (show RII v5 TU tu from h1.rii)
    have HSU := Lib.hid (show RII v5 SU su from h2.rii)
    clear h1 h2 h3 hb
    obtain ⟨q0_0, q0_1, q0_2, q0_3, q0_4, q0_5, _⟩ := HBX.out
    simp only [Nat.zero_add] at q0_1 q0_2 q0_3 q0_4 q0_5
    have HBXlt := World.block_lt_of_cell? v5 _ (HBX.out.1)
    simp only at HBXlt
    obtain ⟨v5b, hv5b⟩ : ∃ wb, wb = v5.alloc (.cells #[.int .i64 mu.c, .int .i64 mu.d, .int .i64 mu.s, .int .i64 mu.a, .int .i64 mu.l, .slice TU tu.length cU] 45) := ⟨_, rfl⟩
    have hbx : Below v5.heap.size v5 v5b := by rw [hv5b]; exact (Below.refl _ _).alloc (Nat.le_refl _) _
    replace HT := Lib.hid (HT.out.below hbx)
    replace HK := Lib.hid (HK.out.below hbx)
    replace HBS := Lib.hid (HBS.out.below hbx)
    replace HM := Lib.hid (HM.out.below hbx)
    replace HM3 := Lib.hid (HM3.out.below hbx)
    replace HT2 := Lib.hid (HT2.out.below hbx)
    replace HK2 := Lib.hid (HK2.out.below hbx)
    replace HBX := Lib.hid (HBX.out.below hbx)
    replace HTU := Lib.hid (HTU.out.below hbx)
    replace HSU := Lib.hid (HSU.out.below hbx)
    replace HB := Lib.hid (HB.out.trans (hbx.mono HB.out.size))
    have HBU := Lib.hid (show BoxC v5b (v5.heap.size) 0 [.int .i64 mu.c, .int .i64 mu.d, .int .i64 mu.s, .int .i64 mu.a, .int .i64 mu.l, .slice TU tu.length cU] by rw [hv5b]; exact BoxC.new (w := v5) [.int .i64 mu.c, .int .i64 mu.d, .int .i64 mu.s, .int .i64 mu.a, .int .i64 mu.l, .slice TU tu.length cU] rfl)
    clear hbx
    have E6 := Lib.hid (by have := specSwapKeys_any m2 T2 cT2 t2 K2 q2 cs2 kk dd v5b HT2.out HK2.out HWK.out HWD.out; rw [HSE.out] at this; exact this)
    go_wp2_with fail
    rw [← hv5b]
    clear hv5b q0_0 q0_1 q0_2 q0_3 q0_4 q0_5 HBXlt
    refine E6.out.mono ?_
    rintro e v6 ⟨TV, cV, SV, dV, mid2, rfl, _, _, h1, h2, h3, _, hb⟩
    clear E6
    replace HT := Lib.hid (HT.out.below hb)
    replace HK := Lib.hid (HK.out.below hb)
    replace HBS := Lib.hid (HBS.out.below hb)
    replace HM := Lib.hid (HM.out.below hb)
    replace HM3 := Lib.hid (HM3.out.below hb)
    replace HT2 := Lib.hid (HT2.out.below hb)
    replace HK2 := Lib.hid (HK2.out.below hb)
    replace HBX := Lib.hid (HBX.out.below hb)
    replace HTU := Lib.hid (HTU.out.below hb)
    replace HSU := Lib.hid (HSU.out.below hb)
    replace HBU := Lib.hid (HBU.out.below hb)
    replace HB := Lib.hid (HB.out.trans (hb.mono HB.out.size))
    have HTV := Lib.hid (show RII v6 TV tu from h1.rii)
    have HSV := Lib.hid (show RII v6 SV su from h2.rii)
    clear h1 h2 h3 hb
    obtain ⟨v6b, hv6b⟩ : ∃ wb, wb = v6.alloc (.cells #[.int .i64 mu.c, .int .i64 mu.d, .int .i64 mu.s, .int .i64 mu.a, .int .i64 mu.l, .slice TV tu.length cV] 45) := ⟨_, rfl⟩
    have hbx : Below v6.heap.size v6 v6b := by rw [hv6b]; exact (Below.refl _ _).alloc (Nat.le_refl _) _
    replace HT := Lib.hid (HT.out.below hbx)
    replace HK := Lib.hid (HK.out.below hbx)
    replace HBS := Lib.hid (HBS.out.below hbx)
    replace HM := Lib.hid (HM.out.below hbx)
    replace HM3 := Lib.hid (HM3.out.below hbx)
    replace HT2 := Lib.hid (HT2.out.below hbx)
    replace HK2 := Lib.hid (HK2.out.below hbx)
    replace HBX := Lib.hid (HBX.out.below hbx)
    replace HTU := Lib.hid (HTU.out.below hbx)
    replace HSU := Lib.hid (HSU.out.below hbx)
    replace HBU := Lib.hid (HBU.out.below hbx)
    replace HTV := Lib.hid (HTV.out.below hbx)
    replace HSV := Lib.hid (HSV.out.below hbx)
    replace HB := Lib.hid (HB.out.trans (hbx.mono HB.out.size))
    have HBV := Lib.hid (show BoxC v6b (v6.heap.size) 0 [.int .i64 mu.c, .int .i64 mu.d, .int .i64 mu.s, .int .i64 mu.a, .int .i64 mu.l, .slice TV tu.length cV] by rw [hv6b]; exact BoxC.new (w := v6) [.int .i64 mu.c, .int .i64 mu.d, .int .i64 mu.s, .int .i64 mu.a, .int .i64 mu.l, .slice TV tu.length cV] rfl)
    clear hbx
    have E7 := Lib.hid (likeListsB (c := cM) (d := cN) HM.out HM3.out)
    go_wp2_with fail
    rw [← hv6b]
    clear hv6b 
    refine E7.out.mono ?_
    rintro e v7 ⟨rfl, hb⟩
    clear E7
    replace HT := Lib.hid (HT.out.below hb)
    replace HK := Lib.hid (HK.out.below hb)
    replace HBS := Lib.hid (HBS.out.below hb)
    replace HM := Lib.hid (HM.out.below hb)
    replace HM3 := Lib.hid (HM3.out.below hb)
    replace HT2 := Lib.hid (HT2.out.below hb)
    replace HK2 := Lib.hid (HK2.out.below hb)
    replace HBX := Lib.hid (HBX.out.below hb)
    replace HTU := Lib.hid (HTU.out.below hb)
    replace HSU := Lib.hid (HSU.out.below hb)
    replace HBU := Lib.hid (HBU.out.below hb)
    replace HTV := Lib.hid (HTV.out.below hb)
    replace HSV := Lib.hid (HSV.out.below hb)
    replace HBV := Lib.hid (HBV.out.below hb)
    replace HB := Lib.hid (HB.out.trans (hb.mono HB.out.size))
    clear hb
    have E8 := Lib.hid (likeSystemsB (m := mu) (c := cU) (d := cV) HTU.out HTV.out)
    obtain ⟨q0_0, q0_1, q0_2, q0_3, q0_4, q0_5, _⟩ := HBU.out
    simp only [Nat.zero_add] at q0_1 q0_2 q0_3 q0_4 q0_5
    obtain ⟨q1_0, q1_1, q1_2, q1_3, q1_4, q1_5, _⟩ := HBV.out
    simp only [Nat.zero_add] at q1_1 q1_2 q1_3 q1_4 q1_5
    go_wp2_with fail
    clear q0_0 q0_1 q0_2 q0_3 q0_4 q0_5 q1_0 q1_1 q1_2 q1_3 q1_4 q1_5
    refine E8.out.mono ?_
    rintro e v8 ⟨rfl, hb⟩
    clear E8
    replace HT := Lib.hid (HT.out.below hb)
    replace HK := Lib.hid (HK.out.below hb)
    replace HBS := Lib.hid (HBS.out.below hb)
    replace HM := Lib.hid (HM.out.below hb)
    replace HM3 := Lib.hid (HM3.out.below hb)
    replace HT2 := Lib.hid (HT2.out.below hb)
    replace HK2 := Lib.hid (HK2.out.below hb)
    replace HBX := Lib.hid (HBX.out.below hb)
    replace HTU := Lib.hid (HTU.out.below hb)
    replace HSU := Lib.hid (HSU.out.below hb)
    replace HBU := Lib.hid (HBU.out.below hb)
    replace HTV := Lib.hid (HTV.out.below hb)
    replace HSV := Lib.hid (HSV.out.below hb)
    replace HBV := Lib.hid (HBV.out.below hb)
    replace HB := Lib.hid (HB.out.trans (hb.mono HB.out.size))
    clear hb
    have E9 := Lib.hid (likeListsB (c := dU) (d := dV) HSU.out HSV.out)
    go_wp2_with fail
    refine E9.out.mono ?_
    rintro e v9 ⟨rfl, hb⟩
    clear E9
    replace HT := Lib.hid (HT.out.below hb)
    replace HK := Lib.hid (HK.out.below hb)
    replace HBS := Lib.hid (HBS.out.below hb)
    replace HM := Lib.hid (HM.out.below hb)
    replace HM3 := Lib.hid (HM3.out.below hb)
    replace HT2 := Lib.hid (HT2.out.below hb)
    replace HK2 := Lib.hid (HK2.out.below hb)
    replace HBX := Lib.hid (HBX.out.below hb)
    replace HTU := Lib.hid (HTU.out.below hb)
    replace HSU := Lib.hid (HSU.out.below hb)
    replace HBU := Lib.hid (HBU.out.below hb)
    replace HTV := Lib.hid (HTV.out.below hb)
    replace HSV := Lib.hid (HSV.out.below hb)
    replace HBV := Lib.hid (HBV.out.below hb)
    replace HB := Lib.hid (HB.out.trans (hb.mono HB.out.size))
    clear hb
    obtain ⟨dx, hdx⟩ : ∃ b, b = designF m2 t2 cs2 := ⟨_, rfl⟩
    have HDX := Lib.hid hdx.symm
    clear hdx
    go_upto_region 11 with fail
    go_cut [106] from 91 to 106 (fun v wx => v = .bool false ∧ Below v9.heap.size v9 wx)
    case first =>
      have KS := Lib.hid (show ∀ w' : World, Below v9.heap.size v9 w' → (w'.cell? ⟨v5.heap.size, 0, none⟩ = some (.int .i64 mu.c) ∧ w'.cell? ⟨v5.heap.size, 1, none⟩ = some (.int .i64 mu.d) ∧ w'.cell? ⟨v5.heap.size, 2, none⟩ = some (.int .i64 mu.s) ∧ w'.cell? ⟨v5.heap.size, 3, none⟩ = some (.int .i64 mu.a) ∧ w'.cell? ⟨v5.heap.size, 4, none⟩ = some (.int .i64 mu.l) ∧ w'.cell? ⟨v5.heap.size, 5, none⟩ = some (.slice TU tu.length cU) ∧ w'.cell? ⟨v4.heap.size, 0, none⟩ = some (.int .i64 m2.c) ∧ w'.cell? ⟨v4.heap.size, 1, none⟩ = some (.int .i64 m2.d) ∧ w'.cell? ⟨v4.heap.size, 2, none⟩ = some (.int .i64 m2.s) ∧ w'.cell? ⟨v4.heap.size, 3, none⟩ = some (.int .i64 m2.a) ∧ w'.cell? ⟨v4.heap.size, 4, none⟩ = some (.int .i64 m2.l) ∧ w'.cell? ⟨v4.heap.size, 5, none⟩ = some (.slice T2 t2.length cT2)) from fun w' hw => by
        obtain ⟨a0, a1, a2, a3, a4, a5, _⟩ := HBU.out.below hw
        obtain ⟨b0, b1, b2, b3, b4, b5, _⟩ := HBX.out.below hw
        exact ⟨a0, a1, a2, a3, a4, a5, b0, b1, b2, b3, b4, b5⟩)
      by_cases hks : ks = 0
      · subst hks
        have hl := swap_law HSE.out rfl
        have HDU := Lib.hid (show designF mu tu su = dx by rw [← HDX.out]; exact hl.1)
        have HIS := Lib.hid hl.2
        clear hl
        go_wp2_with fail
        refine wp_region_held_drew (S := (fun w' => (w'.cell? ⟨v5.heap.size, 0, none⟩ = some (.int .i64 mu.c) ∧ w'.cell? ⟨v5.heap.size, 1, none⟩ = some (.int .i64 mu.d) ∧ w'.cell? ⟨v5.heap.size, 2, none⟩ = some (.int .i64 mu.s) ∧ w'.cell? ⟨v5.heap.size, 3, none⟩ = some (.int .i64 mu.a) ∧ w'.cell? ⟨v5.heap.size, 4, none⟩ = some (.int .i64 mu.l) ∧ w'.cell? ⟨v5.heap.size, 5, none⟩ = some (.slice TU tu.length cU) ∧ w'.cell? ⟨v4.heap.size, 0, none⟩ = some (.int .i64 m2.c) ∧ w'.cell? ⟨v4.heap.size, 1, none⟩ = some (.int .i64 m2.d) ∧ w'.cell? ⟨v4.heap.size, 2, none⟩ = some (.int .i64 m2.s) ∧ w'.cell? ⟨v4.heap.size, 3, none⟩ = some (.int .i64 m2.a) ∧ w'.cell? ⟨v4.heap.size, 4, none⟩ = some (.int .i64 m2.l) ∧ w'.cell? ⟨v4.heap.size, 5, none⟩ = some (.slice T2 t2.length cT2)))) (by kernel_rfl) (KS.out _ (belowDrew0 _)) (fun hHeld => ?_)
        refine takeD (i := 0) (some 91) (.int .i64 0) rfl (by kernel_rfl) (by kernel_rfl) (by kernel_rfl) (by kernel_rfl) (fun _ _ _ h => h) (by assumption) (Or.inl ⟨by rfl, fun w hSw => by (try dsimp only at hSw); go_simp⟩) ?_
        simp only [Act.put, List.setIfInBounds_toArray, List.set_cons_zero, List.set_cons_succ]
        refine takeD (i := 1) (some 92) (.bool true) rfl (by kernel_rfl) (by kernel_rfl) (by kernel_rfl) (by kernel_rfl) (fun _ _ _ h => h) (by assumption) (Or.inl ⟨by rfl, fun w hSw => by (try dsimp only at hSw); go_simp; (try simp)⟩) ?_
        simp only [Act.put, List.setIfInBounds_toArray, List.set_cons_zero, List.set_cons_succ]
        refine takeD (i := 2) (some 93) (.bool true) rfl (by kernel_rfl) (by kernel_rfl) (by kernel_rfl) (by kernel_rfl) (fun _ _ _ h => h) (by assumption) (Or.inl ⟨by rfl, fun w hSw => by (try dsimp only at hSw); go_simp⟩) ?_
        simp only [Act.put, List.setIfInBounds_toArray, List.set_cons_zero, List.set_cons_succ]
        refine takeD (i := 3) (some 94) (.agg #[.int .i64 mu.c, .int .i64 mu.d, .int .i64 mu.s, .int .i64 mu.a, .int .i64 mu.l, .slice TU tu.length cU]) rfl (by kernel_rfl) (by kernel_rfl) (by kernel_rfl) (by kernel_rfl) (fun _ _ _ h => h) (by assumption) (Or.inl ⟨by rfl, fun w hSw => by (try dsimp only at hSw); go_simp⟩) ?_
        simp only [Act.put, List.setIfInBounds_toArray, List.set_cons_zero, List.set_cons_succ]
        refine takeD (i := 4) (some 95) (.slice SU su.length dU) rfl (by kernel_rfl) (by kernel_rfl) (by kernel_rfl) (by kernel_rfl) (fun _ _ _ h => h) (by assumption) (Or.inl ⟨by rfl, fun w hSw => by (try dsimp only at hSw); go_simp⟩) ?_
        simp only [Act.put, List.setIfInBounds_toArray, List.set_cons_zero, List.set_cons_succ]
        refine takeD (i := 6) (some 97) (.agg #[.int .i64 m2.c, .int .i64 m2.d, .int .i64 m2.s, .int .i64 m2.a, .int .i64 m2.l, .slice T2 t2.length cT2]) rfl (by kernel_rfl) (by kernel_rfl) (by kernel_rfl) (by kernel_rfl) (fun _ _ _ h => h) (by assumption) (Or.inl ⟨by rfl, fun w hSw => by (try dsimp only at hSw); go_simp⟩) ?_
        simp only [Act.put, List.setIfInBounds_toArray, List.set_cons_zero, List.set_cons_succ]
        refine takeD (i := 7) (some 98) (.slice K2 cs2.length q2) rfl (by kernel_rfl) (by kernel_rfl) (by kernel_rfl) (by kernel_rfl) (fun _ _ _ h => h) (by assumption) (Or.inl ⟨by rfl, fun w hSw => by (try dsimp only at hSw); go_simp⟩) ?_
        simp only [Act.put, List.setIfInBounds_toArray, List.set_cons_zero, List.set_cons_succ]
        refine wpAnyH_ready (rs := [5]) (by kernel_rfl) (by simp) (AllReadyH.cons rfl (fun K hK => ?_) AllReadyH.nil)
        go_simp
        refine (design0 (w := v9.drew) (HTU.out.below (belowDrew0 _)) (HSU.out.below (belowDrew0 _)) HDU.out).mono ?_
        rintro e wg ⟨rfl, hbg⟩
        have HBg := Lib.hid (belowDrew hbg)
        clear hbg
        have HHeld := KS.out _ HBg.out
        refine hK.out _ _ HHeld (fun _ => ?_)
        clear hK K
        try simp only [Act.put, List.setIfInBounds_toArray, List.set_cons_zero, List.set_cons_succ]
        refine wpAnyH_ready (rs := [8]) (by kernel_rfl) (by simp) (AllReadyH.cons rfl (fun K hK => ?_) AllReadyH.nil)
        go_simp
        refine (design0 (w := wg) (HT2.out.below HBg.out) (HK2.out.below HBg.out) HDX.out).mono ?_
        rintro e wh ⟨rfl, hbh⟩
        have HBh := Lib.hid (HBg.out.trans (hbh.mono HBg.out.size))
        clear hbh
        have HHeld := KS.out _ HBh.out
        refine hK.out _ _ HHeld (fun _ => ?_)
        clear hK K
        try simp only [Act.put, List.setIfInBounds_toArray, List.set_cons_zero, List.set_cons_succ]
        refine takeD (i := 9) (some 100) (.bool false) rfl (by kernel_rfl) (by kernel_rfl) (by kernel_rfl) (by kernel_rfl) (fun _ _ _ h => h) (by assumption) (Or.inl ⟨by rfl, fun w hSw => by (try dsimp only at hSw); go_simp; (try simp)⟩) ?_
        simp only [Act.put, List.setIfInBounds_toArray, List.set_cons_zero, List.set_cons_succ]
        refine takeD (i := 10) (some 101) (.bool false) rfl (by kernel_rfl) (by kernel_rfl) (by kernel_rfl) (by kernel_rfl) (fun _ _ _ h => h) (by assumption) (Or.inl ⟨by rfl, fun w hSw => by (try dsimp only at hSw); go_simp⟩) ?_
        simp only [Act.put, List.setIfInBounds_toArray, List.set_cons_zero, List.set_cons_succ]
        refine takeD (i := 11) (some 102) (.agg #[.int .i64 mu.c, .int .i64 mu.d, .int .i64 mu.s, .int .i64 mu.a, .int .i64 mu.l, .slice TU tu.length cU]) rfl (by kernel_rfl) (by kernel_rfl) (by kernel_rfl) (by kernel_rfl) (fun _ _ _ h => h) (by assumption) (Or.inl ⟨by rfl, fun w hSw => by (try dsimp only at hSw); go_simp⟩) ?_
        simp only [Act.put, List.setIfInBounds_toArray, List.set_cons_zero, List.set_cons_succ]
        refine wpAnyH_ready (rs := [12]) (by kernel_rfl) (by simp) (AllReadyH.cons rfl (fun K hK => ?_) AllReadyH.nil)
        go_simp
        refine (system0 (w := wh) (HTU.out.below HBh.out) HIS.out).mono ?_
        rintro e wi ⟨rfl, hbi⟩
        have HBi := Lib.hid (HBh.out.trans (hbi.mono HBh.out.size))
        clear hbi
        have HHeld := KS.out _ HBi.out
        refine hK.out _ _ HHeld (fun _ => ?_)
        clear hK K
        try simp only [Act.put, List.setIfInBounds_toArray, List.set_cons_zero, List.set_cons_succ]
        refine takeD (i := 13) (some 104) (.bool false) rfl (by kernel_rfl) (by kernel_rfl) (by kernel_rfl) (by kernel_rfl) (fun _ _ _ h => h) (by assumption) (Or.inl ⟨by rfl, fun w hSw => by (try dsimp only at hSw); go_simp; (try simp)⟩) ?_
        simp only [Act.put, List.setIfInBounds_toArray, List.set_cons_zero, List.set_cons_succ]
        refine takeD (i := 14) (some 105) (.bool false) rfl (by kernel_rfl) (by kernel_rfl) (by kernel_rfl) (by kernel_rfl) (fun _ _ _ h => h) (by assumption) (Or.inl ⟨by rfl, fun w hSw => by (try dsimp only at hSw); go_simp⟩) ?_
        simp only [Act.put, List.setIfInBounds_toArray, List.set_cons_zero, List.set_cons_succ]
        refine takeD (i := 15) (some 106) (.bool false) rfl (by kernel_rfl) (by kernel_rfl) (by kernel_rfl) (by kernel_rfl) (fun _ _ _ h => h) (by assumption) (Or.inl ⟨by rfl, fun w hSw => by (try dsimp only at hSw); go_simp⟩) ?_
        simp only [Act.put, List.setIfInBounds_toArray, List.set_cons_zero, List.set_cons_succ]
        refine wpAnyH_done (by kernel_rfl) ?_ _
        clear KS
        go_wp2_with fail
        go_meet
        exact ⟨rfl, HBi.out⟩
      · have hks' : (ks == 0) = false := by simpa using hks
        go_wp2_with fail
        refine wp_region_held_drew (S := (fun w' => (w'.cell? ⟨v5.heap.size, 0, none⟩ = some (.int .i64 mu.c) ∧ w'.cell? ⟨v5.heap.size, 1, none⟩ = some (.int .i64 mu.d) ∧ w'.cell? ⟨v5.heap.size, 2, none⟩ = some (.int .i64 mu.s) ∧ w'.cell? ⟨v5.heap.size, 3, none⟩ = some (.int .i64 mu.a) ∧ w'.cell? ⟨v5.heap.size, 4, none⟩ = some (.int .i64 mu.l) ∧ w'.cell? ⟨v5.heap.size, 5, none⟩ = some (.slice TU tu.length cU) ∧ w'.cell? ⟨v4.heap.size, 0, none⟩ = some (.int .i64 m2.c) ∧ w'.cell? ⟨v4.heap.size, 1, none⟩ = some (.int .i64 m2.d) ∧ w'.cell? ⟨v4.heap.size, 2, none⟩ = some (.int .i64 m2.s) ∧ w'.cell? ⟨v4.heap.size, 3, none⟩ = some (.int .i64 m2.a) ∧ w'.cell? ⟨v4.heap.size, 4, none⟩ = some (.int .i64 m2.l) ∧ w'.cell? ⟨v4.heap.size, 5, none⟩ = some (.slice T2 t2.length cT2)))) (by kernel_rfl) (KS.out _ (belowDrew0 _)) (fun hHeld => ?_)
        refine takeD (i := 0) (some 91) (.int .i64 ks) rfl (by kernel_rfl) (by kernel_rfl) (by kernel_rfl) (by kernel_rfl) (fun _ _ _ h => h) (by assumption) (Or.inl ⟨by rfl, fun w hSw => by (try dsimp only at hSw); go_simp⟩) ?_
        simp only [Act.put, List.setIfInBounds_toArray, List.set_cons_zero, List.set_cons_succ]
        refine takeD (i := 1) (some 92) (.bool false) rfl (by kernel_rfl) (by kernel_rfl) (by kernel_rfl) (by kernel_rfl) (fun _ _ _ h => h) (by assumption) (Or.inl ⟨by rfl, fun w hSw => by (try dsimp only at hSw); go_simp; (try simp [hks])⟩) ?_
        simp only [Act.put, List.setIfInBounds_toArray, List.set_cons_zero, List.set_cons_succ]
        refine takeD (i := 2) (some 93) (.bool false) rfl (by kernel_rfl) (by kernel_rfl) (by kernel_rfl) (by kernel_rfl) (fun _ _ _ h => h) (by assumption) (Or.inl ⟨by rfl, fun w hSw => by (try dsimp only at hSw); go_simp⟩) ?_
        simp only [Act.put, List.setIfInBounds_toArray, List.set_cons_zero, List.set_cons_succ]
        refine skipD (i := 3) (some 94) rfl (by kernel_rfl) (by kernel_rfl) (by kernel_rfl) (by kernel_rfl) (fun _ _ _ h => h) (by assumption) (by kernel_rfl) ?_
        simp only [Act.put, List.setIfInBounds_toArray, List.set_cons_zero, List.set_cons_succ]
        refine skipD (i := 4) (some 95) rfl (by kernel_rfl) (by kernel_rfl) (by kernel_rfl) (by kernel_rfl) (fun _ _ _ h => h) (by assumption) (by kernel_rfl) ?_
        simp only [Act.put, List.setIfInBounds_toArray, List.set_cons_zero, List.set_cons_succ]
        refine skipD (i := 5) (some 96) rfl (by kernel_rfl) (by kernel_rfl) (by kernel_rfl) (by kernel_rfl) (fun _ _ _ h => h) (by assumption) (by kernel_rfl) ?_
        simp only [Act.put, List.setIfInBounds_toArray, List.set_cons_zero, List.set_cons_succ]
        refine skipD (i := 6) (some 97) rfl (by kernel_rfl) (by kernel_rfl) (by kernel_rfl) (by kernel_rfl) (fun _ _ _ h => h) (by assumption) (by kernel_rfl) ?_
        simp only [Act.put, List.setIfInBounds_toArray, List.set_cons_zero, List.set_cons_succ]
        refine skipD (i := 7) (some 98) rfl (by kernel_rfl) (by kernel_rfl) (by kernel_rfl) (by kernel_rfl) (fun _ _ _ h => h) (by assumption) (by kernel_rfl) ?_
        simp only [Act.put, List.setIfInBounds_toArray, List.set_cons_zero, List.set_cons_succ]
        refine skipD (i := 8) (some 99) rfl (by kernel_rfl) (by kernel_rfl) (by kernel_rfl) (by kernel_rfl) (fun _ _ _ h => h) (by assumption) (by kernel_rfl) ?_
        simp only [Act.put, List.setIfInBounds_toArray, List.set_cons_zero, List.set_cons_succ]
        refine skipD (i := 9) (some 100) rfl (by kernel_rfl) (by kernel_rfl) (by kernel_rfl) (by kernel_rfl) (fun _ _ _ h => h) (by assumption) (by kernel_rfl) ?_
        simp only [Act.put, List.setIfInBounds_toArray, List.set_cons_zero, List.set_cons_succ]
        refine skipD (i := 10) (some 101) rfl (by kernel_rfl) (by kernel_rfl) (by kernel_rfl) (by kernel_rfl) (fun _ _ _ h => h) (by assumption) (by kernel_rfl) ?_
        simp only [Act.put, List.setIfInBounds_toArray, List.set_cons_zero, List.set_cons_succ]
        refine skipD (i := 11) (some 102) rfl (by kernel_rfl) (by kernel_rfl) (by kernel_rfl) (by kernel_rfl) (fun _ _ _ h => h) (by assumption) (by kernel_rfl) ?_
        simp only [Act.put, List.setIfInBounds_toArray, List.set_cons_zero, List.set_cons_succ]
        refine skipD (i := 12) (some 103) rfl (by kernel_rfl) (by kernel_rfl) (by kernel_rfl) (by kernel_rfl) (fun _ _ _ h => h) (by assumption) (by kernel_rfl) ?_
        simp only [Act.put, List.setIfInBounds_toArray, List.set_cons_zero, List.set_cons_succ]
        refine skipD (i := 13) (some 104) rfl (by kernel_rfl) (by kernel_rfl) (by kernel_rfl) (by kernel_rfl) (fun _ _ _ h => h) (by assumption) (by kernel_rfl) ?_
        simp only [Act.put, List.setIfInBounds_toArray, List.set_cons_zero, List.set_cons_succ]
        refine skipD (i := 14) (some 105) rfl (by kernel_rfl) (by kernel_rfl) (by kernel_rfl) (by kernel_rfl) (fun _ _ _ h => h) (by assumption) (by kernel_rfl) ?_
        simp only [Act.put, List.setIfInBounds_toArray, List.set_cons_zero, List.set_cons_succ]
        refine takeD (i := 15) (some 106) (.bool false) rfl (by kernel_rfl) (by kernel_rfl) (by kernel_rfl) (by kernel_rfl) (fun _ _ _ h => h) (by assumption) (Or.inl ⟨by rfl, fun w hSw => by (try dsimp only at hSw); go_simp⟩) ?_
        simp only [Act.put, List.setIfInBounds_toArray, List.set_cons_zero, List.set_cons_succ]
        refine wpAnyH_done (by kernel_rfl) ?_ _
        clear KS
        go_wp2_with fail
        go_meet
        exact ⟨rfl, belowDrew0 _⟩
    case rest =>
      obtain ⟨rfl, hbc⟩ := hcut
      replace HT := Lib.hid (HT.out.below hbc)
      replace HK := Lib.hid (HK.out.below hbc)
      replace HBS := Lib.hid (HBS.out.below hbc)
      replace HM := Lib.hid (HM.out.below hbc)
      replace HB := Lib.hid (HB.out.trans (hbc.mono HB.out.size))
      clear hbc
      by_cases hkm : km = 0
      rotate_left
      · have hkm' : (km != 0) = true := by simpa using hkm
        go_wp2_with fail
        go_ret
        exact ⟨rfl, HB.out⟩
      subst hkm
      have hl := mirror_law HME.out rfl
      have HBK := Lib.hid hl.1
      obtain ⟨db, hdb⟩ : ∃ b, b = designF m t cs := ⟨_, rfl⟩
      have HDB := Lib.hid hdb.symm
      have HDM := Lib.hid (show designF m t ms = db by rw [hdb]; exact hl.2)
      clear hl hdb
      have E10 := Lib.hid (by have := implMirrorCuts_any m T cT t AM cM ms wc HT.out HM.out; rw [HBK.out] at this; exact this)
      obtain ⟨q0_0, q0_1, q0_2, q0_3, q0_4, q0_5, _⟩ := HBS.out
      simp only [Nat.zero_add] at q0_1 q0_2 q0_3 q0_4 q0_5
      go_wp2_with fail
      clear q0_0 q0_1 q0_2 q0_3 q0_4 q0_5
      refine E10.out.mono ?_
      rintro e v10 ⟨AB, cB, rfl, hc2, hr, _, hb⟩
      clear E10
      replace HT := Lib.hid (HT.out.below hb)
      replace HK := Lib.hid (HK.out.below hb)
      replace HBS := Lib.hid (HBS.out.below hb)
      replace HM := Lib.hid (HM.out.below hb)
      replace HB := Lib.hid (HB.out.trans (hb.mono HB.out.size))
      have HR := Lib.hid (show RII v10 AB cs from hr)
      clear hr hb hc2
      have KS := Lib.hid (show ∀ w' : World, Below v10.heap.size v10 w' → (w'.cell? ⟨v1.heap.size, 0, none⟩ = some (.int .i64 m.c) ∧ w'.cell? ⟨v1.heap.size, 1, none⟩ = some (.int .i64 m.d) ∧ w'.cell? ⟨v1.heap.size, 2, none⟩ = some (.int .i64 m.s) ∧ w'.cell? ⟨v1.heap.size, 3, none⟩ = some (.int .i64 m.a) ∧ w'.cell? ⟨v1.heap.size, 4, none⟩ = some (.int .i64 m.l) ∧ w'.cell? ⟨v1.heap.size, 5, none⟩ = some (.slice T t.length cT)) from fun w' hw => by
        obtain ⟨a0, a1, a2, a3, a4, a5, _⟩ := HBS.out.below hw
        exact ⟨a0, a1, a2, a3, a4, a5⟩)
      go_wp2_with fail
      refine wp_region_held_drew (S := (fun w' => (w'.cell? ⟨v1.heap.size, 0, none⟩ = some (.int .i64 m.c) ∧ w'.cell? ⟨v1.heap.size, 1, none⟩ = some (.int .i64 m.d) ∧ w'.cell? ⟨v1.heap.size, 2, none⟩ = some (.int .i64 m.s) ∧ w'.cell? ⟨v1.heap.size, 3, none⟩ = some (.int .i64 m.a) ∧ w'.cell? ⟨v1.heap.size, 4, none⟩ = some (.int .i64 m.l) ∧ w'.cell? ⟨v1.heap.size, 5, none⟩ = some (.slice T t.length cT)))) (by kernel_rfl) (KS.out _ (belowDrew0 _)) (fun hHeld => ?_)
      refine takeD (i := 0) (some 115) (.int .i64 0) rfl (by kernel_rfl) (by kernel_rfl) (by kernel_rfl) (by kernel_rfl) (fun _ _ _ h => h) (by assumption) (Or.inl ⟨by rfl, fun w hSw => by (try dsimp only at hSw); go_simp⟩) ?_
      simp only [Act.put, List.setIfInBounds_toArray, List.set_cons_zero, List.set_cons_succ]
      refine takeD (i := 1) (some 116) (.bool true) rfl (by kernel_rfl) (by kernel_rfl) (by kernel_rfl) (by kernel_rfl) (fun _ _ _ h => h) (by assumption) (Or.inl ⟨by rfl, fun w hSw => by (try dsimp only at hSw); go_simp; (try simp)⟩) ?_
      simp only [Act.put, List.setIfInBounds_toArray, List.set_cons_zero, List.set_cons_succ]
      refine takeD (i := 2) (some 117) (.bool true) rfl (by kernel_rfl) (by kernel_rfl) (by kernel_rfl) (by kernel_rfl) (fun _ _ _ h => h) (by assumption) (Or.inl ⟨by rfl, fun w hSw => by (try dsimp only at hSw); go_simp⟩) ?_
      simp only [Act.put, List.setIfInBounds_toArray, List.set_cons_zero, List.set_cons_succ]
      refine takeD (i := 3) (some 118) (.slice AB cs.length cB) rfl (by kernel_rfl) (by kernel_rfl) (by kernel_rfl) (by kernel_rfl) (fun _ _ _ h => h) (by assumption) (Or.inl ⟨by rfl, fun w hSw => by (try dsimp only at hSw); go_simp⟩) ?_
      simp only [Act.put, List.setIfInBounds_toArray, List.set_cons_zero, List.set_cons_succ]
      refine takeD (i := 4) (some 119) (.slice K cs.length q) rfl (by kernel_rfl) (by kernel_rfl) (by kernel_rfl) (by kernel_rfl) (fun _ _ _ h => h) (by assumption) (Or.inl ⟨by rfl, fun w hSw => by (try dsimp only at hSw); go_simp⟩) ?_
      simp only [Act.put, List.setIfInBounds_toArray, List.set_cons_zero, List.set_cons_succ]
      refine wpAnyH_ready (rs := [5]) (by kernel_rfl) (by simp) (AllReadyH.cons rfl (fun K hK => ?_) AllReadyH.nil)
      go_simp
      refine (likeListsB (w := v10.drew) (c := cB) (d := q) (HR.out.below (belowDrew0 _)) (HK.out.below (belowDrew0 _))).mono ?_
      rintro e wg ⟨rfl, hbg⟩
      have HBg := Lib.hid (belowDrew hbg)
      clear hbg
      have HHeld := KS.out _ HBg.out
      refine hK.out _ _ HHeld (fun _ => ?_)
      clear hK K
      try simp only [Act.put, List.setIfInBounds_toArray, List.set_cons_zero, List.set_cons_succ]
      refine takeD (i := 6) (some 121) (.bool true) rfl (by kernel_rfl) (by kernel_rfl) (by kernel_rfl) (by kernel_rfl) (fun _ _ _ h => h) (by assumption) (Or.inl ⟨by rfl, fun w hSw => by (try dsimp only at hSw); go_simp⟩) ?_
      simp only [Act.put, List.setIfInBounds_toArray, List.set_cons_zero, List.set_cons_succ]
      refine takeD (i := 7) (some 122) (.bool true) rfl (by kernel_rfl) (by kernel_rfl) (by kernel_rfl) (by kernel_rfl) (fun _ _ _ h => h) (by assumption) (Or.inl ⟨by rfl, fun w hSw => by (try dsimp only at hSw); go_simp⟩) ?_
      simp only [Act.put, List.setIfInBounds_toArray, List.set_cons_zero, List.set_cons_succ]
      refine takeD (i := 8) (some 123) (.agg #[.int .i64 m.c, .int .i64 m.d, .int .i64 m.s, .int .i64 m.a, .int .i64 m.l, .slice T t.length cT]) rfl (by kernel_rfl) (by kernel_rfl) (by kernel_rfl) (by kernel_rfl) (fun _ _ _ h => h) (by assumption) (Or.inl ⟨by rfl, fun w hSw => by (try dsimp only at hSw); go_simp⟩) ?_
      simp only [Act.put, List.setIfInBounds_toArray, List.set_cons_zero, List.set_cons_succ]
      refine takeD (i := 9) (some 124) (.slice AM ms.length cM) rfl (by kernel_rfl) (by kernel_rfl) (by kernel_rfl) (by kernel_rfl) (fun _ _ _ h => h) (by assumption) (Or.inl ⟨by rfl, fun w hSw => by (try dsimp only at hSw); go_simp⟩) ?_
      simp only [Act.put, List.setIfInBounds_toArray, List.set_cons_zero, List.set_cons_succ]
      refine takeD (i := 11) (some 126) (.agg #[.int .i64 m.c, .int .i64 m.d, .int .i64 m.s, .int .i64 m.a, .int .i64 m.l, .slice T t.length cT]) rfl (by kernel_rfl) (by kernel_rfl) (by kernel_rfl) (by kernel_rfl) (fun _ _ _ h => h) (by assumption) (Or.inl ⟨by rfl, fun w hSw => by (try dsimp only at hSw); go_simp⟩) ?_
      simp only [Act.put, List.setIfInBounds_toArray, List.set_cons_zero, List.set_cons_succ]
      refine takeD (i := 12) (some 127) (.slice K cs.length q) rfl (by kernel_rfl) (by kernel_rfl) (by kernel_rfl) (by kernel_rfl) (fun _ _ _ h => h) (by assumption) (Or.inl ⟨by rfl, fun w hSw => by (try dsimp only at hSw); go_simp⟩) ?_
      simp only [Act.put, List.setIfInBounds_toArray, List.set_cons_zero, List.set_cons_succ]
      refine wpAnyH_ready (rs := [10]) (by kernel_rfl) (by simp) (AllReadyH.cons rfl (fun K hK => ?_) AllReadyH.nil)
      go_simp
      refine (design0 (w := wg) (HT.out.below HBg.out) (HM.out.below HBg.out) HDM.out).mono ?_
      rintro e wh ⟨rfl, hbh⟩
      have HBh := Lib.hid (HBg.out.trans (hbh.mono HBg.out.size))
      clear hbh
      have HHeld := KS.out _ HBh.out
      refine hK.out _ _ HHeld (fun _ => ?_)
      clear hK K
      try simp only [Act.put, List.setIfInBounds_toArray, List.set_cons_zero, List.set_cons_succ]
      refine wpAnyH_ready (rs := [13]) (by kernel_rfl) (by simp) (AllReadyH.cons rfl (fun K hK => ?_) AllReadyH.nil)
      go_simp
      refine (design0 (w := wh) (HT.out.below HBh.out) (HK.out.below HBh.out) HDB.out).mono ?_
      rintro e wi ⟨rfl, hbi⟩
      have HBi := Lib.hid (HBh.out.trans (hbi.mono HBh.out.size))
      clear hbi
      have HHeld := KS.out _ HBi.out
      refine hK.out _ _ HHeld (fun _ => ?_)
      clear hK K
      try simp only [Act.put, List.setIfInBounds_toArray, List.set_cons_zero, List.set_cons_succ]
      refine takeD (i := 14) (some 129) (.bool true) rfl (by kernel_rfl) (by kernel_rfl) (by kernel_rfl) (by kernel_rfl) (fun _ _ _ h => h) (by assumption) (Or.inl ⟨by rfl, fun w hSw => by (try dsimp only at hSw); go_simp; (try simp)⟩) ?_
      simp only [Act.put, List.setIfInBounds_toArray, List.set_cons_zero, List.set_cons_succ]
      refine takeD (i := 15) (some 130) (.bool true) rfl (by kernel_rfl) (by kernel_rfl) (by kernel_rfl) (by kernel_rfl) (fun _ _ _ h => h) (by assumption) (Or.inl ⟨by rfl, fun w hSw => by (try dsimp only at hSw); go_simp⟩) ?_
      simp only [Act.put, List.setIfInBounds_toArray, List.set_cons_zero, List.set_cons_succ]
      refine takeD (i := 16) (some 2) (.bool true) rfl (by kernel_rfl) (by kernel_rfl) (by kernel_rfl) (by kernel_rfl) (fun _ _ _ h => h) (by assumption) (Or.inl ⟨by rfl, fun w hSw => by (try dsimp only at hSw); go_simp⟩) ?_
      simp only [Act.put, List.setIfInBounds_toArray, List.set_cons_zero, List.set_cons_succ]
      refine wpAnyH_done (by kernel_rfl) ?_ _
      clear KS
      go_wp2_with fail
      go_ret
      exact ⟨rfl, HB.out.trans (HBi.out.mono HB.out.size)⟩
end Go.Proofs.YtdedajohkdbdkaaGreat.fnMirrored
