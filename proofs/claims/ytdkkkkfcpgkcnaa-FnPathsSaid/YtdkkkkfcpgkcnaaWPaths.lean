/- The walk of the law FnPaths. -/
import Derived.Test.YtdkkkkfcpgkcnaaLike
import Derived.Test.YtdkkkkfcpgkcnaaDrLv
import Derived.Test.YtdkkkkfcpgkcnaaPPaths
import Derived.Deep.CutRange
namespace Go.Proofs.Ytdkkkkfcpgkcnaa.fnPaths
set_option linter.unusedVariables false
open Go.RowKit
theorem likeB {A B : Option Addr} {c d : Nat} {xs : List Int} {w : World} (h : RI w A xs) (g : RI w B xs) :
    Calls Try.prog 22 #[.slice A xs.length c, .slice B xs.length d] w fun e w' => e = .returned (.bool true) ∧ Below w.heap.size w w' :=
  (likeInts_same A B c d xs w h g).mono fun e w' ⟨h1, n, h2⟩ => ⟨h1, by rw [h2]; exact belowD (Below.refl _ _) n⟩
set_option maxRecDepth 100000 in
set_option maxHeartbeats 8000000 in
theorem walk (A : Option Addr) (c : Nat) (bs : List Int) (w : World) (h : RCode w A bs) :
    Calls Try.prog 5 #[.slice A bs.length c] w fun e w' => e = .returned (.bool true) ∧ Below w.heap.size w w' := by
  have HC := Lib.hid h
  clear h
  by_cases hbig : (bs.length : Int) > 4096
  · have HBG := big_any A bs.length c w
    rw [decide_eq_true hbig] at HBG
    have HB := Lib.hid HBG
    clear hbig HBG
    go_enter Try.func5, Try.ntmps5
    go_wp2_with fail
    refine HB.out.mono ?_
    rintro e w1 ⟨rfl, rfl⟩
    go_wp2_with fail
    go_ret
    exact ⟨rfl, Below.refl _ _⟩
  · have HBG := big_any A bs.length c w
    rw [decide_eq_false hbig] at HBG
    have HB := Lib.hid HBG
    clear hbig HBG
    have HD1 := Lib.hid (drawCutsAt_any A c bs w HC.out)
    go_enter Try.func5, Try.ntmps5
    go_wp2_with fail
    refine HB.out.mono ?_
    rintro e w1 ⟨rfl, rfl⟩
    go_wp2_with fail
    refine HD1.out.mono ?_
    rintro e w1 ⟨m, A1, c1, xs, A2, c2, ls, A3, c3, ps, rfl, hm, hk, h1, h2, h3, hb1⟩
    obtain ⟨w1b, hwm⟩ : ∃ wb, wb = w1.alloc (.cells #[.int .i64 m.c, .int .i64 m.d, .int .i64 m.s, .int .i64 m.a, .int .i64 m.l] 45) := ⟨_, rfl⟩
    have hbx : Below w1.heap.size w1 w1b := by rw [hwm]; exact (Below.refl _ _).alloc (Nat.le_refl _) _
    have HM1 := Lib.hid (show BoxC w1b w1.heap.size 0 (mkCells m) by rw [hwm]; exact BoxC.new (mkCells m) rfl)
    have HX1 := Lib.hid (And.intro (h1.below hbx) (And.intro (h2.below hbx) (h3.below hbx)))
    have HB1 := Lib.hid (hb1.trans (hbx.mono hb1.size))
    clear hbx
    rcases hcc : cutsAtR m xs ls ps with ⟨cs, kc⟩
    have HCC := Lib.hid hcc
    have E2 := Lib.hid (by have := implCutsAt_any m A1 c1 xs A2 c2 ls A3 c3 ps w1b HX1.out.1 HX1.out.2.1 HX1.out.2.2; rw [hcc] at this; exact this)
    clear hm hk h1 h2 h3 hb1 hcc
    obtain ⟨x0, x1, x2, x3, x4, _⟩ := HM1.out
    simp only [Nat.zero_add] at x1 x2 x3 x4
    go_wp2_with fail
    rw [← hwm]
    clear x0 x1 x2 x3 x4 hwm
    refine E2.out.mono ?_
    rintro e w2 ⟨C2, k2, rfl, hk2, hr2, _, hb2⟩
    have HX2 := Lib.hid (And.intro (HX1.out.1.below hb2) (And.intro (HX1.out.2.1.below hb2) (HX1.out.2.2.below hb2)))
    have HM2 := Lib.hid (HM1.out.below hb2)
    have HB2 := Lib.hid (HB1.out.trans (hb2.mono HB1.out.size))
    have HR2 := Lib.hid hr2
    have E3 := Lib.hid (by have := specCutsAt_any m A1 c1 xs A2 c2 ls A3 c3 ps w2 HX2.out.1 HX2.out.2.1 HX2.out.2.2; rw [HCC.out] at this; exact this)
    obtain ⟨x0, x1, x2, x3, x4, _⟩ := HM2.out
    simp only [Nat.zero_add] at x1 x2 x3 x4
    clear hb2 hr2
    go_wp2_with fail
    clear x0 x1 x2 x3 x4
    refine E3.out.mono ?_
    rintro e w3 ⟨C3, k3, rfl, hk3, hr3, _, hb3⟩
    have HX3 := Lib.hid (And.intro (HX2.out.1.below hb3) (And.intro (HX2.out.2.1.below hb3) (HX2.out.2.2.below hb3)))
    have HM3 := Lib.hid (HM2.out.below hb3)
    have HB3 := Lib.hid (HB2.out.trans (hb3.mono HB2.out.size))
    have HR23 := Lib.hid (HR2.out.below hb3); have HR3 := Lib.hid hr3
    have HD4 := Lib.hid (drawPathOf_any A c bs w3 (HC.out.below HB3.out))
    clear hb3 hr3
    go_wp2_with fail
    refine HD4.out.mono ?_
    rintro e w4 ⟨n, Y1, d1, ys, Y2, d2, zs, Y3, d3, qs, rfl, hm, hk, h1, h2, h3, hb4⟩
    have HX4 := Lib.hid (And.intro (HX3.out.1.below hb4) (And.intro (HX3.out.2.1.below hb4) (HX3.out.2.2.below hb4)))
    have HM4 := Lib.hid (HM3.out.below hb4)
    have HR24 := Lib.hid (HR23.out.below hb4); have HR34 := Lib.hid (HR3.out.below hb4)
    have hb14 := HB3.out.trans (hb4.mono HB3.out.size)
    obtain ⟨w4b, hwn⟩ : ∃ wb, wb = w4.alloc (.cells #[.int .i64 n.c, .int .i64 n.d, .int .i64 n.s, .int .i64 n.a, .int .i64 n.l] 45) := ⟨_, rfl⟩
    have hbx : Below w4.heap.size w4 w4b := by rw [hwn]; exact (Below.refl _ _).alloc (Nat.le_refl _) _
    have HN4 := Lib.hid (show BoxC w4b w4.heap.size 0 (mkCells n) by rw [hwn]; exact BoxC.new (mkCells n) rfl)
    have HY4 := Lib.hid (And.intro (h1.below hbx) (And.intro (h2.below hbx) (h3.below hbx)))
    have HB4 := Lib.hid (hb14.trans (hbx.mono hb14.size))
    clear hbx
    have hb4b : Below w4.heap.size w4 w4b := by rw [hwn]; exact (Below.refl _ _).alloc (Nat.le_refl _) _
    have HX4b := Lib.hid (And.intro (HX4.out.1.below hb4b) (And.intro (HX4.out.2.1.below hb4b) (HX4.out.2.2.below hb4b)))
    have HM4b := Lib.hid (HM4.out.below hb4b)
    have HR24b := Lib.hid (HR24.out.below hb4b); have HR34b := Lib.hid (HR34.out.below hb4b)
    rcases hpp : pathOfR n ys zs qs with ⟨pp, kp⟩
    have HPP := Lib.hid hpp
    have E5 := Lib.hid (by have := implPathOf_any n Y1 d1 ys Y2 d2 zs Y3 d3 qs w4b HY4.out.1 HY4.out.2.1 HY4.out.2.2; rw [hpp] at this; exact this)
    clear hm hk h1 h2 h3 hb4 hpp hb14 hb4b
    obtain ⟨x0, x1, x2, x3, x4, _⟩ := HN4.out
    simp only [Nat.zero_add] at x1 x2 x3 x4
    go_wp2_with fail
    rw [← hwn]
    clear x0 x1 x2 x3 x4 hwn
    refine E5.out.mono ?_
    rintro e w5 ⟨P5, k5, rfl, hk5, hr5, _, hb5⟩
    have HX5 := Lib.hid (And.intro (HX4b.out.1.below hb5) (And.intro (HX4b.out.2.1.below hb5) (HX4b.out.2.2.below hb5)))
    have HY5 := Lib.hid (And.intro (HY4.out.1.below hb5) (And.intro (HY4.out.2.1.below hb5) (HY4.out.2.2.below hb5)))
    have HM5 := Lib.hid (HM4b.out.below hb5); have HN5 := Lib.hid (HN4.out.below hb5)
    have HR25 := Lib.hid (HR24b.out.below hb5); have HR35 := Lib.hid (HR34b.out.below hb5)
    have HB5 := Lib.hid (HB4.out.trans (hb5.mono HB4.out.size))
    have HP5 := Lib.hid hr5
    have E6 := Lib.hid (by have := specPathOf_any n Y1 d1 ys Y2 d2 zs Y3 d3 qs w5 HY5.out.1 HY5.out.2.1 HY5.out.2.2; rw [HPP.out] at this; exact this)
    obtain ⟨x0, x1, x2, x3, x4, _⟩ := HN5.out
    simp only [Nat.zero_add] at x1 x2 x3 x4
    clear hb5 hr5
    go_wp2_with fail
    clear x0 x1 x2 x3 x4
    refine E6.out.mono ?_
    rintro e w6 ⟨P6, k6, rfl, hk6, hr6, _, hb6⟩
    have HX6 := Lib.hid (And.intro (HX5.out.1.below hb6) (And.intro (HX5.out.2.1.below hb6) (HX5.out.2.2.below hb6)))
    have HY6 := Lib.hid (And.intro (HY5.out.1.below hb6) (And.intro (HY5.out.2.1.below hb6) (HY5.out.2.2.below hb6)))
    have HM6 := Lib.hid (HM5.out.below hb6); have HN6 := Lib.hid (HN5.out.below hb6)
    have HR26 := Lib.hid (HR25.out.below hb6); have HR36 := Lib.hid (HR35.out.below hb6)
    have HP56 := Lib.hid (HP5.out.below hb6); have HP6 := Lib.hid hr6
    have HB6 := Lib.hid (HB5.out.trans (hb6.mono HB5.out.size))
    have E7 := Lib.hid (likeB (c := k2) (d := k3) HR26.out HR36.out)
    have E8 := Lib.hid (fun W (hW : Below w6.heap.size w6 W) => likeB (c := k5) (d := k6) (HP56.out.below hW) (HP6.out.below hW))
    clear hb6 hr6
    go_wp2_with fail
    refine E7.out.mono ?_
    rintro e w7 ⟨rfl, hb7⟩
    have HB7 := Lib.hid hb7
    clear hb7
    go_wp2_with fail
    refine (E8.out w7 HB7.out).mono ?_
    rintro e w8 ⟨rfl, hb8⟩
    have HB68 := Lib.hid (HB7.out.trans (hb8.mono HB7.out.size))
    clear hb8
    go_upto_if 92 with fail
    go_cut [19, 20] from 93 to 108 (fun _ _ wx => Below w8.heap.size w8 wx)
    case first =>
      by_cases hkp : kp = 0
      · subst hkp
        have hcy : cutsAtR n ys zs pp = (qs, 0) := by
          have := cuts_of_path (m := n) (ms := ys) (ls := zs) (cs := qs) (by rw [HPP.out])
          rw [HPP.out] at this; exact this
        have E9 := Lib.hid (by have := implCutsAt_any n Y1 d1 ys Y2 d2 zs P5 k5 pp w8 (HY6.out.1.below HB68.out) (HY6.out.2.1.below HB68.out) (HP56.out.below HB68.out); rw [hcy] at this; exact this)
        obtain ⟨x0, x1, x2, x3, x4, _⟩ := HN6.out.below HB68.out
        simp only [Nat.zero_add] at x1 x2 x3 x4
        clear hcy
        go_wp2_with fail
        clear x0 x1 x2 x3 x4
        refine E9.out.mono ?_
        rintro e w9 ⟨C9, k9, rfl, hk9, hr9, _, hb9⟩
        have E10 := Lib.hid (likeB (c := k9) (d := d3) hr9 ((HY6.out.2.2.below HB68.out).below hb9))
        have HB9 := Lib.hid hb9
        clear hr9 hb9
        go_wp2_with fail
        refine E10.out.mono ?_
        rintro e w10 ⟨rfl, hb10⟩
        have HB10 := Lib.hid (HB9.out.trans (hb10.mono HB9.out.size))
        clear hb10
        go_wp2_with fail
        go_meet
        exact HB10.out
      · have hkp' : (kp == 0) = false := by simpa using hkp
        go_wp2_with fail
        go_meet
        exact Below.refl _ _
    case rest =>
      have HBC0 := Lib.hid (HB68.out.trans (hcut.mono HB68.out.size))
      have HBC := Lib.hid (HB6.out.trans (HBC0.out.mono HB6.out.size))
      clear hcut
      by_cases hkc : kc = 0
      · subst hkc
        have hpx : pathOfR m xs ls cs = (ps, 0) := by
          have := path_of_cuts (m := m) (ms := xs) (ls := ls) (ps := ps) (by rw [HCC.out])
          rw [HCC.out] at this; exact this
        have E11 := Lib.hid (by have := implPathOf_any m A1 c1 xs A2 c2 ls C2 k2 cs wc (HX6.out.1.below HBC0.out) (HX6.out.2.1.below HBC0.out) (HR26.out.below HBC0.out); rw [hpx] at this; exact this)
        obtain ⟨x0, x1, x2, x3, x4, _⟩ := HM6.out.below HBC0.out
        simp only [Nat.zero_add] at x1 x2 x3 x4
        clear hpx
        go_wp2_with fail
        clear x0 x1 x2 x3 x4
        refine E11.out.mono ?_
        rintro e w11 ⟨C11, k11, rfl, hk11, hr11, _, hb11⟩
        have E12 := Lib.hid (likeB (c := k11) (d := c3) hr11 ((HX6.out.2.2.below HBC0.out).below hb11))
        have HB11 := Lib.hid (HBC.out.trans (hb11.mono HBC.out.size))
        clear hr11 hb11
        go_wp2_with fail
        refine E12.out.mono ?_
        rintro e w12 ⟨rfl, hb12⟩
        have HB12 := Lib.hid (HB11.out.trans (hb12.mono HB11.out.size))
        clear hb12
        go_wp2_with fail
        go_ret
        exact ⟨rfl, HB12.out⟩
      · have hkc' : (kc != 0) = true := by simpa using hkc
        clear hkc
        go_wp2_with fail
        go_ret
        exact ⟨rfl, HBC.out⟩
end Go.Proofs.Ytdkkkkfcpgkcnaa.fnPaths
