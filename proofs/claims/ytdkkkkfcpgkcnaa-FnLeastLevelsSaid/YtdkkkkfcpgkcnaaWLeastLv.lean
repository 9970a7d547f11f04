/- The walk of the law FnLeastLevels. -/
import Derived.Test.YtdkkkkfcpgkcnaaLike
import Derived.Test.YtdkkkkfcpgkcnaaDrLv2
import Derived.Test.YtdkkkkfcpgkcnaaPLvLaw
import Derived.Test.YtdkkkkfcpgkcnaaFLeastP
import Derived.Test.YtdkkkkfcpgkcnaaFLeastR
import Derived.Test.YtdkkkkfcpgkcnaaFCountAtI
import Derived.Deep.CutRange
namespace Go.Proofs.Ytdkkkkfcpgkcnaa.fnLeastLevels
set_option linter.unusedVariables false
open Go.RowKit
theorem likeB {A B : Option Addr} {c d : Nat} {xs : List Int} {w : World} (h : RI w A xs) (g : RI w B xs) :
    Calls Try.prog 22 #[.slice A xs.length c, .slice B xs.length d] w fun e w' => e = .returned (.bool true) ∧ Below w.heap.size w w' :=
  (likeInts_same A B c d xs w h g).mono fun e w' ⟨h1, n, h2⟩ => ⟨h1, by rw [h2]; exact belowD (Below.refl _ _) n⟩
set_option maxRecDepth 100000 in
set_option maxHeartbeats 8000000 in
theorem walk (A : Option Addr) (c : Nat) (bs : List Int) (w : World) (h : RCode w A bs) :
    Calls Try.prog 6 #[.slice A bs.length c] w fun e w' => e = .returned (.bool true) ∧ Below w.heap.size w w' := by
  have HC := Lib.hid h
  clear h
  by_cases hbig : (bs.length : Int) > 4096
  · have HBG := big_any A bs.length c w
    rw [decide_eq_true hbig] at HBG
    have HB := Lib.hid HBG
    clear hbig HBG
    go_enter Try.func6, Try.ntmps6
    go_wp2_with fail
    refine HB.out.mono ?_
    rintro e w1 ⟨rfl, rfl⟩
    go_wp2_with fail
    go_ret
    exact ⟨rfl, Below.refl _ _⟩
  · have HBG := big_any A bs.length c w
    rw [decide_eq_false hbig] at HBG
    have HB := Lib.hid HBG
    clear hbig HBG
    have HD1 := Lib.hid (drawLeastLevels_any A c bs w HC.out)
    go_enter Try.func6, Try.ntmps6
    go_wp2_with fail
    refine HB.out.mono ?_
    rintro e w1 ⟨rfl, rfl⟩
    go_wp2_with fail
    refine HD1.out.mono ?_
    rintro e w1 ⟨m, A1, c1, ns, rfl, hm, hk, h1, hb1⟩
    obtain ⟨w1b, hwm⟩ : ∃ wb, wb = w1.alloc (.cells #[.int .i64 m.c, .int .i64 m.d, .int .i64 m.s, .int .i64 m.a, .int .i64 m.l] 45) := ⟨_, rfl⟩
    have hbx : Below w1.heap.size w1 w1b := by rw [hwm]; exact (Below.refl _ _).alloc (Nat.le_refl _) _
    have HM1 := Lib.hid (show BoxC w1b w1.heap.size 0 (mkCells m) by rw [hwm]; exact BoxC.new (mkCells m) rfl)
    have HX1 := Lib.hid (h1.below hbx)
    have HB1 := Lib.hid (hb1.trans (hbx.mono hb1.size))
    clear hbx
    rcases hll : leastLevels m ns with ⟨l, kl⟩
    have HLL := Lib.hid hll
    have E2 := Lib.hid (by have := implLeast_any m A1 c1 ns w1b HX1.out; rw [hll] at this; exact this)
    clear hm hk h1 hb1 hll
    obtain ⟨x0, x1, x2, x3, x4, _⟩ := HM1.out
    simp only [Nat.zero_add] at x1 x2 x3 x4
    go_wp2_with fail
    rw [← hwm]
    clear x0 x1 x2 x3 x4 hwm
    refine E2.out.mono ?_
    rintro e w2 ⟨C2, k2, rfl, hk2, hr2, _, hb2⟩
    have HX2 := Lib.hid (HX1.out.below hb2)
    have HM2 := Lib.hid (HM1.out.below hb2)
    have HB2 := Lib.hid (HB1.out.trans (hb2.mono HB1.out.size))
    have HR2 := Lib.hid hr2
    have E3 := Lib.hid (by have := specLeast_any m A1 c1 ns w2 HX2.out; rw [HLL.out] at this; exact this)
    obtain ⟨x0, x1, x2, x3, x4, _⟩ := HM2.out
    simp only [Nat.zero_add] at x1 x2 x3 x4
    clear hb2 hr2
    go_wp2_with fail
    clear x0 x1 x2 x3 x4
    refine E3.out.mono ?_
    rintro e w3 ⟨C3, k3, rfl, hk3, hr3, _, hb3⟩
    have HX3 := Lib.hid (HX2.out.below hb3)
    have HM3 := Lib.hid (HM2.out.below hb3)
    have HB3 := Lib.hid (HB2.out.trans (hb3.mono HB2.out.size))
    have HR23 := Lib.hid (HR2.out.below hb3); have HR3 := Lib.hid hr3
    have HD4 := Lib.hid (drawCountKeysAt_any A c bs w3 (HC.out.below HB3.out))
    clear hb3 hr3
    go_wp2_with fail
    refine HD4.out.mono ?_
    rintro e w4 ⟨n, Y1, d1, ys, Y2, d2, zs, Y3, d3, qs, rfl, hm, hk, h1, h2, h3, hb4⟩
    have HX4 := Lib.hid (HX3.out.below hb4)
    have HM4 := Lib.hid (HM3.out.below hb4)
    have HR24 := Lib.hid (HR23.out.below hb4); have HR34 := Lib.hid (HR3.out.below hb4)
    have hb14 := HB3.out.trans (hb4.mono HB3.out.size)
    obtain ⟨w4b, hwn⟩ : ∃ wb, wb = w4.alloc (.cells #[.int .i64 n.c, .int .i64 n.d, .int .i64 n.s, .int .i64 n.a, .int .i64 n.l] 45) := ⟨_, rfl⟩
    have hbx : Below w4.heap.size w4 w4b := by rw [hwn]; exact (Below.refl _ _).alloc (Nat.le_refl _) _
    have HN4 := Lib.hid (show BoxC w4b w4.heap.size 0 (mkCells n) by rw [hwn]; exact BoxC.new (mkCells n) rfl)
    have HY4 := Lib.hid (And.intro (h1.below hbx) (And.intro (h2.below hbx) (h3.below hbx)))
    have HB4 := Lib.hid (hb14.trans (hbx.mono hb14.size))
    clear hbx
    have hb4b : Below w4.heap.size w4 w4b := by rw [hwn]; exact (Below.refl _ _).alloc (Nat.le_refl _) _
    have HX4b := Lib.hid (HX4.out.below hb4b)
    have HM4b := Lib.hid (HM4.out.below hb4b)
    have HR24b := Lib.hid (HR24.out.below hb4b); have HR34b := Lib.hid (HR34.out.below hb4b)
    rcases hpp : countAtR n ys zs qs with ⟨cnt, kp⟩
    have HPP := Lib.hid hpp
    have HKD := Lib.hid hk.2.1
    have E5 := Lib.hid (by have := implCountKeysAt_any n Y1 Y2 Y3 d1 d2 d3 ys zs qs w4b HY4.out.1 HY4.out.2.1 HY4.out.2.2 hk.2.1; rw [hpp] at this; exact this)
    clear hm hk h1 h2 h3 hb4 hpp hb14 hb4b
    obtain ⟨x0, x1, x2, x3, x4, _⟩ := HN4.out
    simp only [Nat.zero_add] at x1 x2 x3 x4
    go_wp2_with fail
    rw [← hwn]
    clear x0 x1 x2 x3 x4 hwn
    refine E5.out.mono ?_
    rintro e w5 ⟨rfl, hb5⟩
    have HX5 := Lib.hid (HX4b.out.below hb5)
    have HY5 := Lib.hid (And.intro (HY4.out.1.below hb5) (And.intro (HY4.out.2.1.below hb5) (HY4.out.2.2.below hb5)))
    have HM5 := Lib.hid (HM4b.out.below hb5); have HN5 := Lib.hid (HN4.out.below hb5)
    have HR25 := Lib.hid (HR24b.out.below hb5); have HR35 := Lib.hid (HR34b.out.below hb5)
    have HB5 := Lib.hid (HB4.out.trans (hb5.mono HB4.out.size))
    have E6 := Lib.hid (by have := specCountKeysAt_any n Y1 Y2 Y3 d1 d2 d3 ys zs qs w5 HY5.out.1 HY5.out.2.1 HY5.out.2.2; rw [HPP.out] at this; exact this)
    obtain ⟨x0, x1, x2, x3, x4, _⟩ := HN5.out
    simp only [Nat.zero_add] at x1 x2 x3 x4
    clear hb5
    go_wp2_with fail
    clear x0 x1 x2 x3 x4
    refine E6.out.mono ?_
    rintro e w6 ⟨rfl, hb6⟩
    have HX6 := Lib.hid (HX5.out.below hb6)
    have HY6 := Lib.hid (HY5.out.2.1.below hb6)
    have HM6 := Lib.hid (HM5.out.below hb6); have HN6 := Lib.hid (HN5.out.below hb6)
    have HR26 := Lib.hid (HR25.out.below hb6); have HR36 := Lib.hid (HR35.out.below hb6)
    have HB6 := Lib.hid (HB5.out.trans (hb6.mono HB5.out.size))
    have E7 := Lib.hid (likeB (c := k2) (d := k3) HR26.out HR36.out)
    clear hb6
    go_wp2_with fail
    refine E7.out.mono ?_
    rintro e w7 ⟨rfl, hb7⟩
    have HB7 := Lib.hid hb7
    clear hb7
    go_upto_if 90 with fail
    go_cut [17, 18, 19, 20, 21, 22] from 91 to 134 (fun _ _ _ _ _ _ wx => Below w7.heap.size w7 wx)
    case first =>
      by_cases hkp : kp = 0
      · subst hkp
        have CL := count_law (m := n) (ms := ys) (ls := zs) (ps := qs) (by rw [HPP.out])
        rw [HPP.out] at CL
        have HCL := Lib.hid CL
        have hls := levels_ok CL.1 CL.2.1
        obtain ⟨al, hal⟩ : ∃ al, al = sizesF n zs := ⟨_, rfl⟩
        rw [← hal] at hls
        have HAL := Lib.hid hal
        have HALN := Lib.hid (show al.length = zs.length by rw [hal]; simp [sizesF])
        have E8 := Lib.hid (by have := implLevelSizes_any n Y2 d2 zs w7 (HY6.out.below HB7.out); rw [hls] at this; exact this)
        have E9 := Lib.hid (fun W (hW : Below w7.heap.size w7 W) => by have := specLevelSizes_any n Y2 d2 zs W ((HY6.out.below HB7.out).below hW); rw [hls] at this; exact this)
        obtain ⟨x0, x1, x2, x3, x4, _⟩ := HN6.out.below HB7.out
        simp only [Nat.zero_add] at x1 x2 x3 x4
        clear CL hls hal
        go_wp2_with fail
        clear x0 x1 x2 x3 x4
        refine E8.out.mono ?_
        rintro e w8 ⟨C8, k8, rfl, hk8, hr8, _, hb8⟩
        have HB8 := Lib.hid hb8; have HR8 := Lib.hid hr8
        obtain ⟨x0, x1, x2, x3, x4, _⟩ := (HN6.out.below HB7.out).below hb8
        simp only [Nat.zero_add] at x1 x2 x3 x4
        clear hb8 hr8
        go_wp2_with fail
        clear x0 x1 x2 x3 x4
        refine (E9.out w8 HB8.out).mono ?_
        rintro e w9 ⟨C9, k9, rfl, hk9, hr9, _, hb9⟩
        have HB9 := Lib.hid (HB8.out.trans (hb9.mono HB8.out.size))
        have HR89 := Lib.hid (HR8.out.below hb9)
        have E10 := Lib.hid (likeB (c := k8) (d := k9) HR89.out hr9)
        clear hb9 hr9
        go_wp2_with fail
        refine E10.out.mono ?_
        rintro e w10 ⟨rfl, hb10⟩
        have HB10 := Lib.hid (HB9.out.trans (hb10.mono HB9.out.size))
        have HR10 := Lib.hid (HR89.out.below hb10)
        have hq := HCL.out.2.2.1
        have halen : al.length ≤ 9223372036854775807 := HR10.out.le
        have hqal : qs.length ≤ al.length := by have := HALN.out; omega
        clear hb10
        go_wp2_with fail
        go_loop [21, 22] (fun v i => ∃ k : Nat, i = .int .i64 k ∧ qs.length ≤ k ∧ k ≤ al.length ∧ v = .int .i64 (mostTo n zs qs.length k)) (fun _ i => al.length - (intOf i).toNat)
        case atStart => exact ⟨qs.length, rfl, Nat.le_refl _, hqal, by rw [mostTo_0]⟩
        case round =>
          obtain ⟨k, rfl, hqk, hk, rfl⟩ := hrel
          by_cases hlt : k < al.length
          · obtain ⟨b, o, hA, hcell⟩ := HR10.out.at_ hlt
            subst hA
            have hkz : k < zs.length := by have := HALN.out; omega
            have hy : al[k] = (n.d - 1) ^ zs[k].toNat := by
              have := size_at HCL.out.1 HCL.out.2.1 hkz
              simp only [HAL.out]; exact this
            have hms := mostTo_succ (m := n) (ls := zs) hqk hkz
            have hin := mostTo_in (m := n) (ls := zs) HCL.out.1 HCL.out.2.1 qs.length (k + 1)
            rw [← hy] at hms
            obtain ⟨y, hyy⟩ : ∃ y, y = al[k] := ⟨_, rfl⟩
            rw [← hyy] at hcell hms
            obtain ⟨M, hM⟩ : ∃ M, M = mostTo n zs qs.length k := ⟨_, rfl⟩
            obtain ⟨M', hM'⟩ : ∃ M', M' = mostTo n zs qs.length (k + 1) := ⟨_, rfl⟩
            rw [← hM, ← hM'] at hms
            rw [← hM'] at hin
            rw [← hM]
            have HM' := Lib.hid hM'
            have hw : IntKind.i64.wrap (M * y) = M' := by rw [← hms, IntKind.wrap_i64]; omega
            have i0 : (0 : Int) ≤ (k : Int) := by omega
            have i1 : (k : Int) < (al.length : Int) := by omega
            have HLT := Lib.hid hlt
            clear hM hM' hms hy hyy hin
            go_wp2_with fail
            go_round
            case rel => exact ⟨k + 1, by go_num, by omega, by have := HLT.out; omega, by first | rw [hw, HM'.out] | rw [HM'.out]⟩
            case measure => have := HLT.out; simp [intOf]; omega
          · obtain rfl : k = al.length := by omega
            have h4 := HCL.out.2.2.2
            rw [HALN.out]
            obtain ⟨M, hM⟩ : ∃ M, M = mostTo n zs qs.length zs.length := ⟨_, rfl⟩
            rw [← hM] at h4 ⊢
            have g1 : decide (cnt > M) = false := decide_eq_false (by omega)
            have g2 : decide (cnt < 0) = false := decide_eq_false (by omega)
            clear hM h4
            go_wp2_with fail
            go_meet
            exact HB10.out
      · have hkp' : (kp == 0) = false := by simpa using hkp
        go_wp2_with fail
        go_meet
        exact Below.refl _ _
    case rest =>
      have HBC0 := Lib.hid (HB7.out.trans (hcut.mono HB7.out.size))
      have HBC := Lib.hid (HB6.out.trans (HBC0.out.mono HB6.out.size))
      clear hcut
      by_cases hkc : kl = 0
      · subst hkc
        have LL := least_law (m := m) (ns := ns) (by rw [HLL.out])
        rw [HLL.out] at LL
        have hls := levels_ok LL.1 LL.2.1
        obtain ⟨al, hal⟩ : ∃ al, al = sizesF m l := ⟨_, rfl⟩
        simp only at LL
        rw [← hal] at hls LL
        have HLW := Lib.hid LL
        have HALN := Lib.hid (show al.length = ns.length by rw [hal]; simp [sizesF]; exact LL.2.2.1)
        have E8 := Lib.hid (by have := implLevelSizes_any m C2 k2 l wc (HR26.out.below HBC0.out); rw [hls] at this; exact this)
        have E9 := Lib.hid (fun W (hW : Below wc.heap.size wc W) => by have := specLevelSizes_any m C2 k2 l W ((HR26.out.below HBC0.out).below hW); rw [hls] at this; exact this)
        have HMC := Lib.hid (HM6.out.below HBC0.out)
        obtain ⟨x0, x1, x2, x3, x4, _⟩ := HMC.out
        simp only [Nat.zero_add] at x1 x2 x3 x4
        clear LL hls hal
        go_wp2_with fail
        clear x0 x1 x2 x3 x4
        refine E8.out.mono ?_
        rintro e w8 ⟨C8, k8, rfl, hk8, hr8, _, hb8⟩
        have HB8 := Lib.hid hb8; have HR8 := Lib.hid hr8
        obtain ⟨x0, x1, x2, x3, x4, _⟩ := HMC.out.below hb8
        simp only [Nat.zero_add] at x1 x2 x3 x4
        clear hb8 hr8
        go_wp2_with fail
        clear x0 x1 x2 x3 x4
        refine (E9.out w8 HB8.out).mono ?_
        rintro e w9 ⟨C9, k9, rfl, hk9, hr9, _, hb9⟩
        have HB9 := Lib.hid (HB8.out.trans (hb9.mono HB8.out.size))
        have HR89 := Lib.hid (HR8.out.below hb9)
        have E10 := Lib.hid (likeB (c := k8) (d := k9) HR89.out hr9)
        clear hb9 hr9
        go_wp2_with fail
        refine E10.out.mono ?_
        rintro e w10 ⟨rfl, hb10⟩
        have HB10 := Lib.hid (HB9.out.trans (hb10.mono HB9.out.size))
        have HR10 := Lib.hid (HR89.out.below hb10)
        have HX10 := Lib.hid (HX6.out.below (HBC0.out.trans (HB10.out.mono HBC0.out.size)))
        have HBW := Lib.hid (HBC.out.trans (HB10.out.mono HBC.out.size))
        have hln : (((al.length : Nat) : Int) != ((ns.length : Nat) : Int)) = false := by rw [HALN.out]; simp
        have hnl : ns.length ≤ 9223372036854775807 := HX10.out.le
        clear hb10
        go_wp2_with fail
        go_loopw [27] (fun i wr => ∃ k j : Nat, i = .int .i64 k ∧ k ≤ ns.length ∧ wr = w10.drewN j) (fun i _ => ns.length - (intOf i).toNat)
        case atStart => exact ⟨0, 0, rfl, by omega, rfl⟩
        case round =>
          obtain ⟨k, j, rfl, hk, rfl⟩ := hrel
          by_cases hlt : k < ns.length
          · obtain ⟨b, o, hA, hcell⟩ := HX10.out.at_ hlt
            subst hA
            have hka : k < al.length := by have := HALN.out; omega
            obtain ⟨b', o', hA', hcell'⟩ := HR10.out.at_ hka
            subst hA'
            have hge := HLW.out.2.2.2 k hlt
            have e : al.getD k 0 = al[k] := by simp [List.getD, List.getElem?_eq_getElem hka]
            rw [e] at hge
            obtain ⟨y, hy⟩ : ∃ y, y = al[k] := ⟨_, rfl⟩
            obtain ⟨z, hz⟩ : ∃ z, z = ns[k] := ⟨_, rfl⟩
            rw [← hy] at hcell' hge
            rw [← hz] at hcell hge
            have i0 : (0 : Int) ≤ (k : Int) := by omega
            have i1 : (k : Int) < (ns.length : Int) := by omega
            have i2 : (k : Int) < (al.length : Int) := by omega
            have g1 : decide (y < z) = false := decide_eq_false (by omega)
            have HLT := Lib.hid hlt
            clear hy hz e hge hln
            go_wp2_with fail
            go_quiet (fail)
            go_wp2_with fail
            go_roundw
            case rel => exact ⟨k + 1, _, by go_num, by have := HLT.out; omega, by first | exact World.drewN_drewN _ _ _ | rfl⟩
            case measure => have := HLT.out; simp [intOf]; omega
          · obtain rfl : k = ns.length := by omega
            clear hln
            go_wp2_with fail
            go_ret
            exact ⟨rfl, belowD HBW.out _⟩
      · have hkc' : (kl != 0) = true := by simpa using hkc
        clear hkc
        go_wp2_with fail
        go_ret
        exact ⟨rfl, HBC.out⟩
end Go.Proofs.Ytdkkkkfcpgkcnaa.fnLeastLevels
