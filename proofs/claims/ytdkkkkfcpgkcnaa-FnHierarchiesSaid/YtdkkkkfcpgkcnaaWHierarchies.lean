/- The walk of the law FnHierarchies. -/
import Derived.Test.YtdkkkkfcpgkcnaaLike
import Derived.Test.YtdkkkkfcpgkcnaaDrTab
import Derived.Test.YtdkkkkfcpgkcnaaFTab3
namespace Go.Proofs.Ytdkkkkfcpgkcnaa.fnHierarchies
set_option linter.unusedVariables false
open Go.RowKit
theorem likeB {A B : Option Addr} {c d : Nat} {xs : List Int} {w : World} (h : RI w A xs) (g : RI w B xs) :
    Calls Try.prog 22 #[.slice A xs.length c, .slice B xs.length d] w fun e w' => e = .returned (.bool true) ∧ Below w.heap.size w w' :=
  (likeInts_same A B c d xs w h g).mono fun e w' ⟨h1, n, h2⟩ => ⟨h1, by rw [h2]; exact belowD (Below.refl _ _) n⟩
set_option maxRecDepth 100000 in
set_option maxHeartbeats 8000000 in
theorem walk (A : Option Addr) (c : Nat) (bs : List Int) (w : World) (h : RCode w A bs) :
    Calls Try.prog 3 #[.slice A bs.length c] w fun e w' => e = .returned (.bool true) ∧ Below w.heap.size w w' := by
  have HC := Lib.hid h
  clear h
  by_cases hbig : (bs.length : Int) > 4096
  · have HBG := big_any A bs.length c w
    rw [decide_eq_true hbig] at HBG
    have HB := Lib.hid HBG
    clear hbig HBG
    go_enter Try.func3, Try.ntmps3
    go_wp2_with fail
    refine HB.out.mono ?_
    rintro e w1 ⟨rfl, rfl⟩
    go_wp2_with fail
    go_ret
    exact ⟨rfl, Below.refl _ _⟩
  · have HBG := big_any A bs.length c w
    rw [decide_eq_false hbig] at HBG
    have HB := Lib.hid HBG
    clear hbig HBG
    have HD1 := Lib.hid (drawHier_any A c bs w HC.out)
    go_enter Try.func3, Try.ntmps3
    go_wp2_with fail
    refine HB.out.mono ?_
    rintro e w1 ⟨rfl, rfl⟩
    go_wp2_with fail
    refine HD1.out.mono ?_
    rintro e w1 ⟨T, d, t, rfl, hd, hT, htl, hb1⟩
    have HT := Lib.hid hT; have HB1 := Lib.hid hb1
    rcases hh : hierR t with ⟨hb, hk⟩
    have E2 := Lib.hid (by have := implHier_any T d t w1 hT; rw [hh] at this; exact this)
    clear hT hb1
    go_wp2_with fail
    refine E2.out.mono ?_
    rintro e w2 ⟨rfl, hb2⟩
    have HT2 := Lib.hid (HT.out.below hb2)
    have HB2 := Lib.hid (HB1.out.trans (hb2.mono HB1.out.size))
    have E3 := Lib.hid (by have := specHier_any T d t w2 HT2.out; rw [hh] at this; exact this)
    clear hb2
    go_wp2_with fail
    refine E3.out.mono ?_
    rintro e w3 ⟨rfl, hb3⟩
    have HT3 := Lib.hid (HT2.out.below hb3)
    have HB3 := Lib.hid (HB2.out.trans (hb3.mono HB2.out.size))
    have HD4 := Lib.hid (drawCommon_any A c bs w3 (HC.out.below HB3.out))
    clear hb3
    go_wp2_with fail
    refine HD4.out.mono ?_
    rintro e w4 ⟨X, xd, x, a, b, rfl, hxd, hX, hxl, hab, hbb, hb4⟩
    have HT4 := Lib.hid (HT3.out.below hb4)
    have HB4 := Lib.hid (HB3.out.trans (hb4.mono HB3.out.size))
    have HX4 := Lib.hid hX; have HAB := Lib.hid (And.intro (wf_small hab) (wf_small hbb))
    rcases hc : commonR x a b with ⟨cs, kc⟩
    have E5 := Lib.hid (by have := implCommon_any X xd x a b w4 hX HAB.out.1 HAB.out.2; rw [hc] at this; exact this)
    clear hb4 hX hab hbb
    go_wp2_with fail
    refine E5.out.mono ?_
    rintro e w5 ⟨D5, c5, rfl, hc5, hr5, _, hb5⟩
    have HT5 := Lib.hid (HT4.out.below hb5)
    have HX5 := Lib.hid (HX4.out.below hb5)
    have HB5 := Lib.hid (HB4.out.trans (hb5.mono HB4.out.size))
    have HR5 := Lib.hid hr5
    have E6 := Lib.hid (by have := specCommon_any X xd x a b w5 HX5.out HAB.out.1 HAB.out.2; rw [hc] at this; exact this)
    clear hb5 hr5
    go_wp2_with fail
    refine E6.out.mono ?_
    rintro e w6 ⟨D6, c6, rfl, hc6, hr6, _, hb6⟩
    have HT6 := Lib.hid (HT5.out.below hb6)
    have HX6 := Lib.hid (HX5.out.below hb6)
    have HR56 := Lib.hid (HR5.out.below hb6)
    have HB6 := Lib.hid (HB5.out.trans (hb6.mono HB5.out.size))
    have HR6 := Lib.hid hr6
    have HD7 := Lib.hid (drawDoors_any A c bs w6 (HC.out.below HB6.out))
    clear hb6 hr6
    go_wp2_with fail
    refine HD7.out.mono ?_
    rintro e w7 ⟨Y, yd, y, key, rfl, hyd, hY, hyl, hkey, hb7⟩
    have HT7 := Lib.hid (HT6.out.below hb7)
    have HX7 := Lib.hid (HX6.out.below hb7)
    have HR57 := Lib.hid (HR56.out.below hb7); have HR67 := Lib.hid (HR6.out.below hb7)
    have HB7 := Lib.hid (HB6.out.trans (hb7.mono HB6.out.size))
    have HY7 := Lib.hid hY; have HKEY := Lib.hid (wf_small hkey)
    rcases hcn : doorsR y key with ⟨n, kn⟩
    have E8 := Lib.hid (by have := implDoors_any Y yd y key w7 hY HKEY.out; rw [hcn] at this; exact this)
    clear hb7 hY hkey
    go_wp2_with fail
    refine E8.out.mono ?_
    rintro e w8 ⟨rfl, hb8⟩
    have HT8 := Lib.hid (HT7.out.below hb8)
    have HX8 := Lib.hid (HX7.out.below hb8)
    have HR58 := Lib.hid (HR57.out.below hb8); have HR68 := Lib.hid (HR67.out.below hb8)
    have HB8 := Lib.hid (HB7.out.trans (hb8.mono HB7.out.size))
    have E9 := Lib.hid (by have := specDoors_any Y yd y key w8 (HY7.out.below hb8) HKEY.out; rw [hcn] at this; exact this)
    clear hb8
    go_wp2_with fail
    refine E9.out.mono ?_
    rintro e w9 ⟨rfl, hb9⟩
    have HT9 := Lib.hid (HT8.out.below hb9)
    have HX9 := Lib.hid (HX8.out.below hb9)
    have HR59 := Lib.hid (HR58.out.below hb9); have HR69 := Lib.hid (HR68.out.below hb9)
    have HB9 := Lib.hid (HB8.out.trans (hb9.mono HB8.out.size))
    have E10 := Lib.hid (likeB (c := c5) (d := c6) HR59.out HR69.out)
    clear hb9
    go_wp2_with fail
    refine E10.out.mono ?_
    rintro e w10 ⟨rfl, hb10⟩
    have HT10 := Lib.hid (HT9.out.below hb10)
    have HX10 := Lib.hid (HX9.out.below hb10)
    have HR510 := Lib.hid (HR59.out.below hb10)
    have HB10 := Lib.hid (HB9.out.trans (hb10.mono HB9.out.size))
    clear hb10
    by_cases hkc : kc = 0
    · subst hkc
      have E11 := Lib.hid (by have := implCommon_any X xd x b a w10 HX10.out HAB.out.2 HAB.out.1; rw [commonR_comm (by rw [hc]), hc] at this; exact this)
      go_wp2_with fail
      refine E11.out.mono ?_
      rintro e w11 ⟨D11, c11, rfl, hc11, hr11, _, hb11⟩
      have HT11 := Lib.hid (HT10.out.below hb11)
      have HB11 := Lib.hid (HB10.out.trans (hb11.mono HB10.out.size))
      have E12 := Lib.hid (likeB (c := c11) (d := c5) hr11 (HR510.out.below hb11))
      clear hr11 hb11
      go_wp2_with fail
      refine E12.out.mono ?_
      rintro e w12 ⟨rfl, hb12⟩
      have HT12 := Lib.hid (HT11.out.below hb12)
      have HB12 := Lib.hid (HB11.out.trans (hb12.mono HB11.out.size))
      clear hb12
      have HHH := Lib.hid hh
      clear hh
      by_cases hk0 : hk = 0
      · subst hk0
        cases hb with
        | false =>
          go_wp2_with fail
          go_ret
          exact ⟨rfl, HB12.out⟩
        | true =>
          go_wp2_with fail
          go_loopw [23, 24, 25, 26, 27, 28, 29, 30] (fun i _ _ _ _ _ _ _ wr => ∃ k : Nat, i = .int .i64 k ∧ k ≤ t.length ∧ Below w12.heap.size w12 wr) (fun i _ _ _ _ _ _ _ _ => t.length - (intOf i).toNat)
          case atStart => exact ⟨0, rfl, by omega, Below.refl _ _⟩
          case round =>
            obtain ⟨i, rfl, hi, hbo⟩ := hrel
            obtain ⟨wo, rfl⟩ : ∃ wo : World, wo = wr := ⟨_, rfl⟩
            have HTo := Lib.hid (HT12.out.below hbo)
            by_cases hlt : i < t.length
            · have i0 : (0 : Int) ≤ (i : Int) := by omega
              have okI := contIn_ok (t := t) (key := (i : Int)) (by
                have := HHH.out; unfold hierR at this; split at this
                · assumption
                · simp at this) (by omega) (by omega)
              obtain ⟨ins, hin⟩ : ∃ ins, contIn leAll t (i : Int) = (ins, 0) := ⟨(contIn leAll t (i : Int)).1, by rw [← okI]⟩
              have E1 := Lib.hid (by have := implContIn_any T d t (i : Int) wo HTo.out (wf_small ⟨by omega, by omega⟩); rw [hin] at this; exact this)
              have HIN := Lib.hid hin
              clear okI hin
              go_wp2_with fail
              refine E1.out.mono ?_
              rintro e w1' ⟨I1, ci, rfl, hci, hri, _, hbi⟩
              have HBi := Lib.hid (hbo.trans (hbi.mono hbo.size))
              have HTi := Lib.hid (HTo.out.below hbi)
              have HRi := Lib.hid hri
              clear hbi hri
              go_wp2_with fail
              go_loopw [26, 27, 28, 29, 30] (fun j _ _ _ _ wx => ∃ k : Nat, j = .int .i64 k ∧ k ≤ i ∧ Below w1'.heap.size w1' wx) (fun j _ _ _ _ _ => i - (intOf j).toNat)
              case atStart => exact ⟨0, rfl, by omega, Below.refl _ _⟩
              case round =>
                obtain ⟨k, rfl, hk, hbx⟩ := hrel
                obtain ⟨wx, rfl⟩ : ∃ wx : World, wx = wr := ⟨_, rfl⟩
                have Bx := HBi.out.trans (hbx.mono HBi.out.size)
                by_cases hlt2 : k < i
                · have i4 : (k : Int) < (i : Int) := by omega
                  have L := hier_law HHH.out hlt hlt2
                  obtain ⟨oth, hoth⟩ : ∃ oth, contIn leAll t (k : Int) = (oth, 0) := ⟨(contIn leAll t (k : Int)).1, by rw [← L.2.1]⟩
                  obtain ⟨cm, hcm⟩ : ∃ cm, commonR t (i : Int) (k : Int) = (cm, 0) := ⟨(commonR t (i : Int) (k : Int)).1, by rw [← L.2.2.1]⟩
                  have L3 := L.2.2.2
                  rw [HIN.out, hoth, hcm] at L3
                  have HL3 := Lib.hid L3
                  have E2 := Lib.hid (by have := implContIn_any T d t (k : Int) wx (HTi.out.below hbx) (wf_small ⟨by omega, by omega⟩); rw [hoth] at this; exact this)
                  have E3 := Lib.hid (fun W (hW : Below wx.heap.size wx W) => by have := implCommon_any T d t (i : Int) (k : Int) W ((HTi.out.below hbx).below hW) (wf_small ⟨by omega, by omega⟩) (wf_small ⟨by omega, by omega⟩); rw [hcm] at this; exact this)
                  clear L L3 hoth hcm
                  go_wp2_with fail
                  refine E2.out.mono ?_
                  rintro e w2' ⟨O2, co, rfl, hco, hro, _, hbo2⟩
                  have HRO := Lib.hid hro
                  have HBO2 := Lib.hid hbo2
                  clear hro hbo2
                  go_wp2_with fail
                  refine (E3.out w2' HBO2.out).mono ?_
                  rintro e w3' ⟨C3, cc, rfl, hcc, hrc, _, hbc⟩
                  have hb3' := HBO2.out.trans (hbc.mono HBO2.out.size)
                  have HB3 := Lib.hid hb3'
                  have HI3 := Lib.hid (hasInt_any I1 ci ins (k : Int) w3' ((HRi.out.below hbx).below hb3'))
                  have HO3 := Lib.hid (hasInt_any O2 co oth (i : Int) w3' (HRO.out.below hbc))
                  clear hb3' hrc hbc
                  by_cases hz : 0 < cm.length
                  · have hzz : (0 : Int) < (cm.length : Int) := by omega
                    have hcne : cm ≠ [] := by rintro rfl; simp at hz
                    cases h1 : hasI ins (k : Int) with
                    | true =>
                      rw [h1] at HI3
                      clear h1 hz
                      go_wp2_with fail
                      refine HI3.out.mono ?_
                      rintro e w4' ⟨rfl, rfl⟩
                      go_wp2_with fail
                      go_roundw
                      case rel => exact ⟨k + 1, by go_num, by omega, hbx.trans (HB3.out.mono hbx.size)⟩
                      case measure => simp [intOf]; omega
                    | false =>
                      rw [h1] at HI3
                      have h2 := HL3.out hz h1
                      rw [h2] at HO3
                      clear h1 h2 hz
                      go_wp2_with fail
                      refine HI3.out.mono ?_
                      rintro e w4' ⟨rfl, rfl⟩
                      go_wp2_with fail
                      refine HO3.out.mono ?_
                      rintro e w4' ⟨rfl, rfl⟩
                      go_wp2_with fail
                      go_roundw
                      case rel => exact ⟨k + 1, by go_num, by omega, hbx.trans (HB3.out.mono hbx.size)⟩
                      case measure => simp [intOf]; omega
                  · have hcn : cm = [] := List.length_eq_zero_iff.1 (by omega)
                    subst hcn
                    go_wp2_with fail
                    go_roundw
                    case rel => exact ⟨k + 1, by go_num, by omega, hbx.trans (HB3.out.mono hbx.size)⟩
                    case measure => simp [intOf]; omega
                · obtain rfl : k = i := by omega
                  go_wp2_with fail
                  go_roundw
                  case rel => exact ⟨k + 1, by go_num, by omega, Bx⟩
                  case measure => simp [intOf]; omega
            · obtain rfl : i = t.length := by omega
              go_wp2_with fail
              go_ret
              exact ⟨rfl, HB12.out.trans (hbo.mono HB12.out.size)⟩
      · have hk0' : (hk != 0) = true := by simpa using hk0
        clear hk0
        go_wp2_with fail
        go_ret
        exact ⟨rfl, HB12.out⟩
    · have hkc' : (kc == 0) = false := by simpa using hkc
      clear hkc
      have HHH := Lib.hid hh
      clear hh
      by_cases hk0 : hk = 0
      · subst hk0
        cases hb with
        | false =>
          go_wp2_with fail
          go_ret
          exact ⟨rfl, HB10.out⟩
        | true =>
          go_wp2_with fail
          go_loopw [23, 24, 25, 26, 27, 28, 29, 30] (fun i _ _ _ _ _ _ _ wr => ∃ k : Nat, i = .int .i64 k ∧ k ≤ t.length ∧ Below w10.heap.size w10 wr) (fun i _ _ _ _ _ _ _ _ => t.length - (intOf i).toNat)
          case atStart => exact ⟨0, rfl, by omega, Below.refl _ _⟩
          case round =>
            obtain ⟨i, rfl, hi, hbo⟩ := hrel
            obtain ⟨wo, rfl⟩ : ∃ wo : World, wo = wr := ⟨_, rfl⟩
            have HTo := Lib.hid (HT10.out.below hbo)
            by_cases hlt : i < t.length
            · have i0 : (0 : Int) ≤ (i : Int) := by omega
              have okI := contIn_ok (t := t) (key := (i : Int)) (by
                have := HHH.out; unfold hierR at this; split at this
                · assumption
                · simp at this) (by omega) (by omega)
              obtain ⟨ins, hin⟩ : ∃ ins, contIn leAll t (i : Int) = (ins, 0) := ⟨(contIn leAll t (i : Int)).1, by rw [← okI]⟩
              have E1 := Lib.hid (by have := implContIn_any T d t (i : Int) wo HTo.out (wf_small ⟨by omega, by omega⟩); rw [hin] at this; exact this)
              have HIN := Lib.hid hin
              clear okI hin
              go_wp2_with fail
              refine E1.out.mono ?_
              rintro e w1' ⟨I1, ci, rfl, hci, hri, _, hbi⟩
              have HBi := Lib.hid (hbo.trans (hbi.mono hbo.size))
              have HTi := Lib.hid (HTo.out.below hbi)
              have HRi := Lib.hid hri
              clear hbi hri
              go_wp2_with fail
              go_loopw [26, 27, 28, 29, 30] (fun j _ _ _ _ wx => ∃ k : Nat, j = .int .i64 k ∧ k ≤ i ∧ Below w1'.heap.size w1' wx) (fun j _ _ _ _ _ => i - (intOf j).toNat)
              case atStart => exact ⟨0, rfl, by omega, Below.refl _ _⟩
              case round =>
                obtain ⟨k, rfl, hk, hbx⟩ := hrel
                obtain ⟨wx, rfl⟩ : ∃ wx : World, wx = wr := ⟨_, rfl⟩
                have Bx := HBi.out.trans (hbx.mono HBi.out.size)
                by_cases hlt2 : k < i
                · have i4 : (k : Int) < (i : Int) := by omega
                  have L := hier_law HHH.out hlt hlt2
                  obtain ⟨oth, hoth⟩ : ∃ oth, contIn leAll t (k : Int) = (oth, 0) := ⟨(contIn leAll t (k : Int)).1, by rw [← L.2.1]⟩
                  obtain ⟨cm, hcm⟩ : ∃ cm, commonR t (i : Int) (k : Int) = (cm, 0) := ⟨(commonR t (i : Int) (k : Int)).1, by rw [← L.2.2.1]⟩
                  have L3 := L.2.2.2
                  rw [HIN.out, hoth, hcm] at L3
                  have HL3 := Lib.hid L3
                  have E2 := Lib.hid (by have := implContIn_any T d t (k : Int) wx (HTi.out.below hbx) (wf_small ⟨by omega, by omega⟩); rw [hoth] at this; exact this)
                  have E3 := Lib.hid (fun W (hW : Below wx.heap.size wx W) => by have := implCommon_any T d t (i : Int) (k : Int) W ((HTi.out.below hbx).below hW) (wf_small ⟨by omega, by omega⟩) (wf_small ⟨by omega, by omega⟩); rw [hcm] at this; exact this)
                  clear L L3 hoth hcm
                  go_wp2_with fail
                  refine E2.out.mono ?_
                  rintro e w2' ⟨O2, co, rfl, hco, hro, _, hbo2⟩
                  have HRO := Lib.hid hro
                  have HBO2 := Lib.hid hbo2
                  clear hro hbo2
                  go_wp2_with fail
                  refine (E3.out w2' HBO2.out).mono ?_
                  rintro e w3' ⟨C3, cc, rfl, hcc, hrc, _, hbc⟩
                  have hb3' := HBO2.out.trans (hbc.mono HBO2.out.size)
                  have HB3 := Lib.hid hb3'
                  have HI3 := Lib.hid (hasInt_any I1 ci ins (k : Int) w3' ((HRi.out.below hbx).below hb3'))
                  have HO3 := Lib.hid (hasInt_any O2 co oth (i : Int) w3' (HRO.out.below hbc))
                  clear hb3' hrc hbc
                  by_cases hz : 0 < cm.length
                  · have hzz : (0 : Int) < (cm.length : Int) := by omega
                    have hcne : cm ≠ [] := by rintro rfl; simp at hz
                    cases h1 : hasI ins (k : Int) with
                    | true =>
                      rw [h1] at HI3
                      clear h1 hz
                      go_wp2_with fail
                      refine HI3.out.mono ?_
                      rintro e w4' ⟨rfl, rfl⟩
                      go_wp2_with fail
                      go_roundw
                      case rel => exact ⟨k + 1, by go_num, by omega, hbx.trans (HB3.out.mono hbx.size)⟩
                      case measure => simp [intOf]; omega
                    | false =>
                      rw [h1] at HI3
                      have h2 := HL3.out hz h1
                      rw [h2] at HO3
                      clear h1 h2 hz
                      go_wp2_with fail
                      refine HI3.out.mono ?_
                      rintro e w4' ⟨rfl, rfl⟩
                      go_wp2_with fail
                      refine HO3.out.mono ?_
                      rintro e w4' ⟨rfl, rfl⟩
                      go_wp2_with fail
                      go_roundw
                      case rel => exact ⟨k + 1, by go_num, by omega, hbx.trans (HB3.out.mono hbx.size)⟩
                      case measure => simp [intOf]; omega
                  · have hcn : cm = [] := List.length_eq_zero_iff.1 (by omega)
                    subst hcn
                    go_wp2_with fail
                    go_roundw
                    case rel => exact ⟨k + 1, by go_num, by omega, hbx.trans (HB3.out.mono hbx.size)⟩
                    case measure => simp [intOf]; omega
                · obtain rfl : k = i := by omega
                  go_wp2_with fail
                  go_roundw
                  case rel => exact ⟨k + 1, by go_num, by omega, Bx⟩
                  case measure => simp [intOf]; omega
            · obtain rfl : i = t.length := by omega
              go_wp2_with fail
              go_ret
              exact ⟨rfl, HB10.out.trans (hbo.mono HB10.out.size)⟩
      · have hk0' : (hk != 0) = true := by simpa using hk0
        clear hk0
        go_wp2_with fail
        go_ret
        exact ⟨rfl, HB10.out⟩
end Go.Proofs.Ytdkkkkfcpgkcnaa.fnHierarchies
