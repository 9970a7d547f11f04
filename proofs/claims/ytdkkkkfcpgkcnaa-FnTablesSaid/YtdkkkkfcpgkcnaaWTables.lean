/- The walk of the law FnTables. -/
import Derived.Test.YtdkkkkfcpgkcnaaLike
import Derived.Test.YtdkkkkfcpgkcnaaDrTab
import Derived.Test.YtdkkkkfcpgkcnaaPTab
import Derived.Test.YtdkkkkfcpgkcnaaFEqual
import Derived.Deep.CutRange
namespace Go.Proofs.Ytdkkkkfcpgkcnaa
theorem cont_ok_doors {t : List (List Int)} {key : Int} (h : (contIn leAll t key).2 = 0) : (doorsR t key).2 = 0 ∧ isTable t = true := by
  unfold contIn at h
  split at h
  · rename_i h1
    split at h
    · rename_i h2
      have hk := inB_iff'.1 h2
      have c2 : tableCode t [key] = 0 := tableCode_0.2 ⟨h1, fun z hz => by simp at hz; subst hz; omega⟩
      exact ⟨by unfold doorsR; rw [if_pos c2], h1⟩
    · simp at h
  · simp at h
theorem cont_mem_bound {t : List (List Int)} {key : Int} {x : Int} (hx : x ∈ (contIn leAll t key).1) : 0 ≤ x ∧ x < t.length := by
  unfold contIn at hx
  split at hx
  · split at hx
    · obtain ⟨k, rfl, hk, _⟩ := selG_mem.1 hx
      omega
    · simp at hx
  · simp at hx
end Go.Proofs.Ytdkkkkfcpgkcnaa
namespace Go.Proofs.Ytdkkkkfcpgkcnaa.fnTables
set_option linter.unusedVariables false
open Go.RowKit
def CutT (us : List (List Int)) (ku : Int) (v : Value) : Prop := v = .bool false ∨ (v = .bool true ∧ ku = 0 ∧ isTable us = true)
theorem likeB {A B : Option Addr} {c d : Nat} {xs : List Int} {w : World} (h : RI w A xs) (g : RI w B xs) :
    Calls Try.prog 22 #[.slice A xs.length c, .slice B xs.length d] w fun e w' => e = .returned (.bool true) ∧ Below w.heap.size w w' :=
  (likeInts_same A B c d xs w h g).mono fun e w' ⟨h1, n, h2⟩ => ⟨h1, by rw [h2]; exact belowD (Below.refl _ _) n⟩
theorem likeBB {A B : Option Addr} {c d : Nat} {xss : List (List Int)} {w : World} (h : RII w A xss) (g : RII w B xss) :
    Calls Try.prog 32 #[.slice A xss.length c, .slice B xss.length d] w fun e w' => e = .returned (.bool true) ∧ Below w.heap.size w w' :=
  (likeLists_same A B c d xss w h g).mono fun e w' ⟨h1, n, h2⟩ => ⟨h1, by rw [h2]; exact belowD (Below.refl _ _) n⟩
set_option maxRecDepth 100000 in
set_option maxHeartbeats 8000000 in
theorem walk (A : Option Addr) (c : Nat) (bs : List Int) (w : World) (h : RCode w A bs) :
    Calls Try.prog 4 #[.slice A bs.length c] w fun e w' => e = .returned (.bool true) ∧ Below w.heap.size w w' := by
  have HC := Lib.hid h
  clear h
  by_cases hbig : (bs.length : Int) > 4096
  · have HBG := big_any A bs.length c w
    rw [decide_eq_true hbig] at HBG
    have HB := Lib.hid HBG
    clear hbig HBG
    go_enter Try.func4, Try.ntmps4
    go_wp2_with fail
    refine HB.out.mono ?_
    rintro e w1 ⟨rfl, rfl⟩
    go_wp2_with fail
    go_ret
    exact ⟨rfl, Below.refl _ _⟩
  · have HBG := big_any A bs.length c w
    rw [decide_eq_false hbig] at HBG
    have HB := Lib.hid HBG
    clear hbig HBG
    have HD1 := Lib.hid (drawContIn_any A c bs w HC.out)
    go_enter Try.func4, Try.ntmps4
    go_wp2_with fail
    refine HB.out.mono ?_
    rintro e w1 ⟨rfl, rfl⟩
    go_wp2_with fail
    refine HD1.out.mono ?_
    rintro e w1 ⟨T, d, t, key, rfl, hd, hT, htl, hkey, hb1⟩
    have HT := Lib.hid hT; have HB1 := Lib.hid hb1; have HKEY := Lib.hid (wf_small hkey)
    rcases hh : contIn leAll t key with ⟨cs, kc⟩
    have HHH := Lib.hid hh
    have E2 := Lib.hid (by have := implContIn_any T d t key w1 hT HKEY.out; rw [hh] at this; exact this)
    clear hT hb1 hkey hh
    go_wp2_with fail
    refine E2.out.mono ?_
    rintro e w2 ⟨C2, c2, rfl, hc2, hr2, _, hb2⟩
    have HT2 := Lib.hid (HT.out.below hb2)
    have HB2 := Lib.hid (HB1.out.trans (hb2.mono HB1.out.size))
    have HR2 := Lib.hid hr2
    have E3 := Lib.hid (by have := specContIn_any T d t key w2 HT2.out HKEY.out; rw [HHH.out] at this; exact this)
    clear hb2 hr2
    go_wp2_with fail
    refine E3.out.mono ?_
    rintro e w3 ⟨C3, c3, rfl, hc3, hr3, _, hb3⟩
    have HT3 := Lib.hid (HT2.out.below hb3)
    have HB3 := Lib.hid (HB2.out.trans (hb3.mono HB2.out.size))
    have HR23 := Lib.hid (HR2.out.below hb3); have HR3 := Lib.hid hr3
    have HD4 := Lib.hid (drawTurn_any A c bs w3 (HC.out.below HB3.out))
    clear hb3 hr3
    go_wp2_with fail
    refine HD4.out.mono ?_
    rintro e w4 ⟨X, xd, x, rfl, hxd, hX, hxl, hb4⟩
    have HT4 := Lib.hid (HT3.out.below hb4); have HR24 := Lib.hid (HR23.out.below hb4); have HR34 := Lib.hid (HR3.out.below hb4)
    have HB4 := Lib.hid (HB3.out.trans (hb4.mono HB3.out.size))
    have HX4 := Lib.hid hX
    rcases hu : turnR x with ⟨us, ku⟩
    have HUU := Lib.hid hu
    have E5 := Lib.hid (by have := implTurn_any X xd x w4 hX; rw [hu] at this; exact this)
    clear hb4 hX hu
    go_wp2_with fail
    refine E5.out.mono ?_
    rintro e w5 ⟨U5, u5, rfl, hu5, hr5, _, hb5⟩
    have HT5 := Lib.hid (HT4.out.below hb5); have HR25 := Lib.hid (HR24.out.below hb5); have HR35 := Lib.hid (HR34.out.below hb5)
    have HX5 := Lib.hid (HX4.out.below hb5)
    have HB5 := Lib.hid (HB4.out.trans (hb5.mono HB4.out.size))
    have HU5 := Lib.hid hr5
    have E6 := Lib.hid (by have := specTurn_any X xd x w5 HX5.out; rw [HUU.out] at this; exact this)
    clear hb5 hr5
    go_wp2_with fail
    refine E6.out.mono ?_
    rintro e w6 ⟨U6, u6, rfl, hu6, hr6, _, hb6⟩
    have HT6 := Lib.hid (HT5.out.below hb6); have HR26 := Lib.hid (HR25.out.below hb6); have HR36 := Lib.hid (HR35.out.below hb6)
    have HX6 := Lib.hid (HX5.out.below hb6); have HU56 := Lib.hid (HU5.out.below hb6); have HU6 := Lib.hid hr6
    have HB6 := Lib.hid (HB5.out.trans (hb6.mono HB5.out.size))
    rcases he : equalRows x with ⟨es, ke⟩
    have HEE := Lib.hid he
    have E7 := Lib.hid (by have := implEqual_any X xd x w6 HX6.out; rw [he] at this; exact this)
    clear hb6 hr6 he
    go_wp2_with fail
    refine E7.out.mono ?_
    rintro e w7 ⟨F7, f7, rfl, hf7, hr7, _, hb7⟩
    have HT7 := Lib.hid (HT6.out.below hb7); have HR27 := Lib.hid (HR26.out.below hb7); have HR37 := Lib.hid (HR36.out.below hb7)
    have HX7 := Lib.hid (HX6.out.below hb7); have HU57 := Lib.hid (HU56.out.below hb7); have HU67 := Lib.hid (HU6.out.below hb7)
    have HB7 := Lib.hid (HB6.out.trans (hb7.mono HB6.out.size))
    have HF7 := Lib.hid hr7
    have E8 := Lib.hid (by have := specEqual_any X xd x w7 HX7.out; rw [HEE.out] at this; exact this)
    clear hb7 hr7
    go_wp2_with fail
    refine E8.out.mono ?_
    rintro e w8 ⟨F8, f8, rfl, hf8, hr8, _, hb8⟩
    have HT8 := Lib.hid (HT7.out.below hb8); have HR28 := Lib.hid (HR27.out.below hb8)
    have HX8 := Lib.hid (HX7.out.below hb8); have HU58 := Lib.hid (HU57.out.below hb8); have HU68 := Lib.hid (HU67.out.below hb8)
    have HR38 := Lib.hid (HR37.out.below hb8)
    have HF78 := Lib.hid (HF7.out.below hb8); have HF8 := Lib.hid hr8
    have HB8 := Lib.hid (HB7.out.trans (hb8.mono HB7.out.size))
    have E9 := Lib.hid (likeB (c := c2) (d := c3) HR28.out HR38.out)
    have E10 := Lib.hid (fun W (hW : Below w8.heap.size w8 W) => likeBB (c := u5) (d := u6) (HU58.out.below hW) (HU68.out.below hW))
    have E11 := Lib.hid (fun W (hW : Below w8.heap.size w8 W) => likeB (c := f7) (d := f8) (HF78.out.below hW) (HF8.out.below hW))
    have E12 := Lib.hid (fun W (hW : Below w8.heap.size w8 W) => implIsTable_any X xd x W (HX8.out.below hW))
    clear hb8 hr8
    go_wp2_with fail
    refine E9.out.mono ?_
    rintro e w9 ⟨rfl, hb9⟩
    have HB9 := Lib.hid hb9
    clear hb9
    go_wp2_with fail
    refine (E10.out w9 HB9.out).mono ?_
    rintro e w10 ⟨rfl, hb10⟩
    have HB10 := Lib.hid (HB9.out.trans (hb10.mono HB9.out.size))
    clear hb10
    go_wp2_with fail
    refine (E11.out w10 HB10.out).mono ?_
    rintro e w11 ⟨rfl, hb11⟩
    have HB11 := Lib.hid (HB10.out.trans (hb11.mono HB10.out.size))
    clear hb11
    have HXT := Lib.hid (show isTable x = (ku == 0) by
      have := HUU.out
      unfold turnR at this
      split at this
      · rename_i h1; injection this with _ this; rw [h1, ← this]; rfl
      · rename_i h1; injection this with _ this; rw [← this]; simpa using h1)
    go_wp2_with fail
    refine (E12.out w11 HB11.out).mono ?_
    rintro e w12 ⟨rfl, rfl⟩
    rw [HXT.out]
    go_upto_region 13 with fail
    go_cut [111] from 106 to 111 (fun v wx => CutT us ku v ∧ w11 = wx)
    case first =>
      by_cases hk0 : ku = 0
      · subst hk0
        have E13 := Lib.hid (implIsTable_any U5 u5 us w11 (HU58.out.below HB11.out))
        cases hb : isTable us with
        | true =>
          rw [hb] at E13
          go_wp2_with fail
          refine E13.out.mono ?_
          rintro e w13 ⟨rfl, rfl⟩
          go_wp2_with fail
          go_meet
          exact ⟨.inr ⟨rfl, rfl, hb⟩, rfl⟩
        | false =>
          rw [hb] at E13
          go_wp2_with fail
          refine E13.out.mono ?_
          rintro e w13 ⟨rfl, rfl⟩
          go_wp2_with fail
          go_meet
          exact ⟨.inl rfl, rfl⟩
      · have hk0' : (ku == 0) = false := by simpa using hk0
        go_wp2_with fail
        go_meet
        exact ⟨.inl rfl, rfl⟩
    case rest =>
      obtain ⟨hv, rfl⟩ := hcut
      have HV := Lib.hid hv
      clear hv
      go_upto_if 111 with fail
      go_cut [18, 19] from 112 to 124 (fun _ _ wx => Below w11.heap.size w11 wx)
      case first =>
        rcases HV.out with hv | ⟨hv, hk0, hb⟩
        · subst hv
          go_wp2_with fail
          go_meet
          exact Below.refl _ _
        · subst hv hk0
          have E14 := Lib.hid (implTurn_any U5 u5 us w11 (HU58.out.below HB11.out))
          have hcx : turnR us = (x, 0) := by
            have := turn_twice (x := x) (by rw [HUU.out]) (by rw [HUU.out]; exact hb)
            rw [HUU.out] at this; exact this
          rw [hcx] at E14
          clear hcx hb HV
          go_wp2_with fail
          refine E14.out.mono ?_
          rintro e w14 ⟨K14, k14, rfl, hk14, hr14, _, hb14⟩
          have E15 := Lib.hid (likeBB (c := k14) (d := xd) hr14 (HX8.out.below (HB11.out.trans (hb14.mono HB11.out.size))))
          have HB14 := Lib.hid hb14
          clear hr14 hb14
          go_wp2_with fail
          refine E15.out.mono ?_
          rintro e w15 ⟨rfl, hb15⟩
          have HB15 := Lib.hid hb15
          clear hb15
          go_wp2_with fail
          go_meet
          exact HB14.out.trans (HB15.out.mono HB14.out.size)
      case rest =>
        have HBC := Lib.hid (HB8.out.trans ((HB11.out.trans (hcut.mono HB11.out.size)).mono HB8.out.size))
        have HTC := Lib.hid (HT8.out.below (HB11.out.trans (hcut.mono HB11.out.size)))
        have HRC := Lib.hid (HR38.out.below (HB11.out.trans (hcut.mono HB11.out.size)))
        have hcl := HRC.out.le
        clear hcut
        by_cases hk0 : kc = 0
        · subst hk0
          have hd0 := cont_ok_doors (t := t) (key := key) (by rw [HHH.out])
          obtain ⟨n, hn⟩ : ∃ n, doorsR t key = (n, 0) := ⟨(doorsR t key).1, by rw [← hd0.1]⟩
          have HDN := Lib.hid hn
          have E16 := Lib.hid (by have := implDoors_any T d t key wc HTC.out HKEY.out; rw [hn] at this; exact this)
          clear hd0 hn
          go_wp2_with fail
          refine E16.out.mono ?_
          rintro e w16 ⟨rfl, hb16⟩
          have HB16 := Lib.hid (HBC.out.trans (hb16.mono HBC.out.size))
          have HT16 := Lib.hid (HTC.out.below hb16)
          have HR16 := Lib.hid (HRC.out.below hb16)
          clear hb16
          go_wp2_with fail
          go_loopw [22, 23, 24, 25, 26] (fun i _ _ _ _ wr => ∃ k : Nat, i = .int .i64 k ∧ k ≤ cs.length ∧ Below w16.heap.size w16 wr) (fun i _ _ _ _ _ => cs.length - (intOf i).toNat)
          case atStart => exact ⟨0, rfl, by omega, Below.refl _ _⟩
          case round =>
            obtain ⟨i, rfl, hi, hbo⟩ := hrel
            by_cases hlt : i < cs.length
            · have hmem : cs[i] ∈ (contIn leAll t key).1 := by rw [HHH.out]; exact List.getElem_mem hlt
              have L := cont_law (t := t) (key := key) (by rw [HHH.out]) hmem
              have hbd := cont_mem_bound hmem
              obtain ⟨y, hy⟩ : ∃ y, y = cs[i] := ⟨_, rfl⟩
              obtain ⟨b, o, hA, hcell⟩ := (HR16.out.below hbo).at_ hlt
              subst hA
              rw [← hy] at L hbd hcell
              obtain ⟨le, hle⟩ : ∃ le, doorsR t y = (le, 0) := ⟨(doorsR t y).1, by rw [← L.1]⟩
              obtain ⟨cm, hcm⟩ : ∃ cm, commonR t y key = (cm, 0) := ⟨(commonR t y key).1, by rw [← L.2.2.1]⟩
              have L4 := L.2.2.2.1; have L5 := L.2.2.2.2
              rw [hle] at L4 L5
              rw [HDN.out] at L4
              rw [hcm] at L5
              simp only at L4 L5
              have hwy : (Lit.int .i64 y).wf = true := wf_small ⟨by omega, by omega⟩
              have hcellb := World.block_lt_of_cell? wr _ hcell
              simp only at hcellb
              have i0 : (0 : Int) ≤ (i : Int) := by omega
              have i1 : (i : Int) < (cs.length : Int) := by omega
              have HLT := Lib.hid hlt
              have E17 := Lib.hid (by have := implDoors_any T d t y wr (HT16.out.below hbo) hwy; rw [hle] at this; exact this)
              have E18 := Lib.hid (fun W (hW : Below wr.heap.size wr W) => by have := implCommon_any T d t y key W ((HT16.out.below hbo).below hW) hwy HKEY.out; rw [hcm] at this; exact this)
              have L4' : decide (le > n) = false := decide_eq_false (by omega)
              have L5' : (((cm.length : Nat) : Int) != le) = false := by rw [L5]; simp
              clear hle hcm L hbd hmem hy L4 L5 hwy
              go_wp2_with fail
              refine E17.out.mono ?_
              rintro e w17 ⟨rfl, hb17⟩
              have hc17 := cell_in hb17 hcellb hcell
              have HB17 := Lib.hid hb17
              clear hcell hb17
              go_wp2_with fail
              refine (E18.out w17 HB17.out).mono ?_
              rintro e w18 ⟨C18, c18, rfl, hc18, hr18, _, hb18⟩
              have HB18 := Lib.hid (HB17.out.trans (hb18.mono HB17.out.size))
              clear hc17 hr18 hb18
              go_wp2_with fail
              go_roundw
              case rel => exact ⟨i + 1, by go_num, by have := HLT.out; omega, hbo.trans (HB18.out.mono hbo.size)⟩
              case measure => have := HLT.out; simp [intOf]; omega
            · obtain rfl : i = cs.length := by omega
              go_wp2_with fail
              go_ret
              exact ⟨rfl, HB16.out.trans (hbo.mono HB16.out.size)⟩
        · have hk0' : (kc != 0) = true := by simpa using hk0
          clear hk0
          go_wp2_with fail
          go_ret
          exact ⟨rfl, HBC.out⟩
end Go.Proofs.Ytdkkkkfcpgkcnaa.fnTables
