/- The walk of the law FnCandidates. -/
import Derived.Test.YtdedajohkdbdkaaGreatLikeG
import Derived.Test.YtdedajohkdbdkaaGreatDrSys6
import Derived.Test.YtdedajohkdbdkaaGreatPPartLaw
import Derived.Test.YtdedajohkdbdkaaGreatFCandLaws
import Derived.Test.YtdedajohkdbdkaaGreatFDoors
import Derived.Test.YtdedajohkdbdkaaGreatFNextKey
import Derived.Test.YtdedajohkdbdkaaGreatDice
import Derived.Deep.CutRange
import Derived.Deep.CutBlock
namespace Go.Proofs.YtdedajohkdbdkaaGreat.fnCandidates
set_option linter.unusedVariables false
open Go.RowKit
/-- the key that is tried -/
def TESTS (m : Mk) (w0 : World) (v : Value) (w : World) : Prop := ∃ (B : Option Addr) (d : Nat) (xs : List Int), v = .slice B xs.length d ∧ xs.length ≤ d ∧ RI w B xs ∧ isKey m xs = true ∧ Below w0.heap.size w0 w
theorem next_yes {m : Mk} {t cs ls : List (List Int)} {mo : Int} (h : nextCandR m t cs mo = (ls, 0)) : moreC m t cs = 0 ∧ ls = (candsF m t cs).take mo.toNat ∧ mo ≤ 300 := by
  unfold nextCandR at h
  by_cases h1 : partC m t cs = 0
  · rw [if_pos h1] at h
    by_cases h2 : inB mo 0 300 = true
    · rw [if_pos h2] at h
      by_cases h3 : moreC m t cs = 0
      · rw [if_pos h3] at h; exact ⟨h3, (congrArg Prod.fst h).symm, (inB_iff.1 h2).2⟩
      · rw [if_neg h3] at h; exact absurd (congrArg Prod.snd h) (by simp)
    · rw [if_neg h2] at h; exact absurd (congrArg Prod.snd h) (by simp)
  · rw [if_neg h1] at h; exact absurd (congrArg Prod.snd h) h1
theorem more_part {m : Mk} {t cs : List (List Int)} (h : moreC m t cs = 0) : partC m t cs = 0 := by
  unfold moreC at h
  by_cases e : partC m t cs = 0
  · exact e
  · rw [if_neg e] at h; exact absurd h e
theorem part0 {m : Mk} {T K : Option Addr} {cT q : Nat} {t cs : List (List Int)} {b : Bool} {w : World} (h : RII w T t) (g : RII w K cs) (he : openPartF m t cs = b) :
    Calls Tryz.prog 40 #[.agg #[.int .i64 m.c, .int .i64 m.d, .int .i64 m.s, .int .i64 m.a, .int .i64 m.l, .slice T t.length cT], .slice K cs.length q] w fun e w' => e = .returned (.bool b) ∧ Below w.heap.size w w' := by
  have := implIsOpenPart_any m T cT t K q cs w h g
  rw [he] at this; exact this
theorem hasL0 {A K : Option Addr} {c d : Nat} {ls : List (List Int)} {xs : List Int} {b : Bool} {w : World} (h : RII w A ls) (g : RI w K xs) (he : hasL ls xs = b) :
    Calls Tryz.prog 41 #[.slice A ls.length c, .slice K xs.length d] w fun e w' => e = .returned (.bool b) ∧ Below w.heap.size w w' := by
  have := hasListB (c := c) (d := d) h g
  rw [he] at this; exact this
set_option maxRecDepth 100000 in
set_option maxHeartbeats 16000000 in
theorem walk (A : Option Addr) (c : Nat) (bs : List Int) (w : World) (h : RCode w A bs) :
    Calls Tryz.prog 5 #[.slice A bs.length c] w fun e w' => e = .returned (.bool true) ∧ Below w.heap.size w w' := by
  have HC := Lib.hid h
  clear h
  by_cases hbig : (bs.length : Int) > 4096
  · have HBG := big_any A bs.length c w
    rw [decide_eq_true hbig] at HBG
    have HBB := Lib.hid HBG
    clear hbig HBG
    go_enter Tryz.func5, Tryz.ntmps5
    go_wp2_with fail
    refine HBB.out.mono ?_
    rintro e w1 ⟨rfl, rfl⟩
    go_wp2_with fail
    go_ret
    exact ⟨rfl, Below.refl _ _⟩
  · have HBG := big_any A bs.length c w
    rw [decide_eq_false hbig] at HBG
    have HBB := Lib.hid HBG
    clear hbig HBG
    go_enter Tryz.func5, Tryz.ntmps5
    go_wp2_with fail
    refine HBB.out.mono ?_
    rintro e w1 ⟨rfl, rfl⟩
    have HB := Lib.hid (Below.refl w.heap.size w)
    have E1 := Lib.hid (drawNextCand_any A c bs w HC.out)
    go_wp2_with fail
    refine E1.out.mono ?_
    rintro e v1 ⟨m, T, t, cT, K, q, cs, mo, rfl, -, hq, hc20, hT, hK, hmo, hb⟩
    clear E1
    replace HB := Lib.hid (HB.out.trans (hb.mono HB.out.size))
    have HT := Lib.hid (hT)
    have HK := Lib.hid (hK)
    clear hT hK hb
    have HC20 := Lib.hid hc20
    have HMO := Lib.hid (wf_small hmo)
    clear hq hc20 hmo
    obtain ⟨v1b, hv1b⟩ : ∃ wb, wb = v1.alloc (.cells #[.int .i64 m.c, .int .i64 m.d, .int .i64 m.s, .int .i64 m.a, .int .i64 m.l, .slice T t.length cT] 45) := ⟨_, rfl⟩
    have hbx : Below v1.heap.size v1 v1b := by rw [hv1b]; exact (Below.refl _ _).alloc (Nat.le_refl _) _
    replace HT := Lib.hid (HT.out.below hbx)
    replace HK := Lib.hid (HK.out.below hbx)
    replace HB := Lib.hid (HB.out.trans (hbx.mono HB.out.size))
    have HBS := Lib.hid (show BoxC v1b (v1.heap.size) 0 [.int .i64 m.c, .int .i64 m.d, .int .i64 m.s, .int .i64 m.a, .int .i64 m.l, .slice T t.length cT] by rw [hv1b]; exact BoxC.new (w := v1) [.int .i64 m.c, .int .i64 m.d, .int .i64 m.s, .int .i64 m.a, .int .i64 m.l, .slice T t.length cT] rfl)
    clear hbx
    rcases hg : nextCandR m t cs mo with ⟨ls, kn⟩
    have HNE := Lib.hid hg
    clear hg
    have E2 := Lib.hid (by have := implNextCandidates_any m T cT t K q cs mo v1b HT.out HK.out HMO.out; rw [HNE.out] at this; exact this)
    go_wp2_with fail
    rw [← hv1b]
    clear hv1b 
    refine E2.out.mono ?_
    rintro e v2 ⟨A2, c2, rfl, hc2, hr, _, hb⟩
    clear E2
    replace HT := Lib.hid (HT.out.below hb)
    replace HK := Lib.hid (HK.out.below hb)
    replace HBS := Lib.hid (HBS.out.below hb)
    replace HB := Lib.hid (HB.out.trans (hb.mono HB.out.size))
    have HR2 := Lib.hid (show RII v2 A2 ls from hr)
    clear hr hb hc2
    have E3 := Lib.hid (by have := specNextCandidates_any m T cT t K q cs mo v2 HT.out HK.out HMO.out; rw [HNE.out] at this; exact this)
    obtain ⟨q0_0, q0_1, q0_2, q0_3, q0_4, q0_5, _⟩ := HBS.out
    simp only [Nat.zero_add] at q0_1 q0_2 q0_3 q0_4 q0_5
    go_wp2_with fail
    clear q0_0 q0_1 q0_2 q0_3 q0_4 q0_5
    refine E3.out.mono ?_
    rintro e v3 ⟨A3, c3, rfl, hc3, hr, hb⟩
    clear E3
    replace HT := Lib.hid (HT.out.below hb)
    replace HK := Lib.hid (HK.out.below hb)
    replace HBS := Lib.hid (HBS.out.below hb)
    replace HR2 := Lib.hid (HR2.out.below hb)
    replace HB := Lib.hid (HB.out.trans (hb.mono HB.out.size))
    have HR3 := Lib.hid (show RII v3 A3 ls from hr)
    clear hr hb hc3
    have E4 := Lib.hid (drawCountCand_any A c bs v3 (HC.out.below HB.out))
    go_wp2_with fail
    refine E4.out.mono ?_
    rintro e v4 ⟨m2, T2, t2, cT2, K2, q2, cs2, rfl, -, -, -, hT, hK, hb⟩
    clear E4
    replace HT := Lib.hid (HT.out.below hb)
    replace HK := Lib.hid (HK.out.below hb)
    replace HBS := Lib.hid (HBS.out.below hb)
    replace HR2 := Lib.hid (HR2.out.below hb)
    replace HR3 := Lib.hid (HR3.out.below hb)
    replace HB := Lib.hid (HB.out.trans (hb.mono HB.out.size))
    have HT2 := Lib.hid (hT)
    have HK2 := Lib.hid (hK)
    clear hT hK hb
    obtain ⟨v4b, hv4b⟩ : ∃ wb, wb = v4.alloc (.cells #[.int .i64 m2.c, .int .i64 m2.d, .int .i64 m2.s, .int .i64 m2.a, .int .i64 m2.l, .slice T2 t2.length cT2] 45) := ⟨_, rfl⟩
    have hbx : Below v4.heap.size v4 v4b := by rw [hv4b]; exact (Below.refl _ _).alloc (Nat.le_refl _) _
    replace HT := Lib.hid (HT.out.below hbx)
    replace HK := Lib.hid (HK.out.below hbx)
    replace HBS := Lib.hid (HBS.out.below hbx)
    replace HR2 := Lib.hid (HR2.out.below hbx)
    replace HR3 := Lib.hid (HR3.out.below hbx)
    replace HT2 := Lib.hid (HT2.out.below hbx)
    replace HK2 := Lib.hid (HK2.out.below hbx)
    replace HB := Lib.hid (HB.out.trans (hbx.mono HB.out.size))
    have HBX := Lib.hid (show BoxC v4b (v4.heap.size) 0 [.int .i64 m2.c, .int .i64 m2.d, .int .i64 m2.s, .int .i64 m2.a, .int .i64 m2.l, .slice T2 t2.length cT2] by rw [hv4b]; exact BoxC.new (w := v4) [.int .i64 m2.c, .int .i64 m2.d, .int .i64 m2.s, .int .i64 m2.a, .int .i64 m2.l, .slice T2 t2.length cT2] rfl)
    clear hbx
    rcases hg : countCandR m2 t2 cs2 with ⟨n, kc⟩
    have HCE := Lib.hid hg
    clear hg
    have E5 := Lib.hid (by have := implCountCandidates_any m2 T2 cT2 t2 K2 q2 cs2 v4b HT2.out HK2.out; rw [HCE.out] at this; exact this)
    go_wp2_with fail
    rw [← hv4b]
    clear hv4b 
    refine E5.out.mono ?_
    rintro e v5 ⟨rfl, hb⟩
    clear E5
    replace HT := Lib.hid (HT.out.below hb)
    replace HK := Lib.hid (HK.out.below hb)
    replace HBS := Lib.hid (HBS.out.below hb)
    replace HR2 := Lib.hid (HR2.out.below hb)
    replace HR3 := Lib.hid (HR3.out.below hb)
    replace HT2 := Lib.hid (HT2.out.below hb)
    replace HK2 := Lib.hid (HK2.out.below hb)
    replace HBX := Lib.hid (HBX.out.below hb)
    replace HB := Lib.hid (HB.out.trans (hb.mono HB.out.size))
    clear hb
    have E6 := Lib.hid (by have := specCountCandidates_any m2 T2 cT2 t2 K2 q2 cs2 v5 HT2.out HK2.out; rw [HCE.out] at this; exact this)
    obtain ⟨q0_0, q0_1, q0_2, q0_3, q0_4, q0_5, _⟩ := HBX.out
    simp only [Nat.zero_add] at q0_1 q0_2 q0_3 q0_4 q0_5
    go_wp2_with fail
    clear q0_0 q0_1 q0_2 q0_3 q0_4 q0_5
    refine E6.out.mono ?_
    rintro e v6 ⟨rfl, hb⟩
    clear E6
    replace HT := Lib.hid (HT.out.below hb)
    replace HK := Lib.hid (HK.out.below hb)
    replace HBS := Lib.hid (HBS.out.below hb)
    replace HR2 := Lib.hid (HR2.out.below hb)
    replace HR3 := Lib.hid (HR3.out.below hb)
    replace HT2 := Lib.hid (HT2.out.below hb)
    replace HK2 := Lib.hid (HK2.out.below hb)
    replace HBX := Lib.hid (HBX.out.below hb)
    replace HB := Lib.hid (HB.out.trans (hb.mono HB.out.size))
    clear hb
    clear HT2 HK2 HBX
    have E7 := Lib.hid (drawDoors_any A c bs v6 (HC.out.below HB.out))
    go_wp2_with fail
    refine E7.out.mono ?_
    rintro e v7 ⟨m3, T3, t3, cT3, K3, q3, cs3, Y, qy, ys, rfl, -, -, -, hT, hK, hy, hqy, hb⟩
    clear E7
    replace HT := Lib.hid (HT.out.below hb)
    replace HK := Lib.hid (HK.out.below hb)
    replace HBS := Lib.hid (HBS.out.below hb)
    replace HR2 := Lib.hid (HR2.out.below hb)
    replace HR3 := Lib.hid (HR3.out.below hb)
    replace HB := Lib.hid (HB.out.trans (hb.mono HB.out.size))
    have HT3 := Lib.hid (hT)
    have HK3 := Lib.hid (hK)
    have HY := Lib.hid (hy)
    clear hT hK hy hb
    have HQY := Lib.hid hqy
    clear hqy
    obtain ⟨v7b, hv7b⟩ : ∃ wb, wb = v7.alloc (.cells #[.int .i64 m3.c, .int .i64 m3.d, .int .i64 m3.s, .int .i64 m3.a, .int .i64 m3.l, .slice T3 t3.length cT3] 45) := ⟨_, rfl⟩
    have hbx : Below v7.heap.size v7 v7b := by rw [hv7b]; exact (Below.refl _ _).alloc (Nat.le_refl _) _
    replace HT := Lib.hid (HT.out.below hbx)
    replace HK := Lib.hid (HK.out.below hbx)
    replace HBS := Lib.hid (HBS.out.below hbx)
    replace HR2 := Lib.hid (HR2.out.below hbx)
    replace HR3 := Lib.hid (HR3.out.below hbx)
    replace HT3 := Lib.hid (HT3.out.below hbx)
    replace HK3 := Lib.hid (HK3.out.below hbx)
    replace HY := Lib.hid (HY.out.below hbx)
    replace HB := Lib.hid (HB.out.trans (hbx.mono HB.out.size))
    have HBD := Lib.hid (show BoxC v7b (v7.heap.size) 0 [.int .i64 m3.c, .int .i64 m3.d, .int .i64 m3.s, .int .i64 m3.a, .int .i64 m3.l, .slice T3 t3.length cT3] by rw [hv7b]; exact BoxC.new (w := v7) [.int .i64 m3.c, .int .i64 m3.d, .int .i64 m3.s, .int .i64 m3.a, .int .i64 m3.l, .slice T3 t3.length cT3] rfl)
    clear hbx
    rcases hg : openDoorsR m3 t3 cs3 ys with ⟨ds, kd⟩
    have HDE := Lib.hid hg
    clear hg
    have E8 := Lib.hid (by have := implOpenDoors_any m3 T3 cT3 t3 K3 q3 cs3 Y qy ys v7b HT3.out HK3.out HY.out HQY.out; rw [HDE.out] at this; exact this)
    go_wp2_with fail
    rw [← hv7b]
    clear hv7b 
    refine E8.out.mono ?_
    rintro e v8 ⟨AD, cD, rfl, hc2, hr, _, hb⟩
    clear E8
    replace HT := Lib.hid (HT.out.below hb)
    replace HK := Lib.hid (HK.out.below hb)
    replace HBS := Lib.hid (HBS.out.below hb)
    replace HR2 := Lib.hid (HR2.out.below hb)
    replace HR3 := Lib.hid (HR3.out.below hb)
    replace HT3 := Lib.hid (HT3.out.below hb)
    replace HK3 := Lib.hid (HK3.out.below hb)
    replace HY := Lib.hid (HY.out.below hb)
    replace HBD := Lib.hid (HBD.out.below hb)
    replace HB := Lib.hid (HB.out.trans (hb.mono HB.out.size))
    have HD := Lib.hid (show RI v8 AD ds from hr)
    clear hr hb hc2
    have E9 := Lib.hid (by have := specOpenDoors_any m3 T3 cT3 t3 K3 q3 cs3 Y qy ys v8 HT3.out HK3.out HY.out HQY.out; rw [HDE.out] at this; exact this)
    obtain ⟨q0_0, q0_1, q0_2, q0_3, q0_4, q0_5, _⟩ := HBD.out
    simp only [Nat.zero_add] at q0_1 q0_2 q0_3 q0_4 q0_5
    go_wp2_with fail
    clear q0_0 q0_1 q0_2 q0_3 q0_4 q0_5
    refine E9.out.mono ?_
    rintro e v9 ⟨AE, cE, rfl, hc2, hr, _, hb⟩
    clear E9
    replace HT := Lib.hid (HT.out.below hb)
    replace HK := Lib.hid (HK.out.below hb)
    replace HBS := Lib.hid (HBS.out.below hb)
    replace HR2 := Lib.hid (HR2.out.below hb)
    replace HR3 := Lib.hid (HR3.out.below hb)
    replace HT3 := Lib.hid (HT3.out.below hb)
    replace HK3 := Lib.hid (HK3.out.below hb)
    replace HY := Lib.hid (HY.out.below hb)
    replace HBD := Lib.hid (HBD.out.below hb)
    replace HD := Lib.hid (HD.out.below hb)
    replace HB := Lib.hid (HB.out.trans (hb.mono HB.out.size))
    have HE := Lib.hid (show RI v9 AE ds from hr)
    clear hr hb hc2
    clear HT3 HK3 HY HBD
    have E10 := Lib.hid (likeListsB (c := c2) (d := c3) HR2.out HR3.out)
    go_wp2_with fail
    refine E10.out.mono ?_
    rintro e v10 ⟨rfl, hb⟩
    clear E10
    replace HT := Lib.hid (HT.out.below hb)
    replace HK := Lib.hid (HK.out.below hb)
    replace HBS := Lib.hid (HBS.out.below hb)
    replace HR2 := Lib.hid (HR2.out.below hb)
    replace HR3 := Lib.hid (HR3.out.below hb)
    replace HD := Lib.hid (HD.out.below hb)
    replace HE := Lib.hid (HE.out.below hb)
    replace HB := Lib.hid (HB.out.trans (hb.mono HB.out.size))
    clear hb
    have E11 := Lib.hid (likeIntsB (c := cD) (d := cE) HD.out HE.out)
    go_wp2_with fail
    refine E11.out.mono ?_
    rintro e v11 ⟨rfl, hb⟩
    clear E11
    replace HT := Lib.hid (HT.out.below hb)
    replace HK := Lib.hid (HK.out.below hb)
    replace HBS := Lib.hid (HBS.out.below hb)
    replace HR2 := Lib.hid (HR2.out.below hb)
    replace HR3 := Lib.hid (HR3.out.below hb)
    replace HD := Lib.hid (HD.out.below hb)
    replace HE := Lib.hid (HE.out.below hb)
    replace HB := Lib.hid (HB.out.trans (hb.mono HB.out.size))
    clear hb
    clear HR3 HD HE
    by_cases hkn : kn = 0
    rotate_left
    · have hkn' : (kn != 0) = true := by simpa using hkn
      go_wp2_with fail
      go_ret
      exact ⟨rfl, HB.out⟩
    subst hkn
    by_cases hm3 : mo < 300
    · have hm3' : decide (mo < 300) = true := decide_eq_true hm3
      go_wp2_with fail
      go_ret
      exact ⟨rfl, HB.out⟩
    obtain ⟨hmc, hls, hmo3⟩ := next_yes HNE.out
    have hmo : mo = 300 := by omega
    subst hmo
    clear hm3 hmo3
    have HMC := Lib.hid hmc
    have hpc := more_part hmc
    have HPC := Lib.hid hpc
    have HMK := Lib.hid (partC_0 hpc).mak
    obtain ⟨na, hna⟩ : ∃ n, n = (candsF m t cs).length := ⟨_, rfl⟩
    have HNA := Lib.hid (show countCandR m t cs = ((na : Int), 0) by unfold countCandR; rw [if_pos hmc, hna])
    have HMN := Lib.hid (show min (na : Int) 300 = (ls.length : Int) by rw [hls, List.length_take, ← hna]; omega)
    have HLS := Lib.hid (show na ≤ 300 → ls = candsF m t cs from fun h => by rw [hls, List.take_of_length_le (by rw [← hna]; exact h)])
    have hls300 : ls.length ≤ 300 := by rw [hls, List.length_take]; omega
    clear hls hmc hpc hna
    have E12 := Lib.hid (by have := implCountCandidates_any m T cT t K q cs v11 HT.out HK.out; rw [HNA.out] at this; exact this)
    obtain ⟨q0_0, q0_1, q0_2, q0_3, q0_4, q0_5, _⟩ := HBS.out
    simp only [Nat.zero_add] at q0_1 q0_2 q0_3 q0_4 q0_5
    go_wp2_with fail
    clear q0_0 q0_1 q0_2 q0_3 q0_4 q0_5
    refine E12.out.mono ?_
    rintro e v12 ⟨rfl, hb⟩
    clear E12
    replace HT := Lib.hid (HT.out.below hb)
    replace HK := Lib.hid (HK.out.below hb)
    replace HBS := Lib.hid (HBS.out.below hb)
    replace HR2 := Lib.hid (HR2.out.below hb)
    replace HB := Lib.hid (HB.out.trans (hb.mono HB.out.size))
    clear hb
    have hmn := HMN.out
    have hmn2 := Int.min_comm (na : Int) 300
    have E13 := Lib.hid (implFirstKey_w m HMK.out v12)
    obtain ⟨q0_0, q0_1, q0_2, q0_3, q0_4, q0_5, _⟩ := HBS.out
    simp only [Nat.zero_add] at q0_1 q0_2 q0_3 q0_4 q0_5
    go_wp2_with fail
    clear q0_0 q0_1 q0_2 q0_3 q0_4 q0_5
    refine E13.out.mono ?_
    rintro e v13 ⟨AF, cF, fs, rfl, hcf, hrf, hkf, hb⟩
    clear E13
    replace HT := Lib.hid (HT.out.below hb)
    replace HK := Lib.hid (HK.out.below hb)
    replace HBS := Lib.hid (HBS.out.below hb)
    replace HR2 := Lib.hid (HR2.out.below hb)
    replace HB := Lib.hid (HB.out.trans (hb.mono HB.out.size))
    have HF := Lib.hid (show RI v13 AF fs from hrf)
    clear hrf hb hmn hmn2
    have HCF := Lib.hid hcf
    have HKF := Lib.hid hkf
    clear hcf hkf
    have hDX := HC.out.below HB.out
    have HRL := Lib.hid (roll_any A c bs 1601 v13 hDX)
    obtain ⟨Db, hDb⟩ : ∃ d, d = v13.heap.size := ⟨_, rfl⟩
    clear hDX
    go_wp2_with fail
    refine HRL.out.mono ?_
    rintro e v20 ⟨rfl, hdi, hb20, hz20⟩
    rw [← hDb] at hdi ⊢
    have HB20 := Lib.hid (show Below Db v13 v20 by rw [hDb]; exact hb20)
    have HDI := Lib.hid hdi
    have hDz : Db < v20.heap.size := by omega
    have HBL := Lib.hid (below_any Db A c bs 8 v20 hdi (by omega))
    have HDB := Lib.hid hDb
    clear hdi hb20 HRL hDb hz20
    go_wp2_with fail
    refine HBL.out.mono ?_
    rintro e v21 ⟨z, rfl, z0, z1, _, hk21, hz21⟩
    have hb21 : Below v13.heap.size v13 v21 := by
      rw [← HDB.out]; exact HB20.out.trans (hk21.toBelow (by omega) (fun g hg e => by omega))
    clear HBL hk21 hz21 HDI HB20 hDz HDB
    replace HT := Lib.hid (HT.out.below hb21)
    replace HK := Lib.hid (HK.out.below hb21)
    replace HBS := Lib.hid (HBS.out.below hb21)
    replace HR2 := Lib.hid (HR2.out.below hb21)
    replace HF := Lib.hid (HF.out.below hb21)
    replace HB := Lib.hid (HB.out.trans (hb21.mono HB.out.size))
    clear hb21
    obtain ⟨z, rfl⟩ : ∃ n : Nat, z = (n : Int) := ⟨z.toNat, by omega⟩
    go_upto_block 0 with fail
    go_cut [25, 27, 28, 29] from 151 to 168 (fun v _ _ _ wx => TESTS m v21 v wx)
    case first =>
      go_wp2_with fail
      go_loopw [25, 27, 28, 29] (fun v i _ _ wr => ∃ n : Nat, i = .int .i64 (n : Int) ∧ n ≤ 8 ∧ TESTS m v21 v wr) (fun _ i _ _ _ => (intOf i).toNat)
      case atStart => exact ⟨z, rfl, by omega, AF, cF, fs, rfl, HCF.out, HF.out, HKF.out, Below.refl _ _⟩
      case round =>
        obtain ⟨n, rfl, hn8, B, d, xs, rfl, hd, hx, hk, hb⟩ := hrel
        have HD := Lib.hid hd; have HX := Lib.hid hx; have HKX := Lib.hid hk; have HBr := Lib.hid hb
        clear hd hx hk hb
        by_cases hn0 : (n : Int) > 0
        · have EN := Lib.hid (implNextKey_w m HMK.out B d xs wr HX.out HKX.out)
          obtain ⟨y0, y1, y2, y3, y4, y5, _⟩ := HBS.out.below HBr.out
          simp only [Nat.zero_add] at y1 y2 y3 y4 y5
          go_wp2_with fail
          refine EN.out.mono ?_
          rintro e wn ⟨B2, d2, xs2, k2, rfl, hd2, hx2, hk2, hb2⟩
          have HD2 := Lib.hid hd2; have HX2 := Lib.hid hx2; have HK2 := Lib.hid hk2; have HB2 := Lib.hid (HBr.out.trans (hb2.mono HBr.out.size))
          have HX1 := Lib.hid (HX.out.below hb2)
          clear hd2 hx2 hk2 hb2 y0 y1 y2 y3 y4 y5
          by_cases hk0 : k2 = 0
          · subst hk0
            go_wp2_with fail
            go_roundw
            case rel => exact ⟨n - 1, congrArg (Value.int .i64) (show (n : Int) - 1 = ((n - 1 : Nat) : Int) by omega), by omega, B2, d2, xs2, rfl, HD2.out, HX2.out, HK2.out (by first | exact rfl | exact trivial), HB2.out⟩
            case measure => simp [intOf]; omega
          · have hk0' : (k2 != 0) = true := by simpa using hk0
            go_wp2_with fail
            go_meet
            exact ⟨B, d, xs, rfl, HD.out, HX1.out, HKX.out, HB2.out⟩
        · have hn1 : decide ((n : Int) > 0) = false := decide_eq_false hn0
          have hn2 : decide ((0 : Int) < (n : Int)) = false := decide_eq_false hn0
          go_wp2_with fail
          go_meet
          exact ⟨B, d, xs, rfl, HD.out, HX.out, HKX.out, HBr.out⟩
    case rest =>
      obtain ⟨B, d, xs, rfl, hd, hx, hk, hbc⟩ := hcut
      have HXS := Lib.hid hx; have HDX := Lib.hid hd; have HKX := Lib.hid hk
      clear hd hx hk
      replace HT := Lib.hid (HT.out.below hbc)
      replace HK := Lib.hid (HK.out.below hbc)
      replace HBS := Lib.hid (HBS.out.below hbc)
      replace HR2 := Lib.hid (HR2.out.below hbc)
      replace HB := Lib.hid (HB.out.trans (hbc.mono HB.out.size))
      clear hbc
      have hpc9 := cand_law HMC.out HKX.out ((allK_is HMK.out).2 HKX.out)
      obtain ⟨cx, hcx⟩ : ∃ cx, cx = cs ++ [xs] := ⟨_, rfl⟩
      have HCX := Lib.hid hcx
      obtain ⟨pb, hpb⟩ : ∃ b, b = openPartF m t cx := ⟨_, rfl⟩
      have HPO := Lib.hid hpb.symm
      have HPL := Lib.hid (show na ≤ 300 → hasL ls xs = pb from fun h => by
        rw [HLS.out h, ← hpc9, hpb, hcx]; unfold openPartF
        rw [Bool.eq_iff_iff, Bool.and_eq_true, Bool.and_eq_true, decide_eq_true_eq, beq_iff_eq])
      clear hpc9 hpb hcx
      obtain ⟨us, hu1, hu2, hu3⟩ := HK.out
      have HUS := Lib.hid (And.intro hu1 (And.intro hu2 hu3))
      have HONE := Lib.hid (show ∀ u ∈ us, u.oneCell' = true from fun u hu => by
        obtain ⟨j, hj, rfl⟩ := List.getElem_of_mem hu
        obtain ⟨A', c', a, _⟩ := hu3 j (by omega)
        rw [List.getElem?_eq_getElem hj] at a
        injection a with a
        rw [a]; rfl)
      clear hu1 hu2 hu3
      have KS := Lib.hid (show ∀ w' : World, Below wc.heap.size wc w' → (w'.cell? ⟨v1.heap.size, 0, none⟩ = some (.int .i64 m.c) ∧ w'.cell? ⟨v1.heap.size, 1, none⟩ = some (.int .i64 m.d) ∧ w'.cell? ⟨v1.heap.size, 2, none⟩ = some (.int .i64 m.s) ∧ w'.cell? ⟨v1.heap.size, 3, none⟩ = some (.int .i64 m.a) ∧ w'.cell? ⟨v1.heap.size, 4, none⟩ = some (.int .i64 m.l) ∧ w'.cell? ⟨v1.heap.size, 5, none⟩ = some (.slice T t.length cT)) from fun w' hw => by
        obtain ⟨a0, a1, a2, a3, a4, a5, _⟩ := HBS.out.below hw
        exact ⟨a0, a1, a2, a3, a4, a5⟩)
      go_wp2_with fail
      refine wp_region_held_drew (S := (fun w' => (w'.cell? ⟨v1.heap.size, 0, none⟩ = some (.int .i64 m.c) ∧ w'.cell? ⟨v1.heap.size, 1, none⟩ = some (.int .i64 m.d) ∧ w'.cell? ⟨v1.heap.size, 2, none⟩ = some (.int .i64 m.s) ∧ w'.cell? ⟨v1.heap.size, 3, none⟩ = some (.int .i64 m.a) ∧ w'.cell? ⟨v1.heap.size, 4, none⟩ = some (.int .i64 m.l) ∧ w'.cell? ⟨v1.heap.size, 5, none⟩ = some (.slice T t.length cT)))) (by kernel_rfl) (KS.out _ (belowDrew0 _)) (fun hHeld => ?_)
      refine takeD (i := 0) (some 169) (.agg #[.int .i64 m.c, .int .i64 m.d, .int .i64 m.s, .int .i64 m.a, .int .i64 m.l, .slice T t.length cT]) rfl (by kernel_rfl) (by kernel_rfl) (by kernel_rfl) (by kernel_rfl) (fun _ _ _ h => h) (by assumption) (Or.inl ⟨by rfl, fun w hSw => by (try dsimp only at hSw); go_simp⟩) ?_
      simp only [Act.put, List.setIfInBounds_toArray, List.set_cons_zero, List.set_cons_succ]
      refine takeD (i := 2) (some 171) (.slice K cs.length q) rfl (by kernel_rfl) (by kernel_rfl) (by kernel_rfl) (by kernel_rfl) (fun _ _ _ h => h) (by assumption) (Or.inl ⟨by rfl, fun w hSw => by (try dsimp only at hSw); go_simp⟩) ?_
      simp only [Act.put, List.setIfInBounds_toArray, List.set_cons_zero, List.set_cons_succ]
      refine takeD (i := 4) (some 173) (.slice B xs.length d) rfl (by kernel_rfl) (by kernel_rfl) (by kernel_rfl) (by kernel_rfl) (fun _ _ _ h => h) (by assumption) (Or.inl ⟨by rfl, fun w hSw => by (try dsimp only at hSw); go_simp⟩) ?_
      simp only [Act.put, List.setIfInBounds_toArray, List.set_cons_zero, List.set_cons_succ]
      refine wpAnyH_ready (rs := [1, 5]) (by kernel_rfl) (by simp) (AllReadyH.cons rfl (fun K hK => ?_) (AllReadyH.cons rfl (fun K hK => ?_) AllReadyH.nil))
      · go_simp
        have hB1 : Below wc.heap.size wc (wc.drew.alloc (.cells #[] 33)) := (belowDrew0 wc).alloc (by simp) _
        have HB1 := Lib.hid hB1
        clear hB1
        have HHeld := KS.out _ HB1.out
        refine hK.out _ _ HHeld (fun _ => ?_)
        clear hK K
        (try simp only [Act.put]); (try simp only [List.setIfInBounds_toArray]); (try simp only [List.set_cons_zero, List.set_cons_succ])
        refine wpAnyH_ready (rs := [3, 5]) (by kernel_rfl) (by simp) (AllReadyH.cons rfl (fun K hK => ?_) (AllReadyH.cons rfl (fun K hK => ?_) AllReadyH.nil))
        · refine step_app _ (by rfl) _ _ _ (by rfl) wc.heap.size 33 _ 24 Tryz.underlying26 info_sl rfl _ [] (by rfl) (OV.new0 (w := wc.drew) (Nat.le_refl _)) _ _ _ us (by rfl) HUS.out.1.symm (RV.below HUS.out.2.1 HB1.out) HONE.out (by have := HUS.out.1; have := HC20.out; simp; omega) (by have := HUS.out.1; have := HC20.out; simp; omega) (by first | (simp; done) | (simp; omega)) ?_
          intro v2 w2 ho2 hg2 hn2 hat2
          rw [List.nil_append] at ho2
          have hb2 := (OV.new0 (w := wc.drew) (B := wc.heap.size) (e := 33) (Nat.le_refl _)).own (Nat.le_refl _) HB1.out hg2 HB1.out.size
          obtain ⟨Aq, cq, rfl, _, _⟩ := ho2.reads
          have HB2 := Lib.hid hb2
          have hs2 := hb2.size
          have HO2 := Lib.hid ho2
          clear hg2 hn2 hat2 hb2 ho2
          have HHeld := KS.out _ HB2.out
          refine hK.out _ _ HHeld (fun _ => ?_)
          clear hK K
          (try simp only [Act.put]); (try simp only [List.setIfInBounds_toArray]); (try simp only [List.set_cons_zero, List.set_cons_succ])
          refine wpAnyH_ready (rs := [5]) (by kernel_rfl) (by simp) (AllReadyH.cons rfl (fun K hK => ?_) AllReadyH.nil)
          go_simp
          have HHeld := KS.out _ (HB2.out.alloc hs2 (.cells #[.slice B xs.length d] 33))
          refine hK.out _ _ HHeld (fun _ => ?_)
          clear hK K
          (try simp only [Act.put]); (try simp only [List.setIfInBounds_toArray]); (try simp only [List.set_cons_zero, List.set_cons_succ])
          refine wpAnyH_ready (rs := [6]) (by kernel_rfl) (by simp) (AllReadyH.cons rfl (fun K hK => ?_) AllReadyH.nil)
          refine step_app1 _ (by rfl) _ _ _ (by rfl) wc.heap.size 33 _ 24 Tryz.underlying26 info_sl rfl (by omega) _ us (by rfl) (HO2.out.alloc _) _ _ (by rfl) (one_cell _ _ _) rfl (by have := HUS.out.1; have := HC20.out; omega) (by first | exact hs2 | (simp; omega)) ?_
          intro v4 w9 ho4 hg4 hn4 hat4
          have HBq := Lib.hid ((HO2.out.alloc _).own (Nat.le_refl _) (HB2.out.alloc hs2 _) hg4 (by simp; omega))
          obtain ⟨A9, c9, e9, hc9, hr9⟩ := RIIn.snoc (F := fun _ => False) ho4 HUS.out.1 (fun j hj => by
            obtain ⟨A', c, a, b, d⟩ := HUS.out.2.2 j hj
            exact ⟨A', c, a, b, d.below HBq.out, fun _ _ _ _ => id⟩) HDX.out (HXS.out.below HBq.out) (fun _ _ _ _ => id) (fun _ _ h => h)
          rw [← HCX.out] at e9 hr9
          subst e9
          have HB9 := HBq
          have HR9 := Lib.hid hr9.rii
          clear ho4 hg4 hn4 hat4 hr9 hc9
          have HHeld := KS.out _ HB9.out
          refine hK.out _ _ HHeld (fun _ => ?_)
          clear hK K
          (try simp only [Act.put]); (try simp only [List.setIfInBounds_toArray]); (try simp only [List.set_cons_zero, List.set_cons_succ])
          refine wpAnyH_ready (rs := [7]) (by kernel_rfl) (by simp) (AllReadyH.cons rfl (fun K hK => ?_) AllReadyH.nil)
          go_simp
          refine (part0 (w := w9) (HT.out.below HB9.out) HR9.out HPO.out).mono ?_
          rintro e wn ⟨rfl, hbn⟩
          have HBn := Lib.hid (HB9.out.trans (hbn.mono HB9.out.size))
          clear hbn
          have HHeld := KS.out _ HBn.out
          refine hK.out _ _ HHeld (fun _ => ?_)
          clear hK K
          try simp only [Act.put, List.setIfInBounds_toArray, List.set_cons_zero, List.set_cons_succ]
          refine takeD (i := 8) (some 30) (.bool pb) rfl (by kernel_rfl) (by kernel_rfl) (by kernel_rfl) (by kernel_rfl) (fun _ _ _ h => h) (by assumption) (Or.inl ⟨by rfl, fun w hSw => by (try dsimp only at hSw); go_simp⟩) ?_
          simp only [Act.put, List.setIfInBounds_toArray, List.set_cons_zero, List.set_cons_succ]
          refine wpAnyH_done (by kernel_rfl) ?_ _
          clear KS
          by_cases hgt : (300 : Int) < (na : Int)
          · have hgt' : decide ((300 : Int) < (na : Int)) = true := decide_eq_true hgt
            go_wp2_with fail
            go_ret
            exact ⟨rfl, HB.out.trans (HBn.out.mono HB.out.size)⟩
          · have hgt' : decide ((300 : Int) < (na : Int)) = false := decide_eq_false hgt
            have hpl := HPL.out (by omega)
            have HH := Lib.hid (hasL0 (A := A2) (K := B) (c := c2) (d := d) (w := wn) (HR2.out.below HBn.out) (HXS.out.below HBn.out) hpl)
            clear hpl
            go_wp2_with fail
            refine HH.out.mono ?_
            rintro e wm ⟨rfl, hbm⟩
            have HBm := Lib.hid (HBn.out.trans (hbm.mono HBn.out.size))
            clear hbm
            go_wp2_with fail
            go_ret
            exact ⟨retB (by simp), HB.out.trans (HBm.out.mono HB.out.size)⟩
        · go_simp
          have HB2 := Lib.hid (show Below wc.heap.size wc ((wc.drew.alloc (.cells #[] 33)).alloc (.cells #[.slice B xs.length d] 33)) from HB1.out.alloc HB1.out.size _)
          have bxc : ((wc.drew.alloc (.cells #[] 33)).alloc (.cells #[.slice B xs.length d] 33)).cell? ⟨wc.heap.size + 1, 0, none⟩ = some (.slice B xs.length d) := one_cell' (by simp)
          have HHeld := KS.out _ HB2.out
          refine hK.out _ _ HHeld (fun _ => ?_)
          clear hK K
          (try simp only [Act.put]); (try simp only [List.setIfInBounds_toArray]); (try simp only [List.set_cons_zero, List.set_cons_succ])
          refine wpAnyH_ready (rs := [3]) (by kernel_rfl) (by simp) (AllReadyH.cons rfl (fun K hK => ?_) AllReadyH.nil)
          refine step_app _ (by rfl) _ _ _ (by rfl) wc.heap.size 33 _ 24 Tryz.underlying26 info_sl rfl _ [] (by rfl) ((OV.new0 (w := wc.drew) (Nat.le_refl _)).alloc _) _ _ _ us (by rfl) HUS.out.1.symm (RV.below HUS.out.2.1 HB2.out) HONE.out (by have := HUS.out.1; have := HC20.out; simp; omega) (by have := HUS.out.1; have := HC20.out; simp; omega) (by first | (simp; done) | (simp; omega)) ?_
          intro v2 w2 ho2 hg2 hn2 hat2
          rw [List.nil_append] at ho2
          have hb3 := ((OV.new0 (w := wc.drew) (B := wc.heap.size) (e := 33) (Nat.le_refl _)).alloc (.cells #[.slice B xs.length d] 33)).own (Nat.le_refl _) HB2.out hg2 HB2.out.size
          have bx2 : w2.cell? ⟨wc.heap.size + 1, 0, none⟩ = some (.slice B xs.length d) := (World.cell?_of_block (hg2.block (wc.heap.size + 1) (by simp) (by simp [Value.ownBlock]))).trans bxc
          obtain ⟨Aq, cq, rfl, _, _⟩ := ho2.reads
          have HB3 := Lib.hid hb3
          have hs2 := hb3.size
          have HO2 := Lib.hid ho2
          clear hg2 hn2 hat2 hb3 ho2 bxc
          have HHeld := KS.out _ HB3.out
          refine hK.out _ _ HHeld (fun _ => ?_)
          clear hK K
          (try simp only [Act.put]); (try simp only [List.setIfInBounds_toArray]); (try simp only [List.set_cons_zero, List.set_cons_succ])
          refine wpAnyH_ready (rs := [6]) (by kernel_rfl) (by simp) (AllReadyH.cons rfl (fun K hK => ?_) AllReadyH.nil)
          refine step_app1 _ (by rfl) _ _ _ (by rfl) wc.heap.size 33 _ 24 Tryz.underlying26 info_sl rfl (by omega) _ us (by rfl) HO2.out _ _ (by rfl) bx2 rfl (by have := HUS.out.1; have := HC20.out; omega) (by first | exact hs2 | (simp; omega)) ?_
          intro v4 w9 ho4 hg4 hn4 hat4
          have HBq := Lib.hid (HO2.out.own (Nat.le_refl _) HB3.out hg4 hs2)
          obtain ⟨A9, c9, e9, hc9, hr9⟩ := RIIn.snoc (F := fun _ => False) ho4 HUS.out.1 (fun j hj => by
            obtain ⟨A', c, a, b, d⟩ := HUS.out.2.2 j hj
            exact ⟨A', c, a, b, d.below HBq.out, fun _ _ _ _ => id⟩) HDX.out (HXS.out.below HBq.out) (fun _ _ _ _ => id) (fun _ _ h => h)
          rw [← HCX.out] at e9 hr9
          subst e9
          have HB9 := HBq
          have HR9 := Lib.hid hr9.rii
          clear ho4 hg4 hn4 hat4 hr9 hc9
          have HHeld := KS.out _ HB9.out
          refine hK.out _ _ HHeld (fun _ => ?_)
          clear hK K
          (try simp only [Act.put]); (try simp only [List.setIfInBounds_toArray]); (try simp only [List.set_cons_zero, List.set_cons_succ])
          refine wpAnyH_ready (rs := [7]) (by kernel_rfl) (by simp) (AllReadyH.cons rfl (fun K hK => ?_) AllReadyH.nil)
          go_simp
          refine (part0 (w := w9) (HT.out.below HB9.out) HR9.out HPO.out).mono ?_
          rintro e wn ⟨rfl, hbn⟩
          have HBn := Lib.hid (HB9.out.trans (hbn.mono HB9.out.size))
          clear hbn
          have HHeld := KS.out _ HBn.out
          refine hK.out _ _ HHeld (fun _ => ?_)
          clear hK K
          try simp only [Act.put, List.setIfInBounds_toArray, List.set_cons_zero, List.set_cons_succ]
          refine takeD (i := 8) (some 30) (.bool pb) rfl (by kernel_rfl) (by kernel_rfl) (by kernel_rfl) (by kernel_rfl) (fun _ _ _ h => h) (by assumption) (Or.inl ⟨by rfl, fun w hSw => by (try dsimp only at hSw); go_simp⟩) ?_
          simp only [Act.put, List.setIfInBounds_toArray, List.set_cons_zero, List.set_cons_succ]
          refine wpAnyH_done (by kernel_rfl) ?_ _
          clear KS
          by_cases hgt : (300 : Int) < (na : Int)
          · have hgt' : decide ((300 : Int) < (na : Int)) = true := decide_eq_true hgt
            go_wp2_with fail
            go_ret
            exact ⟨rfl, HB.out.trans (HBn.out.mono HB.out.size)⟩
          · have hgt' : decide ((300 : Int) < (na : Int)) = false := decide_eq_false hgt
            have hpl := HPL.out (by omega)
            have HH := Lib.hid (hasL0 (A := A2) (K := B) (c := c2) (d := d) (w := wn) (HR2.out.below HBn.out) (HXS.out.below HBn.out) hpl)
            clear hpl
            go_wp2_with fail
            refine HH.out.mono ?_
            rintro e wm ⟨rfl, hbm⟩
            have HBm := Lib.hid (HBn.out.trans (hbm.mono HBn.out.size))
            clear hbm
            go_wp2_with fail
            go_ret
            exact ⟨retB (by simp), HB.out.trans (HBm.out.mono HB.out.size)⟩
      · go_simp
        have HB1 := Lib.hid (show Below wc.heap.size wc (wc.drew.alloc (.cells #[.slice B xs.length d] 33)) from (belowDrew0 wc).alloc (by simp) _)
        have HHeld := KS.out _ HB1.out
        refine hK.out _ _ HHeld (fun _ => ?_)
        clear hK K
        (try simp only [Act.put]); (try simp only [List.setIfInBounds_toArray]); (try simp only [List.set_cons_zero, List.set_cons_succ])
        refine wpAnyH_ready (rs := [1]) (by kernel_rfl) (by simp) (AllReadyH.cons rfl (fun K hK => ?_) AllReadyH.nil)
        go_simp
        have HB2 := Lib.hid (show Below wc.heap.size wc ((wc.drew.alloc (.cells #[.slice B xs.length d] 33)).alloc (.cells #[] 33)) from HB1.out.alloc HB1.out.size _)
        have bxc : ((wc.drew.alloc (.cells #[.slice B xs.length d] 33)).alloc (.cells #[] 33)).cell? ⟨wc.heap.size, 0, none⟩ = some (.slice B xs.length d) := (World.cell?_alloc_lt _ _ _ (by simp)).trans (one_cell' (by simp))
        have hown : OV ((wc.drew.alloc (.cells #[.slice B xs.length d] 33)).alloc (.cells #[] 33)) (wc.heap.size + 1) 33 (.slice (some ⟨wc.heap.size + 1, 0, none⟩) 0 0) [] := by
          have := OV.new0 (w := wc.drew.alloc (.cells #[.slice B xs.length d] 33)) (B := wc.heap.size + 1) (e := 33) (by simp)
          simpa using this
        have HHeld := KS.out _ HB2.out
        refine hK.out _ _ HHeld (fun _ => ?_)
        clear hK K
        (try simp only [Act.put]); (try simp only [List.setIfInBounds_toArray]); (try simp only [List.set_cons_zero, List.set_cons_succ])
        refine wpAnyH_ready (rs := [3]) (by kernel_rfl) (by simp) (AllReadyH.cons rfl (fun K hK => ?_) AllReadyH.nil)
        refine step_app _ (by rfl) _ _ _ (by rfl) (wc.heap.size + 1) 33 _ 24 Tryz.underlying26 info_sl rfl _ [] (by rfl) hown _ _ _ us (by rfl) HUS.out.1.symm (RV.below HUS.out.2.1 HB2.out) HONE.out (by have := HUS.out.1; have := HC20.out; simp; omega) (by have := HUS.out.1; have := HC20.out; simp; omega) (by first | (simp; done) | (simp; omega)) ?_
        intro v2 w2 ho2 hg2 hn2 hat2
        rw [List.nil_append] at ho2
        have hb3 := (hown.mono (Nat.le_succ _)).own (Nat.le_refl _) HB2.out hg2 HB2.out.size
        have bx2 : w2.cell? ⟨wc.heap.size, 0, none⟩ = some (.slice B xs.length d) := (World.cell?_of_block (hg2.block wc.heap.size (by simp; omega) (by simp [Value.ownBlock]))).trans bxc
        obtain ⟨Aq, cq, rfl, _, _⟩ := ho2.reads
        have HB3 := Lib.hid hb3
        have hs2 := hb3.size
        have HO2 := Lib.hid (ho2.mono (Nat.le_succ _))
        clear hg2 hn2 hat2 hb3 ho2 bxc hown
        have HHeld := KS.out _ HB3.out
        refine hK.out _ _ HHeld (fun _ => ?_)
        clear hK K
        (try simp only [Act.put]); (try simp only [List.setIfInBounds_toArray]); (try simp only [List.set_cons_zero, List.set_cons_succ])
        refine wpAnyH_ready (rs := [6]) (by kernel_rfl) (by simp) (AllReadyH.cons rfl (fun K hK => ?_) AllReadyH.nil)
        refine step_app1 _ (by rfl) _ _ _ (by rfl) wc.heap.size 33 _ 24 Tryz.underlying26 info_sl rfl (by omega) _ us (by rfl) HO2.out _ _ (by rfl) bx2 rfl (by have := HUS.out.1; have := HC20.out; omega) (by first | exact hs2 | (simp; omega)) ?_
        intro v4 w9 ho4 hg4 hn4 hat4
        have HBq := Lib.hid (HO2.out.own (Nat.le_refl _) HB3.out hg4 hs2)
        obtain ⟨A9, c9, e9, hc9, hr9⟩ := RIIn.snoc (F := fun _ => False) ho4 HUS.out.1 (fun j hj => by
          obtain ⟨A', c, a, b, d⟩ := HUS.out.2.2 j hj
          exact ⟨A', c, a, b, d.below HBq.out, fun _ _ _ _ => id⟩) HDX.out (HXS.out.below HBq.out) (fun _ _ _ _ => id) (fun _ _ h => h)
        rw [← HCX.out] at e9 hr9
        subst e9
        have HB9 := HBq
        have HR9 := Lib.hid hr9.rii
        clear ho4 hg4 hn4 hat4 hr9 hc9
        have HHeld := KS.out _ HB9.out
        refine hK.out _ _ HHeld (fun _ => ?_)
        clear hK K
        (try simp only [Act.put]); (try simp only [List.setIfInBounds_toArray]); (try simp only [List.set_cons_zero, List.set_cons_succ])
        refine wpAnyH_ready (rs := [7]) (by kernel_rfl) (by simp) (AllReadyH.cons rfl (fun K hK => ?_) AllReadyH.nil)
        go_simp
        refine (part0 (w := w9) (HT.out.below HB9.out) HR9.out HPO.out).mono ?_
        rintro e wn ⟨rfl, hbn⟩
        have HBn := Lib.hid (HB9.out.trans (hbn.mono HB9.out.size))
        clear hbn
        have HHeld := KS.out _ HBn.out
        refine hK.out _ _ HHeld (fun _ => ?_)
        clear hK K
        try simp only [Act.put, List.setIfInBounds_toArray, List.set_cons_zero, List.set_cons_succ]
        refine takeD (i := 8) (some 30) (.bool pb) rfl (by kernel_rfl) (by kernel_rfl) (by kernel_rfl) (by kernel_rfl) (fun _ _ _ h => h) (by assumption) (Or.inl ⟨by rfl, fun w hSw => by (try dsimp only at hSw); go_simp⟩) ?_
        simp only [Act.put, List.setIfInBounds_toArray, List.set_cons_zero, List.set_cons_succ]
        refine wpAnyH_done (by kernel_rfl) ?_ _
        clear KS
        by_cases hgt : (300 : Int) < (na : Int)
        · have hgt' : decide ((300 : Int) < (na : Int)) = true := decide_eq_true hgt
          go_wp2_with fail
          go_ret
          exact ⟨rfl, HB.out.trans (HBn.out.mono HB.out.size)⟩
        · have hgt' : decide ((300 : Int) < (na : Int)) = false := decide_eq_false hgt
          have hpl := HPL.out (by omega)
          have HH := Lib.hid (hasL0 (A := A2) (K := B) (c := c2) (d := d) (w := wn) (HR2.out.below HBn.out) (HXS.out.below HBn.out) hpl)
          clear hpl
          go_wp2_with fail
          refine HH.out.mono ?_
          rintro e wm ⟨rfl, hbm⟩
          have HBm := Lib.hid (HBn.out.trans (hbm.mono HBn.out.size))
          clear hbm
          go_wp2_with fail
          go_ret
          exact ⟨retB (by simp), HB.out.trans (HBm.out.mono HB.out.size)⟩
end Go.Proofs.YtdedajohkdbdkaaGreat.fnCandidates
