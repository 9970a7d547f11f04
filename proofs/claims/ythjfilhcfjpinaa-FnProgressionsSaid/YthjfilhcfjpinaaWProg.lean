/- The walk of the law FnProgressions. -/
import Derived.Test.YthjfilhcfjpinaaLikeG
import Derived.Test.YthjfilhcfjpinaaDrProg
import Derived.Test.YthjfilhcfjpinaaFOpens
import Derived.Test.YthjfilhcfjpinaaPProgLaw
namespace Go.Proofs.Ythjfilhcfjpinaa.fnProgressions
set_option linter.unusedVariables false
open Go.RowKit
theorem chLock0 {m : Mk} {P1 P2 K : Option Addr} {p1 p2 q : Nat} {xs ys x : List Int} {st : Int} {gl : List (List Int)} {w : World} (hx : RI w P1 xs) (hy : RI w P2 ys) (hz : RI w K x) (h1 : xs.length ≤ p1) (h2 : x.length ≤ q) (hc : changeLockR m xs ys st x = (gl, 0)) :
    Calls Try.prog 33 #[.agg #[.int .i64 m.c, .int .i64 m.d, .int .i64 m.s, .int .i64 m.a, .int .i64 m.l], .agg #[.slice P1 xs.length p1, .slice P2 ys.length p2, .int .i64 st], .slice K x.length q] w fun e w' => ∃ (AN : Option Addr) (cN : Nat), e = .returned (.tuple #[.agg #[.slice AN gl.length cN], .int .i64 0]) ∧ OII w' w.heap.size w'.heap.size (.slice AN gl.length cN) gl ∧ Below w.heap.size w w' := by
  have := implChangeLock_any m P1 p1 xs P2 p2 ys st K q x w hx hy hz h1 h2
  rw [hc] at this
  exact this.mono fun e w' ⟨A, c, he, _, _, ho, hb⟩ => ⟨A, c, he, ho, hb⟩
theorem opens0 {m : Mk} {D K : Option Addr} {q d : Nat} {l : List (List Int)} {key : List Int} {w : World} {b : Bool} (h : RII w D l) (k : RI w K key) (hcap : key.length ≤ d) (hc : (b, 0) = opensR m l key) :
    Calls Try.prog 41 #[.agg #[.int .i64 m.c, .int .i64 m.d, .int .i64 m.s, .int .i64 m.a, .int .i64 m.l], .agg #[.slice D l.length q], .slice K key.length d] w fun e w' => e = .returned (.tuple #[.bool b, .int .i64 0]) ∧ Below w.heap.size w w' := by
  have := implOpens_any m D q l K d key w h k hcap
  rw [← hc] at this
  exact this
theorem change_code {m : Mk} {xs ys zs : List Int} {s kl : Int} {hl : List (List Int)} (h : changeLockR m xs ys s zs = (hl, kl)) : isChangeKeyF m xs ys s zs = (kl == 0) := by
  unfold changeLockR at h
  have hk : kl = changeC m xs ys s zs := by
    by_cases h0 : changeC m xs ys s zs = 0
    · rw [if_pos h0] at h; rw [h0]; exact (congrArg Prod.snd h).symm
    · rw [if_neg h0] at h; exact (congrArg Prod.snd h).symm
  rw [hk]
  unfold changeC isChangeKeyF
  cases isProgF m xs ys s with
  | false => rfl
  | true => cases (isKey m zs && isChange xs ys s zs) <;> rfl
set_option maxRecDepth 100000 in
set_option maxHeartbeats 16000000 in
theorem walk (A : Option Addr) (c : Nat) (bs : List Int) (w : World) (h : RCode w A bs) :
    Calls Try.prog 5 #[.slice A bs.length c] w fun e w' => e = .returned (.bool true) ∧ Below w.heap.size w w' := by
  have HC := Lib.hid h
  clear h
  by_cases hbig : (bs.length : Int) > 4096
  · have HBG := big_any A bs.length c w
    rw [decide_eq_true hbig] at HBG
    have HBB := Lib.hid HBG
    clear hbig HBG
    go_enter Try.func5, Try.ntmps5
    go_wp2_with fail
    refine HBB.out.mono ?_
    rintro e w1 ⟨rfl, rfl⟩
    go_wp2_with fail
    go_ret
    exact ⟨rfl, Below.refl _ _⟩
  · have HBG := big_any A bs.length c w
    rw [decide_eq_false hbig] at HBG
    have HBB := Lib.hid HBG
    clear hbig HBG
    go_enter Try.func5, Try.ntmps5
    go_wp2_with fail
    refine HBB.out.mono ?_
    rintro e w1 ⟨rfl, rfl⟩
    have HB := Lib.hid (Below.refl w.heap.size w)
    have E1 := Lib.hid (drawChangeKeys_any A c bs w HC.out)
    go_wp2_with fail
    refine E1.out.mono ?_
    rintro e v1 ⟨m, P1, p1, xs, P2, p2, ys, st, most, rfl, hc1, hx, hy, hmo, hb⟩
    clear E1
    replace HB := Lib.hid (HB.out.trans (hb.mono HB.out.size))
    have HXS := Lib.hid (hx)
    have HYS := Lib.hid (hy)
    clear hx hy hb
    have HC1 := Lib.hid hc1
    have HWF := Lib.hid (wf_small hmo)
    clear hc1 hmo
    obtain ⟨v1b, hv1b⟩ : ∃ wb, wb = (v1.alloc (.cells #[.int .i64 m.c, .int .i64 m.d, .int .i64 m.s, .int .i64 m.a, .int .i64 m.l] 25)).alloc (.cells #[.slice P1 xs.length p1, .slice P2 ys.length p2, .int .i64 st] 52) := ⟨_, rfl⟩
    have hbx : Below v1.heap.size v1 v1b := by rw [hv1b]; exact ((Below.refl _ _).alloc (Nat.le_refl _) _).alloc (by simp only [World.size_alloc]; omega) _
    replace HXS := Lib.hid (HXS.out.below hbx)
    replace HYS := Lib.hid (HYS.out.below hbx)
    replace HB := Lib.hid (HB.out.trans (hbx.mono HB.out.size))
    have HBM := Lib.hid (show BoxC v1b (v1.heap.size) 0 (mkCells m) by rw [hv1b]; exact (BoxC.new (w := v1) (mkCells m) rfl).below ((Below.refl _ _).alloc (Nat.le_refl _) _))
    have HBP := Lib.hid (show BoxC v1b (v1.heap.size + 1) 0 [.slice P1 xs.length p1, .slice P2 ys.length p2, .int .i64 st] by rw [hv1b]; exact BoxC.new (w := (v1.alloc (.cells #[.int .i64 m.c, .int .i64 m.d, .int .i64 m.s, .int .i64 m.a, .int .i64 m.l] 25))) [.slice P1 xs.length p1, .slice P2 ys.length p2, .int .i64 st] (by simp))
    clear hbx
    rcases hg : chKeysR m xs ys st most with ⟨ks, kc⟩
    rcases hn : cChangesR m xs ys st with ⟨n, kn⟩
    have HGE := Lib.hid hg
    have HNE := Lib.hid hn
    clear hg hn
    have E2 := Lib.hid (by have := implChangeKeys_any m P1 p1 xs P2 p2 ys st most v1b HXS.out HYS.out HC1.out HWF.out; rw [HGE.out] at this; exact this)
    go_wp2_with fail
    rw [← hv1b]
    clear hv1b 
    refine E2.out.mono ?_
    rintro e v2 ⟨A2, c2, rfl, hc2, hr, _, hb⟩
    clear E2
    replace HXS := Lib.hid (HXS.out.below hb)
    replace HYS := Lib.hid (HYS.out.below hb)
    replace HBM := Lib.hid (HBM.out.below hb)
    replace HBP := Lib.hid (HBP.out.below hb)
    replace HB := Lib.hid (HB.out.trans (hb.mono HB.out.size))
    have HR2 := Lib.hid (show RII v2 A2 ks from hr)
    clear hr hb
    have E3 := Lib.hid (by have := specChangeKeys_any m P1 p1 xs P2 p2 ys st most v2 HXS.out HYS.out HC1.out HWF.out; rw [HGE.out] at this; exact this)
    obtain ⟨q0_0, q0_1, q0_2, q0_3, q0_4, _⟩ := HBM.out
    simp only [Nat.zero_add] at q0_1 q0_2 q0_3 q0_4
    obtain ⟨q1_0, q1_1, q1_2, _⟩ := HBP.out
    simp only [Nat.zero_add] at q1_1 q1_2
    go_wp2_with fail
    clear q0_0 q0_1 q0_2 q0_3 q0_4 q1_0 q1_1 q1_2
    refine E3.out.mono ?_
    rintro e v3 ⟨A3, c3, rfl, hc3, hr, hb⟩
    clear E3
    replace HXS := Lib.hid (HXS.out.below hb)
    replace HYS := Lib.hid (HYS.out.below hb)
    replace HBM := Lib.hid (HBM.out.below hb)
    replace HBP := Lib.hid (HBP.out.below hb)
    replace HR2 := Lib.hid (HR2.out.below hb)
    replace HB := Lib.hid (HB.out.trans (hb.mono HB.out.size))
    have HR3 := Lib.hid (show RII v3 A3 ks from hr)
    clear hr hb hc2 hc3
    have E4 := Lib.hid (drawChangeLock_any A c bs v3 (HC.out.below HB.out))
    go_wp2_with fail
    refine E4.out.mono ?_
    rintro e v4 ⟨m2, Q1, q1, us, Q2, q2, vs, st2, Z, qz, zs, rfl, hc1, hx, hy, hqz, hz, hb⟩
    clear E4
    replace HXS := Lib.hid (HXS.out.below hb)
    replace HYS := Lib.hid (HYS.out.below hb)
    replace HBM := Lib.hid (HBM.out.below hb)
    replace HBP := Lib.hid (HBP.out.below hb)
    replace HR2 := Lib.hid (HR2.out.below hb)
    replace HR3 := Lib.hid (HR3.out.below hb)
    replace HB := Lib.hid (HB.out.trans (hb.mono HB.out.size))
    have HUS := Lib.hid (hx.1)
    have HVS := Lib.hid (hy.1)
    have HZS := Lib.hid (hz.1)
    clear hx hy hz hb
    have HC2 := Lib.hid hc1
    have HQZ := Lib.hid hqz
    clear hc1 hqz
    obtain ⟨v4b, hv4b⟩ : ∃ wb, wb = (v4.alloc (.cells #[.int .i64 m2.c, .int .i64 m2.d, .int .i64 m2.s, .int .i64 m2.a, .int .i64 m2.l] 25)).alloc (.cells #[.slice Q1 us.length q1, .slice Q2 vs.length q2, .int .i64 st2] 52) := ⟨_, rfl⟩
    have hbx : Below v4.heap.size v4 v4b := by rw [hv4b]; exact ((Below.refl _ _).alloc (Nat.le_refl _) _).alloc (by simp only [World.size_alloc]; omega) _
    replace HXS := Lib.hid (HXS.out.below hbx)
    replace HYS := Lib.hid (HYS.out.below hbx)
    replace HBM := Lib.hid (HBM.out.below hbx)
    replace HBP := Lib.hid (HBP.out.below hbx)
    replace HR2 := Lib.hid (HR2.out.below hbx)
    replace HR3 := Lib.hid (HR3.out.below hbx)
    replace HUS := Lib.hid (HUS.out.below hbx)
    replace HVS := Lib.hid (HVS.out.below hbx)
    replace HZS := Lib.hid (HZS.out.below hbx)
    replace HB := Lib.hid (HB.out.trans (hbx.mono HB.out.size))
    have HBM2 := Lib.hid (show BoxC v4b (v4.heap.size) 0 (mkCells m2) by rw [hv4b]; exact (BoxC.new (w := v4) (mkCells m2) rfl).below ((Below.refl _ _).alloc (Nat.le_refl _) _))
    have HBP2 := Lib.hid (show BoxC v4b (v4.heap.size + 1) 0 [.slice Q1 us.length q1, .slice Q2 vs.length q2, .int .i64 st2] by rw [hv4b]; exact BoxC.new (w := (v4.alloc (.cells #[.int .i64 m2.c, .int .i64 m2.d, .int .i64 m2.s, .int .i64 m2.a, .int .i64 m2.l] 25))) [.slice Q1 us.length q1, .slice Q2 vs.length q2, .int .i64 st2] (by simp))
    clear hbx
    rcases hg : changeLockR m2 us vs st2 zs with ⟨hl, kl⟩
    have HLE := Lib.hid hg
    clear hg
    have E5 := Lib.hid (by have := implChangeLock_any m2 Q1 q1 us Q2 q2 vs st2 Z qz zs v4b HUS.out HVS.out HZS.out HC2.out HQZ.out; rw [HLE.out] at this; exact this)
    go_wp2_with fail
    rw [← hv4b]
    clear hv4b 
    refine E5.out.mono ?_
    rintro e v5 ⟨AL, cL, rfl, _, hr, _, hb⟩
    clear E5
    replace HXS := Lib.hid (HXS.out.below hb)
    replace HYS := Lib.hid (HYS.out.below hb)
    replace HBM := Lib.hid (HBM.out.below hb)
    replace HBP := Lib.hid (HBP.out.below hb)
    replace HR2 := Lib.hid (HR2.out.below hb)
    replace HR3 := Lib.hid (HR3.out.below hb)
    replace HUS := Lib.hid (HUS.out.below hb)
    replace HVS := Lib.hid (HVS.out.below hb)
    replace HZS := Lib.hid (HZS.out.below hb)
    replace HBM2 := Lib.hid (HBM2.out.below hb)
    replace HBP2 := Lib.hid (HBP2.out.below hb)
    replace HB := Lib.hid (HB.out.trans (hb.mono HB.out.size))
    have HLA := Lib.hid (show RII v5 AL hl from hr)
    clear hr hb
    obtain ⟨q0_0, q0_1, q0_2, q0_3, q0_4, _⟩ := HBM2.out
    simp only [Nat.zero_add] at q0_1 q0_2 q0_3 q0_4
    obtain ⟨q1_0, q1_1, q1_2, _⟩ := HBP2.out
    simp only [Nat.zero_add] at q1_1 q1_2
    have HBM2lt := World.block_lt_of_cell? v5 _ (HBM2.out.1)
    simp only at HBM2lt
    have HBP2lt := World.block_lt_of_cell? v5 _ (HBP2.out.1)
    simp only at HBP2lt
    obtain ⟨v5b, hv5b⟩ : ∃ wb, wb = v5.alloc (.cells #[.slice AL hl.length cL] 28) := ⟨_, rfl⟩
    have hbx : Below v5.heap.size v5 v5b := by rw [hv5b]; exact (Below.refl _ _).alloc (Nat.le_refl _) _
    replace HXS := Lib.hid (HXS.out.below hbx)
    replace HYS := Lib.hid (HYS.out.below hbx)
    replace HBM := Lib.hid (HBM.out.below hbx)
    replace HBP := Lib.hid (HBP.out.below hbx)
    replace HR2 := Lib.hid (HR2.out.below hbx)
    replace HR3 := Lib.hid (HR3.out.below hbx)
    replace HUS := Lib.hid (HUS.out.below hbx)
    replace HVS := Lib.hid (HVS.out.below hbx)
    replace HZS := Lib.hid (HZS.out.below hbx)
    replace HBM2 := Lib.hid (HBM2.out.below hbx)
    replace HBP2 := Lib.hid (HBP2.out.below hbx)
    replace HLA := Lib.hid (HLA.out.below hbx)
    replace HB := Lib.hid (HB.out.trans (hbx.mono HB.out.size))
    have HBL := Lib.hid (show BoxC v5b (v5.heap.size) 0 [.slice AL hl.length cL] by rw [hv5b]; exact BoxC.new (w := v5) [.slice AL hl.length cL] rfl)
    clear hbx
    have E6 := Lib.hid (by have := specChangeLock_any m2 Q1 q1 us Q2 q2 vs st2 Z qz zs v5b HUS.out HVS.out HZS.out HC2.out HQZ.out; rw [HLE.out] at this; exact this)
    go_wp2_with fail
    rw [← hv5b]
    clear hv5b q0_0 q0_1 q0_2 q0_3 q0_4 q1_0 q1_1 q1_2 HBM2lt HBP2lt
    refine E6.out.mono ?_
    rintro e v6 ⟨AL3, cL3, rfl, _, hr, _, hb⟩
    clear E6
    replace HXS := Lib.hid (HXS.out.below hb)
    replace HYS := Lib.hid (HYS.out.below hb)
    replace HBM := Lib.hid (HBM.out.below hb)
    replace HBP := Lib.hid (HBP.out.below hb)
    replace HR2 := Lib.hid (HR2.out.below hb)
    replace HR3 := Lib.hid (HR3.out.below hb)
    replace HUS := Lib.hid (HUS.out.below hb)
    replace HVS := Lib.hid (HVS.out.below hb)
    replace HZS := Lib.hid (HZS.out.below hb)
    replace HBM2 := Lib.hid (HBM2.out.below hb)
    replace HBP2 := Lib.hid (HBP2.out.below hb)
    replace HLA := Lib.hid (HLA.out.below hb)
    replace HBL := Lib.hid (HBL.out.below hb)
    replace HB := Lib.hid (HB.out.trans (hb.mono HB.out.size))
    have HLB := Lib.hid (show RII v6 AL3 hl from hr)
    clear hr hb
    obtain ⟨q0_0, q0_1, q0_2, q0_3, q0_4, _⟩ := HBM.out
    simp only [Nat.zero_add] at q0_1 q0_2 q0_3 q0_4
    obtain ⟨q1_0, q1_1, q1_2, _⟩ := HBP.out
    simp only [Nat.zero_add] at q1_1 q1_2
    have HBMlt := World.block_lt_of_cell? v6 _ (HBM.out.1)
    simp only at HBMlt
    have HBPlt := World.block_lt_of_cell? v6 _ (HBP.out.1)
    simp only at HBPlt
    obtain ⟨v6b, hv6b⟩ : ∃ wb, wb = v6.alloc (.cells #[.slice AL3 hl.length cL3] 28) := ⟨_, rfl⟩
    have hbx : Below v6.heap.size v6 v6b := by rw [hv6b]; exact (Below.refl _ _).alloc (Nat.le_refl _) _
    replace HXS := Lib.hid (HXS.out.below hbx)
    replace HYS := Lib.hid (HYS.out.below hbx)
    replace HBM := Lib.hid (HBM.out.below hbx)
    replace HBP := Lib.hid (HBP.out.below hbx)
    replace HR2 := Lib.hid (HR2.out.below hbx)
    replace HR3 := Lib.hid (HR3.out.below hbx)
    replace HUS := Lib.hid (HUS.out.below hbx)
    replace HVS := Lib.hid (HVS.out.below hbx)
    replace HZS := Lib.hid (HZS.out.below hbx)
    replace HBM2 := Lib.hid (HBM2.out.below hbx)
    replace HBP2 := Lib.hid (HBP2.out.below hbx)
    replace HLA := Lib.hid (HLA.out.below hbx)
    replace HBL := Lib.hid (HBL.out.below hbx)
    replace HLB := Lib.hid (HLB.out.below hbx)
    replace HB := Lib.hid (HB.out.trans (hbx.mono HB.out.size))
    have HBL3 := Lib.hid (show BoxC v6b (v6.heap.size) 0 [.slice AL3 hl.length cL3] by rw [hv6b]; exact BoxC.new (w := v6) [.slice AL3 hl.length cL3] rfl)
    clear hbx
    have E7 := Lib.hid (by have := implCountChanges_any m P1 p1 xs P2 p2 ys st v6b HXS.out HYS.out HC1.out; rw [HNE.out] at this; exact this)
    go_wp2_with fail
    rw [← hv6b]
    clear hv6b q0_0 q0_1 q0_2 q0_3 q0_4 q1_0 q1_1 q1_2 HBMlt HBPlt
    refine E7.out.mono ?_
    rintro e v7 ⟨rfl, hb⟩
    clear E7
    replace HXS := Lib.hid (HXS.out.below hb)
    replace HYS := Lib.hid (HYS.out.below hb)
    replace HBM := Lib.hid (HBM.out.below hb)
    replace HBP := Lib.hid (HBP.out.below hb)
    replace HR2 := Lib.hid (HR2.out.below hb)
    replace HR3 := Lib.hid (HR3.out.below hb)
    replace HUS := Lib.hid (HUS.out.below hb)
    replace HVS := Lib.hid (HVS.out.below hb)
    replace HZS := Lib.hid (HZS.out.below hb)
    replace HBM2 := Lib.hid (HBM2.out.below hb)
    replace HBP2 := Lib.hid (HBP2.out.below hb)
    replace HLA := Lib.hid (HLA.out.below hb)
    replace HBL := Lib.hid (HBL.out.below hb)
    replace HLB := Lib.hid (HLB.out.below hb)
    replace HBL3 := Lib.hid (HBL3.out.below hb)
    replace HB := Lib.hid (HB.out.trans (hb.mono HB.out.size))
    clear hb
    have E8 := Lib.hid (by have := specCountChanges_any m P1 p1 xs P2 p2 ys st v7 HXS.out HYS.out HC1.out; rw [HNE.out] at this; exact this)
    obtain ⟨q0_0, q0_1, q0_2, q0_3, q0_4, _⟩ := HBM.out
    simp only [Nat.zero_add] at q0_1 q0_2 q0_3 q0_4
    obtain ⟨q1_0, q1_1, q1_2, _⟩ := HBP.out
    simp only [Nat.zero_add] at q1_1 q1_2
    go_wp2_with fail
    clear q0_0 q0_1 q0_2 q0_3 q0_4 q1_0 q1_1 q1_2
    refine E8.out.mono ?_
    rintro e v8 ⟨rfl, hb⟩
    clear E8
    replace HXS := Lib.hid (HXS.out.below hb)
    replace HYS := Lib.hid (HYS.out.below hb)
    replace HBM := Lib.hid (HBM.out.below hb)
    replace HBP := Lib.hid (HBP.out.below hb)
    replace HR2 := Lib.hid (HR2.out.below hb)
    replace HR3 := Lib.hid (HR3.out.below hb)
    replace HUS := Lib.hid (HUS.out.below hb)
    replace HVS := Lib.hid (HVS.out.below hb)
    replace HZS := Lib.hid (HZS.out.below hb)
    replace HBM2 := Lib.hid (HBM2.out.below hb)
    replace HBP2 := Lib.hid (HBP2.out.below hb)
    replace HLA := Lib.hid (HLA.out.below hb)
    replace HBL := Lib.hid (HBL.out.below hb)
    replace HLB := Lib.hid (HLB.out.below hb)
    replace HBL3 := Lib.hid (HBL3.out.below hb)
    replace HB := Lib.hid (HB.out.trans (hb.mono HB.out.size))
    clear hb
    obtain ⟨pb, hpb⟩ : ∃ b, b = isProgF m xs ys st := ⟨_, rfl⟩
    obtain ⟨kz, hkz⟩ : ∃ b, b = (kl == 0) := ⟨_, rfl⟩
    have hck : isChangeKeyF m2 us vs st2 zs = kz := by
      have := HLE.out
      rw [hkz]
      exact change_code this
    have HPB := Lib.hid hpb; have HKZ := Lib.hid hkz; have HCK := Lib.hid hck
    have KS := Lib.hid (show ∀ w' : World, Below v8.heap.size v8 w' → (w'.cell? ⟨v1.heap.size, 0, none⟩ = some (.int .i64 m.c) ∧ w'.cell? ⟨v1.heap.size, 1, none⟩ = some (.int .i64 m.d) ∧ w'.cell? ⟨v1.heap.size, 2, none⟩ = some (.int .i64 m.s) ∧ w'.cell? ⟨v1.heap.size, 3, none⟩ = some (.int .i64 m.a) ∧ w'.cell? ⟨v1.heap.size, 4, none⟩ = some (.int .i64 m.l) ∧ w'.cell? ⟨v1.heap.size + 1, 0, none⟩ = some (.slice P1 xs.length p1) ∧ w'.cell? ⟨v1.heap.size + 1, 1, none⟩ = some (.slice P2 ys.length p2) ∧ w'.cell? ⟨v1.heap.size + 1, 2, none⟩ = some (.int .i64 st) ∧ w'.cell? ⟨v4.heap.size, 0, none⟩ = some (.int .i64 m2.c) ∧ w'.cell? ⟨v4.heap.size, 1, none⟩ = some (.int .i64 m2.d) ∧ w'.cell? ⟨v4.heap.size, 2, none⟩ = some (.int .i64 m2.s) ∧ w'.cell? ⟨v4.heap.size, 3, none⟩ = some (.int .i64 m2.a) ∧ w'.cell? ⟨v4.heap.size, 4, none⟩ = some (.int .i64 m2.l) ∧ w'.cell? ⟨v4.heap.size + 1, 0, none⟩ = some (.slice Q1 us.length q1) ∧ w'.cell? ⟨v4.heap.size + 1, 1, none⟩ = some (.slice Q2 vs.length q2) ∧ w'.cell? ⟨v4.heap.size + 1, 2, none⟩ = some (.int .i64 st2) ∧ w'.cell? ⟨v5.heap.size, 0, none⟩ = some (.slice AL hl.length cL) ∧ w'.cell? ⟨v6.heap.size, 0, none⟩ = some (.slice AL3 hl.length cL3)) from fun w' hw => by
      obtain ⟨a0, a1, a2, a3, a4, _⟩ := HBM.out.below hw
      obtain ⟨b0, b1, b2, _⟩ := HBP.out.below hw
      obtain ⟨d0, d1, d2, d3, d4, _⟩ := HBM2.out.below hw
      obtain ⟨e0, e1, e2, _⟩ := HBP2.out.below hw
      obtain ⟨f0, _⟩ := HBL.out.below hw
      obtain ⟨g0, _⟩ := HBL3.out.below hw
      exact ⟨a0, a1, a2, a3, a4, b0, b1, b2, d0, d1, d2, d3, d4, e0, e1, e2, f0, g0⟩)
    clear hpb hkz hck
    go_wp2_with fail
    refine wp_region_held_drew (S := (fun w' => (w'.cell? ⟨v1.heap.size, 0, none⟩ = some (.int .i64 m.c) ∧ w'.cell? ⟨v1.heap.size, 1, none⟩ = some (.int .i64 m.d) ∧ w'.cell? ⟨v1.heap.size, 2, none⟩ = some (.int .i64 m.s) ∧ w'.cell? ⟨v1.heap.size, 3, none⟩ = some (.int .i64 m.a) ∧ w'.cell? ⟨v1.heap.size, 4, none⟩ = some (.int .i64 m.l) ∧ w'.cell? ⟨v1.heap.size + 1, 0, none⟩ = some (.slice P1 xs.length p1) ∧ w'.cell? ⟨v1.heap.size + 1, 1, none⟩ = some (.slice P2 ys.length p2) ∧ w'.cell? ⟨v1.heap.size + 1, 2, none⟩ = some (.int .i64 st) ∧ w'.cell? ⟨v4.heap.size, 0, none⟩ = some (.int .i64 m2.c) ∧ w'.cell? ⟨v4.heap.size, 1, none⟩ = some (.int .i64 m2.d) ∧ w'.cell? ⟨v4.heap.size, 2, none⟩ = some (.int .i64 m2.s) ∧ w'.cell? ⟨v4.heap.size, 3, none⟩ = some (.int .i64 m2.a) ∧ w'.cell? ⟨v4.heap.size, 4, none⟩ = some (.int .i64 m2.l) ∧ w'.cell? ⟨v4.heap.size + 1, 0, none⟩ = some (.slice Q1 us.length q1) ∧ w'.cell? ⟨v4.heap.size + 1, 1, none⟩ = some (.slice Q2 vs.length q2) ∧ w'.cell? ⟨v4.heap.size + 1, 2, none⟩ = some (.int .i64 st2) ∧ w'.cell? ⟨v5.heap.size, 0, none⟩ = some (.slice AL hl.length cL) ∧ w'.cell? ⟨v6.heap.size, 0, none⟩ = some (.slice AL3 hl.length cL3)))) (by kernel_rfl) (KS.out _ (belowDrew0 _)) (fun hHeld => ?_)
    refine takeD (i := 0) (some 83) (.int .i64 kc) rfl (by kernel_rfl) (by kernel_rfl) (by kernel_rfl) (by kernel_rfl) (fun _ _ _ h => h) (by assumption) (Or.inl ⟨by rfl, fun w hSw => by (try dsimp only at hSw); go_simp⟩) ?_
    simp only [Act.put, List.setIfInBounds_toArray, List.set_cons_zero, List.set_cons_succ]
    refine takeD (i := 1) (some 84) (.int .i64 kc) rfl (by kernel_rfl) (by kernel_rfl) (by kernel_rfl) (by kernel_rfl) (fun _ _ _ h => h) (by assumption) (Or.inl ⟨by rfl, fun w hSw => by (try dsimp only at hSw); go_simp⟩) ?_
    simp only [Act.put, List.setIfInBounds_toArray, List.set_cons_zero, List.set_cons_succ]
    refine takeD (i := 2) (some 85) (.bool false) rfl (by kernel_rfl) (by kernel_rfl) (by kernel_rfl) (by kernel_rfl) (fun _ _ _ h => h) (by assumption) (Or.inl ⟨by rfl, fun w hSw => by (try dsimp only at hSw); go_simp; (try simp)⟩) ?_
    simp only [Act.put, List.setIfInBounds_toArray, List.set_cons_zero, List.set_cons_succ]
    refine takeD (i := 3) (some 86) (.bool false) rfl (by kernel_rfl) (by kernel_rfl) (by kernel_rfl) (by kernel_rfl) (fun _ _ _ h => h) (by assumption) (Or.inl ⟨by rfl, fun w hSw => by (try dsimp only at hSw); go_simp⟩) ?_
    simp only [Act.put, List.setIfInBounds_toArray, List.set_cons_zero, List.set_cons_succ]
    refine takeD (i := 4) (some 87) (.slice A2 ks.length c2) rfl (by kernel_rfl) (by kernel_rfl) (by kernel_rfl) (by kernel_rfl) (fun _ _ _ h => h) (by assumption) (Or.inl ⟨by rfl, fun w hSw => by (try dsimp only at hSw); go_simp⟩) ?_
    simp only [Act.put, List.setIfInBounds_toArray, List.set_cons_zero, List.set_cons_succ]
    refine takeD (i := 5) (some 88) (.slice A3 ks.length c3) rfl (by kernel_rfl) (by kernel_rfl) (by kernel_rfl) (by kernel_rfl) (fun _ _ _ h => h) (by assumption) (Or.inl ⟨by rfl, fun w hSw => by (try dsimp only at hSw); go_simp⟩) ?_
    simp only [Act.put, List.setIfInBounds_toArray, List.set_cons_zero, List.set_cons_succ]
    refine wpAnyH_ready (rs := [6]) (by kernel_rfl) (by simp) (AllReadyH.cons rfl (fun K hK => ?_) AllReadyH.nil)
    go_simp
    refine (likeListsB (c := c2) (d := c3) (HR2.out.below (belowDrew0 _)) (HR3.out.below (belowDrew0 _))).mono ?_
    rintro e wg ⟨rfl, hbg⟩
    have HBg := Lib.hid (belowDrew hbg)
    clear hbg
    have HHeld := KS.out _ HBg.out
    refine hK.out _ _ HHeld (fun _ => ?_)
    clear hK K
    try simp only [Act.put, List.setIfInBounds_toArray, List.set_cons_zero, List.set_cons_succ]
    refine takeD (i := 7) (some 90) (.bool false) rfl (by kernel_rfl) (by kernel_rfl) (by kernel_rfl) (by kernel_rfl) (fun _ _ _ h => h) (by assumption) (Or.inl ⟨by rfl, fun w hSw => by (try dsimp only at hSw); go_simp⟩) ?_
    simp only [Act.put, List.setIfInBounds_toArray, List.set_cons_zero, List.set_cons_succ]
    refine takeD (i := 8) (some 91) (.bool false) rfl (by kernel_rfl) (by kernel_rfl) (by kernel_rfl) (by kernel_rfl) (fun _ _ _ h => h) (by assumption) (Or.inl ⟨by rfl, fun w hSw => by (try dsimp only at hSw); go_simp⟩) ?_
    simp only [Act.put, List.setIfInBounds_toArray, List.set_cons_zero, List.set_cons_succ]
    refine takeD (i := 9) (some 92) (.bool false) rfl (by kernel_rfl) (by kernel_rfl) (by kernel_rfl) (by kernel_rfl) (fun _ _ _ h => h) (by assumption) (Or.inl ⟨by rfl, fun w hSw => by (try dsimp only at hSw); go_simp⟩) ?_
    simp only [Act.put, List.setIfInBounds_toArray, List.set_cons_zero, List.set_cons_succ]
    refine takeD (i := 10) (some 93) (.int .i64 kl) rfl (by kernel_rfl) (by kernel_rfl) (by kernel_rfl) (by kernel_rfl) (fun _ _ _ h => h) (by assumption) (Or.inl ⟨by rfl, fun w hSw => by (try dsimp only at hSw); go_simp⟩) ?_
    simp only [Act.put, List.setIfInBounds_toArray, List.set_cons_zero, List.set_cons_succ]
    refine takeD (i := 11) (some 94) (.int .i64 kl) rfl (by kernel_rfl) (by kernel_rfl) (by kernel_rfl) (by kernel_rfl) (fun _ _ _ h => h) (by assumption) (Or.inl ⟨by rfl, fun w hSw => by (try dsimp only at hSw); go_simp⟩) ?_
    simp only [Act.put, List.setIfInBounds_toArray, List.set_cons_zero, List.set_cons_succ]
    refine takeD (i := 12) (some 95) (.bool false) rfl (by kernel_rfl) (by kernel_rfl) (by kernel_rfl) (by kernel_rfl) (fun _ _ _ h => h) (by assumption) (Or.inl ⟨by rfl, fun w hSw => by (try dsimp only at hSw); go_simp; (try simp)⟩) ?_
    simp only [Act.put, List.setIfInBounds_toArray, List.set_cons_zero, List.set_cons_succ]
    refine takeD (i := 13) (some 96) (.bool false) rfl (by kernel_rfl) (by kernel_rfl) (by kernel_rfl) (by kernel_rfl) (fun _ _ _ h => h) (by assumption) (Or.inl ⟨by rfl, fun w hSw => by (try dsimp only at hSw); go_simp⟩) ?_
    simp only [Act.put, List.setIfInBounds_toArray, List.set_cons_zero, List.set_cons_succ]
    refine takeD (i := 14) (some 97) (.bool false) rfl (by kernel_rfl) (by kernel_rfl) (by kernel_rfl) (by kernel_rfl) (fun _ _ _ h => h) (by assumption) (Or.inl ⟨by rfl, fun w hSw => by (try dsimp only at hSw); go_simp⟩) ?_
    simp only [Act.put, List.setIfInBounds_toArray, List.set_cons_zero, List.set_cons_succ]
    refine takeD (i := 15) (some 98) (.agg #[.slice AL hl.length cL]) rfl (by kernel_rfl) (by kernel_rfl) (by kernel_rfl) (by kernel_rfl) (fun _ _ _ h => h) (by assumption) (Or.inl ⟨by rfl, fun w hSw => by (try dsimp only at hSw); go_simp⟩) ?_
    simp only [Act.put, List.setIfInBounds_toArray, List.set_cons_zero, List.set_cons_succ]
    refine takeD (i := 16) (some 99) (.agg #[.slice AL3 hl.length cL3]) rfl (by kernel_rfl) (by kernel_rfl) (by kernel_rfl) (by kernel_rfl) (fun _ _ _ h => h) (by assumption) (Or.inl ⟨by rfl, fun w hSw => by (try dsimp only at hSw); go_simp⟩) ?_
    simp only [Act.put, List.setIfInBounds_toArray, List.set_cons_zero, List.set_cons_succ]
    refine wpAnyH_ready (rs := [17]) (by kernel_rfl) (by simp) (AllReadyH.cons rfl (fun K hK => ?_) AllReadyH.nil)
    go_simp
    refine (likeLocksB (c := cL) (d := cL3) (HLA.out.below HBg.out) (HLB.out.below HBg.out)).mono ?_
    rintro e wh ⟨rfl, hbh⟩
    have HBh := Lib.hid (HBg.out.trans (hbh.mono HBg.out.size))
    clear hbh
    have HHeld := KS.out _ HBh.out
    refine hK.out _ _ HHeld (fun _ => ?_)
    clear hK K
    try simp only [Act.put, List.setIfInBounds_toArray, List.set_cons_zero, List.set_cons_succ]
    refine takeD (i := 18) (some 101) (.bool false) rfl (by kernel_rfl) (by kernel_rfl) (by kernel_rfl) (by kernel_rfl) (fun _ _ _ h => h) (by assumption) (Or.inl ⟨by rfl, fun w hSw => by (try dsimp only at hSw); go_simp⟩) ?_
    simp only [Act.put, List.setIfInBounds_toArray, List.set_cons_zero, List.set_cons_succ]
    refine takeD (i := 19) (some 102) (.bool false) rfl (by kernel_rfl) (by kernel_rfl) (by kernel_rfl) (by kernel_rfl) (fun _ _ _ h => h) (by assumption) (Or.inl ⟨by rfl, fun w hSw => by (try dsimp only at hSw); go_simp⟩) ?_
    simp only [Act.put, List.setIfInBounds_toArray, List.set_cons_zero, List.set_cons_succ]
    refine takeD (i := 20) (some 103) (.bool false) rfl (by kernel_rfl) (by kernel_rfl) (by kernel_rfl) (by kernel_rfl) (fun _ _ _ h => h) (by assumption) (Or.inl ⟨by rfl, fun w hSw => by (try dsimp only at hSw); go_simp⟩) ?_
    simp only [Act.put, List.setIfInBounds_toArray, List.set_cons_zero, List.set_cons_succ]
    refine takeD (i := 21) (some 104) (.int .i64 kn) rfl (by kernel_rfl) (by kernel_rfl) (by kernel_rfl) (by kernel_rfl) (fun _ _ _ h => h) (by assumption) (Or.inl ⟨by rfl, fun w hSw => by (try dsimp only at hSw); go_simp⟩) ?_
    simp only [Act.put, List.setIfInBounds_toArray, List.set_cons_zero, List.set_cons_succ]
    refine takeD (i := 22) (some 105) (.int .i64 kn) rfl (by kernel_rfl) (by kernel_rfl) (by kernel_rfl) (by kernel_rfl) (fun _ _ _ h => h) (by assumption) (Or.inl ⟨by rfl, fun w hSw => by (try dsimp only at hSw); go_simp⟩) ?_
    simp only [Act.put, List.setIfInBounds_toArray, List.set_cons_zero, List.set_cons_succ]
    refine takeD (i := 23) (some 106) (.bool false) rfl (by kernel_rfl) (by kernel_rfl) (by kernel_rfl) (by kernel_rfl) (fun _ _ _ h => h) (by assumption) (Or.inl ⟨by rfl, fun w hSw => by (try dsimp only at hSw); go_simp; (try simp)⟩) ?_
    simp only [Act.put, List.setIfInBounds_toArray, List.set_cons_zero, List.set_cons_succ]
    refine takeD (i := 24) (some 107) (.bool false) rfl (by kernel_rfl) (by kernel_rfl) (by kernel_rfl) (by kernel_rfl) (fun _ _ _ h => h) (by assumption) (Or.inl ⟨by rfl, fun w hSw => by (try dsimp only at hSw); go_simp⟩) ?_
    simp only [Act.put, List.setIfInBounds_toArray, List.set_cons_zero, List.set_cons_succ]
    refine takeD (i := 25) (some 108) (.bool false) rfl (by kernel_rfl) (by kernel_rfl) (by kernel_rfl) (by kernel_rfl) (fun _ _ _ h => h) (by assumption) (Or.inl ⟨by rfl, fun w hSw => by (try dsimp only at hSw); go_simp⟩) ?_
    simp only [Act.put, List.setIfInBounds_toArray, List.set_cons_zero, List.set_cons_succ]
    refine takeD (i := 26) (some 109) (.int .i64 n) rfl (by kernel_rfl) (by kernel_rfl) (by kernel_rfl) (by kernel_rfl) (fun _ _ _ h => h) (by assumption) (Or.inl ⟨by rfl, fun w hSw => by (try dsimp only at hSw); go_simp⟩) ?_
    simp only [Act.put, List.setIfInBounds_toArray, List.set_cons_zero, List.set_cons_succ]
    refine takeD (i := 27) (some 110) (.int .i64 n) rfl (by kernel_rfl) (by kernel_rfl) (by kernel_rfl) (by kernel_rfl) (fun _ _ _ h => h) (by assumption) (Or.inl ⟨by rfl, fun w hSw => by (try dsimp only at hSw); go_simp⟩) ?_
    simp only [Act.put, List.setIfInBounds_toArray, List.set_cons_zero, List.set_cons_succ]
    refine takeD (i := 28) (some 111) (.bool false) rfl (by kernel_rfl) (by kernel_rfl) (by kernel_rfl) (by kernel_rfl) (fun _ _ _ h => h) (by assumption) (Or.inl ⟨by rfl, fun w hSw => by (try dsimp only at hSw); go_simp; (try simp)⟩) ?_
    simp only [Act.put, List.setIfInBounds_toArray, List.set_cons_zero, List.set_cons_succ]
    refine takeD (i := 29) (some 112) (.bool false) rfl (by kernel_rfl) (by kernel_rfl) (by kernel_rfl) (by kernel_rfl) (fun _ _ _ h => h) (by assumption) (Or.inl ⟨by rfl, fun w hSw => by (try dsimp only at hSw); go_simp⟩) ?_
    simp only [Act.put, List.setIfInBounds_toArray, List.set_cons_zero, List.set_cons_succ]
    refine takeD (i := 30) (some 113) (.bool false) rfl (by kernel_rfl) (by kernel_rfl) (by kernel_rfl) (by kernel_rfl) (fun _ _ _ h => h) (by assumption) (Or.inl ⟨by rfl, fun w hSw => by (try dsimp only at hSw); go_simp⟩) ?_
    simp only [Act.put, List.setIfInBounds_toArray, List.set_cons_zero, List.set_cons_succ]
    refine takeD (i := 31) (some 114) (.agg #[.int .i64 m.c, .int .i64 m.d, .int .i64 m.s, .int .i64 m.a, .int .i64 m.l]) rfl (by kernel_rfl) (by kernel_rfl) (by kernel_rfl) (by kernel_rfl) (fun _ _ _ h => h) (by assumption) (Or.inl ⟨by rfl, fun w hSw => by (try dsimp only at hSw); go_simp⟩) ?_
    simp only [Act.put, List.setIfInBounds_toArray, List.set_cons_zero, List.set_cons_succ]
    refine takeD (i := 32) (some 115) (.agg #[.slice P1 xs.length p1, .slice P2 ys.length p2, .int .i64 st]) rfl (by kernel_rfl) (by kernel_rfl) (by kernel_rfl) (by kernel_rfl) (fun _ _ _ h => h) (by assumption) (Or.inl ⟨by rfl, fun w hSw => by (try dsimp only at hSw); go_simp⟩) ?_
    simp only [Act.put, List.setIfInBounds_toArray, List.set_cons_zero, List.set_cons_succ]
    refine takeD (i := 34) (some 117) (.agg #[.int .i64 m.c, .int .i64 m.d, .int .i64 m.s, .int .i64 m.a, .int .i64 m.l]) rfl (by kernel_rfl) (by kernel_rfl) (by kernel_rfl) (by kernel_rfl) (fun _ _ _ h => h) (by assumption) (Or.inl ⟨by rfl, fun w hSw => by (try dsimp only at hSw); go_simp⟩) ?_
    simp only [Act.put, List.setIfInBounds_toArray, List.set_cons_zero, List.set_cons_succ]
    refine takeD (i := 35) (some 118) (.agg #[.slice P1 xs.length p1, .slice P2 ys.length p2, .int .i64 st]) rfl (by kernel_rfl) (by kernel_rfl) (by kernel_rfl) (by kernel_rfl) (fun _ _ _ h => h) (by assumption) (Or.inl ⟨by rfl, fun w hSw => by (try dsimp only at hSw); go_simp⟩) ?_
    simp only [Act.put, List.setIfInBounds_toArray, List.set_cons_zero, List.set_cons_succ]
    refine wpAnyH_ready (rs := [33]) (by kernel_rfl) (by simp) (AllReadyH.cons rfl (fun K hK => ?_) AllReadyH.nil)
    go_simp
    refine (implIsProgression_any m P1 p1 xs P2 p2 ys st wh (HXS.out.below HBh.out) (HYS.out.below HBh.out) HC1.out).mono ?_
    rintro e wi ⟨he, hbi⟩
    rw [← HPB.out] at he; subst he
    have HBi := Lib.hid (HBh.out.trans (hbi.mono HBh.out.size))
    clear hbi
    have HHeld := KS.out _ HBi.out
    refine hK.out _ _ HHeld (fun _ => ?_)
    clear hK K
    try simp only [Act.put, List.setIfInBounds_toArray, List.set_cons_zero, List.set_cons_succ]
    refine wpAnyH_ready (rs := [36]) (by kernel_rfl) (by simp) (AllReadyH.cons rfl (fun K hK => ?_) AllReadyH.nil)
    go_simp
    refine (specIsProgression_any m P1 p1 xs P2 p2 ys st wi (HXS.out.below HBi.out) (HYS.out.below HBi.out) HC1.out).mono ?_
    rintro e wj ⟨he, hbj⟩
    rw [← HPB.out] at he; subst he
    have HBj := Lib.hid (HBi.out.trans (hbj.mono HBi.out.size))
    clear hbj
    have HHeld := KS.out _ HBj.out
    refine hK.out _ _ HHeld (fun _ => ?_)
    clear hK K
    try simp only [Act.put, List.setIfInBounds_toArray, List.set_cons_zero, List.set_cons_succ]
    refine takeD (i := 37) (some 120) (.bool false) rfl (by kernel_rfl) (by kernel_rfl) (by kernel_rfl) (by kernel_rfl) (fun _ _ _ h => h) (by assumption) (Or.inl ⟨by rfl, fun w hSw => by (try dsimp only at hSw); go_simp; (try simp)⟩) ?_
    simp only [Act.put, List.setIfInBounds_toArray, List.set_cons_zero, List.set_cons_succ]
    refine takeD (i := 38) (some 121) (.bool false) rfl (by kernel_rfl) (by kernel_rfl) (by kernel_rfl) (by kernel_rfl) (fun _ _ _ h => h) (by assumption) (Or.inl ⟨by rfl, fun w hSw => by (try dsimp only at hSw); go_simp⟩) ?_
    simp only [Act.put, List.setIfInBounds_toArray, List.set_cons_zero, List.set_cons_succ]
    refine takeD (i := 39) (some 122) (.bool false) rfl (by kernel_rfl) (by kernel_rfl) (by kernel_rfl) (by kernel_rfl) (fun _ _ _ h => h) (by assumption) (Or.inl ⟨by rfl, fun w hSw => by (try dsimp only at hSw); go_simp⟩) ?_
    simp only [Act.put, List.setIfInBounds_toArray, List.set_cons_zero, List.set_cons_succ]
    refine takeD (i := 40) (some 123) (.agg #[.int .i64 m2.c, .int .i64 m2.d, .int .i64 m2.s, .int .i64 m2.a, .int .i64 m2.l]) rfl (by kernel_rfl) (by kernel_rfl) (by kernel_rfl) (by kernel_rfl) (fun _ _ _ h => h) (by assumption) (Or.inl ⟨by rfl, fun w hSw => by (try dsimp only at hSw); go_simp⟩) ?_
    simp only [Act.put, List.setIfInBounds_toArray, List.set_cons_zero, List.set_cons_succ]
    refine takeD (i := 41) (some 124) (.agg #[.slice Q1 us.length q1, .slice Q2 vs.length q2, .int .i64 st2]) rfl (by kernel_rfl) (by kernel_rfl) (by kernel_rfl) (by kernel_rfl) (fun _ _ _ h => h) (by assumption) (Or.inl ⟨by rfl, fun w hSw => by (try dsimp only at hSw); go_simp⟩) ?_
    simp only [Act.put, List.setIfInBounds_toArray, List.set_cons_zero, List.set_cons_succ]
    refine takeD (i := 42) (some 125) (.slice Z zs.length qz) rfl (by kernel_rfl) (by kernel_rfl) (by kernel_rfl) (by kernel_rfl) (fun _ _ _ h => h) (by assumption) (Or.inl ⟨by rfl, fun w hSw => by (try dsimp only at hSw); go_simp⟩) ?_
    simp only [Act.put, List.setIfInBounds_toArray, List.set_cons_zero, List.set_cons_succ]
    refine takeD (i := 44) (some 127) (.int .i64 kl) rfl (by kernel_rfl) (by kernel_rfl) (by kernel_rfl) (by kernel_rfl) (fun _ _ _ h => h) (by assumption) (Or.inl ⟨by rfl, fun w hSw => by (try dsimp only at hSw); go_simp⟩) ?_
    simp only [Act.put, List.setIfInBounds_toArray, List.set_cons_zero, List.set_cons_succ]
    refine takeD (i := 45) (some 128) (.bool kz) rfl (by kernel_rfl) (by kernel_rfl) (by kernel_rfl) (by kernel_rfl) (fun _ _ _ h => h) (by assumption) (Or.inl ⟨by rfl, fun w hSw => by (try dsimp only at hSw); go_simp; (try simp [HKZ.out])⟩) ?_
    simp only [Act.put, List.setIfInBounds_toArray, List.set_cons_zero, List.set_cons_succ]
    refine wpAnyH_ready (rs := [43]) (by kernel_rfl) (by simp) (AllReadyH.cons rfl (fun K hK => ?_) AllReadyH.nil)
    go_simp
    refine (implIsChangeKey_any m2 Q1 q1 us Q2 q2 vs st2 Z qz zs wj (HUS.out.below HBj.out) (HVS.out.below HBj.out) (HZS.out.below HBj.out) HC2.out HQZ.out).mono ?_
    rintro e wk ⟨he, hbk⟩
    rw [HCK.out] at he; subst he
    have HBk := Lib.hid (HBj.out.trans (hbk.mono HBj.out.size))
    clear hbk
    have HHeld := KS.out _ HBk.out
    refine hK.out _ _ HHeld (fun _ => ?_)
    clear hK K
    try simp only [Act.put, List.setIfInBounds_toArray, List.set_cons_zero, List.set_cons_succ]
    refine takeD (i := 46) (some 129) (.bool false) rfl (by kernel_rfl) (by kernel_rfl) (by kernel_rfl) (by kernel_rfl) (fun _ _ _ h => h) (by assumption) (Or.inl ⟨by rfl, fun w hSw => by (try dsimp only at hSw); go_simp; (try simp)⟩) ?_
    simp only [Act.put, List.setIfInBounds_toArray, List.set_cons_zero, List.set_cons_succ]
    refine takeD (i := 47) (some 130) (.bool false) rfl (by kernel_rfl) (by kernel_rfl) (by kernel_rfl) (by kernel_rfl) (fun _ _ _ h => h) (by assumption) (Or.inl ⟨by rfl, fun w hSw => by (try dsimp only at hSw); go_simp⟩) ?_
    simp only [Act.put, List.setIfInBounds_toArray, List.set_cons_zero, List.set_cons_succ]
    refine wpAnyH_done (by kernel_rfl) ?_ _
    clear KS
    by_cases hk : kc = 0
    rotate_left
    · have hk' : (kc != 0) = true := by simpa using hk
      go_wp2_with fail
      go_ret
      exact ⟨rfl, HB.out.trans (HBk.out.mono HB.out.size)⟩
    · subst hk
      have hp : isProgF m xs ys st = true := by
        have := HGE.out; unfold chKeysR at this
        by_cases h0 : isProgF m xs ys st = true
        · exact h0
        · rw [if_neg h0] at this; exact absurd (congrArg Prod.snd this) (by simp)
      have hmo : inB most 0 300 = true := by
        have := HGE.out; unfold chKeysR at this; rw [if_pos hp] at this
        by_cases h0 : inB most 0 300 = true
        · exact h0
        · rw [if_neg h0] at this; exact absurd (congrArg Prod.snd this) (by simp)
      have hks : ks = (changeKeys m xs ys st).take most.toNat := by
        have := HGE.out; unfold chKeysR at this; rw [if_pos hp, if_pos hmo] at this; exact (congrArg Prod.fst this).symm
      have hn0 : n = ((changeKeys m xs ys st).length : Int) := by
        have := HNE.out; unfold cChangesR at this; rw [if_pos hp] at this; exact (congrArg Prod.fst this).symm
      have hmb := inB_iff.1 hmo
      have hmin : (ks.length : Int) = min most n := by rw [hks, List.length_take, hn0]; omega
      have hle : ks.length ≤ 300 := by rw [hks, List.length_take]; omega
      have HXK := Lib.hid (prog_key hp).2.2
      have HMK := Lib.hid (prog_key hp).1
      have HEA := Lib.hid (show ∀ k (hk : k < ks.length), isKey m ks[k] = true ∧ isChange xs ys st ks[k] = true ∧ changeC m xs ys st ks[k] = 0 from fun k hk => by
        have h2 : ∀ x, x ∈ ks → x ∈ changeKeys m xs ys st := fun x hx => by rw [hks] at hx; exact List.mem_of_mem_take hx
        exact changeC_at hp (h2 _ (List.getElem_mem hk)))
      have hnd : ks.Nodup := by rw [hks]; exact (nodup_change m xs ys st).sublist (List.take_sublist _ _)
      have HND := Lib.hid (show ∀ k n (hk : k < ks.length) (hn : n < ks.length), k ≠ n → ks[k] ≠ ks[n] from fun k n hk hn h e => by
        rcases Nat.lt_or_gt_of_ne h with h1 | h1
        · exact List.pairwise_iff_getElem.1 hnd k n hk hn h1 e
        · exact List.pairwise_iff_getElem.1 hnd n k hn hk h1 e.symm)
      have HMN := Lib.hid hmin
      clear hp hmo hks hn0 hmb hmin hnd
      go_wp2_with fail
      go_loopw [21, 22, 23, 24, 25, 26, 27, 28] (fun i _ _ _ _ _ _ _ wr => ∃ k : Nat, i = .int .i64 k ∧ k ≤ ks.length ∧ Below v8.heap.size v8 wr) (fun i _ _ _ _ _ _ _ _ => ks.length - (intOf i).toNat)
      case atStart => exact ⟨0, rfl, by omega, HBk.out⟩
      case round =>
        obtain ⟨k, rfl, hk, hb⟩ := hrel
        have HBr := Lib.hid hb
        have hsr := hb.size
        by_cases hlt : k < ks.length
        · by_cases hk6 : (k : Int) < 6
          · obtain ⟨bG, oG, A', c', rfl, hcell, hcc, hrow⟩ := (HR2.out.below hb).at_ hlt
            have hea := HEA.out k hlt
            obtain ⟨x, hx⟩ : ∃ x, x = ks[k] := ⟨_, rfl⟩
            rw [← hx] at hcell hcc hrow hea
            have HX := Lib.hid hx; have HRO := Lib.hid hrow; have HQ := Lib.hid hcc; have HEX := Lib.hid hea
            obtain ⟨gl, hgl⟩ : ∃ l, l = hullF m.c.toNat m.d.toNat [xs, x] := ⟨_, rfl⟩
            have HGL := Lib.hid hgl
            have HCE := Lib.hid (show changeLockR m xs ys st x = (gl, 0) by unfold changeLockR; rw [if_pos hea.2.2, hgl])
            have HLK := Lib.hid (show isLockF m gl = true by rw [hgl]; exact hull_lock HMK.out (two_cuts HXK.out hea.1) (by simp))
            have HO1 := Lib.hid (show (true, 0) = opensR m gl xs by unfold opensR; rw [if_pos HLK.out, if_pos HXK.out, hgl, hull_two_fst HXK.out hea.1])
            have i0 : (0 : Int) ≤ (k : Int) := by omega
            have i1 : (k : Int) < (ks.length : Int) := by omega
            have KS := Lib.hid (show ∀ w' : World, Below wr.heap.size wr w' → (w'.cell? ⟨v1.heap.size, 0, none⟩ = some (.int .i64 m.c) ∧ w'.cell? ⟨v1.heap.size, 1, none⟩ = some (.int .i64 m.d) ∧ w'.cell? ⟨v1.heap.size, 2, none⟩ = some (.int .i64 m.s) ∧ w'.cell? ⟨v1.heap.size, 3, none⟩ = some (.int .i64 m.a) ∧ w'.cell? ⟨v1.heap.size, 4, none⟩ = some (.int .i64 m.l) ∧ w'.cell? ⟨v1.heap.size + 1, 0, none⟩ = some (.slice P1 xs.length p1) ∧ w'.cell? ⟨v1.heap.size + 1, 1, none⟩ = some (.slice P2 ys.length p2) ∧ w'.cell? ⟨v1.heap.size + 1, 2, none⟩ = some (.int .i64 st) ∧ w'.cell? ⟨bG, oG + k, none⟩ = some (.slice A' x.length c')) from fun w' hw => by
              obtain ⟨a0, a1, a2, a3, a4, _⟩ := (HBM.out.below HBr.out).below hw
              obtain ⟨b0, b1, b2, _⟩ := (HBP.out.below HBr.out).below hw
              exact ⟨a0, a1, a2, a3, a4, b0, b1, b2, cell_in hw (World.block_lt_of_cell? _ _ hcell) hcell⟩)
            clear hea hx hrow hcc hcell hb hgl
            go_wp2_with fail
            go_cut [22, 23] from 133 to 199 (fun p q wx => ∃ (AN : Option Addr) (cN bb : Nat), p = .pointer (some ⟨bb, 0, none⟩) ∧ q = .int .i64 0 ∧ RII wx AN gl ∧ BoxC wx bb 0 [.slice AN gl.length cN] ∧ Below wr.heap.size wr wx)
            case first =>
              refine wp_region_held_drew (S := (fun w' => (w'.cell? ⟨v1.heap.size, 0, none⟩ = some (.int .i64 m.c) ∧ w'.cell? ⟨v1.heap.size, 1, none⟩ = some (.int .i64 m.d) ∧ w'.cell? ⟨v1.heap.size, 2, none⟩ = some (.int .i64 m.s) ∧ w'.cell? ⟨v1.heap.size, 3, none⟩ = some (.int .i64 m.a) ∧ w'.cell? ⟨v1.heap.size, 4, none⟩ = some (.int .i64 m.l) ∧ w'.cell? ⟨v1.heap.size + 1, 0, none⟩ = some (.slice P1 xs.length p1) ∧ w'.cell? ⟨v1.heap.size + 1, 1, none⟩ = some (.slice P2 ys.length p2) ∧ w'.cell? ⟨v1.heap.size + 1, 2, none⟩ = some (.int .i64 st) ∧ w'.cell? ⟨bG, oG + k, none⟩ = some (.slice A' x.length c')))) (by kernel_rfl) (KS.out _ (belowDrew0 _)) (fun hHeld => ?_)
              refine takeD (i := 0) (some 144) (.agg #[.int .i64 m.c, .int .i64 m.d, .int .i64 m.s, .int .i64 m.a, .int .i64 m.l]) rfl (by kernel_rfl) (by kernel_rfl) (by kernel_rfl) (by kernel_rfl) (fun _ _ _ h => h) (by assumption) (Or.inl ⟨by rfl, fun w hSw => by (try dsimp only at hSw); go_simp⟩) ?_
              simp only [Act.put, List.setIfInBounds_toArray, List.set_cons_zero, List.set_cons_succ]
              refine takeD (i := 1) (some 145) (.agg #[.slice P1 xs.length p1, .slice P2 ys.length p2, .int .i64 st]) rfl (by kernel_rfl) (by kernel_rfl) (by kernel_rfl) (by kernel_rfl) (fun _ _ _ h => h) (by assumption) (Or.inl ⟨by rfl, fun w hSw => by (try dsimp only at hSw); go_simp⟩) ?_
              simp only [Act.put, List.setIfInBounds_toArray, List.set_cons_zero, List.set_cons_succ]
              refine takeD (i := 2) (some 146) (.slice (some ⟨bG, oG, none⟩) ks.length c2) rfl (by kernel_rfl) (by kernel_rfl) (by kernel_rfl) (by kernel_rfl) (fun _ _ _ h => h) (by assumption) (Or.inl ⟨by rfl, fun w hSw => by (try dsimp only at hSw); go_simp⟩) ?_
              simp only [Act.put, List.setIfInBounds_toArray, List.set_cons_zero, List.set_cons_succ]
              refine takeD (i := 3) (some 147) (.int .i64 (k : Int)) rfl (by kernel_rfl) (by kernel_rfl) (by kernel_rfl) (by kernel_rfl) (fun _ _ _ h => h) (by assumption) (Or.inl ⟨by rfl, fun w hSw => by (try dsimp only at hSw); go_simp⟩) ?_
              simp only [Act.put, List.setIfInBounds_toArray, List.set_cons_zero, List.set_cons_succ]
              refine takeD (i := 4) (some 148) (.pointer (some ⟨bG, oG + k, none⟩)) rfl (by kernel_rfl) (by kernel_rfl) (by kernel_rfl) (by kernel_rfl) (fun _ _ _ h => h) (by assumption) (Or.inl ⟨by rfl, fun w hSw => by (try dsimp only at hSw); go_simp⟩) ?_
              simp only [Act.put, List.setIfInBounds_toArray, List.set_cons_zero, List.set_cons_succ]
              refine takeD (i := 5) (some 149) (.slice A' x.length c') rfl (by kernel_rfl) (by kernel_rfl) (by kernel_rfl) (by kernel_rfl) (fun _ _ _ h => h) (by assumption) (Or.inl ⟨by rfl, fun w hSw => by (try dsimp only at hSw); go_simp⟩) ?_
              simp only [Act.put, List.setIfInBounds_toArray, List.set_cons_zero, List.set_cons_succ]
              refine wpAnyH_ready (rs := [6, 10]) (by kernel_rfl) (by simp) (AllReadyH.cons rfl (fun K hK => ?_) (AllReadyH.cons rfl (fun K hK => ?_) AllReadyH.nil))
              · go_simp
                refine (chLock0 (w := wr.drew) ((HXS.out.below HBr.out).below (belowDrew0 _)) ((HYS.out.below HBr.out).below (belowDrew0 _)) (HRO.out.below (belowDrew0 _)) HC1.out HQ.out HCE.out).mono ?_
                rintro e wn ⟨AN, cN, rfl, ho, hbn⟩
                have HBn := Lib.hid (belowDrew hbn)
                have HON := Lib.hid ho
                clear hbn ho
                have HHeld := KS.out _ HBn.out
                refine hK.out _ _ HHeld (fun _ => ?_)
                clear hK K
                try simp only [Act.put, List.setIfInBounds_toArray, List.set_cons_zero, List.set_cons_succ]
                refine takeD (i := 7) (some 143) (.tuple #[.agg #[.slice AN gl.length cN], .int .i64 0]) rfl (by kernel_rfl) (by kernel_rfl) (by kernel_rfl) (by kernel_rfl) (fun _ _ _ h => h) (by assumption) (Or.inl ⟨by rfl, fun w hSw => by (try dsimp only at hSw); go_simp⟩) ?_
                simp only [Act.put, List.setIfInBounds_toArray, List.set_cons_zero, List.set_cons_succ]
                refine takeD (i := 8) (some 151) (.agg #[.slice AN gl.length cN]) rfl (by kernel_rfl) (by kernel_rfl) (by kernel_rfl) (by kernel_rfl) (fun _ _ _ h => h) (by assumption) (Or.inl ⟨by rfl, fun w hSw => by (try dsimp only at hSw); go_simp⟩) ?_
                simp only [Act.put, List.setIfInBounds_toArray, List.set_cons_zero, List.set_cons_succ]
                refine takeD (i := 9) (some 152) (.int .i64 0) rfl (by kernel_rfl) (by kernel_rfl) (by kernel_rfl) (by kernel_rfl) (fun _ _ _ h => h) (by assumption) (Or.inl ⟨by rfl, fun w hSw => by (try dsimp only at hSw); go_simp⟩) ?_
                simp only [Act.put, List.setIfInBounds_toArray, List.set_cons_zero, List.set_cons_succ]
                refine wpAnyH_ready (rs := [10]) (by kernel_rfl) (by simp) (AllReadyH.cons rfl (fun K hK => ?_) AllReadyH.nil)
                go_simp
                have b3 : Below wn.heap.size wn (wn.alloc (.cells #[.slice none 0 0] 28)) := (Below.refl _ _).alloc (Nat.le_refl _) _
                have HHeld := KS.out _ (HBn.out.trans (b3.mono HBn.out.size))
                refine hK.out _ _ HHeld (fun _ => ?_)
                clear hK K
                (try simp only [Act.put]); (try simp only [List.setIfInBounds_toArray]); (try simp only [List.set_cons_zero, List.set_cons_succ])
                refine wpAnyH_ready (rs := [11]) (by kernel_rfl) (by simp) (AllReadyH.cons rfl (fun K hK => ?_) AllReadyH.nil)
                go_simp
                have HHeld := KS.out _ (HBn.out.alloc HBn.out.size (.cells #[.slice AN gl.length cN] 28))
                refine hK.out _ _ HHeld (fun _ => ?_)
                clear hK K
                (try simp only [Act.put]); (try simp only [List.setIfInBounds_toArray]); (try simp only [List.set_cons_zero, List.set_cons_succ])
                refine takeD (i := 12) (some 23) (.int .i64 0) rfl (by kernel_rfl) (by kernel_rfl) (by kernel_rfl) (by kernel_rfl) (fun _ _ _ h => h) (by assumption) (Or.inl ⟨by rfl, fun w hSw => by (try dsimp only at hSw); go_simp⟩) ?_
                (try simp only [Act.put]); (try simp only [List.setIfInBounds_toArray]); (try simp only [List.set_cons_zero, List.set_cons_succ])
                refine wpAnyH_done (by kernel_rfl) ?_ _
                go_wp2_with fail
                go_meet
                exact ⟨AN, cN, wn.heap.size, rfl, rfl, HON.out.rii.below ((Below.refl _ _).alloc (Nat.le_refl _) _), (by simp [BoxC, Go.World.cell?_alloc_at]), HBn.out.alloc HBn.out.size _⟩
              · go_simp
                have b3 : Below wr.heap.size wr (wr.drew.alloc (.cells #[.slice none 0 0] 28)) := (belowDrew0 wr).alloc (by simp) _
                have HB3 := Lib.hid b3
                have HHeld := KS.out _ HB3.out
                refine hK.out _ _ HHeld (fun _ => ?_)
                clear hK K
                (try simp only [Act.put]); (try simp only [List.setIfInBounds_toArray]); (try simp only [List.set_cons_zero, List.set_cons_succ])
                refine wpAnyH_ready (rs := [6]) (by kernel_rfl) (by simp) (AllReadyH.cons rfl (fun K hK => ?_) AllReadyH.nil)
                go_simp
                refine (chLock0 (w := wr.drew.alloc (.cells #[.slice none 0 0] 28)) ((HXS.out.below HBr.out).below HB3.out) ((HYS.out.below HBr.out).below HB3.out) (HRO.out.below HB3.out) HC1.out HQ.out HCE.out).mono ?_
                rintro e wn ⟨AN, cN, rfl, ho, hbn⟩
                have HBn := Lib.hid (HB3.out.trans (hbn.mono HB3.out.size))
                have HON := Lib.hid ho
                have bx9 : BoxC (wr.drew.alloc (.cells #[.slice none 0 0] 28)) wr.heap.size 0 [.slice none 0 0] := BoxC.new (w := wr.drew) [.slice none 0 0] rfl
                have cz0 : wn.cell? ⟨wr.heap.size, 0, none⟩ = some (.slice none 0 0) := (hbn.cell (p := ⟨wr.heap.size, 0, none⟩) (by simp)).trans bx9.1
                have fz0 : wn.frozen? ⟨wr.heap.size, 0, none⟩ = false := (hbn.frozen (p := ⟨wr.heap.size, 0, none⟩) (by simp)).trans (World.frozen?_alloc_at _ _ _ _ rfl)
                have hblo : wr.heap.size < wn.heap.size := Nat.lt_of_lt_of_le (by simp) hbn.size
                clear hbn ho b3 bx9
                have HHeld := KS.out _ HBn.out
                refine hK.out _ _ HHeld (fun _ => ?_)
                clear hK K
                (try simp only [Act.put]); (try simp only [List.setIfInBounds_toArray]); (try simp only [List.set_cons_zero, List.set_cons_succ])
                refine takeD (i := 7) (some 143) (.tuple #[.agg #[.slice AN gl.length cN], .int .i64 0]) rfl (by kernel_rfl) (by kernel_rfl) (by kernel_rfl) (by kernel_rfl) (fun _ _ _ h => h) (by assumption) (Or.inl ⟨by rfl, fun w hSw => by (try dsimp only at hSw); go_simp⟩) ?_
                simp only [Act.put, List.setIfInBounds_toArray, List.set_cons_zero, List.set_cons_succ]
                refine takeD (i := 8) (some 151) (.agg #[.slice AN gl.length cN]) rfl (by kernel_rfl) (by kernel_rfl) (by kernel_rfl) (by kernel_rfl) (fun _ _ _ h => h) (by assumption) (Or.inl ⟨by rfl, fun w hSw => by (try dsimp only at hSw); go_simp⟩) ?_
                simp only [Act.put, List.setIfInBounds_toArray, List.set_cons_zero, List.set_cons_succ]
                refine takeD (i := 9) (some 152) (.int .i64 0) rfl (by kernel_rfl) (by kernel_rfl) (by kernel_rfl) (by kernel_rfl) (fun _ _ _ h => h) (by assumption) (Or.inl ⟨by rfl, fun w hSw => by (try dsimp only at hSw); go_simp⟩) ?_
                simp only [Act.put, List.setIfInBounds_toArray, List.set_cons_zero, List.set_cons_succ]
                refine wpAnyH_ready (rs := [11]) (by kernel_rfl) (by simp) (AllReadyH.cons rfl (fun K hK => ?_) AllReadyH.nil)
                go_simp
                have HHeld := KS.out _ (Below.setCell HBn.out (p := ⟨wr.heap.size, 0, none⟩) (Nat.le_refl _) (.slice AN gl.length cN))
                refine hK.out _ _ HHeld (fun _ => ?_)
                clear hK K
                (try simp only [Act.put]); (try simp only [List.setIfInBounds_toArray]); (try simp only [List.set_cons_zero, List.set_cons_succ])
                refine takeD (i := 12) (some 23) (.int .i64 0) rfl (by kernel_rfl) (by kernel_rfl) (by kernel_rfl) (by kernel_rfl) (fun _ _ _ h => h) (by assumption) (Or.inl ⟨by rfl, fun w hSw => by (try dsimp only at hSw); go_simp⟩) ?_
                (try simp only [Act.put]); (try simp only [List.setIfInBounds_toArray]); (try simp only [List.set_cons_zero, List.set_cons_succ])
                refine wpAnyH_done (by kernel_rfl) ?_ _
                go_wp2_with fail
                go_meet
                exact ⟨AN, cN, wr.heap.size, rfl, rfl, (OII.setLow (p := ⟨wr.heap.size, 0, none⟩) (by simp) HON.out).rii, ⟨World.cell?_setCell_same _ _ _ cz0, trivial⟩, Below.setCell HBn.out (p := ⟨wr.heap.size, 0, none⟩) (Nat.le_refl _) (.slice AN gl.length cN)⟩
            case rest =>
              obtain ⟨AN, cN, bb, rfl, rfl, hr, hbx, hbc⟩ := hcut
              clear KS
              have HNR := Lib.hid hr; have HNB := Lib.hid hbx
              have HBc := Lib.hid (HBr.out.trans (hbc.mono hsr))
              have HOX := Lib.hid (opens0 (q := cN) (d := p1) HNR.out (HXS.out.below HBc.out) HC1.out HO1.out)
              obtain ⟨x0, x1, x2, x3, x4, _⟩ := HBM.out.below HBc.out
              obtain ⟨y0, y1, y2, _⟩ := HBP.out.below HBc.out
              obtain ⟨z0, _⟩ := HNB.out
              simp only [Nat.zero_add] at x1 x2 x3 x4 y1 y2
              clear hr hbx hbc
              go_wp2_with fail
              clear x0 x1 x2 x3 x4 y0 y1 y2 z0
              refine HOX.out.mono ?_
              rintro e wo ⟨rfl, hbo⟩
              replace HNR := Lib.hid (HNR.out.below hbo); replace HNB := Lib.hid (HNB.out.below hbo)
              have HBo := Lib.hid (HBc.out.trans (hbo.mono HBc.out.size))
              clear HOX hbo HBc
              go_wp2_with fail
              go_loopw [26, 27, 28] (fun j _ _ wy => ∃ n' : Nat, j = .int .i64 n' ∧ n' ≤ ks.length ∧ Below wo.heap.size wo wy) (fun j _ _ _ => ks.length - (intOf j).toNat)
              case atStart => exact ⟨0, rfl, by omega, Below.refl _ _⟩
              case round =>
                obtain ⟨j, rfl, hj, hby⟩ := hrel
                have HBy := Lib.hid (HBo.out.trans (hby.mono HBo.out.size))
                have HBY := Lib.hid hby
                by_cases hltj : j < ks.length
                · by_cases hj6 : (j : Int) < 6
                  · obtain ⟨bG', oG', A'', c'', e1, hcell, hcc, hrow⟩ := (HR2.out.below HBy.out).at_ hltj
                    injection e1 with e1; injection e1 with e11 e12 _
                    subst e11 e12
                    have hez := HEA.out j hltj
                    have hnz : k ≠ j → x ≠ ks[j] := fun h => by rw [HX.out]; exact HND.out k j hlt hltj h
                    have hez2 : k = j → x = ks[j] := fun h => by subst h; exact HX.out
                    obtain ⟨z, hz⟩ : ∃ z, z = ks[j] := ⟨_, rfl⟩
                    rw [← hz] at hcell hcc hrow hez hnz hez2
                    have HRZ := Lib.hid hrow; have HQZ2 := Lib.hid hcc
                    obtain ⟨bz, hbz⟩ : ∃ b : Bool, b = ((k : Int) == (j : Int)) := ⟨_, rfl⟩
                    have HOZ := Lib.hid (show (bz, 0) = opensR m gl z by
                      unfold opensR
                      rw [if_pos HLK.out, if_pos hez.1, hbz, HGL.out]
                      by_cases hkj : k = j
                      · rw [← hez2 hkj, hull_two_snd HXK.out HEX.out.1]; simp [hkj]
                      · rw [change_other HXK.out HEX.out.1 hez.1 HEX.out.2.1 hez.2.1 (hnz hkj)]; simp; omega)
                    have HBZ := Lib.hid hbz
                    have j0 : (0 : Int) ≤ (j : Int) := by omega
                    have j1 : (j : Int) < (ks.length : Int) := by omega
                    have KS := Lib.hid (show ∀ w' : World, Below wr.heap.size wr w' → (w'.cell? ⟨v1.heap.size, 0, none⟩ = some (.int .i64 m.c) ∧ w'.cell? ⟨v1.heap.size, 1, none⟩ = some (.int .i64 m.d) ∧ w'.cell? ⟨v1.heap.size, 2, none⟩ = some (.int .i64 m.s) ∧ w'.cell? ⟨v1.heap.size, 3, none⟩ = some (.int .i64 m.a) ∧ w'.cell? ⟨v1.heap.size, 4, none⟩ = some (.int .i64 m.l) ∧ w'.cell? ⟨bb, 0, none⟩ = some (.slice AN gl.length cN) ∧ w'.cell? ⟨bG, oG + j, none⟩ = some (.slice A'' z.length c'')) from fun w' hw => by
                      obtain ⟨a0, a1, a2, a3, a4, _⟩ := (HBM.out.below HBy.out).below hw
                      obtain ⟨b0, _⟩ := (HNB.out.below HBY.out).below hw
                      exact ⟨a0, a1, a2, a3, a4, b0, cell_in hw (World.block_lt_of_cell? _ _ hcell) hcell⟩)
                    clear hez hnz hez2 hz hrow hcc hcell hbz hby
                    go_wp2_with fail
                    refine wp_region_held_drew (S := (fun w' => (w'.cell? ⟨v1.heap.size, 0, none⟩ = some (.int .i64 m.c) ∧ w'.cell? ⟨v1.heap.size, 1, none⟩ = some (.int .i64 m.d) ∧ w'.cell? ⟨v1.heap.size, 2, none⟩ = some (.int .i64 m.s) ∧ w'.cell? ⟨v1.heap.size, 3, none⟩ = some (.int .i64 m.a) ∧ w'.cell? ⟨v1.heap.size, 4, none⟩ = some (.int .i64 m.l) ∧ w'.cell? ⟨bb, 0, none⟩ = some (.slice AN gl.length cN) ∧ w'.cell? ⟨bG, oG + j, none⟩ = some (.slice A'' z.length c'')))) (by kernel_rfl) (KS.out _ (belowDrew0 _)) (fun hHeld => ?_)
                    refine takeD (i := 0) (some 182) (.agg #[.int .i64 m.c, .int .i64 m.d, .int .i64 m.s, .int .i64 m.a, .int .i64 m.l]) rfl (by kernel_rfl) (by kernel_rfl) (by kernel_rfl) (by kernel_rfl) (fun _ _ _ h => h) (by assumption) (Or.inl ⟨by rfl, fun w hSw => by (try dsimp only at hSw); go_simp⟩) ?_
                    simp only [Act.put, List.setIfInBounds_toArray, List.set_cons_zero, List.set_cons_succ]
                    refine takeD (i := 1) (some 183) (.agg #[.slice AN gl.length cN]) rfl (by kernel_rfl) (by kernel_rfl) (by kernel_rfl) (by kernel_rfl) (fun _ _ _ h => h) (by assumption) (Or.inl ⟨by rfl, fun w hSw => by (try dsimp only at hSw); go_simp⟩) ?_
                    simp only [Act.put, List.setIfInBounds_toArray, List.set_cons_zero, List.set_cons_succ]
                    refine takeD (i := 2) (some 184) (.slice (some ⟨bG, oG, none⟩) ks.length c2) rfl (by kernel_rfl) (by kernel_rfl) (by kernel_rfl) (by kernel_rfl) (fun _ _ _ h => h) (by assumption) (Or.inl ⟨by rfl, fun w hSw => by (try dsimp only at hSw); go_simp⟩) ?_
                    simp only [Act.put, List.setIfInBounds_toArray, List.set_cons_zero, List.set_cons_succ]
                    refine takeD (i := 3) (some 185) (.int .i64 (j : Int)) rfl (by kernel_rfl) (by kernel_rfl) (by kernel_rfl) (by kernel_rfl) (fun _ _ _ h => h) (by assumption) (Or.inl ⟨by rfl, fun w hSw => by (try dsimp only at hSw); go_simp⟩) ?_
                    simp only [Act.put, List.setIfInBounds_toArray, List.set_cons_zero, List.set_cons_succ]
                    refine takeD (i := 4) (some 186) (.pointer (some ⟨bG, oG + j, none⟩)) rfl (by kernel_rfl) (by kernel_rfl) (by kernel_rfl) (by kernel_rfl) (fun _ _ _ h => h) (by assumption) (Or.inl ⟨by rfl, fun w hSw => by (try dsimp only at hSw); go_simp⟩) ?_
                    simp only [Act.put, List.setIfInBounds_toArray, List.set_cons_zero, List.set_cons_succ]
                    refine takeD (i := 5) (some 187) (.slice A'' z.length c'') rfl (by kernel_rfl) (by kernel_rfl) (by kernel_rfl) (by kernel_rfl) (fun _ _ _ h => h) (by assumption) (Or.inl ⟨by rfl, fun w hSw => by (try dsimp only at hSw); go_simp⟩) ?_
                    simp only [Act.put, List.setIfInBounds_toArray, List.set_cons_zero, List.set_cons_succ]
                    refine wpAnyH_ready (rs := [6]) (by kernel_rfl) (by simp) (AllReadyH.cons rfl (fun K hK => ?_) AllReadyH.nil)
                    go_simp
                    refine (opens0 (q := cN) (d := c'') ((HNR.out.below HBY.out).below (belowDrew0 _)) (HRZ.out.below (belowDrew0 _)) HQZ2.out HOZ.out).mono ?_
                    rintro e wz ⟨rfl, hbz⟩
                    have HBz := Lib.hid (belowDrew hbz)
                    clear hbz
                    have HHeld := KS.out _ HBz.out
                    refine hK.out _ _ HHeld (fun _ => ?_)
                    clear hK K
                    refine takeD (i := 7) (some 181) (.tuple #[.bool bz, .int .i64 0]) rfl (by kernel_rfl) (by kernel_rfl) (by kernel_rfl) (by kernel_rfl) (fun _ _ _ h => h) (by assumption) (Or.inl ⟨by rfl, fun w hSw => by (try dsimp only at hSw); go_simp⟩) ?_
                    simp only [Act.put, List.setIfInBounds_toArray, List.set_cons_zero, List.set_cons_succ]
                    refine takeD (i := 8) (some 189) (.bool bz) rfl (by kernel_rfl) (by kernel_rfl) (by kernel_rfl) (by kernel_rfl) (fun _ _ _ h => h) (by assumption) (Or.inl ⟨by rfl, fun w hSw => by (try dsimp only at hSw); go_simp⟩) ?_
                    simp only [Act.put, List.setIfInBounds_toArray, List.set_cons_zero, List.set_cons_succ]
                    refine takeD (i := 9) (some 190) (.int .i64 0) rfl (by kernel_rfl) (by kernel_rfl) (by kernel_rfl) (by kernel_rfl) (fun _ _ _ h => h) (by assumption) (Or.inl ⟨by rfl, fun w hSw => by (try dsimp only at hSw); go_simp⟩) ?_
                    simp only [Act.put, List.setIfInBounds_toArray, List.set_cons_zero, List.set_cons_succ]
                    refine takeD (i := 10) (some 27) (.bool bz) rfl (by kernel_rfl) (by kernel_rfl) (by kernel_rfl) (by kernel_rfl) (fun _ _ _ h => h) (by assumption) (Or.inl ⟨by rfl, fun w hSw => by (try dsimp only at hSw); go_simp⟩) ?_
                    simp only [Act.put, List.setIfInBounds_toArray, List.set_cons_zero, List.set_cons_succ]
                    refine takeD (i := 11) (some 28) (.int .i64 0) rfl (by kernel_rfl) (by kernel_rfl) (by kernel_rfl) (by kernel_rfl) (fun _ _ _ h => h) (by assumption) (Or.inl ⟨by rfl, fun w hSw => by (try dsimp only at hSw); go_simp⟩) ?_
                    simp only [Act.put, List.setIfInBounds_toArray, List.set_cons_zero, List.set_cons_succ]
                    refine wpAnyH_done (by kernel_rfl) ?_ _
                    clear KS
                    have HBw := Lib.hid (HBY.out.trans (HBz.out.mono HBY.out.size))
                    clear HOZ
                    cases bz with
                    | true =>
                      have hq : ((k : Int) == (j : Int)) = true := HBZ.out.symm
                      go_wp2_with fail
                      go_roundw
                      case rel => exact ⟨j + 1, by go_num, by omega, HBw.out⟩
                      case measure => simp [intOf]; omega
                    | false =>
                      have hq : ((k : Int) == (j : Int)) = false := HBZ.out.symm
                      go_wp2_with fail
                      go_roundw
                      case rel => exact ⟨j + 1, by go_num, by omega, HBw.out⟩
                      case measure => simp [intOf]; omega
                  · have hj6' : decide ((j : Int) < 6) = false := decide_eq_false hj6
                    clear hby
                    go_wp2_with fail
                    go_roundw
                    case rel => exact ⟨k + 1, by go_num, by omega, HBy.out⟩
                    case measure => simp [intOf]; omega
                · have hj1 : decide (j < ks.length) = false := decide_eq_false hltj
                  have hj2 : decide ((j : Int) < (ks.length : Int)) = false := decide_eq_false (by omega)
                  clear hby
                  go_wp2_with fail
                  go_roundw
                  case rel => exact ⟨k + 1, by go_num, by omega, HBy.out⟩
                  case measure => simp [intOf]; omega
          · have hk6' : decide ((k : Int) < 6) = false := decide_eq_false hk6
            have hmn := HMN.out
            clear hb
            go_wp2_with fail
            go_ret
            exact ⟨retB (by first | (simp; done) | (simp; omega)), HB.out.trans (HBr.out.mono HB.out.size)⟩
        · have hk1 : decide (k < ks.length) = false := decide_eq_false hlt
          have hk2 : decide ((k : Int) < (ks.length : Int)) = false := decide_eq_false (by omega)
          have hmn := HMN.out
          clear hb
          go_wp2_with fail
          go_ret
          exact ⟨retB (by first | (simp; done) | (simp; omega)), HB.out.trans (HBr.out.mono HB.out.size)⟩
end Go.Proofs.Ythjfilhcfjpinaa.fnProgressions
