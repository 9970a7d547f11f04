/- The walk of the law FnFalse. -/
import Derived.Test.YtdedajohkdbdkaaLikeG
import Derived.Test.YtdedajohkdbdkaaDrSys4
import Derived.Test.YtdedajohkdbdkaaPFalseLaw
import Derived.Test.YtdedajohkdbdkaaFStopS
import Derived.Test.YtdedajohkdbdkaaFSysLaws2
namespace Go.Proofs.Ytdedajohkdbdkaa.fnFalse
set_option linter.unusedVariables false
open Go.RowKit
theorem stop0 {m : Mk} {T K : Option Addr} {cT q : Nat} {t cs : List (List Int)} {x y s k : Int} {w : World} (h : RII w T t) (g : RII w K cs) (hx : (Lit.int .i64 x).wf = true) (hy : (Lit.int .i64 y).wf = true) (he : stopR m t cs x y = (s, k)) :
    Calls Try.prog 10 #[.agg #[.int .i64 m.c, .int .i64 m.d, .int .i64 m.s, .int .i64 m.a, .int .i64 m.l, .slice T t.length cT], .slice K cs.length q, .int .i64 x, .int .i64 y] w fun e w' => e = .returned (.tuple #[.int .i64 s, .int .i64 k]) ∧ Below w.heap.size w w' := by
  have := implStopChamber_any m T cT t K q cs x y w h g hx hy
  rw [he] at this; exact this
theorem false_end {m : Mk} {t cs fs : List (List Int)} {kf : Int} (h : falseR m t cs = (fs, kf)) : (kf = 0 ∧ designF m t cs = ((fs.length : Int) == 0)) ∨ (kf ≠ 0 ∧ fs = [] ∧ designF m t cs = false) := by
  unfold falseR at h
  unfold designF
  by_cases h0 : cutsC m t cs = 0
  · rw [if_pos h0] at h
    obtain ⟨rfl, rfl⟩ := Prod.mk.inj h
    exact .inl ⟨rfl, by rw [h0]; rfl⟩
  · rw [if_neg h0] at h
    obtain ⟨rfl, rfl⟩ := Prod.mk.inj h
    exact .inr ⟨h0, rfl, by rw [beq_eq_false_iff_ne.2 h0]; rfl⟩
theorem false_rows {m : Mk} {t cs fs : List (List Int)} {kf : Int} (h : falseR m t cs = (fs, kf)) {k : Nat} (hk : k < fs.length) : fs[k].length = 2 ∧ (stopR m t cs (fs[k].getD 0 0) (fs[k].getD 1 0)).2 = 4 ∧ (0 ≤ fs[k].getD 0 0 ∧ fs[k].getD 0 0 ≤ 1000) ∧ 0 ≤ fs[k].getD 1 0 ∧ fs[k].getD 1 0 ≤ 1000 := by
  unfold falseR at h
  by_cases h0 : cutsC m t cs = 0
  · rw [if_pos h0] at h
    obtain ⟨rfl, rfl⟩ := Prod.mk.inj h
    exact false_law h0 (List.getElem_mem hk)
  · rw [if_neg h0] at h
    obtain ⟨rfl, rfl⟩ := Prod.mk.inj h
    simp at hk
set_option maxRecDepth 100000 in
set_option maxHeartbeats 16000000 in
theorem walk (A : Option Addr) (c : Nat) (bs : List Int) (w : World) (h : RCode w A bs) :
    Calls Try.prog 3 #[.slice A bs.length c] w fun e w' => e = .returned (.bool true) ∧ Below w.heap.size w w' := by
  have HC := Lib.hid h
  clear h
  by_cases hbig : (bs.length : Int) > 4096
  · have HBG := big_any A bs.length c w
    rw [decide_eq_true hbig] at HBG
    have HBB := Lib.hid HBG
    clear hbig HBG
    go_enter Try.func3, Try.ntmps3
    go_wp2_with fail
    refine HBB.out.mono ?_
    rintro e w1 ⟨rfl, rfl⟩
    go_wp2_with fail
    go_ret
    exact ⟨rfl, Below.refl _ _⟩
  · have HBG := big_any A bs.length c w
    rw [decide_eq_false hbig] at HBG
    have HBB := Lib.hid HBG
    clear hbig HBG
    go_enter Try.func3, Try.ntmps3
    go_wp2_with fail
    refine HBB.out.mono ?_
    rintro e w1 ⟨rfl, rfl⟩
    have HB := Lib.hid (Below.refl w.heap.size w)
    have E1 := Lib.hid (drawFalse_any A c bs w HC.out)
    go_wp2_with fail
    refine E1.out.mono ?_
    rintro e v1 ⟨m, T, t, cT, K, q, cs, rfl, -, hq, -, hT, hK, hb⟩
    clear E1
    replace HB := Lib.hid (HB.out.trans (hb.mono HB.out.size))
    have HT := Lib.hid (hT)
    have HK := Lib.hid (hK)
    clear hT hK hb
    have HQ := Lib.hid hq
    clear hq
    obtain ⟨v1b, hv1b⟩ : ∃ wb, wb = v1.alloc (.cells #[.int .i64 m.c, .int .i64 m.d, .int .i64 m.s, .int .i64 m.a, .int .i64 m.l, .slice T t.length cT] 28) := ⟨_, rfl⟩
    have hbx : Below v1.heap.size v1 v1b := by rw [hv1b]; exact (Below.refl _ _).alloc (Nat.le_refl _) _
    replace HT := Lib.hid (HT.out.below hbx)
    replace HK := Lib.hid (HK.out.below hbx)
    replace HB := Lib.hid (HB.out.trans (hbx.mono HB.out.size))
    have HBS := Lib.hid (show BoxC v1b (v1.heap.size) 0 [.int .i64 m.c, .int .i64 m.d, .int .i64 m.s, .int .i64 m.a, .int .i64 m.l, .slice T t.length cT] by rw [hv1b]; exact BoxC.new (w := v1) [.int .i64 m.c, .int .i64 m.d, .int .i64 m.s, .int .i64 m.a, .int .i64 m.l, .slice T t.length cT] rfl)
    clear hbx
    rcases hg : falseR m t cs with ⟨fs, kf⟩
    have HFE := Lib.hid hg
    clear hg
    have E2 := Lib.hid (by have := implFalseOpenings_any m T cT t K q cs v1b HT.out HK.out; rw [HFE.out] at this; exact this)
    go_wp2_with fail
    rw [← hv1b]
    clear hv1b 
    refine E2.out.mono ?_
    rintro e v2 ⟨A2, c2, rfl, hc2, hr, _, hb⟩
    clear E2
    replace HT := Lib.hid (HT.out.below hb)
    replace HK := Lib.hid (HK.out.below hb)
    replace HBS := Lib.hid (HBS.out.below hb)
    replace HB := Lib.hid (HB.out.trans (hb.mono HB.out.size))
    have HR2 := Lib.hid (show RII v2 A2 fs from hr)
    clear hr hb
    have E3 := Lib.hid (by have := specFalseOpenings_any m T cT t K q cs v2 HT.out HK.out; rw [HFE.out] at this; exact this)
    obtain ⟨q0_0, q0_1, q0_2, q0_3, q0_4, q0_5, _⟩ := HBS.out
    simp only [Nat.zero_add] at q0_1 q0_2 q0_3 q0_4 q0_5
    go_wp2_with fail
    clear q0_0 q0_1 q0_2 q0_3 q0_4 q0_5
    refine E3.out.mono ?_
    rintro e v3 ⟨A3, c3, rfl, hc3, hr, _, hb⟩
    clear E3
    replace HT := Lib.hid (HT.out.below hb)
    replace HK := Lib.hid (HK.out.below hb)
    replace HBS := Lib.hid (HBS.out.below hb)
    replace HR2 := Lib.hid (HR2.out.below hb)
    replace HB := Lib.hid (HB.out.trans (hb.mono HB.out.size))
    have HR3 := Lib.hid (show RII v3 A3 fs from hr)
    clear hr hb hc2 hc3
    have E4 := Lib.hid (drawStop_any A c bs v3 (HC.out.below HB.out))
    go_wp2_with fail
    refine E4.out.mono ?_
    rintro e v4 ⟨m2, T2, t2, cT2, K2, q2, cs2, kk, dd, rfl, -, hq, -, hT, hK, hkk, hdd, hb⟩
    clear E4
    replace HT := Lib.hid (HT.out.below hb)
    replace HK := Lib.hid (HK.out.below hb)
    replace HBS := Lib.hid (HBS.out.below hb)
    replace HR2 := Lib.hid (HR2.out.below hb)
    replace HR3 := Lib.hid (HR3.out.below hb)
    replace HB := Lib.hid (HB.out.trans (hb.mono HB.out.size))
    have HT2 := Lib.hid (hT)
    have HK2 := Lib.hid (hK)
    clear hT hK hb
    have HQ2 := Lib.hid hq
    have HWK := Lib.hid (wf_small hkk)
    have HWD := Lib.hid (wf_small hdd)
    clear hq hkk hdd
    obtain ⟨v4b, hv4b⟩ : ∃ wb, wb = v4.alloc (.cells #[.int .i64 m2.c, .int .i64 m2.d, .int .i64 m2.s, .int .i64 m2.a, .int .i64 m2.l, .slice T2 t2.length cT2] 28) := ⟨_, rfl⟩
    have hbx : Below v4.heap.size v4 v4b := by rw [hv4b]; exact (Below.refl _ _).alloc (Nat.le_refl _) _
    replace HT := Lib.hid (HT.out.below hbx)
    replace HK := Lib.hid (HK.out.below hbx)
    replace HBS := Lib.hid (HBS.out.below hbx)
    replace HR2 := Lib.hid (HR2.out.below hbx)
    replace HR3 := Lib.hid (HR3.out.below hbx)
    replace HT2 := Lib.hid (HT2.out.below hbx)
    replace HK2 := Lib.hid (HK2.out.below hbx)
    replace HB := Lib.hid (HB.out.trans (hbx.mono HB.out.size))
    have HBX := Lib.hid (show BoxC v4b (v4.heap.size) 0 [.int .i64 m2.c, .int .i64 m2.d, .int .i64 m2.s, .int .i64 m2.a, .int .i64 m2.l, .slice T2 t2.length cT2] by rw [hv4b]; exact BoxC.new (w := v4) [.int .i64 m2.c, .int .i64 m2.d, .int .i64 m2.s, .int .i64 m2.a, .int .i64 m2.l, .slice T2 t2.length cT2] rfl)
    clear hbx
    rcases hg : stopR m2 t2 cs2 kk dd with ⟨sc, ks⟩
    have HSE := Lib.hid hg
    clear hg
    have E5 := Lib.hid (by have := implStopChamber_any m2 T2 cT2 t2 K2 q2 cs2 kk dd v4b HT2.out HK2.out HWK.out HWD.out; rw [HSE.out] at this; exact this)
    go_wp2_with fail
    rw [← hv4b]
    clear hv4b 
    refine E5.out.mono ?_
    rintro e v5 ⟨rfl, hb⟩
    clear E5
    replace HT := Lib.hid (HT.out.below hb)
    replace HK := Lib.hid (HK.out.below hb)
    replace HBS := Lib.hid (HBS.out.below hb)
    replace HR2 := Lib.hid (HR2.out.below hb)
    replace HR3 := Lib.hid (HR3.out.below hb)
    replace HT2 := Lib.hid (HT2.out.below hb)
    replace HK2 := Lib.hid (HK2.out.below hb)
    replace HBX := Lib.hid (HBX.out.below hb)
    replace HB := Lib.hid (HB.out.trans (hb.mono HB.out.size))
    clear hb
    have E6 := Lib.hid (by have := specStopChamber_any m2 T2 cT2 t2 K2 q2 cs2 kk dd v5 HT2.out HK2.out HWK.out HWD.out; rw [HSE.out] at this; exact this)
    obtain ⟨q0_0, q0_1, q0_2, q0_3, q0_4, q0_5, _⟩ := HBX.out
    simp only [Nat.zero_add] at q0_1 q0_2 q0_3 q0_4 q0_5
    go_wp2_with fail
    clear q0_0 q0_1 q0_2 q0_3 q0_4 q0_5
    refine E6.out.mono ?_
    rintro e v6 ⟨rfl, hb⟩
    clear E6
    replace HT := Lib.hid (HT.out.below hb)
    replace HK := Lib.hid (HK.out.below hb)
    replace HBS := Lib.hid (HBS.out.below hb)
    replace HR2 := Lib.hid (HR2.out.below hb)
    replace HR3 := Lib.hid (HR3.out.below hb)
    replace HT2 := Lib.hid (HT2.out.below hb)
    replace HK2 := Lib.hid (HK2.out.below hb)
    replace HBX := Lib.hid (HBX.out.below hb)
    replace HB := Lib.hid (HB.out.trans (hb.mono HB.out.size))
    clear hb
    have E7 := Lib.hid (likeListsB (c := c2) (d := c3) HR2.out HR3.out)
    go_wp2_with fail
    refine E7.out.mono ?_
    rintro e v7 ⟨rfl, hb⟩
    clear E7
    replace HT := Lib.hid (HT.out.below hb)
    replace HK := Lib.hid (HK.out.below hb)
    replace HBS := Lib.hid (HBS.out.below hb)
    replace HR2 := Lib.hid (HR2.out.below hb)
    replace HR3 := Lib.hid (HR3.out.below hb)
    replace HT2 := Lib.hid (HT2.out.below hb)
    replace HK2 := Lib.hid (HK2.out.below hb)
    replace HBX := Lib.hid (HBX.out.below hb)
    replace HB := Lib.hid (HB.out.trans (hb.mono HB.out.size))
    clear hb
    obtain ⟨db, hdb⟩ : ∃ b, b = designF m t cs := ⟨_, rfl⟩
    have HDB := Lib.hid hdb.symm
    clear hdb
    have E8 := Lib.hid (by have := implIsDesign_any m T cT t K q cs v7 HT.out HK.out; rw [HDB.out] at this; exact this)
    obtain ⟨q0_0, q0_1, q0_2, q0_3, q0_4, q0_5, _⟩ := HBS.out
    simp only [Nat.zero_add] at q0_1 q0_2 q0_3 q0_4 q0_5
    go_wp2_with fail
    clear q0_0 q0_1 q0_2 q0_3 q0_4 q0_5
    refine E8.out.mono ?_
    rintro e v8 ⟨rfl, hb⟩
    clear E8
    replace HT := Lib.hid (HT.out.below hb)
    replace HK := Lib.hid (HK.out.below hb)
    replace HBS := Lib.hid (HBS.out.below hb)
    replace HR2 := Lib.hid (HR2.out.below hb)
    replace HR3 := Lib.hid (HR3.out.below hb)
    replace HT2 := Lib.hid (HT2.out.below hb)
    replace HK2 := Lib.hid (HK2.out.below hb)
    replace HBX := Lib.hid (HBX.out.below hb)
    replace HB := Lib.hid (HB.out.trans (hb.mono HB.out.size))
    clear hb
    have HFL := Lib.hid (show ∀ k (hk : k < fs.length), fs[k].length = 2 ∧ (stopR m t cs (fs[k].getD 0 0) (fs[k].getD 1 0)).2 = 4 ∧ (0 ≤ fs[k].getD 0 0 ∧ fs[k].getD 0 0 ≤ 1000) ∧ 0 ≤ fs[k].getD 1 0 ∧ fs[k].getD 1 0 ≤ 1000 from fun k hk => false_rows HFE.out hk)
    rcases false_end HFE.out with ⟨hk0, hd⟩ | ⟨hk0, hf, hd⟩
    · subst hk0
      rw [HDB.out] at hd
      have hz := hd.symm
      have hzz : (db != db) = false := by simp
      clear hd
      by_cases hks : ks = 0
      · subst hks
        obtain ⟨g0, g1, g2⟩ := stop_law (m := m2) (t := t2) (cuts := cs2) (k := kk) (d := dd) (by rw [HSE.out])
        have hp := cutsC_ok g0
        have hpp := pairOK_iff.1 g1
        obtain ⟨k, rfl⟩ : ∃ k : Nat, kk = k := ⟨kk.toNat, by omega⟩
        obtain ⟨d, rfl⟩ : ∃ d : Nat, dd = d := ⟨dd.toNat, by omega⟩
        have hkl : k < t2.length := by omega
        have hd0 : d < t2[k].length := by have := (hp.row k hkl).1; omega
        obtain ⟨bT, oT, A', c', rfl, hcell, hcc, hrow⟩ := HT2.out.at_ hkl
        obtain ⟨bR, oR, rfl, hcx⟩ := hrow.at_ hd0
        obtain ⟨x, hx⟩ : ∃ x, x = t2[k][d] := ⟨_, rfl⟩
        obtain ⟨nr, hnr⟩ : ∃ n, n = t2[k].length := ⟨_, rfl⟩
        have hx1 : (x == 1) = false := by
          unfold oneAt at g2
          rw [Int.toNat_natCast, Int.toNat_natCast, getD_row hkl] at g2
          rw [hx]; simpa [List.getD, List.getElem?_eq_getElem hd0] using g2
        rw [← hx] at hcx
        rw [← hnr] at hcell hd0
        have i0 : (0 : Int) ≤ (k : Int) := by omega
        have i1 : (k : Int) < (t2.length : Int) := by omega
        have i2 : (0 : Int) ≤ (d : Int) := by omega
        have i3 : (d : Int) < (nr : Int) := by omega
        obtain ⟨z0, z1, z2, z3, z4, z5, _⟩ := HBX.out
        simp only [Nat.zero_add] at z1 z2 z3 z4 z5
        clear g0 g1 g2 hp hpp hcc hrow hx hnr
        go_wp2_with fail
        go_loopw [17, 18, 19] (fun i _ _ wr => ∃ k : Nat, i = .int .i64 k ∧ k ≤ fs.length ∧ Below v8.heap.size v8 wr) (fun i _ _ _ => fs.length - (intOf i).toNat)
        case atStart => exact ⟨0, rfl, by omega, Below.refl _ _⟩
        case round =>
          obtain ⟨k, rfl, hk, hb⟩ := hrel
          have HBr := Lib.hid hb
          have hsr := hb.size
          have hfl := HR3.out.le
          by_cases hlt : k < fs.length
          · obtain ⟨bG, oG, A', c', rfl, hcell, hcc, hrow⟩ := (HR3.out.below hb).at_ hlt
            obtain ⟨hl2, hs4, hb0, hb1⟩ := HFL.out k hlt
            have l0 : 0 < fs[k].length := by omega
            have l1 : 1 < fs[k].length := by omega
            obtain ⟨bR, oR, rfl, hx0⟩ := hrow.at_ l0
            have hx1 := hrow.cell' l1
            obtain ⟨x, hx⟩ : ∃ x, x = fs[k][0] := ⟨_, rfl⟩
            obtain ⟨y, hy⟩ : ∃ y, y = fs[k][1] := ⟨_, rfl⟩
            have ex : fs[k].getD 0 0 = x := by rw [hx]; simp [List.getD, List.getElem?_eq_getElem l0]
            have ey : fs[k].getD 1 0 = y := by rw [hy]; simp [List.getD, List.getElem?_eq_getElem l1]
            rw [ex, ey] at hs4
            rw [ex] at hb0
            rw [ey] at hb1
            rw [hl2] at hcell
            rw [← hx, Nat.add_zero] at hx0
            rw [← hy] at hx1
            obtain ⟨s4, hsc⟩ : ∃ s, stopR m t cs x y = (s, 4) := ⟨(stopR m t cs x y).1, by rw [← hs4]⟩
            have HXE := Lib.hid hsc
            have HWX := Lib.hid (wf_small (r := x) ⟨by omega, by omega⟩)
            have HWY := Lib.hid (wf_small (r := y) ⟨by omega, by omega⟩)
            have i0 : (0 : Int) ≤ (k : Int) := by omega
            have i1 : (k : Int) < (fs.length : Int) := by omega
            have HLT := Lib.hid hlt
            have KS := Lib.hid (show ∀ w' : World, Below wr.heap.size wr w' → (w'.cell? ⟨v1.heap.size, 0, none⟩ = some (.int .i64 m.c) ∧ w'.cell? ⟨v1.heap.size, 1, none⟩ = some (.int .i64 m.d) ∧ w'.cell? ⟨v1.heap.size, 2, none⟩ = some (.int .i64 m.s) ∧ w'.cell? ⟨v1.heap.size, 3, none⟩ = some (.int .i64 m.a) ∧ w'.cell? ⟨v1.heap.size, 4, none⟩ = some (.int .i64 m.l) ∧ w'.cell? ⟨v1.heap.size, 5, none⟩ = some (.slice T t.length cT) ∧ w'.cell? ⟨bG, oG + k, none⟩ = some (.slice (some ⟨bR, oR, none⟩) 2 c') ∧ w'.cell? ⟨bR, oR, none⟩ = some (.int .i64 x) ∧ w'.cell? ⟨bR, oR + 1, none⟩ = some (.int .i64 y)) from fun w' hw => by
              obtain ⟨a0, a1, a2, a3, a4, a5, _⟩ := (HBS.out.below HBr.out).below hw
              exact ⟨a0, a1, a2, a3, a4, a5, cell_in hw (World.block_lt_of_cell? _ _ hcell) hcell, cell_in hw (World.block_lt_of_cell? _ _ hx0) hx0, cell_in hw (World.block_lt_of_cell? _ _ hx1) hx1⟩)
            clear hb hcell hcc hrow hl2 hs4 hb0 hb1 l0 l1 hx0 hx1 hx hy ex ey hsc
            go_wp2_with fail
            refine wp_region_held_drew (S := (fun w' => (w'.cell? ⟨v1.heap.size, 0, none⟩ = some (.int .i64 m.c) ∧ w'.cell? ⟨v1.heap.size, 1, none⟩ = some (.int .i64 m.d) ∧ w'.cell? ⟨v1.heap.size, 2, none⟩ = some (.int .i64 m.s) ∧ w'.cell? ⟨v1.heap.size, 3, none⟩ = some (.int .i64 m.a) ∧ w'.cell? ⟨v1.heap.size, 4, none⟩ = some (.int .i64 m.l) ∧ w'.cell? ⟨v1.heap.size, 5, none⟩ = some (.slice T t.length cT) ∧ w'.cell? ⟨bG, oG + k, none⟩ = some (.slice (some ⟨bR, oR, none⟩) 2 c') ∧ w'.cell? ⟨bR, oR, none⟩ = some (.int .i64 x) ∧ w'.cell? ⟨bR, oR + 1, none⟩ = some (.int .i64 y)))) (by kernel_rfl) (KS.out _ (belowDrew0 _)) (fun hHeld => ?_)
            refine takeD (i := 0) (some 114) (.agg #[.int .i64 m.c, .int .i64 m.d, .int .i64 m.s, .int .i64 m.a, .int .i64 m.l, .slice T t.length cT]) rfl (by kernel_rfl) (by kernel_rfl) (by kernel_rfl) (by kernel_rfl) (fun _ _ _ h => h) (by assumption) (Or.inl ⟨by rfl, fun w hSw => by (try dsimp only at hSw); go_simp⟩) ?_
            simp only [Act.put, List.setIfInBounds_toArray, List.set_cons_zero, List.set_cons_succ]
            refine takeD (i := 1) (some 115) (.slice K cs.length q) rfl (by kernel_rfl) (by kernel_rfl) (by kernel_rfl) (by kernel_rfl) (fun _ _ _ h => h) (by assumption) (Or.inl ⟨by rfl, fun w hSw => by (try dsimp only at hSw); go_simp⟩) ?_
            simp only [Act.put, List.setIfInBounds_toArray, List.set_cons_zero, List.set_cons_succ]
            refine takeD (i := 2) (some 116) (.slice (some ⟨bG, oG, none⟩) fs.length c3) rfl (by kernel_rfl) (by kernel_rfl) (by kernel_rfl) (by kernel_rfl) (fun _ _ _ h => h) (by assumption) (Or.inl ⟨by rfl, fun w hSw => by (try dsimp only at hSw); go_simp⟩) ?_
            simp only [Act.put, List.setIfInBounds_toArray, List.set_cons_zero, List.set_cons_succ]
            refine takeD (i := 3) (some 117) (.int .i64 (k : Int)) rfl (by kernel_rfl) (by kernel_rfl) (by kernel_rfl) (by kernel_rfl) (fun _ _ _ h => h) (by assumption) (Or.inl ⟨by rfl, fun w hSw => by (try dsimp only at hSw); go_simp⟩) ?_
            simp only [Act.put, List.setIfInBounds_toArray, List.set_cons_zero, List.set_cons_succ]
            refine takeD (i := 4) (some 118) (.pointer (some ⟨bG, oG + k, none⟩)) rfl (by kernel_rfl) (by kernel_rfl) (by kernel_rfl) (by kernel_rfl) (fun _ _ _ h => h) (by assumption) (Or.inl ⟨by rfl, fun w hSw => by (try dsimp only at hSw); go_simp⟩) ?_
            simp only [Act.put, List.setIfInBounds_toArray, List.set_cons_zero, List.set_cons_succ]
            refine takeD (i := 5) (some 119) (.slice (some ⟨bR, oR, none⟩) 2 c') rfl (by kernel_rfl) (by kernel_rfl) (by kernel_rfl) (by kernel_rfl) (fun _ _ _ h => h) (by assumption) (Or.inl ⟨by rfl, fun w hSw => by (try dsimp only at hSw); go_simp⟩) ?_
            simp only [Act.put, List.setIfInBounds_toArray, List.set_cons_zero, List.set_cons_succ]
            refine takeD (i := 6) (some 120) (.pointer (some ⟨bR, oR, none⟩)) rfl (by kernel_rfl) (by kernel_rfl) (by kernel_rfl) (by kernel_rfl) (fun _ _ _ h => h) (by assumption) (Or.inl ⟨by rfl, fun w hSw => by (try dsimp only at hSw); go_simp⟩) ?_
            simp only [Act.put, List.setIfInBounds_toArray, List.set_cons_zero, List.set_cons_succ]
            refine takeD (i := 7) (some 121) (.int .i64 x) rfl (by kernel_rfl) (by kernel_rfl) (by kernel_rfl) (by kernel_rfl) (fun _ _ _ h => h) (by assumption) (Or.inl ⟨by rfl, fun w hSw => by (try dsimp only at hSw); go_simp⟩) ?_
            simp only [Act.put, List.setIfInBounds_toArray, List.set_cons_zero, List.set_cons_succ]
            refine takeD (i := 8) (some 122) (.slice (some ⟨bG, oG, none⟩) fs.length c3) rfl (by kernel_rfl) (by kernel_rfl) (by kernel_rfl) (by kernel_rfl) (fun _ _ _ h => h) (by assumption) (Or.inl ⟨by rfl, fun w hSw => by (try dsimp only at hSw); go_simp⟩) ?_
            simp only [Act.put, List.setIfInBounds_toArray, List.set_cons_zero, List.set_cons_succ]
            refine takeD (i := 9) (some 123) (.int .i64 (k : Int)) rfl (by kernel_rfl) (by kernel_rfl) (by kernel_rfl) (by kernel_rfl) (fun _ _ _ h => h) (by assumption) (Or.inl ⟨by rfl, fun w hSw => by (try dsimp only at hSw); go_simp⟩) ?_
            simp only [Act.put, List.setIfInBounds_toArray, List.set_cons_zero, List.set_cons_succ]
            refine takeD (i := 10) (some 124) (.pointer (some ⟨bG, oG + k, none⟩)) rfl (by kernel_rfl) (by kernel_rfl) (by kernel_rfl) (by kernel_rfl) (fun _ _ _ h => h) (by assumption) (Or.inl ⟨by rfl, fun w hSw => by (try dsimp only at hSw); go_simp⟩) ?_
            simp only [Act.put, List.setIfInBounds_toArray, List.set_cons_zero, List.set_cons_succ]
            refine takeD (i := 11) (some 125) (.slice (some ⟨bR, oR, none⟩) 2 c') rfl (by kernel_rfl) (by kernel_rfl) (by kernel_rfl) (by kernel_rfl) (fun _ _ _ h => h) (by assumption) (Or.inl ⟨by rfl, fun w hSw => by (try dsimp only at hSw); go_simp⟩) ?_
            simp only [Act.put, List.setIfInBounds_toArray, List.set_cons_zero, List.set_cons_succ]
            refine takeD (i := 12) (some 126) (.pointer (some ⟨bR, oR + 1, none⟩)) rfl (by kernel_rfl) (by kernel_rfl) (by kernel_rfl) (by kernel_rfl) (fun _ _ _ h => h) (by assumption) (Or.inl ⟨by rfl, fun w hSw => by (try dsimp only at hSw); go_simp⟩) ?_
            simp only [Act.put, List.setIfInBounds_toArray, List.set_cons_zero, List.set_cons_succ]
            refine takeD (i := 13) (some 127) (.int .i64 y) rfl (by kernel_rfl) (by kernel_rfl) (by kernel_rfl) (by kernel_rfl) (fun _ _ _ h => h) (by assumption) (Or.inl ⟨by rfl, fun w hSw => by (try dsimp only at hSw); go_simp⟩) ?_
            simp only [Act.put, List.setIfInBounds_toArray, List.set_cons_zero, List.set_cons_succ]
            refine wpAnyH_ready (rs := [14]) (by kernel_rfl) (by simp) (AllReadyH.cons rfl (fun K hK => ?_) AllReadyH.nil)
            go_simp
            refine (stop0 (w := wr.drew) ((HT.out.below HBr.out).below (belowDrew0 _)) ((HK.out.below HBr.out).below (belowDrew0 _)) HWX.out HWY.out HXE.out).mono ?_
            rintro e wn ⟨rfl, hbn⟩
            have HBn := Lib.hid (belowDrew hbn)
            clear hbn
            have HHeld := KS.out _ HBn.out
            refine hK.out _ _ HHeld (fun _ => ?_)
            clear hK K
            try simp only [Act.put, List.setIfInBounds_toArray, List.set_cons_zero, List.set_cons_succ]
            refine takeD (i := 15) (some 113) (.tuple #[.int .i64 s4, .int .i64 4]) rfl (by kernel_rfl) (by kernel_rfl) (by kernel_rfl) (by kernel_rfl) (fun _ _ _ h => h) (by assumption) (Or.inl ⟨by rfl, fun w hSw => by (try dsimp only at hSw); go_simp⟩) ?_
            simp only [Act.put, List.setIfInBounds_toArray, List.set_cons_zero, List.set_cons_succ]
            refine takeD (i := 16) (some 129) (.int .i64 s4) rfl (by kernel_rfl) (by kernel_rfl) (by kernel_rfl) (by kernel_rfl) (fun _ _ _ h => h) (by assumption) (Or.inl ⟨by rfl, fun w hSw => by (try dsimp only at hSw); go_simp⟩) ?_
            simp only [Act.put, List.setIfInBounds_toArray, List.set_cons_zero, List.set_cons_succ]
            refine takeD (i := 17) (some 130) (.int .i64 4) rfl (by kernel_rfl) (by kernel_rfl) (by kernel_rfl) (by kernel_rfl) (fun _ _ _ h => h) (by assumption) (Or.inl ⟨by rfl, fun w hSw => by (try dsimp only at hSw); go_simp⟩) ?_
            simp only [Act.put, List.setIfInBounds_toArray, List.set_cons_zero, List.set_cons_succ]
            refine takeD (i := 18) (some 18) (.int .i64 s4) rfl (by kernel_rfl) (by kernel_rfl) (by kernel_rfl) (by kernel_rfl) (fun _ _ _ h => h) (by assumption) (Or.inl ⟨by rfl, fun w hSw => by (try dsimp only at hSw); go_simp⟩) ?_
            simp only [Act.put, List.setIfInBounds_toArray, List.set_cons_zero, List.set_cons_succ]
            refine takeD (i := 19) (some 19) (.int .i64 4) rfl (by kernel_rfl) (by kernel_rfl) (by kernel_rfl) (by kernel_rfl) (fun _ _ _ h => h) (by assumption) (Or.inl ⟨by rfl, fun w hSw => by (try dsimp only at hSw); go_simp⟩) ?_
            simp only [Act.put, List.setIfInBounds_toArray, List.set_cons_zero, List.set_cons_succ]
            refine wpAnyH_done (by kernel_rfl) ?_ _
            clear KS
            go_wp2_with fail
            go_roundw
            case rel => exact ⟨k + 1, by go_num, by have := HLT.out; omega, HBr.out.trans (HBn.out.mono HBr.out.size)⟩
            case measure => have := HLT.out; simp [intOf]; omega
          · obtain rfl : k = fs.length := by omega
            have hn1 : decide (((fs.length : Nat) : Int) < ((fs.length : Nat) : Int)) = false := by simp
            go_wp2_with fail
            go_ret
            exact ⟨rfl, HB.out.trans (HBr.out.mono HB.out.size)⟩
      · have hks' : (ks == 0) = false := by simpa using hks
        go_wp2_with fail
        go_loopw [17, 18, 19] (fun i _ _ wr => ∃ k : Nat, i = .int .i64 k ∧ k ≤ fs.length ∧ Below v8.heap.size v8 wr) (fun i _ _ _ => fs.length - (intOf i).toNat)
        case atStart => exact ⟨0, rfl, by omega, Below.refl _ _⟩
        case round =>
          obtain ⟨k, rfl, hk, hb⟩ := hrel
          have HBr := Lib.hid hb
          have hsr := hb.size
          have hfl := HR3.out.le
          by_cases hlt : k < fs.length
          · obtain ⟨bG, oG, A', c', rfl, hcell, hcc, hrow⟩ := (HR3.out.below hb).at_ hlt
            obtain ⟨hl2, hs4, hb0, hb1⟩ := HFL.out k hlt
            have l0 : 0 < fs[k].length := by omega
            have l1 : 1 < fs[k].length := by omega
            obtain ⟨bR, oR, rfl, hx0⟩ := hrow.at_ l0
            have hx1 := hrow.cell' l1
            obtain ⟨x, hx⟩ : ∃ x, x = fs[k][0] := ⟨_, rfl⟩
            obtain ⟨y, hy⟩ : ∃ y, y = fs[k][1] := ⟨_, rfl⟩
            have ex : fs[k].getD 0 0 = x := by rw [hx]; simp [List.getD, List.getElem?_eq_getElem l0]
            have ey : fs[k].getD 1 0 = y := by rw [hy]; simp [List.getD, List.getElem?_eq_getElem l1]
            rw [ex, ey] at hs4
            rw [ex] at hb0
            rw [ey] at hb1
            rw [hl2] at hcell
            rw [← hx, Nat.add_zero] at hx0
            rw [← hy] at hx1
            obtain ⟨s4, hsc⟩ : ∃ s, stopR m t cs x y = (s, 4) := ⟨(stopR m t cs x y).1, by rw [← hs4]⟩
            have HXE := Lib.hid hsc
            have HWX := Lib.hid (wf_small (r := x) ⟨by omega, by omega⟩)
            have HWY := Lib.hid (wf_small (r := y) ⟨by omega, by omega⟩)
            have i0 : (0 : Int) ≤ (k : Int) := by omega
            have i1 : (k : Int) < (fs.length : Int) := by omega
            have HLT := Lib.hid hlt
            have KS := Lib.hid (show ∀ w' : World, Below wr.heap.size wr w' → (w'.cell? ⟨v1.heap.size, 0, none⟩ = some (.int .i64 m.c) ∧ w'.cell? ⟨v1.heap.size, 1, none⟩ = some (.int .i64 m.d) ∧ w'.cell? ⟨v1.heap.size, 2, none⟩ = some (.int .i64 m.s) ∧ w'.cell? ⟨v1.heap.size, 3, none⟩ = some (.int .i64 m.a) ∧ w'.cell? ⟨v1.heap.size, 4, none⟩ = some (.int .i64 m.l) ∧ w'.cell? ⟨v1.heap.size, 5, none⟩ = some (.slice T t.length cT) ∧ w'.cell? ⟨bG, oG + k, none⟩ = some (.slice (some ⟨bR, oR, none⟩) 2 c') ∧ w'.cell? ⟨bR, oR, none⟩ = some (.int .i64 x) ∧ w'.cell? ⟨bR, oR + 1, none⟩ = some (.int .i64 y)) from fun w' hw => by
              obtain ⟨a0, a1, a2, a3, a4, a5, _⟩ := (HBS.out.below HBr.out).below hw
              exact ⟨a0, a1, a2, a3, a4, a5, cell_in hw (World.block_lt_of_cell? _ _ hcell) hcell, cell_in hw (World.block_lt_of_cell? _ _ hx0) hx0, cell_in hw (World.block_lt_of_cell? _ _ hx1) hx1⟩)
            clear hb hcell hcc hrow hl2 hs4 hb0 hb1 l0 l1 hx0 hx1 hx hy ex ey hsc
            go_wp2_with fail
            refine wp_region_held_drew (S := (fun w' => (w'.cell? ⟨v1.heap.size, 0, none⟩ = some (.int .i64 m.c) ∧ w'.cell? ⟨v1.heap.size, 1, none⟩ = some (.int .i64 m.d) ∧ w'.cell? ⟨v1.heap.size, 2, none⟩ = some (.int .i64 m.s) ∧ w'.cell? ⟨v1.heap.size, 3, none⟩ = some (.int .i64 m.a) ∧ w'.cell? ⟨v1.heap.size, 4, none⟩ = some (.int .i64 m.l) ∧ w'.cell? ⟨v1.heap.size, 5, none⟩ = some (.slice T t.length cT) ∧ w'.cell? ⟨bG, oG + k, none⟩ = some (.slice (some ⟨bR, oR, none⟩) 2 c') ∧ w'.cell? ⟨bR, oR, none⟩ = some (.int .i64 x) ∧ w'.cell? ⟨bR, oR + 1, none⟩ = some (.int .i64 y)))) (by kernel_rfl) (KS.out _ (belowDrew0 _)) (fun hHeld => ?_)
            refine takeD (i := 0) (some 114) (.agg #[.int .i64 m.c, .int .i64 m.d, .int .i64 m.s, .int .i64 m.a, .int .i64 m.l, .slice T t.length cT]) rfl (by kernel_rfl) (by kernel_rfl) (by kernel_rfl) (by kernel_rfl) (fun _ _ _ h => h) (by assumption) (Or.inl ⟨by rfl, fun w hSw => by (try dsimp only at hSw); go_simp⟩) ?_
            simp only [Act.put, List.setIfInBounds_toArray, List.set_cons_zero, List.set_cons_succ]
            refine takeD (i := 1) (some 115) (.slice K cs.length q) rfl (by kernel_rfl) (by kernel_rfl) (by kernel_rfl) (by kernel_rfl) (fun _ _ _ h => h) (by assumption) (Or.inl ⟨by rfl, fun w hSw => by (try dsimp only at hSw); go_simp⟩) ?_
            simp only [Act.put, List.setIfInBounds_toArray, List.set_cons_zero, List.set_cons_succ]
            refine takeD (i := 2) (some 116) (.slice (some ⟨bG, oG, none⟩) fs.length c3) rfl (by kernel_rfl) (by kernel_rfl) (by kernel_rfl) (by kernel_rfl) (fun _ _ _ h => h) (by assumption) (Or.inl ⟨by rfl, fun w hSw => by (try dsimp only at hSw); go_simp⟩) ?_
            simp only [Act.put, List.setIfInBounds_toArray, List.set_cons_zero, List.set_cons_succ]
            refine takeD (i := 3) (some 117) (.int .i64 (k : Int)) rfl (by kernel_rfl) (by kernel_rfl) (by kernel_rfl) (by kernel_rfl) (fun _ _ _ h => h) (by assumption) (Or.inl ⟨by rfl, fun w hSw => by (try dsimp only at hSw); go_simp⟩) ?_
            simp only [Act.put, List.setIfInBounds_toArray, List.set_cons_zero, List.set_cons_succ]
            refine takeD (i := 4) (some 118) (.pointer (some ⟨bG, oG + k, none⟩)) rfl (by kernel_rfl) (by kernel_rfl) (by kernel_rfl) (by kernel_rfl) (fun _ _ _ h => h) (by assumption) (Or.inl ⟨by rfl, fun w hSw => by (try dsimp only at hSw); go_simp⟩) ?_
            simp only [Act.put, List.setIfInBounds_toArray, List.set_cons_zero, List.set_cons_succ]
            refine takeD (i := 5) (some 119) (.slice (some ⟨bR, oR, none⟩) 2 c') rfl (by kernel_rfl) (by kernel_rfl) (by kernel_rfl) (by kernel_rfl) (fun _ _ _ h => h) (by assumption) (Or.inl ⟨by rfl, fun w hSw => by (try dsimp only at hSw); go_simp⟩) ?_
            simp only [Act.put, List.setIfInBounds_toArray, List.set_cons_zero, List.set_cons_succ]
            refine takeD (i := 6) (some 120) (.pointer (some ⟨bR, oR, none⟩)) rfl (by kernel_rfl) (by kernel_rfl) (by kernel_rfl) (by kernel_rfl) (fun _ _ _ h => h) (by assumption) (Or.inl ⟨by rfl, fun w hSw => by (try dsimp only at hSw); go_simp⟩) ?_
            simp only [Act.put, List.setIfInBounds_toArray, List.set_cons_zero, List.set_cons_succ]
            refine takeD (i := 7) (some 121) (.int .i64 x) rfl (by kernel_rfl) (by kernel_rfl) (by kernel_rfl) (by kernel_rfl) (fun _ _ _ h => h) (by assumption) (Or.inl ⟨by rfl, fun w hSw => by (try dsimp only at hSw); go_simp⟩) ?_
            simp only [Act.put, List.setIfInBounds_toArray, List.set_cons_zero, List.set_cons_succ]
            refine takeD (i := 8) (some 122) (.slice (some ⟨bG, oG, none⟩) fs.length c3) rfl (by kernel_rfl) (by kernel_rfl) (by kernel_rfl) (by kernel_rfl) (fun _ _ _ h => h) (by assumption) (Or.inl ⟨by rfl, fun w hSw => by (try dsimp only at hSw); go_simp⟩) ?_
            simp only [Act.put, List.setIfInBounds_toArray, List.set_cons_zero, List.set_cons_succ]
            refine takeD (i := 9) (some 123) (.int .i64 (k : Int)) rfl (by kernel_rfl) (by kernel_rfl) (by kernel_rfl) (by kernel_rfl) (fun _ _ _ h => h) (by assumption) (Or.inl ⟨by rfl, fun w hSw => by (try dsimp only at hSw); go_simp⟩) ?_
            simp only [Act.put, List.setIfInBounds_toArray, List.set_cons_zero, List.set_cons_succ]
            refine takeD (i := 10) (some 124) (.pointer (some ⟨bG, oG + k, none⟩)) rfl (by kernel_rfl) (by kernel_rfl) (by kernel_rfl) (by kernel_rfl) (fun _ _ _ h => h) (by assumption) (Or.inl ⟨by rfl, fun w hSw => by (try dsimp only at hSw); go_simp⟩) ?_
            simp only [Act.put, List.setIfInBounds_toArray, List.set_cons_zero, List.set_cons_succ]
            refine takeD (i := 11) (some 125) (.slice (some ⟨bR, oR, none⟩) 2 c') rfl (by kernel_rfl) (by kernel_rfl) (by kernel_rfl) (by kernel_rfl) (fun _ _ _ h => h) (by assumption) (Or.inl ⟨by rfl, fun w hSw => by (try dsimp only at hSw); go_simp⟩) ?_
            simp only [Act.put, List.setIfInBounds_toArray, List.set_cons_zero, List.set_cons_succ]
            refine takeD (i := 12) (some 126) (.pointer (some ⟨bR, oR + 1, none⟩)) rfl (by kernel_rfl) (by kernel_rfl) (by kernel_rfl) (by kernel_rfl) (fun _ _ _ h => h) (by assumption) (Or.inl ⟨by rfl, fun w hSw => by (try dsimp only at hSw); go_simp⟩) ?_
            simp only [Act.put, List.setIfInBounds_toArray, List.set_cons_zero, List.set_cons_succ]
            refine takeD (i := 13) (some 127) (.int .i64 y) rfl (by kernel_rfl) (by kernel_rfl) (by kernel_rfl) (by kernel_rfl) (fun _ _ _ h => h) (by assumption) (Or.inl ⟨by rfl, fun w hSw => by (try dsimp only at hSw); go_simp⟩) ?_
            simp only [Act.put, List.setIfInBounds_toArray, List.set_cons_zero, List.set_cons_succ]
            refine wpAnyH_ready (rs := [14]) (by kernel_rfl) (by simp) (AllReadyH.cons rfl (fun K hK => ?_) AllReadyH.nil)
            go_simp
            refine (stop0 (w := wr.drew) ((HT.out.below HBr.out).below (belowDrew0 _)) ((HK.out.below HBr.out).below (belowDrew0 _)) HWX.out HWY.out HXE.out).mono ?_
            rintro e wn ⟨rfl, hbn⟩
            have HBn := Lib.hid (belowDrew hbn)
            clear hbn
            have HHeld := KS.out _ HBn.out
            refine hK.out _ _ HHeld (fun _ => ?_)
            clear hK K
            try simp only [Act.put, List.setIfInBounds_toArray, List.set_cons_zero, List.set_cons_succ]
            refine takeD (i := 15) (some 113) (.tuple #[.int .i64 s4, .int .i64 4]) rfl (by kernel_rfl) (by kernel_rfl) (by kernel_rfl) (by kernel_rfl) (fun _ _ _ h => h) (by assumption) (Or.inl ⟨by rfl, fun w hSw => by (try dsimp only at hSw); go_simp⟩) ?_
            simp only [Act.put, List.setIfInBounds_toArray, List.set_cons_zero, List.set_cons_succ]
            refine takeD (i := 16) (some 129) (.int .i64 s4) rfl (by kernel_rfl) (by kernel_rfl) (by kernel_rfl) (by kernel_rfl) (fun _ _ _ h => h) (by assumption) (Or.inl ⟨by rfl, fun w hSw => by (try dsimp only at hSw); go_simp⟩) ?_
            simp only [Act.put, List.setIfInBounds_toArray, List.set_cons_zero, List.set_cons_succ]
            refine takeD (i := 17) (some 130) (.int .i64 4) rfl (by kernel_rfl) (by kernel_rfl) (by kernel_rfl) (by kernel_rfl) (fun _ _ _ h => h) (by assumption) (Or.inl ⟨by rfl, fun w hSw => by (try dsimp only at hSw); go_simp⟩) ?_
            simp only [Act.put, List.setIfInBounds_toArray, List.set_cons_zero, List.set_cons_succ]
            refine takeD (i := 18) (some 18) (.int .i64 s4) rfl (by kernel_rfl) (by kernel_rfl) (by kernel_rfl) (by kernel_rfl) (fun _ _ _ h => h) (by assumption) (Or.inl ⟨by rfl, fun w hSw => by (try dsimp only at hSw); go_simp⟩) ?_
            simp only [Act.put, List.setIfInBounds_toArray, List.set_cons_zero, List.set_cons_succ]
            refine takeD (i := 19) (some 19) (.int .i64 4) rfl (by kernel_rfl) (by kernel_rfl) (by kernel_rfl) (by kernel_rfl) (fun _ _ _ h => h) (by assumption) (Or.inl ⟨by rfl, fun w hSw => by (try dsimp only at hSw); go_simp⟩) ?_
            simp only [Act.put, List.setIfInBounds_toArray, List.set_cons_zero, List.set_cons_succ]
            refine wpAnyH_done (by kernel_rfl) ?_ _
            clear KS
            go_wp2_with fail
            go_roundw
            case rel => exact ⟨k + 1, by go_num, by have := HLT.out; omega, HBr.out.trans (HBn.out.mono HBr.out.size)⟩
            case measure => have := HLT.out; simp [intOf]; omega
          · obtain rfl : k = fs.length := by omega
            have hn1 : decide (((fs.length : Nat) : Int) < ((fs.length : Nat) : Int)) = false := by simp
            go_wp2_with fail
            go_ret
            exact ⟨rfl, HB.out.trans (HBr.out.mono HB.out.size)⟩
    · have hkb : (kf == 0) = false := by simpa using hk0
      rw [HDB.out] at hd
      subst hd
      clear hf
      by_cases hks : ks = 0
      · subst hks
        obtain ⟨g0, g1, g2⟩ := stop_law (m := m2) (t := t2) (cuts := cs2) (k := kk) (d := dd) (by rw [HSE.out])
        have hp := cutsC_ok g0
        have hpp := pairOK_iff.1 g1
        obtain ⟨k, rfl⟩ : ∃ k : Nat, kk = k := ⟨kk.toNat, by omega⟩
        obtain ⟨d, rfl⟩ : ∃ d : Nat, dd = d := ⟨dd.toNat, by omega⟩
        have hkl : k < t2.length := by omega
        have hd0 : d < t2[k].length := by have := (hp.row k hkl).1; omega
        obtain ⟨bT, oT, A', c', rfl, hcell, hcc, hrow⟩ := HT2.out.at_ hkl
        obtain ⟨bR, oR, rfl, hcx⟩ := hrow.at_ hd0
        obtain ⟨x, hx⟩ : ∃ x, x = t2[k][d] := ⟨_, rfl⟩
        obtain ⟨nr, hnr⟩ : ∃ n, n = t2[k].length := ⟨_, rfl⟩
        have hx1 : (x == 1) = false := by
          unfold oneAt at g2
          rw [Int.toNat_natCast, Int.toNat_natCast, getD_row hkl] at g2
          rw [hx]; simpa [List.getD, List.getElem?_eq_getElem hd0] using g2
        rw [← hx] at hcx
        rw [← hnr] at hcell hd0
        have i0 : (0 : Int) ≤ (k : Int) := by omega
        have i1 : (k : Int) < (t2.length : Int) := by omega
        have i2 : (0 : Int) ≤ (d : Int) := by omega
        have i3 : (d : Int) < (nr : Int) := by omega
        obtain ⟨z0, z1, z2, z3, z4, z5, _⟩ := HBX.out
        simp only [Nat.zero_add] at z1 z2 z3 z4 z5
        clear g0 g1 g2 hp hpp hcc hrow hx hnr
        go_wp2_with fail
        go_loopw [17, 18, 19] (fun i _ _ wr => ∃ k : Nat, i = .int .i64 k ∧ k ≤ fs.length ∧ Below v8.heap.size v8 wr) (fun i _ _ _ => fs.length - (intOf i).toNat)
        case atStart => exact ⟨0, rfl, by omega, Below.refl _ _⟩
        case round =>
          obtain ⟨k, rfl, hk, hb⟩ := hrel
          have HBr := Lib.hid hb
          have hsr := hb.size
          have hfl := HR3.out.le
          by_cases hlt : k < fs.length
          · obtain ⟨bG, oG, A', c', rfl, hcell, hcc, hrow⟩ := (HR3.out.below hb).at_ hlt
            obtain ⟨hl2, hs4, hb0, hb1⟩ := HFL.out k hlt
            have l0 : 0 < fs[k].length := by omega
            have l1 : 1 < fs[k].length := by omega
            obtain ⟨bR, oR, rfl, hx0⟩ := hrow.at_ l0
            have hx1 := hrow.cell' l1
            obtain ⟨x, hx⟩ : ∃ x, x = fs[k][0] := ⟨_, rfl⟩
            obtain ⟨y, hy⟩ : ∃ y, y = fs[k][1] := ⟨_, rfl⟩
            have ex : fs[k].getD 0 0 = x := by rw [hx]; simp [List.getD, List.getElem?_eq_getElem l0]
            have ey : fs[k].getD 1 0 = y := by rw [hy]; simp [List.getD, List.getElem?_eq_getElem l1]
            rw [ex, ey] at hs4
            rw [ex] at hb0
            rw [ey] at hb1
            rw [hl2] at hcell
            rw [← hx, Nat.add_zero] at hx0
            rw [← hy] at hx1
            obtain ⟨s4, hsc⟩ : ∃ s, stopR m t cs x y = (s, 4) := ⟨(stopR m t cs x y).1, by rw [← hs4]⟩
            have HXE := Lib.hid hsc
            have HWX := Lib.hid (wf_small (r := x) ⟨by omega, by omega⟩)
            have HWY := Lib.hid (wf_small (r := y) ⟨by omega, by omega⟩)
            have i0 : (0 : Int) ≤ (k : Int) := by omega
            have i1 : (k : Int) < (fs.length : Int) := by omega
            have HLT := Lib.hid hlt
            have KS := Lib.hid (show ∀ w' : World, Below wr.heap.size wr w' → (w'.cell? ⟨v1.heap.size, 0, none⟩ = some (.int .i64 m.c) ∧ w'.cell? ⟨v1.heap.size, 1, none⟩ = some (.int .i64 m.d) ∧ w'.cell? ⟨v1.heap.size, 2, none⟩ = some (.int .i64 m.s) ∧ w'.cell? ⟨v1.heap.size, 3, none⟩ = some (.int .i64 m.a) ∧ w'.cell? ⟨v1.heap.size, 4, none⟩ = some (.int .i64 m.l) ∧ w'.cell? ⟨v1.heap.size, 5, none⟩ = some (.slice T t.length cT) ∧ w'.cell? ⟨bG, oG + k, none⟩ = some (.slice (some ⟨bR, oR, none⟩) 2 c') ∧ w'.cell? ⟨bR, oR, none⟩ = some (.int .i64 x) ∧ w'.cell? ⟨bR, oR + 1, none⟩ = some (.int .i64 y)) from fun w' hw => by
              obtain ⟨a0, a1, a2, a3, a4, a5, _⟩ := (HBS.out.below HBr.out).below hw
              exact ⟨a0, a1, a2, a3, a4, a5, cell_in hw (World.block_lt_of_cell? _ _ hcell) hcell, cell_in hw (World.block_lt_of_cell? _ _ hx0) hx0, cell_in hw (World.block_lt_of_cell? _ _ hx1) hx1⟩)
            clear hb hcell hcc hrow hl2 hs4 hb0 hb1 l0 l1 hx0 hx1 hx hy ex ey hsc
            go_wp2_with fail
            refine wp_region_held_drew (S := (fun w' => (w'.cell? ⟨v1.heap.size, 0, none⟩ = some (.int .i64 m.c) ∧ w'.cell? ⟨v1.heap.size, 1, none⟩ = some (.int .i64 m.d) ∧ w'.cell? ⟨v1.heap.size, 2, none⟩ = some (.int .i64 m.s) ∧ w'.cell? ⟨v1.heap.size, 3, none⟩ = some (.int .i64 m.a) ∧ w'.cell? ⟨v1.heap.size, 4, none⟩ = some (.int .i64 m.l) ∧ w'.cell? ⟨v1.heap.size, 5, none⟩ = some (.slice T t.length cT) ∧ w'.cell? ⟨bG, oG + k, none⟩ = some (.slice (some ⟨bR, oR, none⟩) 2 c') ∧ w'.cell? ⟨bR, oR, none⟩ = some (.int .i64 x) ∧ w'.cell? ⟨bR, oR + 1, none⟩ = some (.int .i64 y)))) (by kernel_rfl) (KS.out _ (belowDrew0 _)) (fun hHeld => ?_)
            refine takeD (i := 0) (some 114) (.agg #[.int .i64 m.c, .int .i64 m.d, .int .i64 m.s, .int .i64 m.a, .int .i64 m.l, .slice T t.length cT]) rfl (by kernel_rfl) (by kernel_rfl) (by kernel_rfl) (by kernel_rfl) (fun _ _ _ h => h) (by assumption) (Or.inl ⟨by rfl, fun w hSw => by (try dsimp only at hSw); go_simp⟩) ?_
            simp only [Act.put, List.setIfInBounds_toArray, List.set_cons_zero, List.set_cons_succ]
            refine takeD (i := 1) (some 115) (.slice K cs.length q) rfl (by kernel_rfl) (by kernel_rfl) (by kernel_rfl) (by kernel_rfl) (fun _ _ _ h => h) (by assumption) (Or.inl ⟨by rfl, fun w hSw => by (try dsimp only at hSw); go_simp⟩) ?_
            simp only [Act.put, List.setIfInBounds_toArray, List.set_cons_zero, List.set_cons_succ]
            refine takeD (i := 2) (some 116) (.slice (some ⟨bG, oG, none⟩) fs.length c3) rfl (by kernel_rfl) (by kernel_rfl) (by kernel_rfl) (by kernel_rfl) (fun _ _ _ h => h) (by assumption) (Or.inl ⟨by rfl, fun w hSw => by (try dsimp only at hSw); go_simp⟩) ?_
            simp only [Act.put, List.setIfInBounds_toArray, List.set_cons_zero, List.set_cons_succ]
            refine takeD (i := 3) (some 117) (.int .i64 (k : Int)) rfl (by kernel_rfl) (by kernel_rfl) (by kernel_rfl) (by kernel_rfl) (fun _ _ _ h => h) (by assumption) (Or.inl ⟨by rfl, fun w hSw => by (try dsimp only at hSw); go_simp⟩) ?_
            simp only [Act.put, List.setIfInBounds_toArray, List.set_cons_zero, List.set_cons_succ]
            refine takeD (i := 4) (some 118) (.pointer (some ⟨bG, oG + k, none⟩)) rfl (by kernel_rfl) (by kernel_rfl) (by kernel_rfl) (by kernel_rfl) (fun _ _ _ h => h) (by assumption) (Or.inl ⟨by rfl, fun w hSw => by (try dsimp only at hSw); go_simp⟩) ?_
            simp only [Act.put, List.setIfInBounds_toArray, List.set_cons_zero, List.set_cons_succ]
            refine takeD (i := 5) (some 119) (.slice (some ⟨bR, oR, none⟩) 2 c') rfl (by kernel_rfl) (by kernel_rfl) (by kernel_rfl) (by kernel_rfl) (fun _ _ _ h => h) (by assumption) (Or.inl ⟨by rfl, fun w hSw => by (try dsimp only at hSw); go_simp⟩) ?_
            simp only [Act.put, List.setIfInBounds_toArray, List.set_cons_zero, List.set_cons_succ]
            refine takeD (i := 6) (some 120) (.pointer (some ⟨bR, oR, none⟩)) rfl (by kernel_rfl) (by kernel_rfl) (by kernel_rfl) (by kernel_rfl) (fun _ _ _ h => h) (by assumption) (Or.inl ⟨by rfl, fun w hSw => by (try dsimp only at hSw); go_simp⟩) ?_
            simp only [Act.put, List.setIfInBounds_toArray, List.set_cons_zero, List.set_cons_succ]
            refine takeD (i := 7) (some 121) (.int .i64 x) rfl (by kernel_rfl) (by kernel_rfl) (by kernel_rfl) (by kernel_rfl) (fun _ _ _ h => h) (by assumption) (Or.inl ⟨by rfl, fun w hSw => by (try dsimp only at hSw); go_simp⟩) ?_
            simp only [Act.put, List.setIfInBounds_toArray, List.set_cons_zero, List.set_cons_succ]
            refine takeD (i := 8) (some 122) (.slice (some ⟨bG, oG, none⟩) fs.length c3) rfl (by kernel_rfl) (by kernel_rfl) (by kernel_rfl) (by kernel_rfl) (fun _ _ _ h => h) (by assumption) (Or.inl ⟨by rfl, fun w hSw => by (try dsimp only at hSw); go_simp⟩) ?_
            simp only [Act.put, List.setIfInBounds_toArray, List.set_cons_zero, List.set_cons_succ]
            refine takeD (i := 9) (some 123) (.int .i64 (k : Int)) rfl (by kernel_rfl) (by kernel_rfl) (by kernel_rfl) (by kernel_rfl) (fun _ _ _ h => h) (by assumption) (Or.inl ⟨by rfl, fun w hSw => by (try dsimp only at hSw); go_simp⟩) ?_
            simp only [Act.put, List.setIfInBounds_toArray, List.set_cons_zero, List.set_cons_succ]
            refine takeD (i := 10) (some 124) (.pointer (some ⟨bG, oG + k, none⟩)) rfl (by kernel_rfl) (by kernel_rfl) (by kernel_rfl) (by kernel_rfl) (fun _ _ _ h => h) (by assumption) (Or.inl ⟨by rfl, fun w hSw => by (try dsimp only at hSw); go_simp⟩) ?_
            simp only [Act.put, List.setIfInBounds_toArray, List.set_cons_zero, List.set_cons_succ]
            refine takeD (i := 11) (some 125) (.slice (some ⟨bR, oR, none⟩) 2 c') rfl (by kernel_rfl) (by kernel_rfl) (by kernel_rfl) (by kernel_rfl) (fun _ _ _ h => h) (by assumption) (Or.inl ⟨by rfl, fun w hSw => by (try dsimp only at hSw); go_simp⟩) ?_
            simp only [Act.put, List.setIfInBounds_toArray, List.set_cons_zero, List.set_cons_succ]
            refine takeD (i := 12) (some 126) (.pointer (some ⟨bR, oR + 1, none⟩)) rfl (by kernel_rfl) (by kernel_rfl) (by kernel_rfl) (by kernel_rfl) (fun _ _ _ h => h) (by assumption) (Or.inl ⟨by rfl, fun w hSw => by (try dsimp only at hSw); go_simp⟩) ?_
            simp only [Act.put, List.setIfInBounds_toArray, List.set_cons_zero, List.set_cons_succ]
            refine takeD (i := 13) (some 127) (.int .i64 y) rfl (by kernel_rfl) (by kernel_rfl) (by kernel_rfl) (by kernel_rfl) (fun _ _ _ h => h) (by assumption) (Or.inl ⟨by rfl, fun w hSw => by (try dsimp only at hSw); go_simp⟩) ?_
            simp only [Act.put, List.setIfInBounds_toArray, List.set_cons_zero, List.set_cons_succ]
            refine wpAnyH_ready (rs := [14]) (by kernel_rfl) (by simp) (AllReadyH.cons rfl (fun K hK => ?_) AllReadyH.nil)
            go_simp
            refine (stop0 (w := wr.drew) ((HT.out.below HBr.out).below (belowDrew0 _)) ((HK.out.below HBr.out).below (belowDrew0 _)) HWX.out HWY.out HXE.out).mono ?_
            rintro e wn ⟨rfl, hbn⟩
            have HBn := Lib.hid (belowDrew hbn)
            clear hbn
            have HHeld := KS.out _ HBn.out
            refine hK.out _ _ HHeld (fun _ => ?_)
            clear hK K
            try simp only [Act.put, List.setIfInBounds_toArray, List.set_cons_zero, List.set_cons_succ]
            refine takeD (i := 15) (some 113) (.tuple #[.int .i64 s4, .int .i64 4]) rfl (by kernel_rfl) (by kernel_rfl) (by kernel_rfl) (by kernel_rfl) (fun _ _ _ h => h) (by assumption) (Or.inl ⟨by rfl, fun w hSw => by (try dsimp only at hSw); go_simp⟩) ?_
            simp only [Act.put, List.setIfInBounds_toArray, List.set_cons_zero, List.set_cons_succ]
            refine takeD (i := 16) (some 129) (.int .i64 s4) rfl (by kernel_rfl) (by kernel_rfl) (by kernel_rfl) (by kernel_rfl) (fun _ _ _ h => h) (by assumption) (Or.inl ⟨by rfl, fun w hSw => by (try dsimp only at hSw); go_simp⟩) ?_
            simp only [Act.put, List.setIfInBounds_toArray, List.set_cons_zero, List.set_cons_succ]
            refine takeD (i := 17) (some 130) (.int .i64 4) rfl (by kernel_rfl) (by kernel_rfl) (by kernel_rfl) (by kernel_rfl) (fun _ _ _ h => h) (by assumption) (Or.inl ⟨by rfl, fun w hSw => by (try dsimp only at hSw); go_simp⟩) ?_
            simp only [Act.put, List.setIfInBounds_toArray, List.set_cons_zero, List.set_cons_succ]
            refine takeD (i := 18) (some 18) (.int .i64 s4) rfl (by kernel_rfl) (by kernel_rfl) (by kernel_rfl) (by kernel_rfl) (fun _ _ _ h => h) (by assumption) (Or.inl ⟨by rfl, fun w hSw => by (try dsimp only at hSw); go_simp⟩) ?_
            simp only [Act.put, List.setIfInBounds_toArray, List.set_cons_zero, List.set_cons_succ]
            refine takeD (i := 19) (some 19) (.int .i64 4) rfl (by kernel_rfl) (by kernel_rfl) (by kernel_rfl) (by kernel_rfl) (fun _ _ _ h => h) (by assumption) (Or.inl ⟨by rfl, fun w hSw => by (try dsimp only at hSw); go_simp⟩) ?_
            simp only [Act.put, List.setIfInBounds_toArray, List.set_cons_zero, List.set_cons_succ]
            refine wpAnyH_done (by kernel_rfl) ?_ _
            clear KS
            go_wp2_with fail
            go_roundw
            case rel => exact ⟨k + 1, by go_num, by have := HLT.out; omega, HBr.out.trans (HBn.out.mono HBr.out.size)⟩
            case measure => have := HLT.out; simp [intOf]; omega
          · obtain rfl : k = fs.length := by omega
            have hn1 : decide (((fs.length : Nat) : Int) < ((fs.length : Nat) : Int)) = false := by simp
            go_wp2_with fail
            go_ret
            exact ⟨rfl, HB.out.trans (HBr.out.mono HB.out.size)⟩
      · have hks' : (ks == 0) = false := by simpa using hks
        go_wp2_with fail
        go_loopw [17, 18, 19] (fun i _ _ wr => ∃ k : Nat, i = .int .i64 k ∧ k ≤ fs.length ∧ Below v8.heap.size v8 wr) (fun i _ _ _ => fs.length - (intOf i).toNat)
        case atStart => exact ⟨0, rfl, by omega, Below.refl _ _⟩
        case round =>
          obtain ⟨k, rfl, hk, hb⟩ := hrel
          have HBr := Lib.hid hb
          have hsr := hb.size
          have hfl := HR3.out.le
          by_cases hlt : k < fs.length
          · obtain ⟨bG, oG, A', c', rfl, hcell, hcc, hrow⟩ := (HR3.out.below hb).at_ hlt
            obtain ⟨hl2, hs4, hb0, hb1⟩ := HFL.out k hlt
            have l0 : 0 < fs[k].length := by omega
            have l1 : 1 < fs[k].length := by omega
            obtain ⟨bR, oR, rfl, hx0⟩ := hrow.at_ l0
            have hx1 := hrow.cell' l1
            obtain ⟨x, hx⟩ : ∃ x, x = fs[k][0] := ⟨_, rfl⟩
            obtain ⟨y, hy⟩ : ∃ y, y = fs[k][1] := ⟨_, rfl⟩
            have ex : fs[k].getD 0 0 = x := by rw [hx]; simp [List.getD, List.getElem?_eq_getElem l0]
            have ey : fs[k].getD 1 0 = y := by rw [hy]; simp [List.getD, List.getElem?_eq_getElem l1]
            rw [ex, ey] at hs4
            rw [ex] at hb0
            rw [ey] at hb1
            rw [hl2] at hcell
            rw [← hx, Nat.add_zero] at hx0
            rw [← hy] at hx1
            obtain ⟨s4, hsc⟩ : ∃ s, stopR m t cs x y = (s, 4) := ⟨(stopR m t cs x y).1, by rw [← hs4]⟩
            have HXE := Lib.hid hsc
            have HWX := Lib.hid (wf_small (r := x) ⟨by omega, by omega⟩)
            have HWY := Lib.hid (wf_small (r := y) ⟨by omega, by omega⟩)
            have i0 : (0 : Int) ≤ (k : Int) := by omega
            have i1 : (k : Int) < (fs.length : Int) := by omega
            have HLT := Lib.hid hlt
            have KS := Lib.hid (show ∀ w' : World, Below wr.heap.size wr w' → (w'.cell? ⟨v1.heap.size, 0, none⟩ = some (.int .i64 m.c) ∧ w'.cell? ⟨v1.heap.size, 1, none⟩ = some (.int .i64 m.d) ∧ w'.cell? ⟨v1.heap.size, 2, none⟩ = some (.int .i64 m.s) ∧ w'.cell? ⟨v1.heap.size, 3, none⟩ = some (.int .i64 m.a) ∧ w'.cell? ⟨v1.heap.size, 4, none⟩ = some (.int .i64 m.l) ∧ w'.cell? ⟨v1.heap.size, 5, none⟩ = some (.slice T t.length cT) ∧ w'.cell? ⟨bG, oG + k, none⟩ = some (.slice (some ⟨bR, oR, none⟩) 2 c') ∧ w'.cell? ⟨bR, oR, none⟩ = some (.int .i64 x) ∧ w'.cell? ⟨bR, oR + 1, none⟩ = some (.int .i64 y)) from fun w' hw => by
              obtain ⟨a0, a1, a2, a3, a4, a5, _⟩ := (HBS.out.below HBr.out).below hw
              exact ⟨a0, a1, a2, a3, a4, a5, cell_in hw (World.block_lt_of_cell? _ _ hcell) hcell, cell_in hw (World.block_lt_of_cell? _ _ hx0) hx0, cell_in hw (World.block_lt_of_cell? _ _ hx1) hx1⟩)
            clear hb hcell hcc hrow hl2 hs4 hb0 hb1 l0 l1 hx0 hx1 hx hy ex ey hsc
            go_wp2_with fail
            refine wp_region_held_drew (S := (fun w' => (w'.cell? ⟨v1.heap.size, 0, none⟩ = some (.int .i64 m.c) ∧ w'.cell? ⟨v1.heap.size, 1, none⟩ = some (.int .i64 m.d) ∧ w'.cell? ⟨v1.heap.size, 2, none⟩ = some (.int .i64 m.s) ∧ w'.cell? ⟨v1.heap.size, 3, none⟩ = some (.int .i64 m.a) ∧ w'.cell? ⟨v1.heap.size, 4, none⟩ = some (.int .i64 m.l) ∧ w'.cell? ⟨v1.heap.size, 5, none⟩ = some (.slice T t.length cT) ∧ w'.cell? ⟨bG, oG + k, none⟩ = some (.slice (some ⟨bR, oR, none⟩) 2 c') ∧ w'.cell? ⟨bR, oR, none⟩ = some (.int .i64 x) ∧ w'.cell? ⟨bR, oR + 1, none⟩ = some (.int .i64 y)))) (by kernel_rfl) (KS.out _ (belowDrew0 _)) (fun hHeld => ?_)
            refine takeD (i := 0) (some 114) (.agg #[.int .i64 m.c, .int .i64 m.d, .int .i64 m.s, .int .i64 m.a, .int .i64 m.l, .slice T t.length cT]) rfl (by kernel_rfl) (by kernel_rfl) (by kernel_rfl) (by kernel_rfl) (fun _ _ _ h => h) (by assumption) (Or.inl ⟨by rfl, fun w hSw => by (try dsimp only at hSw); go_simp⟩) ?_
            simp only [Act.put, List.setIfInBounds_toArray, List.set_cons_zero, List.set_cons_succ]
            refine takeD (i := 1) (some 115) (.slice K cs.length q) rfl (by kernel_rfl) (by kernel_rfl) (by kernel_rfl) (by kernel_rfl) (fun _ _ _ h => h) (by assumption) (Or.inl ⟨by rfl, fun w hSw => by (try dsimp only at hSw); go_simp⟩) ?_
            simp only [Act.put, List.setIfInBounds_toArray, List.set_cons_zero, List.set_cons_succ]
            refine takeD (i := 2) (some 116) (.slice (some ⟨bG, oG, none⟩) fs.length c3) rfl (by kernel_rfl) (by kernel_rfl) (by kernel_rfl) (by kernel_rfl) (fun _ _ _ h => h) (by assumption) (Or.inl ⟨by rfl, fun w hSw => by (try dsimp only at hSw); go_simp⟩) ?_
            simp only [Act.put, List.setIfInBounds_toArray, List.set_cons_zero, List.set_cons_succ]
            refine takeD (i := 3) (some 117) (.int .i64 (k : Int)) rfl (by kernel_rfl) (by kernel_rfl) (by kernel_rfl) (by kernel_rfl) (fun _ _ _ h => h) (by assumption) (Or.inl ⟨by rfl, fun w hSw => by (try dsimp only at hSw); go_simp⟩) ?_
            simp only [Act.put, List.setIfInBounds_toArray, List.set_cons_zero, List.set_cons_succ]
            refine takeD (i := 4) (some 118) (.pointer (some ⟨bG, oG + k, none⟩)) rfl (by kernel_rfl) (by kernel_rfl) (by kernel_rfl) (by kernel_rfl) (fun _ _ _ h => h) (by assumption) (Or.inl ⟨by rfl, fun w hSw => by (try dsimp only at hSw); go_simp⟩) ?_
            simp only [Act.put, List.setIfInBounds_toArray, List.set_cons_zero, List.set_cons_succ]
            refine takeD (i := 5) (some 119) (.slice (some ⟨bR, oR, none⟩) 2 c') rfl (by kernel_rfl) (by kernel_rfl) (by kernel_rfl) (by kernel_rfl) (fun _ _ _ h => h) (by assumption) (Or.inl ⟨by rfl, fun w hSw => by (try dsimp only at hSw); go_simp⟩) ?_
            simp only [Act.put, List.setIfInBounds_toArray, List.set_cons_zero, List.set_cons_succ]
            refine takeD (i := 6) (some 120) (.pointer (some ⟨bR, oR, none⟩)) rfl (by kernel_rfl) (by kernel_rfl) (by kernel_rfl) (by kernel_rfl) (fun _ _ _ h => h) (by assumption) (Or.inl ⟨by rfl, fun w hSw => by (try dsimp only at hSw); go_simp⟩) ?_
            simp only [Act.put, List.setIfInBounds_toArray, List.set_cons_zero, List.set_cons_succ]
            refine takeD (i := 7) (some 121) (.int .i64 x) rfl (by kernel_rfl) (by kernel_rfl) (by kernel_rfl) (by kernel_rfl) (fun _ _ _ h => h) (by assumption) (Or.inl ⟨by rfl, fun w hSw => by (try dsimp only at hSw); go_simp⟩) ?_
            simp only [Act.put, List.setIfInBounds_toArray, List.set_cons_zero, List.set_cons_succ]
            refine takeD (i := 8) (some 122) (.slice (some ⟨bG, oG, none⟩) fs.length c3) rfl (by kernel_rfl) (by kernel_rfl) (by kernel_rfl) (by kernel_rfl) (fun _ _ _ h => h) (by assumption) (Or.inl ⟨by rfl, fun w hSw => by (try dsimp only at hSw); go_simp⟩) ?_
            simp only [Act.put, List.setIfInBounds_toArray, List.set_cons_zero, List.set_cons_succ]
            refine takeD (i := 9) (some 123) (.int .i64 (k : Int)) rfl (by kernel_rfl) (by kernel_rfl) (by kernel_rfl) (by kernel_rfl) (fun _ _ _ h => h) (by assumption) (Or.inl ⟨by rfl, fun w hSw => by (try dsimp only at hSw); go_simp⟩) ?_
            simp only [Act.put, List.setIfInBounds_toArray, List.set_cons_zero, List.set_cons_succ]
            refine takeD (i := 10) (some 124) (.pointer (some ⟨bG, oG + k, none⟩)) rfl (by kernel_rfl) (by kernel_rfl) (by kernel_rfl) (by kernel_rfl) (fun _ _ _ h => h) (by assumption) (Or.inl ⟨by rfl, fun w hSw => by (try dsimp only at hSw); go_simp⟩) ?_
            simp only [Act.put, List.setIfInBounds_toArray, List.set_cons_zero, List.set_cons_succ]
            refine takeD (i := 11) (some 125) (.slice (some ⟨bR, oR, none⟩) 2 c') rfl (by kernel_rfl) (by kernel_rfl) (by kernel_rfl) (by kernel_rfl) (fun _ _ _ h => h) (by assumption) (Or.inl ⟨by rfl, fun w hSw => by (try dsimp only at hSw); go_simp⟩) ?_
            simp only [Act.put, List.setIfInBounds_toArray, List.set_cons_zero, List.set_cons_succ]
            refine takeD (i := 12) (some 126) (.pointer (some ⟨bR, oR + 1, none⟩)) rfl (by kernel_rfl) (by kernel_rfl) (by kernel_rfl) (by kernel_rfl) (fun _ _ _ h => h) (by assumption) (Or.inl ⟨by rfl, fun w hSw => by (try dsimp only at hSw); go_simp⟩) ?_
            simp only [Act.put, List.setIfInBounds_toArray, List.set_cons_zero, List.set_cons_succ]
            refine takeD (i := 13) (some 127) (.int .i64 y) rfl (by kernel_rfl) (by kernel_rfl) (by kernel_rfl) (by kernel_rfl) (fun _ _ _ h => h) (by assumption) (Or.inl ⟨by rfl, fun w hSw => by (try dsimp only at hSw); go_simp⟩) ?_
            simp only [Act.put, List.setIfInBounds_toArray, List.set_cons_zero, List.set_cons_succ]
            refine wpAnyH_ready (rs := [14]) (by kernel_rfl) (by simp) (AllReadyH.cons rfl (fun K hK => ?_) AllReadyH.nil)
            go_simp
            refine (stop0 (w := wr.drew) ((HT.out.below HBr.out).below (belowDrew0 _)) ((HK.out.below HBr.out).below (belowDrew0 _)) HWX.out HWY.out HXE.out).mono ?_
            rintro e wn ⟨rfl, hbn⟩
            have HBn := Lib.hid (belowDrew hbn)
            clear hbn
            have HHeld := KS.out _ HBn.out
            refine hK.out _ _ HHeld (fun _ => ?_)
            clear hK K
            try simp only [Act.put, List.setIfInBounds_toArray, List.set_cons_zero, List.set_cons_succ]
            refine takeD (i := 15) (some 113) (.tuple #[.int .i64 s4, .int .i64 4]) rfl (by kernel_rfl) (by kernel_rfl) (by kernel_rfl) (by kernel_rfl) (fun _ _ _ h => h) (by assumption) (Or.inl ⟨by rfl, fun w hSw => by (try dsimp only at hSw); go_simp⟩) ?_
            simp only [Act.put, List.setIfInBounds_toArray, List.set_cons_zero, List.set_cons_succ]
            refine takeD (i := 16) (some 129) (.int .i64 s4) rfl (by kernel_rfl) (by kernel_rfl) (by kernel_rfl) (by kernel_rfl) (fun _ _ _ h => h) (by assumption) (Or.inl ⟨by rfl, fun w hSw => by (try dsimp only at hSw); go_simp⟩) ?_
            simp only [Act.put, List.setIfInBounds_toArray, List.set_cons_zero, List.set_cons_succ]
            refine takeD (i := 17) (some 130) (.int .i64 4) rfl (by kernel_rfl) (by kernel_rfl) (by kernel_rfl) (by kernel_rfl) (fun _ _ _ h => h) (by assumption) (Or.inl ⟨by rfl, fun w hSw => by (try dsimp only at hSw); go_simp⟩) ?_
            simp only [Act.put, List.setIfInBounds_toArray, List.set_cons_zero, List.set_cons_succ]
            refine takeD (i := 18) (some 18) (.int .i64 s4) rfl (by kernel_rfl) (by kernel_rfl) (by kernel_rfl) (by kernel_rfl) (fun _ _ _ h => h) (by assumption) (Or.inl ⟨by rfl, fun w hSw => by (try dsimp only at hSw); go_simp⟩) ?_
            simp only [Act.put, List.setIfInBounds_toArray, List.set_cons_zero, List.set_cons_succ]
            refine takeD (i := 19) (some 19) (.int .i64 4) rfl (by kernel_rfl) (by kernel_rfl) (by kernel_rfl) (by kernel_rfl) (fun _ _ _ h => h) (by assumption) (Or.inl ⟨by rfl, fun w hSw => by (try dsimp only at hSw); go_simp⟩) ?_
            simp only [Act.put, List.setIfInBounds_toArray, List.set_cons_zero, List.set_cons_succ]
            refine wpAnyH_done (by kernel_rfl) ?_ _
            clear KS
            go_wp2_with fail
            go_roundw
            case rel => exact ⟨k + 1, by go_num, by have := HLT.out; omega, HBr.out.trans (HBn.out.mono HBr.out.size)⟩
            case measure => have := HLT.out; simp [intOf]; omega
          · obtain rfl : k = fs.length := by omega
            have hn1 : decide (((fs.length : Nat) : Int) < ((fs.length : Nat) : Int)) = false := by simp
            go_wp2_with fail
            go_ret
            exact ⟨rfl, HB.out.trans (HBr.out.mono HB.out.size)⟩
end Go.Proofs.Ytdedajohkdbdkaa.fnFalse
