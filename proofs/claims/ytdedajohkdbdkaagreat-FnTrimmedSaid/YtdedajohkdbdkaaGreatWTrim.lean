/- The walk of the law FnTrimmed. -/
import Derived.Test.YtdedajohkdbdkaaGreatLikeG
import Derived.Test.YtdedajohkdbdkaaGreatDrGh2
import Derived.Test.YtdedajohkdbdkaaGreatPTrimLaw
namespace Go.Proofs.YtdedajohkdbdkaaGreat.fnTrimmed
set_option linter.unusedVariables false
open Go.RowKit
theorem trim0i (m : Mk) (D : Option Addr) (q : Nat) (l : List (List Int)) (X : Option Addr) (c : Nat) (al hl : List (List Int)) (k : Int) (w : World) (h : RII w D l) (g : RII w X al) (he : trimR m l al = (hl, k)) :
    Calls Tryz.prog 8 #[.agg #[.int .i64 m.c, .int .i64 m.d, .int .i64 m.s, .int .i64 m.a, .int .i64 m.l], .agg #[.slice D l.length q], .slice X al.length c] w fun e w' => ∃ (A : Option Addr) (d : Nat), e = .returned (.tuple #[.agg #[.slice A hl.length d], .int .i64 k]) ∧ RII w' A hl ∧ Below w.heap.size w w' := by
  have := implTrimLock_any m D q l X c al w h g
  rw [he] at this
  exact this.mono fun e w' ⟨A, d, h1, _, h2, _, h3⟩ => ⟨A, d, h1, h2, h3⟩
theorem trim0s (m : Mk) (D : Option Addr) (q : Nat) (l : List (List Int)) (X : Option Addr) (c : Nat) (al hl : List (List Int)) (k : Int) (w : World) (h : RII w D l) (g : RII w X al) (he : trimR m l al = (hl, k)) :
    Calls Tryz.prog 9 #[.agg #[.int .i64 m.c, .int .i64 m.d, .int .i64 m.s, .int .i64 m.a, .int .i64 m.l], .agg #[.slice D l.length q], .slice X al.length c] w fun e w' => ∃ (A : Option Addr) (d : Nat), e = .returned (.tuple #[.agg #[.slice A hl.length d], .int .i64 k]) ∧ RII w' A hl ∧ Below w.heap.size w w' := by
  have := specTrimLock_any m D q l X c al w h g
  rw [he] at this
  exact this.mono fun e w' ⟨A, d, h1, _, h2, _, h3⟩ => ⟨A, d, h1, h2, h3⟩
theorem near0i (m : Mk) (D : Option Addr) (q : Nat) (l : List (List Int)) (X : Option Addr) (c : Nat) (al : List (List Int)) (K : Option Addr) (d : Nat) (kk gs : List Int) (k : Int) (w : World) (h : RII w D l) (g : RII w X al) (hk : RI w K kk) (hd : kk.length ≤ d) (he : nearR m l al kk = (gs, k)) :
    Calls Tryz.prog 11 #[.agg #[.int .i64 m.c, .int .i64 m.d, .int .i64 m.s, .int .i64 m.a, .int .i64 m.l], .agg #[.slice D l.length q], .slice X al.length c, .slice K kk.length d] w fun e w' => ∃ (A : Option Addr) (d : Nat), e = .returned (.tuple #[.slice A gs.length d, .int .i64 k]) ∧ gs.length ≤ d ∧ RI w' A gs ∧ Below w.heap.size w w' := by
  have := implNearestGhost_any m D q l X c al K d kk w h g hk hd
  rw [he] at this
  exact this.mono fun e w' ⟨A, d, h1, h0, h2, _, h3⟩ => ⟨A, d, h1, h0, h2, h3⟩
theorem near0s (m : Mk) (D : Option Addr) (q : Nat) (l : List (List Int)) (X : Option Addr) (c : Nat) (al : List (List Int)) (K : Option Addr) (d : Nat) (kk gs : List Int) (k : Int) (w : World) (h : RII w D l) (g : RII w X al) (hk : RI w K kk) (hd : kk.length ≤ d) (he : nearR m l al kk = (gs, k)) :
    Calls Tryz.prog 12 #[.agg #[.int .i64 m.c, .int .i64 m.d, .int .i64 m.s, .int .i64 m.a, .int .i64 m.l], .agg #[.slice D l.length q], .slice X al.length c, .slice K kk.length d] w fun e w' => ∃ (A : Option Addr) (d : Nat), e = .returned (.tuple #[.slice A gs.length d, .int .i64 k]) ∧ RI w' A gs ∧ Below w.heap.size w w' := by
  have := specNearestGhost_any m D q l X c al K d kk w h g hk hd
  rw [he] at this
  exact this.mono fun e w' ⟨A, d, h1, _, h2, h3⟩ => ⟨A, d, h1, h2, h3⟩
theorem isg0 (m : Mk) (D : Option Addr) (q : Nat) (l : List (List Int)) (X : Option Addr) (c : Nat) (al : List (List Int)) (K : Option Addr) (d : Nat) (kk : List Int) (w : World) (h : RII w D l) (g : RII w X al) (hk : RI w K kk) (hd : kk.length ≤ d) (he : isGhostR m l al kk = (true, 0)) :
    Calls Tryz.prog 15 #[.agg #[.int .i64 m.c, .int .i64 m.d, .int .i64 m.s, .int .i64 m.a, .int .i64 m.l], .agg #[.slice D l.length q], .slice X al.length c, .slice K kk.length d] w fun e w' => e = .returned (.tuple #[.bool true, .int .i64 0]) ∧ Below w.heap.size w w' := by
  have := implIsGhost_any m D q l X c al K d kk w h g hk hd
  rw [he] at this; exact this
theorem count0 (m : Mk) (D : Option Addr) (q : Nat) (l : List (List Int)) (X : Option Addr) (c : Nat) (al : List (List Int)) (n : Nat) (w : World) (h : RII w D l) (g : RII w X al) (he : cGhostsR m l al = ((n : Int), 0)) :
    Calls Tryz.prog 16 #[.agg #[.int .i64 m.c, .int .i64 m.d, .int .i64 m.s, .int .i64 m.a, .int .i64 m.l], .agg #[.slice D l.length q], .slice X al.length c] w fun e w' => e = .returned (.tuple #[.int .i64 n, .int .i64 0]) ∧ Below w.heap.size w w' := by
  have := implCountGhosts_any m D q l X c al w h g
  rw [he] at this; exact this
set_option maxRecDepth 100000 in
set_option maxHeartbeats 16000000 in
theorem walk (A : Option Addr) (c : Nat) (bs : List Int) (w : World) (h : RCode w A bs) :
    Calls Tryz.prog 3 #[.slice A bs.length c] w fun e w' => e = .returned (.bool true) ∧ Below w.heap.size w w' := by
  have HC := Lib.hid h
  clear h
  by_cases hbig : (bs.length : Int) > 4096
  · have HBG := big_any A bs.length c w
    rw [decide_eq_true hbig] at HBG
    have HBB := Lib.hid HBG
    clear hbig HBG
    go_enter Tryz.func3, Tryz.ntmps3
    go_wp2_with fail
    refine HBB.out.mono ?_
    rintro e w1 ⟨rfl, rfl⟩
    go_wp2_with fail
    go_ret
    exact ⟨rfl, Below.refl _ _⟩
  · have HBG := big_any A bs.length c w
    rw [decide_eq_false hbig] at HBG
    have HBB := Lib.hid HBG
    clear hbig HBG
    go_enter Tryz.func3, Tryz.ntmps3
    go_wp2_with fail
    refine HBB.out.mono ?_
    rintro e w1 ⟨rfl, rfl⟩
    have HB := Lib.hid (Below.refl w.heap.size w)
    have E1 := Lib.hid (drawTrim_any A c bs w HC.out)
    go_wp2_with fail
    refine E1.out.mono ?_
    rintro e v1 ⟨m, D, q, l, X1, qx, al, rfl, h1, h2, hb⟩
    clear E1
    replace HB := Lib.hid (HB.out.trans (hb.mono HB.out.size))
    have HL := Lib.hid (h1)
    have HA := Lib.hid (h2)
    clear h1 h2 hb
    obtain ⟨v1b, hv1b⟩ : ∃ wb, wb = (v1.alloc (.cells #[.int .i64 m.c, .int .i64 m.d, .int .i64 m.s, .int .i64 m.a, .int .i64 m.l] 25)).alloc (.cells #[.slice D l.length q] 28) := ⟨_, rfl⟩
    have hbx : Below v1.heap.size v1 v1b := by rw [hv1b]; exact ((Below.refl _ _).alloc (Nat.le_refl _) _).alloc (by simp only [World.size_alloc]; omega) _
    replace HL := Lib.hid (HL.out.below hbx)
    replace HA := Lib.hid (HA.out.below hbx)
    replace HB := Lib.hid (HB.out.trans (hbx.mono HB.out.size))
    have HBM := Lib.hid (show BoxC v1b (v1.heap.size) 0 (mkCells m) by rw [hv1b]; exact (BoxC.new (w := v1) (mkCells m) rfl).below ((Below.refl _ _).alloc (Nat.le_refl _) _))
    have HBL := Lib.hid (show BoxC v1b (v1.heap.size + 1) 0 [.slice D l.length q] by rw [hv1b]; exact BoxC.new (w := (v1.alloc (.cells #[.int .i64 m.c, .int .i64 m.d, .int .i64 m.s, .int .i64 m.a, .int .i64 m.l] 25))) [.slice D l.length q] (by simp))
    clear hbx
    rcases hg : trimR m l al with ⟨hl, kt⟩
    have HTE := Lib.hid hg
    clear hg
    have E2 := Lib.hid (trim0i m D q l X1 qx al hl kt v1b HL.out HA.out HTE.out)
    go_wp2_with fail
    rw [← hv1b]
    clear hv1b 
    refine E2.out.mono ?_
    rintro e v2 ⟨AX, cX, rfl, hr, hb⟩
    clear E2
    replace HL := Lib.hid (HL.out.below hb)
    replace HA := Lib.hid (HA.out.below hb)
    replace HBM := Lib.hid (HBM.out.below hb)
    replace HBL := Lib.hid (HBL.out.below hb)
    replace HB := Lib.hid (HB.out.trans (hb.mono HB.out.size))
    have HX := Lib.hid (hr)
    clear hr hb
    obtain ⟨q0_0, q0_1, q0_2, q0_3, q0_4, _⟩ := HBM.out
    simp only [Nat.zero_add] at q0_1 q0_2 q0_3 q0_4
    obtain ⟨q1_0, _⟩ := HBL.out
    have HBMlt := World.block_lt_of_cell? v2 _ (HBM.out.1)
    simp only at HBMlt
    have HBLlt := World.block_lt_of_cell? v2 _ (HBL.out.1)
    simp only at HBLlt
    obtain ⟨v2b, hv2b⟩ : ∃ wb, wb = v2.alloc (.cells #[.slice AX hl.length cX] 28) := ⟨_, rfl⟩
    have hbx : Below v2.heap.size v2 v2b := by rw [hv2b]; exact (Below.refl _ _).alloc (Nat.le_refl _) _
    replace HL := Lib.hid (HL.out.below hbx)
    replace HA := Lib.hid (HA.out.below hbx)
    replace HBM := Lib.hid (HBM.out.below hbx)
    replace HBL := Lib.hid (HBL.out.below hbx)
    replace HX := Lib.hid (HX.out.below hbx)
    replace HB := Lib.hid (HB.out.trans (hbx.mono HB.out.size))
    have HBX := Lib.hid (show BoxC v2b (v2.heap.size) 0 [.slice AX hl.length cX] by rw [hv2b]; exact BoxC.new (w := v2) [.slice AX hl.length cX] rfl)
    clear hbx
    have E3 := Lib.hid (trim0s m D q l X1 qx al hl kt v2b HL.out HA.out HTE.out)
    go_wp2_with fail
    rw [← hv2b]
    clear hv2b q0_0 q0_1 q0_2 q0_3 q0_4 q1_0 HBMlt HBLlt
    refine E3.out.mono ?_
    rintro e v3 ⟨AY, cY, rfl, hr, hb⟩
    clear E3
    replace HL := Lib.hid (HL.out.below hb)
    replace HA := Lib.hid (HA.out.below hb)
    replace HBM := Lib.hid (HBM.out.below hb)
    replace HBL := Lib.hid (HBL.out.below hb)
    replace HX := Lib.hid (HX.out.below hb)
    replace HBX := Lib.hid (HBX.out.below hb)
    replace HB := Lib.hid (HB.out.trans (hb.mono HB.out.size))
    have HY := Lib.hid (hr)
    clear hr hb
    obtain ⟨v3b, hv3b⟩ : ∃ wb, wb = v3.alloc (.cells #[.slice AY hl.length cY] 28) := ⟨_, rfl⟩
    have hbx : Below v3.heap.size v3 v3b := by rw [hv3b]; exact (Below.refl _ _).alloc (Nat.le_refl _) _
    replace HL := Lib.hid (HL.out.below hbx)
    replace HA := Lib.hid (HA.out.below hbx)
    replace HBM := Lib.hid (HBM.out.below hbx)
    replace HBL := Lib.hid (HBL.out.below hbx)
    replace HX := Lib.hid (HX.out.below hbx)
    replace HBX := Lib.hid (HBX.out.below hbx)
    replace HY := Lib.hid (HY.out.below hbx)
    replace HB := Lib.hid (HB.out.trans (hbx.mono HB.out.size))
    have HBY := Lib.hid (show BoxC v3b (v3.heap.size) 0 [.slice AY hl.length cY] by rw [hv3b]; exact BoxC.new (w := v3) [.slice AY hl.length cY] rfl)
    clear hbx
    have E4 := Lib.hid (drawNearest_any A c bs v3b (HC.out.below HB.out))
    go_wp2_with fail
    rw [← hv3b]
    clear hv3b 
    refine E4.out.mono ?_
    rintro e v4 ⟨m2, D2, q2, l2, X2, qx2, al2, Z, qz, zs, rfl, h1, h2, h3, hqz, hb⟩
    clear E4
    replace HL := Lib.hid (HL.out.below hb)
    replace HA := Lib.hid (HA.out.below hb)
    replace HBM := Lib.hid (HBM.out.below hb)
    replace HBL := Lib.hid (HBL.out.below hb)
    replace HX := Lib.hid (HX.out.below hb)
    replace HBX := Lib.hid (HBX.out.below hb)
    replace HY := Lib.hid (HY.out.below hb)
    replace HBY := Lib.hid (HBY.out.below hb)
    replace HB := Lib.hid (HB.out.trans (hb.mono HB.out.size))
    have HL2 := Lib.hid (h1.rii)
    have HA2 := Lib.hid (h2.rii)
    have HZ := Lib.hid (h3.1)
    clear h1 h2 h3 hb
    have HQZ := Lib.hid hqz
    clear hqz
    obtain ⟨v4b, hv4b⟩ : ∃ wb, wb = (v4.alloc (.cells #[.int .i64 m2.c, .int .i64 m2.d, .int .i64 m2.s, .int .i64 m2.a, .int .i64 m2.l] 25)).alloc (.cells #[.slice D2 l2.length q2] 28) := ⟨_, rfl⟩
    have hbx : Below v4.heap.size v4 v4b := by rw [hv4b]; exact ((Below.refl _ _).alloc (Nat.le_refl _) _).alloc (by simp only [World.size_alloc]; omega) _
    replace HL := Lib.hid (HL.out.below hbx)
    replace HA := Lib.hid (HA.out.below hbx)
    replace HBM := Lib.hid (HBM.out.below hbx)
    replace HBL := Lib.hid (HBL.out.below hbx)
    replace HX := Lib.hid (HX.out.below hbx)
    replace HBX := Lib.hid (HBX.out.below hbx)
    replace HY := Lib.hid (HY.out.below hbx)
    replace HBY := Lib.hid (HBY.out.below hbx)
    replace HL2 := Lib.hid (HL2.out.below hbx)
    replace HA2 := Lib.hid (HA2.out.below hbx)
    replace HZ := Lib.hid (HZ.out.below hbx)
    replace HB := Lib.hid (HB.out.trans (hbx.mono HB.out.size))
    have HBM2 := Lib.hid (show BoxC v4b (v4.heap.size) 0 (mkCells m2) by rw [hv4b]; exact (BoxC.new (w := v4) (mkCells m2) rfl).below ((Below.refl _ _).alloc (Nat.le_refl _) _))
    have HBL2 := Lib.hid (show BoxC v4b (v4.heap.size + 1) 0 [.slice D2 l2.length q2] by rw [hv4b]; exact BoxC.new (w := (v4.alloc (.cells #[.int .i64 m2.c, .int .i64 m2.d, .int .i64 m2.s, .int .i64 m2.a, .int .i64 m2.l] 25))) [.slice D2 l2.length q2] (by simp))
    clear hbx
    rcases hg : nearR m2 l2 al2 zs with ⟨gs, kg⟩
    have HGE := Lib.hid hg
    clear hg
    have E5 := Lib.hid (near0i m2 D2 q2 l2 X2 qx2 al2 Z qz zs gs kg v4b HL2.out HA2.out HZ.out HQZ.out HGE.out)
    go_wp2_with fail
    rw [← hv4b]
    clear hv4b 
    refine E5.out.mono ?_
    rintro e v5 ⟨AG, cG, rfl, hcg, hr, hb⟩
    clear E5
    replace HL := Lib.hid (HL.out.below hb)
    replace HA := Lib.hid (HA.out.below hb)
    replace HBM := Lib.hid (HBM.out.below hb)
    replace HBL := Lib.hid (HBL.out.below hb)
    replace HX := Lib.hid (HX.out.below hb)
    replace HBX := Lib.hid (HBX.out.below hb)
    replace HY := Lib.hid (HY.out.below hb)
    replace HBY := Lib.hid (HBY.out.below hb)
    replace HL2 := Lib.hid (HL2.out.below hb)
    replace HA2 := Lib.hid (HA2.out.below hb)
    replace HZ := Lib.hid (HZ.out.below hb)
    replace HBM2 := Lib.hid (HBM2.out.below hb)
    replace HBL2 := Lib.hid (HBL2.out.below hb)
    replace HB := Lib.hid (HB.out.trans (hb.mono HB.out.size))
    have HG := Lib.hid (hr)
    clear hr hb
    have HQG := Lib.hid hcg
    clear hcg
    have E6 := Lib.hid (near0s m2 D2 q2 l2 X2 qx2 al2 Z qz zs gs kg v5 HL2.out HA2.out HZ.out HQZ.out HGE.out)
    obtain ⟨q0_0, q0_1, q0_2, q0_3, q0_4, _⟩ := HBM2.out
    simp only [Nat.zero_add] at q0_1 q0_2 q0_3 q0_4
    obtain ⟨q1_0, _⟩ := HBL2.out
    go_wp2_with fail
    clear q0_0 q0_1 q0_2 q0_3 q0_4 q1_0
    refine E6.out.mono ?_
    rintro e v6 ⟨AH, cH, rfl, hr, hb⟩
    clear E6
    replace HL := Lib.hid (HL.out.below hb)
    replace HA := Lib.hid (HA.out.below hb)
    replace HBM := Lib.hid (HBM.out.below hb)
    replace HBL := Lib.hid (HBL.out.below hb)
    replace HX := Lib.hid (HX.out.below hb)
    replace HBX := Lib.hid (HBX.out.below hb)
    replace HY := Lib.hid (HY.out.below hb)
    replace HBY := Lib.hid (HBY.out.below hb)
    replace HL2 := Lib.hid (HL2.out.below hb)
    replace HA2 := Lib.hid (HA2.out.below hb)
    replace HZ := Lib.hid (HZ.out.below hb)
    replace HBM2 := Lib.hid (HBM2.out.below hb)
    replace HBL2 := Lib.hid (HBL2.out.below hb)
    replace HG := Lib.hid (HG.out.below hb)
    replace HB := Lib.hid (HB.out.trans (hb.mono HB.out.size))
    have HH := Lib.hid (hr)
    clear hr hb
    have E7 := Lib.hid (likeLocksB (c := cX) (d := cY) HX.out HY.out)
    obtain ⟨q0_0, _⟩ := HBX.out
    obtain ⟨q1_0, _⟩ := HBY.out
    go_wp2_with fail
    clear q0_0 q1_0
    refine E7.out.mono ?_
    rintro e v7 ⟨rfl, hb⟩
    clear E7
    replace HL := Lib.hid (HL.out.below hb)
    replace HA := Lib.hid (HA.out.below hb)
    replace HBM := Lib.hid (HBM.out.below hb)
    replace HBL := Lib.hid (HBL.out.below hb)
    replace HX := Lib.hid (HX.out.below hb)
    replace HBX := Lib.hid (HBX.out.below hb)
    replace HY := Lib.hid (HY.out.below hb)
    replace HBY := Lib.hid (HBY.out.below hb)
    replace HL2 := Lib.hid (HL2.out.below hb)
    replace HA2 := Lib.hid (HA2.out.below hb)
    replace HZ := Lib.hid (HZ.out.below hb)
    replace HBM2 := Lib.hid (HBM2.out.below hb)
    replace HBL2 := Lib.hid (HBL2.out.below hb)
    replace HG := Lib.hid (HG.out.below hb)
    replace HH := Lib.hid (HH.out.below hb)
    replace HB := Lib.hid (HB.out.trans (hb.mono HB.out.size))
    clear hb
    have E8 := Lib.hid (likeIntsB (c := cG) (d := cH) HG.out HH.out)
    go_wp2_with fail
    refine E8.out.mono ?_
    rintro e v8 ⟨rfl, hb⟩
    clear E8
    replace HL := Lib.hid (HL.out.below hb)
    replace HA := Lib.hid (HA.out.below hb)
    replace HBM := Lib.hid (HBM.out.below hb)
    replace HBL := Lib.hid (HBL.out.below hb)
    replace HX := Lib.hid (HX.out.below hb)
    replace HBX := Lib.hid (HBX.out.below hb)
    replace HY := Lib.hid (HY.out.below hb)
    replace HBY := Lib.hid (HBY.out.below hb)
    replace HL2 := Lib.hid (HL2.out.below hb)
    replace HA2 := Lib.hid (HA2.out.below hb)
    replace HZ := Lib.hid (HZ.out.below hb)
    replace HBM2 := Lib.hid (HBM2.out.below hb)
    replace HBL2 := Lib.hid (HBL2.out.below hb)
    replace HG := Lib.hid (HG.out.below hb)
    replace HH := Lib.hid (HH.out.below hb)
    replace HB := Lib.hid (HB.out.trans (hb.mono HB.out.size))
    clear hb
    by_cases hkg : kg = 0
    · subst hkg
      have hng := (near_ghost (m := m2) (l := l2) (al := al2) (kk := zs) (by rw [HGE.out])).2
      rw [HGE.out] at hng
      have HNG := Lib.hid hng
      clear hng
      have E9 := Lib.hid (isg0 m2 D2 q2 l2 X2 qx2 al2 AG cG gs v8 HL2.out HA2.out HG.out HQG.out HNG.out)
      obtain ⟨q0_0, q0_1, q0_2, q0_3, q0_4, _⟩ := HBM2.out
      simp only [Nat.zero_add] at q0_1 q0_2 q0_3 q0_4
      obtain ⟨q1_0, _⟩ := HBL2.out
      go_wp2_with fail
      clear q0_0 q0_1 q0_2 q0_3 q0_4 q1_0
      refine E9.out.mono ?_
      rintro e v9 ⟨rfl, hb⟩
      clear E9
      replace HL := Lib.hid (HL.out.below hb)
      replace HA := Lib.hid (HA.out.below hb)
      replace HBM := Lib.hid (HBM.out.below hb)
      replace HBL := Lib.hid (HBL.out.below hb)
      replace HX := Lib.hid (HX.out.below hb)
      replace HBX := Lib.hid (HBX.out.below hb)
      replace HY := Lib.hid (HY.out.below hb)
      replace HBY := Lib.hid (HBY.out.below hb)
      replace HL2 := Lib.hid (HL2.out.below hb)
      replace HA2 := Lib.hid (HA2.out.below hb)
      replace HZ := Lib.hid (HZ.out.below hb)
      replace HBM2 := Lib.hid (HBM2.out.below hb)
      replace HBL2 := Lib.hid (HBL2.out.below hb)
      replace HG := Lib.hid (HG.out.below hb)
      replace HH := Lib.hid (HH.out.below hb)
      replace HB := Lib.hid (HB.out.trans (hb.mono HB.out.size))
      clear hb
      by_cases hk : kt = 0
      rotate_left
      · have hk' : (kt != 0) = true := by simpa using hk
        go_wp2_with fail
        go_ret
        exact ⟨rfl, HB.out⟩
      · subst hk
        obtain ⟨hc1, hc2, hle⟩ := trim_ghosts (m := m) (l := l) (al := al) (by rw [HTE.out])
        rw [HTE.out] at hc2 hle
        have hn1 : (((ghosts m l al).length : Int), (0 : Int)) = cGhostsR m l al := by unfold cGhostsR; rw [if_pos hc1]
        have hn2 : (((ghosts m hl al).length : Int), (0 : Int)) = cGhostsR m hl al := by unfold cGhostsR; rw [if_pos hc2]
        obtain ⟨n1, hq1⟩ : ∃ n, n = (ghosts m l al).length := ⟨_, rfl⟩
        obtain ⟨n2, hq2⟩ : ∃ n, n = (ghosts m hl al).length := ⟨_, rfl⟩
        have hle' : n2 ≤ n1 := by rw [hq1, hq2]; exact hle
        rw [← hq1] at hn1
        rw [← hq2] at hn2
        have HN1 := Lib.hid hn1.symm; have HN2 := Lib.hid hn2.symm
        clear hc1 hc2 hle hn1 hn2 hq1 hq2
        have E10 := Lib.hid (count0 m D q l X1 qx al n1 v9 HL.out HA.out HN1.out)
        obtain ⟨q0_0, q0_1, q0_2, q0_3, q0_4, _⟩ := HBM.out
        simp only [Nat.zero_add] at q0_1 q0_2 q0_3 q0_4
        obtain ⟨q1_0, _⟩ := HBL.out
        go_wp2_with fail
        clear q0_0 q0_1 q0_2 q0_3 q0_4 q1_0
        refine E10.out.mono ?_
        rintro e v10 ⟨rfl, hb⟩
        clear E10
        replace HL := Lib.hid (HL.out.below hb)
        replace HA := Lib.hid (HA.out.below hb)
        replace HBM := Lib.hid (HBM.out.below hb)
        replace HBL := Lib.hid (HBL.out.below hb)
        replace HX := Lib.hid (HX.out.below hb)
        replace HBX := Lib.hid (HBX.out.below hb)
        replace HY := Lib.hid (HY.out.below hb)
        replace HBY := Lib.hid (HBY.out.below hb)
        replace HL2 := Lib.hid (HL2.out.below hb)
        replace HA2 := Lib.hid (HA2.out.below hb)
        replace HZ := Lib.hid (HZ.out.below hb)
        replace HBM2 := Lib.hid (HBM2.out.below hb)
        replace HBL2 := Lib.hid (HBL2.out.below hb)
        replace HG := Lib.hid (HG.out.below hb)
        replace HH := Lib.hid (HH.out.below hb)
        replace HB := Lib.hid (HB.out.trans (hb.mono HB.out.size))
        clear hb
        have E11 := Lib.hid (count0 m AX cX hl X1 qx al n2 v10 HX.out HA.out HN2.out)
        obtain ⟨q0_0, q0_1, q0_2, q0_3, q0_4, _⟩ := HBM.out
        simp only [Nat.zero_add] at q0_1 q0_2 q0_3 q0_4
        obtain ⟨q1_0, _⟩ := HBX.out
        go_wp2_with fail
        clear q0_0 q0_1 q0_2 q0_3 q0_4 q1_0
        refine E11.out.mono ?_
        rintro e v11 ⟨rfl, hb⟩
        clear E11
        replace HL := Lib.hid (HL.out.below hb)
        replace HA := Lib.hid (HA.out.below hb)
        replace HBM := Lib.hid (HBM.out.below hb)
        replace HBL := Lib.hid (HBL.out.below hb)
        replace HX := Lib.hid (HX.out.below hb)
        replace HBX := Lib.hid (HBX.out.below hb)
        replace HY := Lib.hid (HY.out.below hb)
        replace HBY := Lib.hid (HBY.out.below hb)
        replace HL2 := Lib.hid (HL2.out.below hb)
        replace HA2 := Lib.hid (HA2.out.below hb)
        replace HZ := Lib.hid (HZ.out.below hb)
        replace HBM2 := Lib.hid (HBM2.out.below hb)
        replace HBL2 := Lib.hid (HBL2.out.below hb)
        replace HG := Lib.hid (HG.out.below hb)
        replace HH := Lib.hid (HH.out.below hb)
        replace HB := Lib.hid (HB.out.trans (hb.mono HB.out.size))
        clear hb
        go_wp2_with fail
        go_ret
        exact ⟨retB (by first | (simp; done) | (simp; omega)), HB.out⟩
    · have hkg' : (kg == 0) = false := by simpa using hkg
      by_cases hk : kt = 0
      rotate_left
      · have hk' : (kt != 0) = true := by simpa using hk
        go_wp2_with fail
        go_ret
        exact ⟨rfl, HB.out⟩
      · subst hk
        obtain ⟨hc1, hc2, hle⟩ := trim_ghosts (m := m) (l := l) (al := al) (by rw [HTE.out])
        rw [HTE.out] at hc2 hle
        have hn1 : (((ghosts m l al).length : Int), (0 : Int)) = cGhostsR m l al := by unfold cGhostsR; rw [if_pos hc1]
        have hn2 : (((ghosts m hl al).length : Int), (0 : Int)) = cGhostsR m hl al := by unfold cGhostsR; rw [if_pos hc2]
        obtain ⟨n1, hq1⟩ : ∃ n, n = (ghosts m l al).length := ⟨_, rfl⟩
        obtain ⟨n2, hq2⟩ : ∃ n, n = (ghosts m hl al).length := ⟨_, rfl⟩
        have hle' : n2 ≤ n1 := by rw [hq1, hq2]; exact hle
        rw [← hq1] at hn1
        rw [← hq2] at hn2
        have HN1 := Lib.hid hn1.symm; have HN2 := Lib.hid hn2.symm
        clear hc1 hc2 hle hn1 hn2 hq1 hq2
        have E9 := Lib.hid (count0 m D q l X1 qx al n1 v8 HL.out HA.out HN1.out)
        obtain ⟨q0_0, q0_1, q0_2, q0_3, q0_4, _⟩ := HBM.out
        simp only [Nat.zero_add] at q0_1 q0_2 q0_3 q0_4
        obtain ⟨q1_0, _⟩ := HBL.out
        go_wp2_with fail
        clear q0_0 q0_1 q0_2 q0_3 q0_4 q1_0
        refine E9.out.mono ?_
        rintro e v9 ⟨rfl, hb⟩
        clear E9
        replace HL := Lib.hid (HL.out.below hb)
        replace HA := Lib.hid (HA.out.below hb)
        replace HBM := Lib.hid (HBM.out.below hb)
        replace HBL := Lib.hid (HBL.out.below hb)
        replace HX := Lib.hid (HX.out.below hb)
        replace HBX := Lib.hid (HBX.out.below hb)
        replace HY := Lib.hid (HY.out.below hb)
        replace HBY := Lib.hid (HBY.out.below hb)
        replace HL2 := Lib.hid (HL2.out.below hb)
        replace HA2 := Lib.hid (HA2.out.below hb)
        replace HZ := Lib.hid (HZ.out.below hb)
        replace HBM2 := Lib.hid (HBM2.out.below hb)
        replace HBL2 := Lib.hid (HBL2.out.below hb)
        replace HG := Lib.hid (HG.out.below hb)
        replace HH := Lib.hid (HH.out.below hb)
        replace HB := Lib.hid (HB.out.trans (hb.mono HB.out.size))
        clear hb
        have E10 := Lib.hid (count0 m AX cX hl X1 qx al n2 v9 HX.out HA.out HN2.out)
        obtain ⟨q0_0, q0_1, q0_2, q0_3, q0_4, _⟩ := HBM.out
        simp only [Nat.zero_add] at q0_1 q0_2 q0_3 q0_4
        obtain ⟨q1_0, _⟩ := HBX.out
        go_wp2_with fail
        clear q0_0 q0_1 q0_2 q0_3 q0_4 q1_0
        refine E10.out.mono ?_
        rintro e v10 ⟨rfl, hb⟩
        clear E10
        replace HL := Lib.hid (HL.out.below hb)
        replace HA := Lib.hid (HA.out.below hb)
        replace HBM := Lib.hid (HBM.out.below hb)
        replace HBL := Lib.hid (HBL.out.below hb)
        replace HX := Lib.hid (HX.out.below hb)
        replace HBX := Lib.hid (HBX.out.below hb)
        replace HY := Lib.hid (HY.out.below hb)
        replace HBY := Lib.hid (HBY.out.below hb)
        replace HL2 := Lib.hid (HL2.out.below hb)
        replace HA2 := Lib.hid (HA2.out.below hb)
        replace HZ := Lib.hid (HZ.out.below hb)
        replace HBM2 := Lib.hid (HBM2.out.below hb)
        replace HBL2 := Lib.hid (HBL2.out.below hb)
        replace HG := Lib.hid (HG.out.below hb)
        replace HH := Lib.hid (HH.out.below hb)
        replace HB := Lib.hid (HB.out.trans (hb.mono HB.out.size))
        clear hb
        go_wp2_with fail
        go_ret
        exact ⟨retB (by first | (simp; done) | (simp; omega)), HB.out⟩
end Go.Proofs.YtdedajohkdbdkaaGreat.fnTrimmed
