/- The walk of the law FnLevelLocks. -/
import Derived.Test.YtdkkkkfcpgkcnaaLike
import Derived.Test.YtdkkkkfcpgkcnaaDrLv2
import Derived.Test.YtdkkkkfcpgkcnaaPLvLock
import Derived.Test.YtdkkkkfcpgkcnaaFChLock
import Derived.Test.YtdkkkkfcpgkcnaaDice
import Derived.Test.YtdkkkkfcpgkcnaaFIsBelow
import Derived.Deep.CutRange
namespace Go.Proofs.Ytdkkkkfcpgkcnaa.fnLevelLocks
set_option linter.unusedVariables false
open Go.RowKit
theorem likeB {A B : Option Addr} {c d : Nat} {xs : List Int} {w : World} (h : RI w A xs) (g : RI w B xs) :
    Calls Try.prog 22 #[.slice A xs.length c, .slice B xs.length d] w fun e w' => e = .returned (.bool true) ∧ Below w.heap.size w w' :=
  (likeInts_same A B c d xs w h g).mono fun e w' ⟨h1, n, h2⟩ => ⟨h1, by rw [h2]; exact belowD (Below.refl _ _) n⟩
set_option maxHeartbeats 4000000 in
theorem likeLocks_same {A B : Option Addr} {c d : Nat} {xss : List (List Int)} {w : World} (h : RII w A xss) (g : RII w B xss) :
    Calls Try.prog 53 #[.agg #[.slice A xss.length c], .agg #[.slice B xss.length d]] w fun e w' => e = .returned (.bool true) ∧ Below w.heap.size w w' := by
  obtain ⟨w1, hw1⟩ : ∃ w1, w1 = (w.alloc (.cells #[.slice A xss.length c] 54)).alloc (.cells #[.slice B xss.length d] 54) := ⟨_, rfl⟩
  have hb : Below w.heap.size w w1 := by rw [hw1]; exact ((Below.refl w.heap.size w).alloc (Nat.le_refl _) _).alloc (by simp only [World.size_alloc]; omega) _
  have HB := Lib.hid hb
  have HL := Lib.hid (likeLists_same A B c d xss w1 (h.below hb) (g.below hb))
  have x0 : w1.cell? ⟨w.heap.size, 0, none⟩ = some (.slice A xss.length c) := by
    have : BoxC (w.alloc (.cells #[.slice A xss.length c] 54)) w.heap.size 0 [.slice A xss.length c] := BoxC.new [.slice A xss.length c] rfl
    rw [hw1]; exact (this.below ((Below.refl _ _).alloc (Nat.le_refl _) _)).1
  have x1 : w1.cell? ⟨w.heap.size + 1, 0, none⟩ = some (.slice B xss.length d) := by
    have : BoxC ((w.alloc (.cells #[.slice A xss.length c] 54)).alloc (.cells #[.slice B xss.length d] 54)) (w.alloc (.cells #[.slice A xss.length c] 54)).heap.size 0 [.slice B xss.length d] := BoxC.new [.slice B xss.length d] rfl
    simp only [World.size_alloc] at this
    rw [hw1]; exact this.1
  clear h g hb
  go_enter Try.func53, Try.ntmps53
  go_wp2_with fail
  rw [← hw1]
  clear hw1
  go_wp2_with fail
  refine HL.out.mono ?_
  rintro e w2 ⟨rfl, n, rfl⟩
  go_wp2_with fail
  go_ret
  exact ⟨rfl, belowD HB.out n⟩
theorem diceB {S : Nat} {A : Option Addr} {c : Nat} {bs : List Int} {w w' : World} (h : Dice S A c bs w) (hb : Below (S + 1) w w') (hr : RV w' A (bytesV bs)) : Dice S A c bs w' := by
  obtain ⟨p, s, hp, x0, x1, x2, _⟩ := h.box
  have hs := hb.size
  exact ⟨by have := h.xl; omega, hr, h.nS, h.by_, (hb.frozen (p := ⟨S, 1, none⟩) (Nat.lt_succ_self S)).trans h.f1, (hb.frozen (p := ⟨S, 2, none⟩) (Nat.lt_succ_self S)).trans h.f2, p, s, hp, cell_in hb (Nat.lt_succ_self S) x0, cell_in hb (Nat.lt_succ_self S) x1, cell_in hb (Nat.lt_succ_self S) x2, trivial⟩
/-- the contract of below, in the loop's words -/
def BelowR (D : Nat) (A : Option Addr) (c : Nat) (bs : List Int) (n : Int) (w : World) (e : Ending) (w' : World) : Prop := ∃ r, e = .returned (.int .i64 r) ∧ 0 ≤ r ∧ r < n ∧ Dice D A c bs w' ∧ KeepF (fun g => g = D) w w' ∧ w'.heap.size = w.heap.size
def HXX (w : World) (A1 A2 A3 : Option Addr) (ms ls ps : List Int) : Prop := RI w A1 ms ∧ RI w A2 ls ∧ RI w A3 ps
theorem HXX.below {w w' : World} {A1 A2 A3 : Option Addr} {ms ls ps : List Int} (h : HXX w A1 A2 A3 ms ls ps) (hb : Below w.heap.size w w') : HXX w' A1 A2 A3 ms ls ps := ⟨h.1.below hb, h.2.1.below hb, h.2.2.below hb⟩
set_option maxRecDepth 100000 in
set_option maxHeartbeats 8000000 in
theorem walk (A : Option Addr) (c : Nat) (bs : List Int) (w : World) (h : RCode w A bs) :
    Calls Try.prog 7 #[.slice A bs.length c] w fun e w' => e = .returned (.bool true) ∧ Below w.heap.size w w' := by
  have HC := Lib.hid h
  clear h
  by_cases hbig : (bs.length : Int) > 4096
  · have HBG := big_any A bs.length c w
    rw [decide_eq_true hbig] at HBG
    have HB := Lib.hid HBG
    clear hbig HBG
    go_enter Try.func7, Try.ntmps7
    go_wp2_with fail
    refine HB.out.mono ?_
    rintro e w1 ⟨rfl, rfl⟩
    go_wp2_with fail
    go_ret
    exact ⟨rfl, Below.refl _ _⟩
  · have HBG := big_any A bs.length c w
    rw [decide_eq_false hbig] at HBG
    have HB := Lib.hid HBG
    clear hbig HBG
    have HD1 := Lib.hid (drawLockAt_any A c bs w HC.out)
    go_enter Try.func7, Try.ntmps7
    go_wp2_with fail
    refine HB.out.mono ?_
    rintro e w1 ⟨rfl, rfl⟩
    go_wp2_with fail
    refine HD1.out.mono ?_
    rintro e w2 ⟨m, A1, c1, ms, A2, c2, ls, A3, c3, ps, rfl, hm, hk, h1, h2, h3, hb2⟩
    have h0 : HXX w2 A1 A2 A3 ms ls ps := ⟨h1, h2, h3⟩
    obtain ⟨w2b, hwm⟩ : ∃ wb, wb = w2.alloc (.cells #[.int .i64 m.c, .int .i64 m.d, .int .i64 m.s, .int .i64 m.a, .int .i64 m.l] 45) := ⟨_, rfl⟩
    have hbx : Below w2.heap.size w2 w2b := by rw [hwm]; exact (Below.refl _ _).alloc (Nat.le_refl _) _
    have HM2 := Lib.hid (show BoxC w2b w2.heap.size 0 (mkCells m) by rw [hwm]; exact BoxC.new (mkCells m) rfl)
    have HX2 := Lib.hid (h0.below hbx)
    have HB2 := Lib.hid (hb2.trans (hbx.mono hb2.size))
    have HB2y := Lib.hid hbx
    clear hbx
    rcases hll : lockAtR m ms ls ps with ⟨lk, kl⟩
    have HLL := Lib.hid hll
    have HKC := Lib.hid hk
    have E2 := Lib.hid (by have := implLockAt_any m A1 c1 ms A2 c2 ls A3 c3 ps w2b HX2.out.1 HX2.out.2.1 HX2.out.2.2 hk.1; rw [hll] at this; exact this)
    clear hm hk h0 h1 h2 h3 hb2 hll
    obtain ⟨x0, x1, x2, x3, x4, _⟩ := HM2.out
    simp only [Nat.zero_add] at x1 x2 x3 x4
    go_wp2_with fail
    rw [← hwm]
    clear x0 x1 x2 x3 x4 hwm
    refine E2.out.mono ?_
    rintro e w3 ⟨C3, k3, rfl, hk3, hr3, _, hb3⟩
    obtain ⟨w3b, hww3b⟩ : ∃ wb, wb = w3.alloc (.cells #[.slice C3 lk.length k3] 54) := ⟨_, rfl⟩
    have hbx : Below w3.heap.size w3 w3b := by rw [hww3b]; exact (Below.refl _ _).alloc (Nat.le_refl _) _
    have HLw3b := Lib.hid (show BoxC w3b w3.heap.size 0 [.slice C3 lk.length k3] by rw [hww3b]; exact BoxC.new [.slice C3 lk.length k3] rfl)
    have hb3b := hb3.trans (hbx.mono hb3.size)
    have HR3 := Lib.hid (hr3.below hbx)
    have HX3 := Lib.hid (HX2.out.below hb3b)
    have HM3 := Lib.hid (HM2.out.below hb3b)
    have HB3 := Lib.hid (HB2.out.trans (hb3b.mono HB2.out.size))
    have E3 := Lib.hid (by have := specLockAt_any m A1 c1 ms A2 c2 ls A3 c3 ps w3b HX3.out.1 HX3.out.2.1 HX3.out.2.2 HKC.out.1; rw [HLL.out] at this; exact this)
    obtain ⟨x0, x1, x2, x3, x4, _⟩ := HM2.out.below hb3
    simp only [Nat.zero_add] at x1 x2 x3 x4
    have hlt := World.block_lt_of_cell? w3 _ x0
    simp only at hlt
    clear hb3 hr3 hb3b hbx
    go_wp2_with fail
    rw [← hww3b]
    clear x0 x1 x2 x3 x4 hww3b hlt
    refine E3.out.mono ?_
    rintro e w4 ⟨C4, k4, rfl, hk4, hr4, _, hb4⟩
    obtain ⟨w4b, hww4b⟩ : ∃ wb, wb = w4.alloc (.cells #[.slice C4 lk.length k4] 54) := ⟨_, rfl⟩
    have hbx : Below w4.heap.size w4 w4b := by rw [hww4b]; exact (Below.refl _ _).alloc (Nat.le_refl _) _
    have HLw4b := Lib.hid (show BoxC w4b w4.heap.size 0 [.slice C4 lk.length k4] by rw [hww4b]; exact BoxC.new [.slice C4 lk.length k4] rfl)
    have hb4b := hb4.trans (hbx.mono hb4.size)
    have HR4 := Lib.hid (hr4.below hbx)
    have HR34 := Lib.hid (HR3.out.below hb4b)
    have HX4 := Lib.hid (HX3.out.below hb4b)
    have HM4 := Lib.hid (HM3.out.below hb4b)
    have HLw34 := Lib.hid (HLw3b.out.below hb4b)
    have HB4 := Lib.hid (HB3.out.trans (hb4b.mono HB3.out.size))
    have HD5 := Lib.hid (drawIsBelow_any A c bs w4b (HC.out.below HB4.out))
    clear hb4 hr4 hb4b hbx
    go_wp2_with fail
    rw [← hww4b]
    clear hww4b
    refine HD5.out.mono ?_
    rintro e w5 ⟨X1, a1, xs, X2, a2, ys, rfl, ha1, ha2, hr1, hr2, hb5⟩
    have HXY5 := Lib.hid (And.intro hr1 hr2)
    have HAC := Lib.hid ha1
    have HB5 := Lib.hid (HB4.out.trans (hb5.mono HB4.out.size))
    have HB5x := Lib.hid hb5
    have HD6 := Lib.hid (drawLevelSizes_any A c bs w5 (HC.out.below HB5.out))
    clear hb5 hr1 hr2 ha1 ha2
    go_wp2_with fail
    refine HD6.out.mono ?_
    rintro e w6 ⟨n, Y1, d1, ns, rfl, hm, hk, h1, hb6⟩
    have hb16 := HB5.out.trans (hb6.mono HB5.out.size)
    have HB6x := Lib.hid hb6
    obtain ⟨w6b, hwn⟩ : ∃ wb, wb = w6.alloc (.cells #[.int .i64 n.c, .int .i64 n.d, .int .i64 n.s, .int .i64 n.a, .int .i64 n.l] 45) := ⟨_, rfl⟩
    have hbx : Below w6.heap.size w6 w6b := by rw [hwn]; exact (Below.refl _ _).alloc (Nat.le_refl _) _
    have HN6 := Lib.hid (show BoxC w6b w6.heap.size 0 (mkCells n) by rw [hwn]; exact BoxC.new (mkCells n) rfl)
    have HY6 := Lib.hid (h1.below hbx)
    have HB6 := Lib.hid (hb16.trans (hbx.mono hb16.size))
    have HB6y := Lib.hid hbx
    clear hbx
    have hbb := (HB5x.out.trans (HB6x.out.mono HB5x.out.size)).trans (HB6y.out.mono (HB5x.out.trans (HB6x.out.mono HB5x.out.size)).size)
    have HX6 := Lib.hid (HX4.out.below hbb)
    have HM6 := Lib.hid (HM4.out.below hbb)
    have HR36 := Lib.hid (HR34.out.below hbb); have HR46 := Lib.hid (HR4.out.below hbb)
    have HLa := Lib.hid (HLw34.out.below hbb); have HLb := Lib.hid (HLw4b.out.below hbb)
    have hb56 := HB6x.out.trans (HB6y.out.mono HB6x.out.size)
    have HXY6 := Lib.hid (And.intro (HXY5.out.1.below hb56) (HXY5.out.2.below hb56))
    rcases hsz : levelSizes n ns with ⟨sz, ks⟩
    have E7 := Lib.hid (by have := implLevelSizes_any n Y1 d1 ns w6b HY6.out; rw [hsz] at this; exact this)
    have E8 := Lib.hid (fun W (hW : Below w6b.heap.size w6b W) => by have := specLevelSizes_any n Y1 d1 ns W (HY6.out.below hW); rw [hsz] at this; exact this)
    clear hm hk h1 hb6 hb16 hbb hb56 hsz
    obtain ⟨x0, x1, x2, x3, x4, _⟩ := HN6.out
    simp only [Nat.zero_add] at x1 x2 x3 x4
    go_wp2_with fail
    rw [← hwn]
    clear x0 x1 x2 x3 x4 hwn
    refine E7.out.mono ?_
    rintro e w7 ⟨C7, k7, rfl, hk7, hr7, _, hb7⟩
    have HB7 := Lib.hid hb7; have HR7 := Lib.hid hr7
    obtain ⟨x0, x1, x2, x3, x4, _⟩ := HN6.out.below hb7
    simp only [Nat.zero_add] at x1 x2 x3 x4
    clear hb7 hr7
    go_wp2_with fail
    clear x0 x1 x2 x3 x4
    refine (E8.out w7 HB7.out).mono ?_
    rintro e w8 ⟨C8, k8, rfl, hk8, hr8, _, hb8⟩
    have HR78 := Lib.hid (HR7.out.below hb8); have HR8 := Lib.hid hr8
    have HB8 := Lib.hid (HB7.out.trans (hb8.mono HB7.out.size))
    have E9 := Lib.hid (likeLocks_same (c := k3) (d := k4) (HR36.out.below HB8.out) (HR46.out.below HB8.out))
    obtain ⟨y0, _⟩ := HLa.out.below HB8.out
    obtain ⟨z0, _⟩ := HLb.out.below HB8.out
    clear hb8 hr8
    go_wp2_with fail
    clear y0 z0
    refine E9.out.mono ?_
    rintro e w9 ⟨rfl, hb9⟩
    have HB9 := Lib.hid (HB8.out.trans (hb9.mono HB8.out.size))
    have HB89 := Lib.hid hb9
    have E10 := Lib.hid (implIsBelow_any X1 X2 a1 a2 xs ys w9 (HXY6.out.1.below HB9.out) (HXY6.out.2.below HB9.out) HAC.out)
    clear hb9
    go_wp2_with fail
    refine E10.out.mono ?_
    rintro e w10 ⟨rfl, n10, hw10⟩
    have hb10 : Below w9.heap.size w9 w10 := by rw [hw10]; exact belowD (Below.refl _ _) n10
    have HB10 := Lib.hid (HB9.out.trans (hb10.mono HB9.out.size))
    have HB810 := Lib.hid (HB89.out.trans (hb10.mono HB89.out.size))
    have E11 := Lib.hid (specIsBelow_any X1 X2 a1 a2 xs ys w10 (HXY6.out.1.below HB10.out) (HXY6.out.2.below HB10.out) HAC.out)
    clear hb10 hw10
    go_wp2_with fail
    refine E11.out.mono ?_
    rintro e w11 ⟨rfl, n11, hw11⟩
    have hb11 : Below w10.heap.size w10 w11 := by rw [hw11]; exact belowD (Below.refl _ _) n11
    have HB11 := Lib.hid (HB10.out.trans (hb11.mono HB10.out.size))
    have hb811 := HB810.out.trans (hb11.mono HB810.out.size)
    have E12 := Lib.hid (likeB (c := k7) (d := k8) (HR78.out.below hb811) (HR8.out.below hb811))
    clear hb11 hw11 hb811
    go_wp2_with fail
    refine E12.out.mono ?_
    rintro e w12 ⟨rfl, hb12⟩
    have Hb12 := Lib.hid (HB11.out.trans (hb12.mono HB11.out.size))
    have HX12 := Lib.hid (HX6.out.below Hb12.out)
    have HM12 := Lib.hid (HM6.out.below Hb12.out)
    have HB12 := Lib.hid (HB6.out.trans (Hb12.out.mono HB6.out.size))
    clear hb12
    by_cases hkl : kl = 0
    rotate_left
    · have hkl' : (kl != 0) = true := by simpa using hkl
      clear hkl
      go_wp2_with fail
      go_ret
      exact ⟨rfl, HB12.out⟩
    · subst hkl
      have hlc : levelsCode m ms ls ps = 0 := by
        have := HLL.out
        unfold lockAtR at this
        by_cases h0 : levelsCode m ms ls ps = 0
        · exact h0
        · rw [if_neg h0] at this; injection this
      have HLC := Lib.hid hlc
      obtain ⟨hm, hk, hlv, hp⟩ := lc_0_iff.1 hlc
      have hls : levelSizes m ls = (sizesF m ls, 0) := by unfold levelSizes; rw [if_pos hm, if_pos hlv]
      have hcu : cutsAtR m ms ls ps = (cutsAtF m ms ls ps, 0) := by unfold cutsAtR; rw [if_pos hlc]
      obtain ⟨al, hal⟩ : ∃ al, al = sizesF m ls := ⟨_, rfl⟩
      obtain ⟨cu, hcuu⟩ : ∃ cu, cu = cutsAtF m ms ls ps := ⟨_, rfl⟩
      have HALN := Lib.hid (show al.length = ls.length by rw [hal]; simp [sizesF])
      have HCUN := Lib.hid (show (cu.length : Int) = m.c by rw [hcuu, (cutsAt_cuts hlc).2]; exact (cutsOK_get hk).1)
      rw [← hal] at hls
      rw [← hcuu] at hcu
      have HAL := Lib.hid hal; have HCU := Lib.hid hcuu
      have E13 := Lib.hid (by have := implLevelSizes_any m A2 c2 ls w12 HX12.out.2.1; rw [hls] at this; exact this)
      have E14 := Lib.hid (fun W (hW : Below w12.heap.size w12 W) => by have := specLevelSizes_any m A2 c2 ls W (HX12.out.2.1.below hW); rw [hls] at this; exact this)
      have E16 := Lib.hid (fun W (hW : Below w12.heap.size w12 W) => by have := implCutsAt_any m A1 c1 ms A2 c2 ls A3 c3 ps W (HX12.out.1.below hW) (HX12.out.2.1.below hW) (HX12.out.2.2.below hW); rw [hcu] at this; exact this)
      have E17 := Lib.hid (fun W (hW : Below w12.heap.size w12 W) => by have := specCutsAt_any m A1 c1 ms A2 c2 ls A3 c3 ps W (HX12.out.1.below hW) (HX12.out.2.1.below hW) (HX12.out.2.2.below hW); rw [hcu] at this; exact this)
      obtain ⟨x0, x1, x2, x3, x4, _⟩ := HM12.out
      simp only [Nat.zero_add] at x1 x2 x3 x4
      clear hlc hm hk hlv hp hls hcu hal hcuu
      go_wp2_with fail
      clear x0 x1 x2 x3 x4
      refine E13.out.mono ?_
      rintro e w13 ⟨C13, k13, rfl, hk13, hr13, _, hb13⟩
      have HB13 := Lib.hid hb13; have HR13 := Lib.hid hr13
      obtain ⟨x0, x1, x2, x3, x4, _⟩ := HM12.out.below hb13
      simp only [Nat.zero_add] at x1 x2 x3 x4
      clear hb13 hr13
      go_wp2_with fail
      clear x0 x1 x2 x3 x4
      refine (E14.out w13 HB13.out).mono ?_
      rintro e w14 ⟨C14, k14, rfl, hk14, hr14, _, hb14⟩
      have HB14 := Lib.hid (HB13.out.trans (hb14.mono HB13.out.size))
      have HR134 := Lib.hid (HR13.out.below hb14)
      have E15 := Lib.hid (likeB (c := k13) (d := k14) HR134.out hr14)
      clear hb14 hr14
      go_wp2_with fail
      refine E15.out.mono ?_
      rintro e w15 ⟨rfl, hb15⟩
      have HB15 := Lib.hid (HB14.out.trans (hb15.mono HB14.out.size))
      have HR15 := Lib.hid (HR134.out.below hb15)
      obtain ⟨x0, x1, x2, x3, x4, _⟩ := HM12.out.below HB15.out
      simp only [Nat.zero_add] at x1 x2 x3 x4
      clear hb15
      go_wp2_with fail
      clear x0 x1 x2 x3 x4
      refine (E16.out w15 HB15.out).mono ?_
      rintro e w16 ⟨C16, k16, rfl, hk16, hr16, _, hb16⟩
      have HB16 := Lib.hid (HB15.out.trans (hb16.mono HB15.out.size))
      have HR156 := Lib.hid (HR15.out.below hb16); have HR16 := Lib.hid hr16
      obtain ⟨x0, x1, x2, x3, x4, _⟩ := HM12.out.below HB16.out
      simp only [Nat.zero_add] at x1 x2 x3 x4
      clear hb16 hr16
      go_wp2_with fail
      clear x0 x1 x2 x3 x4
      refine (E17.out w16 HB16.out).mono ?_
      rintro e w17 ⟨C17, k17, rfl, hk17, hr17, _, hb17⟩
      have HB17 := Lib.hid (HB16.out.trans (hb17.mono HB16.out.size))
      have HR157 := Lib.hid (HR156.out.below hb17); have HR167 := Lib.hid (HR16.out.below hb17)
      have E18 := Lib.hid (likeB (c := k16) (d := k17) HR167.out hr17)
      clear hb17 hr17
      go_wp2_with fail
      refine E18.out.mono ?_
      rintro e w18 ⟨rfl, hb18⟩
      have HB18 := Lib.hid (HB17.out.trans (hb18.mono HB17.out.size))
      have HRA := Lib.hid (HR157.out.below hb18); have HRC := Lib.hid (HR167.out.below hb18)
      have HX18 := Lib.hid (HX12.out.below HB18.out)
      have HM18 := Lib.hid (HM12.out.below HB18.out)
      have HBW := Lib.hid (HB12.out.trans (HB18.out.mono HB12.out.size))
      have E19 := Lib.hid (roll_any A c bs 1201 w18 (HC.out.below HBW.out))
      have hln : (((al.length : Nat) : Int) != ((ls.length : Nat) : Int)) = false := by rw [HALN.out]; simp
      clear hb18
      go_wp2_with fail
      refine E19.out.mono ?_
      rintro e w19 ⟨rfl, hD, hb19, hz19⟩
      obtain ⟨D, hDe⟩ : ∃ D, D = w18.heap.size := ⟨_, rfl⟩
      rw [← hDe] at hD hb19 hz19 ⊢
      have HDE := Lib.hid hDe
      have hb19a : Below (D + 1) w19 (w19.alloc (.cells #[] 2)) := (Below.refl _ _).alloc (by omega) _
      have HO0 := Lib.hid (OV.new0 (w := w19) (B := D + 1) (e := 2) (by omega))
      have HB0 := Lib.hid (show Below D w18 (w19.alloc (.cells #[] 2)) from hb19.alloc (by omega) _)
      have HD0 := Lib.hid (diceB hD hb19a (RV.below (HC.out.below HBW.out).1 (by rw [← HDE.out]; exact hb19.alloc (by omega) _)))
      have hls4 : ls.length ≤ 4 := (areLevels_get (lc_0_iff.1 HLC.out).2.2.1).2.1
      clear hDe hb19 hz19 hD hb19a hln
      go_wp2_with fail
      go_loopw [28, 29, 30] (fun v i _ wr => ∃ (k : Nat) (os : List Int), i = .int .i64 k ∧ k ≤ ls.length ∧ os.length = k ∧ Lk.Oth m ls ps os ∧ OV wr (D + 1) 2 v (ints os) ∧ Dice D A c bs wr ∧ Below D w18 wr) (fun _ i _ _ => ls.length - (intOf i).toNat)
      case atStart => exact ⟨0, [], rfl, by omega, rfl, fun i hi => absurd hi (by simp), HO0.out, HD0.out, HB0.out⟩
      case round =>
        obtain ⟨k, os, rfl, hk, hos, hoth, ho, hd, hb⟩ := hrel
        have HOS := Lib.hid hos; have HOTH := Lib.hid hoth; have HO := Lib.hid ho; have HDI := Lib.hid hd; have HB := Lib.hid hb
        have HBw := Lib.hid (show Below w18.heap.size w18 wr by rw [← HDE.out]; exact hb)
        have hol : os.length ≤ 4 := by omega
        clear hos hoth ho hd hb
        by_cases hlt : k < ls.length
        · have hka : k < al.length := by have := HALN.out; omega
          obtain ⟨b, o, hA, hcell⟩ := (HRA.out.below HBw.out).at_ hka
          subst hA
          have HY := Lib.hid (show al[k] = (sizesF m ls).getD k 0 by rw [← HAL.out, List.getD, List.getElem?_eq_getElem hka]; rfl)
          have hy1 : 1 ≤ al[k] := by rw [HY.out]; exact Lk.size_pos HLC.out hlt
          obtain ⟨y, hy⟩ : ∃ y, y = al[k] := ⟨_, rfl⟩
          rw [← hy] at hcell hy1 HY
          have i0 : (0 : Int) ≤ (k : Int) := by omega
          have i1 : (k : Int) < (ls.length : Int) := by omega
          have i2 : (k : Int) < (al.length : Int) := by omega
          have E20 := Lib.hid (below_any D A c bs y wr HDI.out hy1)
          clear hy
          go_wp2_with fail
          refine E20.out.mono ?_
          rintro e wa ⟨r, rfl, r0, r1, hda, hka, hza⟩
          have HOA := Lib.hid (HO.out.keepF hka fun g hg e => by have := (HO.out.lt g hg).1; omega)
          have HBA := Lib.hid (HB.out.trans (hka.toBelow (B := D) (by have := HDI.out.xl; omega) fun g hg e => by omega))
          have HDA := Lib.hid hda
          have HPR := Lib.hid (show Lk.Oth m ls ps (os ++ [r]) from HOTH.out.push (.inr ⟨r0, by rw [HOS.out, ← HY.out]; exact r1⟩))
          clear hda hka hza r0 r1 hcell i2 hy1
          by_cases hp : k < ps.length
          · have i3 : (k : Int) < (ps.length : Int) := by omega
            have E21 := Lib.hid (below_any D A c bs 3 wa HDA.out (by omega))
            go_wp2_with fail
            refine E21.out.mono ?_
            rintro e wb ⟨q, rfl, q0, q1, hdb, hkb, hzb⟩
            have HOB := Lib.hid (HOA.out.keepF hkb fun g hg e => by have := (HOA.out.lt g hg).1; omega)
            have HBB := Lib.hid (HBA.out.trans (hkb.toBelow (B := D) (by have := HDA.out.xl; omega) fun g hg e => by omega))
            have HDB := Lib.hid hdb
            clear hdb hkb hzb q0 q1
            by_cases hq : q > 0
            · have HBx := Lib.hid (show Below w18.heap.size w18 wb by rw [← HDE.out]; exact HBB.out)
              obtain ⟨b', o', hA', hcell'⟩ := (HX18.out.2.2.below HBx.out).at_ hp
              subst hA'
              have HPR' := Lib.hid (show Lk.Oth m ls ps (os ++ [ps[k]]) from HOTH.out.push (.inl ⟨by rw [HOS.out]; exact hp, by simp only [HOS.out]⟩))
              obtain ⟨z, hz⟩ : ∃ z, z = ps[k] := ⟨_, rfl⟩
              rw [← hz] at hcell' HPR'
              have hq1 : 0 < q := hq
              clear hz
              have ho6 := HOB.out
              have hs6 := HDB.out.xl
              go_wp2_with (at_builtin; refine wpList_app1 _ rfl _ _ _ rfl (D + 1) 2 _ 8 Try.underlying30 info_int rfl (by omega) _ _ rfl (ho6.alloc _) _ _ rfl (one_cell _ _ _) rfl (by rw [ints_length]; omega) (by simp; omega) ?_; intro v' w7 ho7 hg7 hn7 hat7)
              have hb7 : Below (D + 1) wb w7 := (ho6.alloc _).own (Nat.le_refl _) ((Below.refl _ _).alloc (by omega) _) hg7 (by simp; omega)
              have hB7 : Below D w18 w7 := HBB.out.trans (hb7.mono (by omega))
              go_roundw
              case rel => exact ⟨k + 1, os ++ [z], by go_num, by omega, by simp; exact HOS.out, HPR'.out, by rw [ints_append]; exact ho7, diceB HDB.out hb7 (RV.below (HC.out.below HBW.out).1 (by rw [← HDE.out]; exact hB7)), hB7⟩
              case measure => simp [intOf]; omega
            · have hq1 : decide (q > 0) = false := decide_eq_false hq
              clear hq
              have ho6 := HOB.out
              have hs6 := HDB.out.xl
              go_wp2_with (at_builtin; refine wpList_app1 _ rfl _ _ _ rfl (D + 1) 2 _ 8 Try.underlying30 info_int rfl (by omega) _ _ rfl (ho6.alloc _) _ _ rfl (one_cell _ _ _) rfl (by rw [ints_length]; omega) (by simp; omega) ?_; intro v' w7 ho7 hg7 hn7 hat7)
              have hb7 : Below (D + 1) wb w7 := (ho6.alloc _).own (Nat.le_refl _) ((Below.refl _ _).alloc (by omega) _) hg7 (by simp; omega)
              have hB7 : Below D w18 w7 := HBB.out.trans (hb7.mono (by omega))
              go_roundw
              case rel => exact ⟨k + 1, os ++ [r], by go_num, by omega, by simp; exact HOS.out, HPR.out, by rw [ints_append]; exact ho7, diceB HDB.out hb7 (RV.below (HC.out.below HBW.out).1 (by rw [← HDE.out]; exact hB7)), hB7⟩
              case measure => simp [intOf]; omega
          · have i3 : decide ((k : Int) < (ps.length : Int)) = false := decide_eq_false (by omega)
            have ho6 := HOA.out
            have hs6 := HDA.out.xl
            go_wp2_with (at_builtin; refine wpList_app1 _ rfl _ _ _ rfl (D + 1) 2 _ 8 Try.underlying30 info_int rfl (by omega) _ _ rfl (ho6.alloc _) _ _ rfl (one_cell _ _ _) rfl (by rw [ints_length]; omega) (by simp; omega) ?_; intro v' w7 ho7 hg7 hn7 hat7)
            have hb7 : Below (D + 1) wa w7 := (ho6.alloc _).own (Nat.le_refl _) ((Below.refl _ _).alloc (by omega) _) hg7 (by simp; omega)
            have hB7 : Below D w18 w7 := HBA.out.trans (hb7.mono (by omega))
            go_roundw
            case rel => exact ⟨k + 1, os ++ [r], by go_num, by omega, by simp; exact HOS.out, HPR.out, by rw [ints_append]; exact ho7, diceB HDA.out hb7 (RV.below (HC.out.below HBW.out).1 (by rw [← HDE.out]; exact hB7)), hB7⟩
            case measure => simp [intOf]; omega
        · obtain rfl : k = ls.length := by omega
          have hlc2 := Lk.other_ok HLC.out HOS.out HOTH.out
          have LAW := Lk.lock_law HLC.out hlc2 HOS.out
          rw [← HCU.out] at LAW
          obtain ⟨l2, hl2⟩ : ∃ l2, l2 = hullF m.c.toNat m.d.toNat [ms, cutsAtF m ms ls os] := ⟨_, rfl⟩
          rw [← hl2] at LAW
          have HLAW := Lib.hid LAW
          have hlen : l2.length = m.c.toNat := by rw [hl2, hullF_length]
          have HLN := Lib.hid (show l2.length = cu.length by have := HCUN.out; omega)
          have hne : (((l2.length : Nat) : Int) != ((cu.length : Nat) : Int)) = false := by rw [HLN.out]; simp
          have hla : lockAtR m ms ls os = (l2, 0) := by unfold lockAtR; rw [if_pos hlc2, hl2]
          obtain ⟨K, q, rfl, hq, hr⟩ := RIn.ofOI' HO.out
          have HRO := Lib.hid hr.1; have HQ := Lib.hid hq
          have E22 := Lib.hid (by have := implLockAt_any m A1 c1 ms A2 c2 ls K q os wr (HX18.out.1.below HBw.out) (HX18.out.2.1.below HBw.out) hr.1 HKC.out.1; rw [hla] at this; exact this)
          have HBwr := Lib.hid (HBW.out.trans (HBw.out.mono HBW.out.size))
          obtain ⟨x0, x1, x2, x3, x4, _⟩ := HM18.out.below HBw.out
          simp only [Nat.zero_add] at x1 x2 x3 x4
          clear hlc2 LAW hl2 hlen hla hr hq
          go_wp2_with fail
          clear x0 x1 x2 x3 x4
          refine E22.out.mono ?_
          rintro e w22 ⟨L, kk, rfl, hLk, hrL, _, hbL⟩
          obtain ⟨w22b, hww22b⟩ : ∃ wb, wb = w22.alloc (.cells #[.slice L l2.length kk] 54) := ⟨_, rfl⟩
          have hbx : Below w22.heap.size w22 w22b := by rw [hww22b]; exact (Below.refl _ _).alloc (Nat.le_refl _) _
          have HLw22b := Lib.hid (show BoxC w22b w22.heap.size 0 [.slice L l2.length kk] by rw [hww22b]; exact BoxC.new [.slice L l2.length kk] rfl)
          have hbL2 := hbL.trans (hbx.mono hbL.size)
          have HRL := Lib.hid (hrL.below hbx)
          have HRO2 := Lib.hid (HRO.out.below hbL2)
          have HRP2 := Lib.hid ((HX18.out.2.2.below HBw.out).below hbL2)
          have HRC2 := Lib.hid ((HRC.out.below HBw.out).below hbL2)
          have HBF := Lib.hid (HBwr.out.trans (hbL2.mono HBwr.out.size))
          have hcu63 : cu.length ≤ 9223372036854775807 := HRC2.out.le
          clear hbL hbx hrL hbL2
          go_wp2_with fail
          rw [← hww22b]
          clear hww22b hne
          go_loopw [33, 34] (fun v i wx => ∃ k j : Nat, i = .int .i64 k ∧ k ≤ cu.length ∧ v = .bool (Lk.opensF l2 cu k) ∧ wx = w22b.drewN j) (fun _ i _ => cu.length - (intOf i).toNat)
          case atStart => exact ⟨0, 0, rfl, by omega, rfl, rfl⟩
          case round =>
            obtain ⟨k, j, rfl, hk, rfl, rfl⟩ := hrel
            by_cases hlt : k < cu.length
            · have hlt2 : k < l2.length := by have := HLN.out; omega
              obtain ⟨y0, _⟩ := HLw22b.out
              obtain ⟨b, o, L1, l1, hA, hc, _, hr1⟩ := HRL.out.at_ hlt2
              subst hA
              obtain ⟨b', o', hA', hc'⟩ := HRC2.out.at_ hlt
              subst hA'
              have hop := Lk.opensF_succ l2 cu k
              rw [List.getD, List.getElem?_eq_getElem hlt2, List.getD, List.getElem?_eq_getElem hlt, Option.getD_some, Option.getD_some] at hop
              obtain ⟨x, hx⟩ : ∃ x, x = cu[k] := ⟨_, rfl⟩
              rw [← hx] at hop hc'
              have HI := Lib.hid (fun j => hasInt_any L1 l1 l2[k] x (w22b.drewN j) (hr1.drewN j))
              have i0 : (0 : Int) ≤ (k : Int) := by omega
              have i1 : (k : Int) < (cu.length : Int) := by omega
              have i2 : (k : Int) < (l2.length : Int) := by omega
              have HLT := Lib.hid hlt
              have HOP := Lib.hid hop
              clear hop hx hr1
              cases hopn : Lk.opensF l2 cu k with
              | false =>
                have HN := Lib.hid (show Lk.opensF l2 cu (k + 1) = false by rw [HOP.out, hopn]; rfl)
                go_wp2_with fail
                go_quiet (fail)
                go_wp2_with fail
                go_roundw
                case rel => exact ⟨k + 1, _, by go_num, by have := HLT.out; omega, by rw [HN.out], by first | exact World.drewN_drewN _ _ _ | rfl⟩
                case measure => have := HLT.out; simp [intOf]; omega
              | true =>
                have HN := Lib.hid (show Lk.opensF l2 cu (k + 1) = hasI l2[k] x by rw [HOP.out, hopn]; rfl)
                go_wp2_with fail
                go_quiet ((go_at_call 24; first | exact quietSA (HI.out _) | exact quietS (HI.out _)))
                go_wp2_with fail
                go_roundw
                case rel => exact ⟨k + 1, _, by go_num, by have := HLT.out; omega, by rw [HN.out], by first | exact World.drewN_drewN _ _ _ | rfl⟩
                case measure => have := HLT.out; simp [intOf]; omega
            · obtain rfl : k = cu.length := by omega
              rw [HLAW.out]
              have E23 := Lib.hid (implIsBelow_any K A3 q c3 os ps (w22b.drewN j) (HRO2.out.drewN _) (HRP2.out.drewN _) HQ.out)
              go_wp2_with fail
              refine E23.out.mono ?_
              rintro e w23 ⟨rfl, n23, rfl⟩
              go_wp2_with fail
              go_ret
              exact ⟨by simp, belowD HBF.out _⟩
end Go.Proofs.Ytdkkkkfcpgkcnaa.fnLevelLocks
