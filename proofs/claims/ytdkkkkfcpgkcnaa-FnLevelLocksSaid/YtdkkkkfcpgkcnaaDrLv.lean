/- Contracts of the draws of levels: DrawCutsAt, DrawLockAt, DrawCountKeysAt, DrawPathOf. -/
import Derived.Test.YtdkkkkfcpgkcnaaDraw4
import Derived.Test.YtdkkkkfcpgkcnaaDrCuts
import Derived.Test.YtdkkkkfcpgkcnaaFCuts
namespace Go.Proofs.Ytdkkkkfcpgkcnaa
set_option linter.unusedVariables false
open Go.RowKit
theorem Dr.toBelow2 {A : Option Addr} {c : Nat} {bs : List Int} {S B : Nat} {w w1 w' : World} (hb : Below B w w1) (hS : B ≤ S) (d : Dr S A c bs w1 w') (hB : B ≤ w1.heap.size) : Below B w w' :=
  hb.trans (d.keep.toBelow hB (fun g h e => by omega))
/-- a drawn maker and three lists -/
def Dr12 (w : World) (e : Ending) (w' : World) : Prop :=
  ∃ (m : Mk) (A1 : Option Addr) (c1 : Nat) (xs : List Int) (A2 : Option Addr) (c2 : Nat) (ls : List Int) (A3 : Option Addr) (c3 : Nat) (ps : List Int), e = .returned (.tuple #[.agg #[.int .i64 m.c, .int .i64 m.d, .int .i64 m.s, .int .i64 m.a, .int .i64 m.l], .slice A1 xs.length c1, .slice A2 ls.length c2, .slice A3 ps.length c3]) ∧ MkD m ∧
    (xs.length ≤ c1 ∧ ls.length ≤ c2 ∧ ps.length ≤ c3) ∧ RI w' A1 xs ∧ RI w' A2 ls ∧ RI w' A3 ps ∧ Below w.heap.size w w'
set_option maxRecDepth 100000 in
set_option maxHeartbeats 4000000 in
theorem drawCutsAt_any (A : Option Addr) (c : Nat) (bs : List Int) (w : World) (h : RCode w A bs) : Calls Try.prog 34 #[.slice A bs.length c] w (Dr12 w) := by
  obtain ⟨w0, hw0⟩ : ∃ w0, w0 = w.alloc (.cells #[.int .i64 0, .int .i64 0, .int .i64 0, .int .i64 0, .int .i64 0] 45) := ⟨_, rfl⟩
  have B0 : Below w.heap.size w w0 := by rw [hw0]; exact (Below.refl w.heap.size w).alloc (Nat.le_refl _) _
  have hz0 : w0.heap.size = w.heap.size + 1 := by rw [hw0]; simp
  have hbk : w0.heap[w.heap.size]? = some (.cells #[.int .i64 0, .int .i64 0, .int .i64 0, .int .i64 0, .int .i64 0] 45 (0, 0)) := by
    have := heap_alloc_new w (.cells #[.int .i64 0, .int .i64 0, .int .i64 0, .int .i64 0, .int .i64 0] 45)
    rw [hw0]; simpa using this
  have HBK := Lib.hid hbk; have HB0 := Lib.hid B0; have HZ0 := Lib.hid hz0
  have HF := Lib.hid (l01From_any A c bs w0 (RV.below h.1 B0) h.2)
  clear h hbk B0 hz0
  go_enter Try.func34, Try.ntmps34
  go_wp2_with fail
  rw [← hw0]
  clear hw0
  refine HF.out.mono ?_
  rintro e w1 ⟨rfl, hS, hb, hz⟩
  have HD := Lib.hid (l12Draw_any _ _ _ _ w1 hS)
  have HB1 := Lib.hid hb
  have hs1 : w.heap.size < w1.heap.size := by have := HZ0.out; omega
  have HBK1 := Lib.hid ((hb.block w.heap.size (by have := HZ0.out; omega)).trans HBK.out)
  clear hS hb hz
  go_wp2_with fail
  refine HD.out.mono ?_
  rintro e w2 ⟨m, A1, c1, xs, A2, c2, ls, A3, c3, ps, rfl, hm, hk, h1, h2, h3, hD⟩
  have HR := Lib.hid (And.intro h1 (And.intro h2 h3)); have HD2 := Lib.hid hD; have HM := Lib.hid (And.intro hm hk)
  clear hm hk h1 h2 h3
  have lb := (hD.keep.block w.heap.size hs1 (by have := HZ0.out; omega)).trans HBK1.out
  have n0 := boxC_of_heap lb 0 _ rfl
  have n1 := boxC_of_heap lb 1 _ rfl
  have n2 := boxC_of_heap lb 2 _ rfl
  have n3 := boxC_of_heap lb 3 _ rfl
  have n4 := boxC_of_heap lb 4 _ rfl
  have m0 := frozen_of_heap lb
  have l0 := m0 0; have l1 := m0 1; have l2 := m0 2; have l3 := m0 3; have l4 := m0 4
  have HLB := Lib.hid lb
  clear lb m0
  clear hD
  go_wp2_with fail
  have lb := HLB.out
  refine bodyPost_ret (results_cell_row_tmp3 rfl _ _ w.heap.size 45 #[.int .i64 m.c, .int .i64 m.d, .int .i64 m.s, .int .i64 m.a, .int .i64 m.l] (0, 0) _ (by rfl) (by simp [World.setCell, Array.getElem?_modify, lb]) Try.underlying45 rfl (by kernel_rfl)) rfl ?_
  have kf := keep_five w2 w.heap.size (.int .i64 m.c) (.int .i64 m.d) (.int .i64 m.s) (.int .i64 m.a) (.int .i64 m.l)
  have hz0' := HZ0.out
  have hbb : Below w.heap.size w w2 := Dr.toBelow2 (HB0.out.trans (HB1.out.mono (by omega))) (by omega) HD2.out (by omega)
  exact ⟨m, A1, c1, xs, A2, c2, ls, A3, c3, ps, rfl, HM.out.1, ⟨HM.out.2.1, HM.out.2.2.1, HM.out.2.2.2.1⟩, (HR.out.1.keepF kf (fun g e => by omega)).1, (HR.out.2.1.keepF kf (fun g e => by omega)).1, (HR.out.2.2.keepF kf (fun g e => by omega)).1, hbb.trans (kf.toBelow hbb.size (fun g hg e => by omega))⟩
set_option maxRecDepth 100000 in
set_option maxHeartbeats 4000000 in
theorem drawLockAt_any (A : Option Addr) (c : Nat) (bs : List Int) (w : World) (h : RCode w A bs) : Calls Try.prog 48 #[.slice A bs.length c] w (Dr12 w) := by
  obtain ⟨w0, hw0⟩ : ∃ w0, w0 = w.alloc (.cells #[.int .i64 0, .int .i64 0, .int .i64 0, .int .i64 0, .int .i64 0] 45) := ⟨_, rfl⟩
  have B0 : Below w.heap.size w w0 := by rw [hw0]; exact (Below.refl w.heap.size w).alloc (Nat.le_refl _) _
  have hz0 : w0.heap.size = w.heap.size + 1 := by rw [hw0]; simp
  have hbk : w0.heap[w.heap.size]? = some (.cells #[.int .i64 0, .int .i64 0, .int .i64 0, .int .i64 0, .int .i64 0] 45 (0, 0)) := by
    have := heap_alloc_new w (.cells #[.int .i64 0, .int .i64 0, .int .i64 0, .int .i64 0, .int .i64 0] 45)
    rw [hw0]; simpa using this
  have HBK := Lib.hid hbk; have HB0 := Lib.hid B0; have HZ0 := Lib.hid hz0
  have HF := Lib.hid (l01From_any A c bs w0 (RV.below h.1 B0) h.2)
  clear h hbk B0 hz0
  go_enter Try.func48, Try.ntmps48
  go_wp2_with fail
  rw [← hw0]
  clear hw0
  refine HF.out.mono ?_
  rintro e w1 ⟨rfl, hS, hb, hz⟩
  have HD := Lib.hid (l12Draw_any _ _ _ _ w1 hS)
  have HB1 := Lib.hid hb
  have hs1 : w.heap.size < w1.heap.size := by have := HZ0.out; omega
  have HBK1 := Lib.hid ((hb.block w.heap.size (by have := HZ0.out; omega)).trans HBK.out)
  clear hS hb hz
  go_wp2_with fail
  refine HD.out.mono ?_
  rintro e w2 ⟨m, A1, c1, xs, A2, c2, ls, A3, c3, ps, rfl, hm, hk, h1, h2, h3, hD⟩
  have HR := Lib.hid (And.intro h1 (And.intro h2 h3)); have HD2 := Lib.hid hD; have HM := Lib.hid (And.intro hm hk)
  clear hm hk h1 h2 h3
  have lb := (hD.keep.block w.heap.size hs1 (by have := HZ0.out; omega)).trans HBK1.out
  have n0 := boxC_of_heap lb 0 _ rfl
  have n1 := boxC_of_heap lb 1 _ rfl
  have n2 := boxC_of_heap lb 2 _ rfl
  have n3 := boxC_of_heap lb 3 _ rfl
  have n4 := boxC_of_heap lb 4 _ rfl
  have m0 := frozen_of_heap lb
  have l0 := m0 0; have l1 := m0 1; have l2 := m0 2; have l3 := m0 3; have l4 := m0 4
  have HLB := Lib.hid lb
  clear lb m0
  clear hD
  go_wp2_with fail
  have lb := HLB.out
  refine bodyPost_ret (results_cell_row_tmp3 rfl _ _ w.heap.size 45 #[.int .i64 m.c, .int .i64 m.d, .int .i64 m.s, .int .i64 m.a, .int .i64 m.l] (0, 0) _ (by rfl) (by simp [World.setCell, Array.getElem?_modify, lb]) Try.underlying45 rfl (by kernel_rfl)) rfl ?_
  have kf := keep_five w2 w.heap.size (.int .i64 m.c) (.int .i64 m.d) (.int .i64 m.s) (.int .i64 m.a) (.int .i64 m.l)
  have hz0' := HZ0.out
  have hbb : Below w.heap.size w w2 := Dr.toBelow2 (HB0.out.trans (HB1.out.mono (by omega))) (by omega) HD2.out (by omega)
  exact ⟨m, A1, c1, xs, A2, c2, ls, A3, c3, ps, rfl, HM.out.1, ⟨HM.out.2.1, HM.out.2.2.1, HM.out.2.2.2.1⟩, (HR.out.1.keepF kf (fun g e => by omega)).1, (HR.out.2.1.keepF kf (fun g e => by omega)).1, (HR.out.2.2.keepF kf (fun g e => by omega)).1, hbb.trans (kf.toBelow hbb.size (fun g hg e => by omega))⟩
set_option maxRecDepth 100000 in
set_option maxHeartbeats 4000000 in
theorem drawCountKeysAt_any (A : Option Addr) (c : Nat) (bs : List Int) (w : World) (h : RCode w A bs) : Calls Try.prog 43 #[.slice A bs.length c] w (Dr12 w) := by
  obtain ⟨w0, hw0⟩ : ∃ w0, w0 = w.alloc (.cells #[.int .i64 0, .int .i64 0, .int .i64 0, .int .i64 0, .int .i64 0] 45) := ⟨_, rfl⟩
  have B0 : Below w.heap.size w w0 := by rw [hw0]; exact (Below.refl w.heap.size w).alloc (Nat.le_refl _) _
  have hz0 : w0.heap.size = w.heap.size + 1 := by rw [hw0]; simp
  have hbk : w0.heap[w.heap.size]? = some (.cells #[.int .i64 0, .int .i64 0, .int .i64 0, .int .i64 0, .int .i64 0] 45 (0, 0)) := by
    have := heap_alloc_new w (.cells #[.int .i64 0, .int .i64 0, .int .i64 0, .int .i64 0, .int .i64 0] 45)
    rw [hw0]; simpa using this
  have HBK := Lib.hid hbk; have HB0 := Lib.hid B0; have HZ0 := Lib.hid hz0
  have HF := Lib.hid (l01From_any A c bs w0 (RV.below h.1 B0) h.2)
  clear h hbk B0 hz0
  go_enter Try.func43, Try.ntmps43
  go_wp2_with fail
  rw [← hw0]
  clear hw0
  refine HF.out.mono ?_
  rintro e w1 ⟨rfl, hS, hb, hz⟩
  have HD := Lib.hid (l12Draw_any _ _ _ _ w1 hS)
  have HB1 := Lib.hid hb
  have hs1 : w.heap.size < w1.heap.size := by have := HZ0.out; omega
  have HBK1 := Lib.hid ((hb.block w.heap.size (by have := HZ0.out; omega)).trans HBK.out)
  clear hS hb hz
  go_wp2_with fail
  refine HD.out.mono ?_
  rintro e w2 ⟨m, A1, c1, xs, A2, c2, ls, A3, c3, ps, rfl, hm, hk, h1, h2, h3, hD⟩
  have HR := Lib.hid (And.intro h1 (And.intro h2 h3)); have HD2 := Lib.hid hD; have HM := Lib.hid (And.intro hm hk)
  clear hm hk h1 h2 h3
  have lb := (hD.keep.block w.heap.size hs1 (by have := HZ0.out; omega)).trans HBK1.out
  have n0 := boxC_of_heap lb 0 _ rfl
  have n1 := boxC_of_heap lb 1 _ rfl
  have n2 := boxC_of_heap lb 2 _ rfl
  have n3 := boxC_of_heap lb 3 _ rfl
  have n4 := boxC_of_heap lb 4 _ rfl
  have m0 := frozen_of_heap lb
  have l0 := m0 0; have l1 := m0 1; have l2 := m0 2; have l3 := m0 3; have l4 := m0 4
  have HLB := Lib.hid lb
  clear lb m0
  clear hD
  go_wp2_with fail
  have lb := HLB.out
  refine bodyPost_ret (results_cell_row_tmp3 rfl _ _ w.heap.size 45 #[.int .i64 m.c, .int .i64 m.d, .int .i64 m.s, .int .i64 m.a, .int .i64 m.l] (0, 0) _ (by rfl) (by simp [World.setCell, Array.getElem?_modify, lb]) Try.underlying45 rfl (by kernel_rfl)) rfl ?_
  have kf := keep_five w2 w.heap.size (.int .i64 m.c) (.int .i64 m.d) (.int .i64 m.s) (.int .i64 m.a) (.int .i64 m.l)
  have hz0' := HZ0.out
  have hbb : Below w.heap.size w w2 := Dr.toBelow2 (HB0.out.trans (HB1.out.mono (by omega))) (by omega) HD2.out (by omega)
  exact ⟨m, A1, c1, xs, A2, c2, ls, A3, c3, ps, rfl, HM.out.1, ⟨HM.out.2.1, HM.out.2.2.1, HM.out.2.2.2.1⟩, (HR.out.1.keepF kf (fun g e => by omega)).1, (HR.out.2.1.keepF kf (fun g e => by omega)).1, (HR.out.2.2.keepF kf (fun g e => by omega)).1, hbb.trans (kf.toBelow hbb.size (fun g hg e => by omega))⟩
set_option maxRecDepth 100000 in
set_option maxHeartbeats 4000000 in
theorem drawPathOf_any (A : Option Addr) (c : Nat) (bs : List Int) (w : World) (h : RCode w A bs) : Calls Try.prog 37 #[.slice A bs.length c] w (Dr12 w) := by
  obtain ⟨w0, hw0⟩ : ∃ w0, w0 = w.alloc (.cells #[.int .i64 0, .int .i64 0, .int .i64 0, .int .i64 0, .int .i64 0] 45) := ⟨_, rfl⟩
  have B0 : Below w.heap.size w w0 := by rw [hw0]; exact (Below.refl w.heap.size w).alloc (Nat.le_refl _) _
  have hz0 : w0.heap.size = w.heap.size + 1 := by rw [hw0]; simp
  have hbk : w0.heap[w.heap.size]? = some (.cells #[.int .i64 0, .int .i64 0, .int .i64 0, .int .i64 0, .int .i64 0] 45 (0, 0)) := by
    have := heap_alloc_new w (.cells #[.int .i64 0, .int .i64 0, .int .i64 0, .int .i64 0, .int .i64 0] 45)
    rw [hw0]; simpa using this
  have HBK := Lib.hid hbk; have HB0 := Lib.hid B0; have HZ0 := Lib.hid hz0
  have HF := Lib.hid (l01From_any A c bs w0 (RV.below h.1 B0) h.2)
  clear h hbk B0 hz0
  go_enter Try.func37, Try.ntmps37
  go_wp2_with fail
  rw [← hw0]
  clear hw0
  refine HF.out.mono ?_
  rintro e w1 ⟨rfl, hS, hb, hz⟩
  have HD := Lib.hid (l12Draw_any _ _ _ _ w1 hS)
  have HB1 := Lib.hid hb
  have hs1 : w.heap.size < w1.heap.size := by have := HZ0.out; omega
  have HBK1 := Lib.hid ((hb.block w.heap.size (by have := HZ0.out; omega)).trans HBK.out)
  obtain ⟨S, hSe⟩ : ∃ S, S = w0.heap.size := ⟨_, rfl⟩
  rw [← hSe] at HD ⊢
  have HSE := Lib.hid hSe
  have hSw : w.heap.size < S := by have := HZ0.out; omega
  have hS1 : S < w1.heap.size := by omega
  clear hS hb hz hSe
  go_wp2_with fail
  refine HD.out.mono ?_
  rintro e w2 ⟨m, A1, c1, xs, A2, c2, ls, A3, c3, ps, rfl, hm, hk, h1, h2, h3, hD⟩
  obtain ⟨w3, hw3⟩ : ∃ w3, w3 = w2.alloc (.cells #[.int .i64 m.c, .int .i64 m.d, .int .i64 m.s, .int .i64 m.a, .int .i64 m.l] 45) := ⟨_, rfl⟩
  have hb3 : Below w2.heap.size w2 w3 := by rw [hw3]; exact (Below.refl _ _).alloc (Nat.le_refl _) _
  have hz3 : w3.heap.size = w2.heap.size + 1 := by rw [hw3]; simp
  have bx : BoxC w3 w2.heap.size 0 (mkCells m) := by rw [hw3]; exact BoxC.new (mkCells m) rfl
  have HR := Lib.hid (And.intro (h1.below hb3) (And.intro (h2.below hb3) (h3.below hb3)))
  have HM := Lib.hid (And.intro hm hk)
  have HD3 := Lib.hid (hD.below hb3)
  have hs12 : w1.heap.size ≤ w2.heap.size := hD.size
  have HC := Lib.hid (specCutsAt_any m A1 c1 xs A2 c2 ls A3 c3 ps w3 HR.out.1.1 HR.out.2.1.1 HR.out.2.2.1)
  have HBX := Lib.hid bx
  obtain ⟨x0, x1, x2, x3, x4, _⟩ := bx
  simp only [Nat.zero_add] at x1 x2 x3 x4
  have hlow : w2.heap.size < w3.heap.size := by omega
  clear hm hk h1 h2 h3 hD hb3
  go_wp2_with fail
  rw [← hw3]
  clear hw3 x0 x1 x2 x3 x4
  refine HC.out.mono ?_
  obtain ⟨cs, kc⟩ := cutsAtR m xs ls ps
  rintro e w4 ⟨C4, q4, rfl, hq4, hr4, ho4, hb4⟩
  have HD4 := Lib.hid (HD3.out.below hb4)
  have HR4 := Lib.hid (And.intro (HR.out.1.below hb4) (And.intro (HR.out.2.1.below hb4) (HR.out.2.2.below hb4)))
  have HX4 := Lib.hid (HBX.out.below hb4)
  have HC4 := Lib.hid (RIn.ofOI (show OV w4 w3.heap.size 2 (.slice C4 cs.length q4) (ints cs) from ho4.1))
  have hs34 := hb4.size
  have hs14 : w1.heap.size ≤ w4.heap.size := HD4.out.size
  clear hr4 ho4 hb4
  have FIN := Lib.hid (show ∀ (wx wy : World) (K : Option Addr) (kc : Nat) (ks : List Int), Dr S A c bs w1 wx → RIn w1.heap.size wx A1 xs → RIn w1.heap.size wx A2 ls → RIn w1.heap.size wx K ks → ks.length ≤ kc → KeepF (fun g => g = w.heap.size) wx wy → Dr12 w (.returned (.tuple #[.agg #[.int .i64 m.c, .int .i64 m.d, .int .i64 m.s, .int .i64 m.a, .int .i64 m.l], .slice A1 xs.length c1, .slice A2 ls.length c2, .slice K ks.length kc])) wy from fun wx wy K kc ks hd h1 h2 h3 hkc kf => by
      have hbb : Below w.heap.size w wx := Dr.toBelow2 (HB0.out.trans (HB1.out.mono (by have := HZ0.out; omega))) (by omega) hd (by omega)
      exact ⟨m, A1, c1, xs, A2, c2, ls, K, kc, ks, rfl, HM.out.1, ⟨HM.out.2.1, HM.out.2.2.1, hkc⟩, (h1.keepF kf (fun g e => by omega)).1, (h2.keepF kf (fun g e => by omega)).1, (h3.keepF kf (fun g e => by omega)).1, hbb.trans (kf.toBelow hbb.size (fun g hg e => by omega))⟩)
  by_cases hkc : kc = 0
  · subst hkc
    have HN := Lib.hid (l01Next_dr HD4.out.src 4)
    go_wp2_with fail
    refine HN.out.mono ?_
    rintro e w5 ⟨r, rfl, r0, r1, hd5, hz5⟩
    have HD5 := Lib.hid (HD4.out.trans hd5)
    have HR5 := Lib.hid (And.intro (HR4.out.1.dr hS1 hd5) (And.intro (HR4.out.2.1.dr hS1 hd5) (HC4.out.dr (by omega) hd5)))
    have HX5 := Lib.hid (HX4.out.dr (by omega) (by omega) hd5)
    have hs45 := hd5.size
    clear r1 hd5 hz5
    by_cases hr : r = 0
    · subst hr
      obtain ⟨x0, x1, x2, x3, x4, _⟩ := HX5.out
      simp only [Nat.zero_add] at x1 x2 x3 x4
      have hMw : w2.heap.size < w5.heap.size := by omega
      have KS := Lib.hid (show ∀ w' : World, KeepF (fun g => g = S) w5 w' → (w'.cell? ⟨w2.heap.size, 0, none⟩ = some (.int .i64 m.c) ∧ w'.cell? ⟨w2.heap.size, 1, none⟩ = some (.int .i64 m.d) ∧ w'.cell? ⟨w2.heap.size, 2, none⟩ = some (.int .i64 m.s) ∧ w'.cell? ⟨w2.heap.size, 3, none⟩ = some (.int .i64 m.a) ∧ w'.cell? ⟨w2.heap.size, 4, none⟩ = some (.int .i64 m.l)) from fun w' hw =>
        ⟨(hw.cell (p := ⟨w2.heap.size, 0, none⟩) hMw (by simp only; omega)).trans x0, (hw.cell (p := ⟨w2.heap.size, 1, none⟩) hMw (by simp only; omega)).trans x1, (hw.cell (p := ⟨w2.heap.size, 2, none⟩) hMw (by simp only; omega)).trans x2, (hw.cell (p := ⟨w2.heap.size, 3, none⟩) hMw (by simp only; omega)).trans x3, (hw.cell (p := ⟨w2.heap.size, 4, none⟩) hMw (by simp only; omega)).trans x4⟩)
      clear x0 x1 x2 x3 x4
      go_wp2_with fail
      refine wp_region_held_drew (S := (fun w' => w'.cell? ⟨w2.heap.size, 0, none⟩ = some (.int .i64 m.c) ∧ w'.cell? ⟨w2.heap.size, 1, none⟩ = some (.int .i64 m.d) ∧ w'.cell? ⟨w2.heap.size, 2, none⟩ = some (.int .i64 m.s) ∧ w'.cell? ⟨w2.heap.size, 3, none⟩ = some (.int .i64 m.a) ∧ w'.cell? ⟨w2.heap.size, 4, none⟩ = some (.int .i64 m.l))) (by kernel_rfl) (KS.out _ (KeepF.ofBelow (belowDrew0 _))) (fun hHeld => ?_)
      refine takeD (i := 0) (some 37) (.agg #[.int .i64 m.c, .int .i64 m.d, .int .i64 m.s, .int .i64 m.a, .int .i64 m.l]) rfl (by kernel_rfl) (by kernel_rfl) (by kernel_rfl) (by kernel_rfl) (fun _ _ _ h => h) (by assumption) (Or.inl ⟨by rfl, fun w hSw => by (try dsimp only at hSw); go_simp⟩) ?_
      simp only [Act.put, List.setIfInBounds_toArray, List.set_cons_zero, List.set_cons_succ]
      refine takeD (i := 1) (some 38) (.slice A1 xs.length c1) rfl (by kernel_rfl) (by kernel_rfl) (by kernel_rfl) (by kernel_rfl) (fun _ _ _ h => h) (by assumption) (Or.inl ⟨by rfl, fun w hSw => by (try dsimp only at hSw); go_simp⟩) ?_
      simp only [Act.put, List.setIfInBounds_toArray, List.set_cons_zero, List.set_cons_succ]
      refine takeD (i := 2) (some 39) (.slice A2 ls.length c2) rfl (by kernel_rfl) (by kernel_rfl) (by kernel_rfl) (by kernel_rfl) (fun _ _ _ h => h) (by assumption) (Or.inl ⟨by rfl, fun w hSw => by (try dsimp only at hSw); go_simp⟩) ?_
      simp only [Act.put, List.setIfInBounds_toArray, List.set_cons_zero, List.set_cons_succ]
      refine takeD (i := 3) (some 40) (.pointer (some ⟨S, 0, none⟩)) rfl (by kernel_rfl) (by kernel_rfl) (by kernel_rfl) (by kernel_rfl) (fun _ _ _ h => h) (by assumption) (Or.inl ⟨by rfl, fun w hSw => by (try dsimp only at hSw); go_simp⟩) ?_
      simp only [Act.put, List.setIfInBounds_toArray, List.set_cons_zero, List.set_cons_succ]
      refine takeD (i := 4) (some 41) (.agg #[.int .i64 m.c, .int .i64 m.d, .int .i64 m.s, .int .i64 m.a, .int .i64 m.l]) rfl (by kernel_rfl) (by kernel_rfl) (by kernel_rfl) (by kernel_rfl) (fun _ _ _ h => h) (by assumption) (Or.inl ⟨by rfl, fun w hSw => by (try dsimp only at hSw); go_simp⟩) ?_
      simp only [Act.put, List.setIfInBounds_toArray, List.set_cons_zero, List.set_cons_succ]
      refine wpAnyH_ready (rs := [5]) (by kernel_rfl) (by simp) (AllReadyH.cons rfl (fun K hK => ?_) AllReadyH.nil)
      go_simp
      refine (l02DrawCuts_any S A c bs m _ (HD5.out.drew).src HM.out.1).mono ?_
      rintro e w6 ⟨v6, ks, rfl, ho6, hk6, hd6⟩
      obtain ⟨K6, k6, rfl, hkk6, hr6⟩ := RIn.ofOI' ho6
      have HD6 := Lib.hid (HD5.out.drew.trans hd6)
      have hkeep6 := Lib.hid ((KeepF.ofBelow (F := fun g => g = S) (belowDrew0 w5)).trans hd6.keep (fun _ _ e => e))
      have HR6 := Lib.hid (And.intro ((HR5.out.1.below (belowDrew0 _)).dr hS1 hd6) (And.intro ((HR5.out.2.1.below (belowDrew0 _)).dr hS1 hd6) (hr6.mono (show w1.heap.size ≤ w5.drew.heap.size by show w1.heap.size ≤ w5.heap.size; omega))))
      have hsw6 : w1.heap.size ≤ w6.heap.size := HD6.out.size
      clear ho6 hr6 hd6
      have HHeld := KS.out _ hkeep6.out
      refine hK.out _ _ HHeld (fun _ => ?_)
      clear hK K
      try simp only [Act.put, List.setIfInBounds_toArray, List.set_cons_zero, List.set_cons_succ]
      have lb := (HD6.out.keep.block w.heap.size hs1 (by omega)).trans HBK1.out
      have n0 := boxC_of_heap lb 0 _ rfl
      have n1 := boxC_of_heap lb 1 _ rfl
      have n2 := boxC_of_heap lb 2 _ rfl
      have n3 := boxC_of_heap lb 3 _ rfl
      have n4 := boxC_of_heap lb 4 _ rfl
      have m0 := frozen_of_heap lb
      have l0 := m0 0; have l1 := m0 1; have l2 := m0 2; have l3 := m0 3; have l4 := m0 4
      have HLB := Lib.hid lb
      clear lb m0
      refine wpAnyH_ready (rs := [6]) (by kernel_rfl) (by simp) (AllReadyH.cons rfl (fun K hK => ?_) AllReadyH.nil)
      go_simp
      have hcw : ∀ (i : Nat) (v : Value), w6.cell? ⟨w2.heap.size, i, none⟩ = some v → (((((w6.setCell ⟨w.heap.size, 0, none⟩ (.int .i64 m.c)).setCell ⟨w.heap.size, 1, none⟩ (.int .i64 m.d)).setCell ⟨w.heap.size, 2, none⟩ (.int .i64 m.s)).setCell ⟨w.heap.size, 3, none⟩ (.int .i64 m.a)).setCell ⟨w.heap.size, 4, none⟩ (.int .i64 m.l)).cell? ⟨w2.heap.size, i, none⟩ = some v := fun i v hv => ((keep_five w6 w.heap.size (.int .i64 m.c) (.int .i64 m.d) (.int .i64 m.s) (.int .i64 m.a) (.int .i64 m.l)).cell (p := ⟨w2.heap.size, i, none⟩) (World.block_lt_of_cell? w6 _ hv) (by simp only; omega)).trans hv
      have hKK := KS.out _ hkeep6.out
      have hKS6 := And.intro (hcw 0 _ hKK.1) (And.intro (hcw 1 _ hKK.2.1) (And.intro (hcw 2 _ hKK.2.2.1) (And.intro (hcw 3 _ hKK.2.2.2.1) (hcw 4 _ hKK.2.2.2.2))))
      have HHeld := hKS6
      refine hK.out _ _ HHeld (fun _ => ?_)
      clear hK K
      try simp only [Act.put, List.setIfInBounds_toArray, List.set_cons_zero, List.set_cons_succ]
      refine takeD (i := 7) (some 3) (.slice A1 xs.length c1) rfl (by kernel_rfl) (by kernel_rfl) (by kernel_rfl) (by kernel_rfl) (fun _ _ _ h => h) (by assumption) (Or.inl ⟨by rfl, fun w hSw => by (try dsimp only at hSw); go_simp⟩) ?_
      simp only [Act.put, List.setIfInBounds_toArray, List.set_cons_zero, List.set_cons_succ]
      refine takeD (i := 8) (some 4) (.slice A2 ls.length c2) rfl (by kernel_rfl) (by kernel_rfl) (by kernel_rfl) (by kernel_rfl) (fun _ _ _ h => h) (by assumption) (Or.inl ⟨by rfl, fun w hSw => by (try dsimp only at hSw); go_simp⟩) ?_
      simp only [Act.put, List.setIfInBounds_toArray, List.set_cons_zero, List.set_cons_succ]
      refine takeD (i := 9) (some 5) (.slice K6 ks.length k6) rfl (by kernel_rfl) (by kernel_rfl) (by kernel_rfl) (by kernel_rfl) (fun _ _ _ h => h) (by assumption) (Or.inl ⟨by rfl, fun w hSw => by (try dsimp only at hSw); go_simp⟩) ?_
      simp only [Act.put, List.setIfInBounds_toArray, List.set_cons_zero, List.set_cons_succ]
      refine wpAnyH_done (by kernel_rfl) ?_ _
      clear hcw hKK hKS6
      go_wp2_with fail
      have lb := HLB.out
      refine bodyPost_ret (results_cell_row_tmp3 rfl _ _ w.heap.size 45 #[.int .i64 m.c, .int .i64 m.d, .int .i64 m.s, .int .i64 m.a, .int .i64 m.l] (0, 0) _ (by rfl) (by simp [World.setCell, Array.getElem?_modify, lb]) Try.underlying45 rfl (by kernel_rfl)) rfl ?_
      exact FIN.out w6 _ _ _ _ HD6.out HR6.out.1 HR6.out.2.1 HR6.out.2.2 hkk6 (keep_five w6 w.heap.size (.int .i64 m.c) (.int .i64 m.d) (.int .i64 m.s) (.int .i64 m.a) (.int .i64 m.l))
    · have hr' : (r == 0) = false := by simpa using hr
      obtain ⟨x0, x1, x2, x3, x4, _⟩ := HX5.out
      simp only [Nat.zero_add] at x1 x2 x3 x4
      have lb := (HD5.out.keep.block w.heap.size hs1 (by omega)).trans HBK1.out
      have n0 := boxC_of_heap lb 0 _ rfl
      have n1 := boxC_of_heap lb 1 _ rfl
      have n2 := boxC_of_heap lb 2 _ rfl
      have n3 := boxC_of_heap lb 3 _ rfl
      have n4 := boxC_of_heap lb 4 _ rfl
      have m0 := frozen_of_heap lb
      have l0 := m0 0; have l1 := m0 1; have l2 := m0 2; have l3 := m0 3; have l4 := m0 4
      have HLB := Lib.hid lb
      clear lb m0
      go_wp2_with fail
      have lb := HLB.out
      refine bodyPost_ret (results_cell_row_tmp3 rfl _ _ w.heap.size 45 #[.int .i64 m.c, .int .i64 m.d, .int .i64 m.s, .int .i64 m.a, .int .i64 m.l] (0, 0) _ (by rfl) (by simp [World.setCell, Array.getElem?_modify, lb]) Try.underlying45 rfl (by kernel_rfl)) rfl ?_
      exact FIN.out w5 _ _ _ _ HD5.out HR5.out.1 HR5.out.2.1 (HR5.out.2.2.mono (by omega)) hq4 (keep_five w5 w.heap.size (.int .i64 m.c) (.int .i64 m.d) (.int .i64 m.s) (.int .i64 m.a) (.int .i64 m.l))
  · have hkc' : (kc != 0) = true := by simpa using hkc
    have HX5 := HX4
    have HR5 := Lib.hid (And.intro HR4.out.1 (And.intro HR4.out.2.1 HC4.out))
    clear hkc
    obtain ⟨x0, x1, x2, x3, x4, _⟩ := HX5.out
    simp only [Nat.zero_add] at x1 x2 x3 x4
    have hMw : w2.heap.size < w4.heap.size := by omega
    have KS := Lib.hid (show ∀ w' : World, KeepF (fun g => g = S) w4 w' → (w'.cell? ⟨w2.heap.size, 0, none⟩ = some (.int .i64 m.c) ∧ w'.cell? ⟨w2.heap.size, 1, none⟩ = some (.int .i64 m.d) ∧ w'.cell? ⟨w2.heap.size, 2, none⟩ = some (.int .i64 m.s) ∧ w'.cell? ⟨w2.heap.size, 3, none⟩ = some (.int .i64 m.a) ∧ w'.cell? ⟨w2.heap.size, 4, none⟩ = some (.int .i64 m.l)) from fun w' hw =>
      ⟨(hw.cell (p := ⟨w2.heap.size, 0, none⟩) hMw (by simp only; omega)).trans x0, (hw.cell (p := ⟨w2.heap.size, 1, none⟩) hMw (by simp only; omega)).trans x1, (hw.cell (p := ⟨w2.heap.size, 2, none⟩) hMw (by simp only; omega)).trans x2, (hw.cell (p := ⟨w2.heap.size, 3, none⟩) hMw (by simp only; omega)).trans x3, (hw.cell (p := ⟨w2.heap.size, 4, none⟩) hMw (by simp only; omega)).trans x4⟩)
    clear x0 x1 x2 x3 x4
    go_wp2_with fail
    refine wp_region_held_drew (S := (fun w' => w'.cell? ⟨w2.heap.size, 0, none⟩ = some (.int .i64 m.c) ∧ w'.cell? ⟨w2.heap.size, 1, none⟩ = some (.int .i64 m.d) ∧ w'.cell? ⟨w2.heap.size, 2, none⟩ = some (.int .i64 m.s) ∧ w'.cell? ⟨w2.heap.size, 3, none⟩ = some (.int .i64 m.a) ∧ w'.cell? ⟨w2.heap.size, 4, none⟩ = some (.int .i64 m.l))) (by kernel_rfl) (KS.out _ (KeepF.ofBelow (belowDrew0 _))) (fun hHeld => ?_)
    refine takeD (i := 0) (some 37) (.agg #[.int .i64 m.c, .int .i64 m.d, .int .i64 m.s, .int .i64 m.a, .int .i64 m.l]) rfl (by kernel_rfl) (by kernel_rfl) (by kernel_rfl) (by kernel_rfl) (fun _ _ _ h => h) (by assumption) (Or.inl ⟨by rfl, fun w hSw => by (try dsimp only at hSw); go_simp⟩) ?_
    simp only [Act.put, List.setIfInBounds_toArray, List.set_cons_zero, List.set_cons_succ]
    refine takeD (i := 1) (some 38) (.slice A1 xs.length c1) rfl (by kernel_rfl) (by kernel_rfl) (by kernel_rfl) (by kernel_rfl) (fun _ _ _ h => h) (by assumption) (Or.inl ⟨by rfl, fun w hSw => by (try dsimp only at hSw); go_simp⟩) ?_
    simp only [Act.put, List.setIfInBounds_toArray, List.set_cons_zero, List.set_cons_succ]
    refine takeD (i := 2) (some 39) (.slice A2 ls.length c2) rfl (by kernel_rfl) (by kernel_rfl) (by kernel_rfl) (by kernel_rfl) (fun _ _ _ h => h) (by assumption) (Or.inl ⟨by rfl, fun w hSw => by (try dsimp only at hSw); go_simp⟩) ?_
    simp only [Act.put, List.setIfInBounds_toArray, List.set_cons_zero, List.set_cons_succ]
    refine takeD (i := 3) (some 40) (.pointer (some ⟨S, 0, none⟩)) rfl (by kernel_rfl) (by kernel_rfl) (by kernel_rfl) (by kernel_rfl) (fun _ _ _ h => h) (by assumption) (Or.inl ⟨by rfl, fun w hSw => by (try dsimp only at hSw); go_simp⟩) ?_
    simp only [Act.put, List.setIfInBounds_toArray, List.set_cons_zero, List.set_cons_succ]
    refine takeD (i := 4) (some 41) (.agg #[.int .i64 m.c, .int .i64 m.d, .int .i64 m.s, .int .i64 m.a, .int .i64 m.l]) rfl (by kernel_rfl) (by kernel_rfl) (by kernel_rfl) (by kernel_rfl) (fun _ _ _ h => h) (by assumption) (Or.inl ⟨by rfl, fun w hSw => by (try dsimp only at hSw); go_simp⟩) ?_
    simp only [Act.put, List.setIfInBounds_toArray, List.set_cons_zero, List.set_cons_succ]
    refine wpAnyH_ready (rs := [5]) (by kernel_rfl) (by simp) (AllReadyH.cons rfl (fun K hK => ?_) AllReadyH.nil)
    go_simp
    refine (l02DrawCuts_any S A c bs m _ (HD4.out.drew).src HM.out.1).mono ?_
    rintro e w6 ⟨v6, ks, rfl, ho6, hk6, hd6⟩
    obtain ⟨K6, k6, rfl, hkk6, hr6⟩ := RIn.ofOI' ho6
    have HD6 := Lib.hid (HD4.out.drew.trans hd6)
    have hkeep6 := Lib.hid ((KeepF.ofBelow (F := fun g => g = S) (belowDrew0 w4)).trans hd6.keep (fun _ _ e => e))
    have HR6 := Lib.hid (And.intro ((HR5.out.1.below (belowDrew0 _)).dr hS1 hd6) (And.intro ((HR5.out.2.1.below (belowDrew0 _)).dr hS1 hd6) (hr6.mono (show w1.heap.size ≤ w4.drew.heap.size by show w1.heap.size ≤ w4.heap.size; omega))))
    have hsw6 : w1.heap.size ≤ w6.heap.size := HD6.out.size
    clear ho6 hr6 hd6
    have HHeld := KS.out _ hkeep6.out
    refine hK.out _ _ HHeld (fun _ => ?_)
    clear hK K
    try simp only [Act.put, List.setIfInBounds_toArray, List.set_cons_zero, List.set_cons_succ]
    have lb := (HD6.out.keep.block w.heap.size hs1 (by omega)).trans HBK1.out
    have n0 := boxC_of_heap lb 0 _ rfl
    have n1 := boxC_of_heap lb 1 _ rfl
    have n2 := boxC_of_heap lb 2 _ rfl
    have n3 := boxC_of_heap lb 3 _ rfl
    have n4 := boxC_of_heap lb 4 _ rfl
    have m0 := frozen_of_heap lb
    have l0 := m0 0; have l1 := m0 1; have l2 := m0 2; have l3 := m0 3; have l4 := m0 4
    have HLB := Lib.hid lb
    clear lb m0
    refine wpAnyH_ready (rs := [6]) (by kernel_rfl) (by simp) (AllReadyH.cons rfl (fun K hK => ?_) AllReadyH.nil)
    go_simp
    have hcw : ∀ (i : Nat) (v : Value), w6.cell? ⟨w2.heap.size, i, none⟩ = some v → (((((w6.setCell ⟨w.heap.size, 0, none⟩ (.int .i64 m.c)).setCell ⟨w.heap.size, 1, none⟩ (.int .i64 m.d)).setCell ⟨w.heap.size, 2, none⟩ (.int .i64 m.s)).setCell ⟨w.heap.size, 3, none⟩ (.int .i64 m.a)).setCell ⟨w.heap.size, 4, none⟩ (.int .i64 m.l)).cell? ⟨w2.heap.size, i, none⟩ = some v := fun i v hv => ((keep_five w6 w.heap.size (.int .i64 m.c) (.int .i64 m.d) (.int .i64 m.s) (.int .i64 m.a) (.int .i64 m.l)).cell (p := ⟨w2.heap.size, i, none⟩) (World.block_lt_of_cell? w6 _ hv) (by simp only; omega)).trans hv
    have hKK := KS.out _ hkeep6.out
    have hKS6 := And.intro (hcw 0 _ hKK.1) (And.intro (hcw 1 _ hKK.2.1) (And.intro (hcw 2 _ hKK.2.2.1) (And.intro (hcw 3 _ hKK.2.2.2.1) (hcw 4 _ hKK.2.2.2.2))))
    have HHeld := hKS6
    refine hK.out _ _ HHeld (fun _ => ?_)
    clear hK K
    try simp only [Act.put, List.setIfInBounds_toArray, List.set_cons_zero, List.set_cons_succ]
    refine takeD (i := 7) (some 3) (.slice A1 xs.length c1) rfl (by kernel_rfl) (by kernel_rfl) (by kernel_rfl) (by kernel_rfl) (fun _ _ _ h => h) (by assumption) (Or.inl ⟨by rfl, fun w hSw => by (try dsimp only at hSw); go_simp⟩) ?_
    simp only [Act.put, List.setIfInBounds_toArray, List.set_cons_zero, List.set_cons_succ]
    refine takeD (i := 8) (some 4) (.slice A2 ls.length c2) rfl (by kernel_rfl) (by kernel_rfl) (by kernel_rfl) (by kernel_rfl) (fun _ _ _ h => h) (by assumption) (Or.inl ⟨by rfl, fun w hSw => by (try dsimp only at hSw); go_simp⟩) ?_
    simp only [Act.put, List.setIfInBounds_toArray, List.set_cons_zero, List.set_cons_succ]
    refine takeD (i := 9) (some 5) (.slice K6 ks.length k6) rfl (by kernel_rfl) (by kernel_rfl) (by kernel_rfl) (by kernel_rfl) (fun _ _ _ h => h) (by assumption) (Or.inl ⟨by rfl, fun w hSw => by (try dsimp only at hSw); go_simp⟩) ?_
    simp only [Act.put, List.setIfInBounds_toArray, List.set_cons_zero, List.set_cons_succ]
    refine wpAnyH_done (by kernel_rfl) ?_ _
    clear hcw hKK hKS6
    go_wp2_with fail
    have lb := HLB.out
    refine bodyPost_ret (results_cell_row_tmp3 rfl _ _ w.heap.size 45 #[.int .i64 m.c, .int .i64 m.d, .int .i64 m.s, .int .i64 m.a, .int .i64 m.l] (0, 0) _ (by rfl) (by simp [World.setCell, Array.getElem?_modify, lb]) Try.underlying45 rfl (by kernel_rfl)) rfl ?_
    exact FIN.out w6 _ _ _ _ HD6.out HR6.out.1 HR6.out.2.1 HR6.out.2.2 hkk6 (keep_five w6 w.heap.size (.int .i64 m.c) (.int .i64 m.d) (.int .i64 m.s) (.int .i64 m.a) (.int .i64 m.l))
end Go.Proofs.Ytdkkkkfcpgkcnaa
