/- Contracts of GhostBound. -/
import Derived.Test.YthjfilhcfjpinaaFFit
namespace Go.Proofs.Ythjfilhcfjpinaa
set_option linter.unusedVariables false
open Go.RowKit
def ghostBoundR (m : Mk) (l al : List (List Int)) : Int × Int := if allowedC m l al [] = 0 then (wrap64 (prodW l - ((fitF l al).length : Int)), 0) else (0, allowedC m l al [])
theorem gbound_no {m : Mk} {l al : List (List Int)} (h : allowedC m l al [] ≠ 0) : (0, allowedC m l al []) = ghostBoundR m l al := by unfold ghostBoundR; rw [if_neg h]
theorem gbound_yes {m : Mk} {l al : List (List Int)} (h : allowedC m l al [] = 0) : (wrap64 (prodW l - ((fitF l al).length : Int)), 0) = ghostBoundR m l al := by unfold ghostBoundR; rw [if_pos h]
theorem comb_ok {m : Mk} {l : List (List Int)} (h : isLockF m l = true) : combR m l = (prodW l, 0) := (comb_0 h).symm
theorem allowed_lens {m : Mk} {l al : List (List Int)} (h : allowedC m l al [] = 0) : ∀ k (hk : k < al.length), al[k].length ≤ l.length := by
  obtain ⟨h1, h2, h3⟩ := allowedC_0 h
  rw [List.append_nil] at h3
  intro k hk
  unfold areKeysF at h3; rw [List.all_eq_true] at h3
  have := isKey_len (h3 _ (List.getElem_mem hk)); have := isLock_len h1; omega
set_option maxRecDepth 100000 in
set_option maxHeartbeats 2000000 in
theorem specGhostBound_any (m : Mk) (D : Option Addr) (q : Nat) (l : List (List Int)) (A : Option Addr) (c : Nat) (al : List (List Int)) (w : World) (h : RII w D l) (g : RII w A al) :
    Calls Try.prog 16 #[.agg #[.int .i64 m.c, .int .i64 m.d, .int .i64 m.s, .int .i64 m.a, .int .i64 m.l], .agg #[.slice D l.length q], .slice A al.length c] w (ResNC w (ghostBoundR m l al)) := by
  have B0 := ((Below.refl w.heap.size w).alloc (Nat.le_refl _) (.cells #[.int .i64 m.c, .int .i64 m.d, .int .i64 m.s, .int .i64 m.a, .int .i64 m.l] 25)).alloc (by simp only [World.size_alloc]; omega) (.cells #[.slice D l.length q] 28)
  have bx : BoxC ((w.alloc (.cells #[.int .i64 m.c, .int .i64 m.d, .int .i64 m.s, .int .i64 m.a, .int .i64 m.l] 25)).alloc (.cells #[.slice D l.length q] 28)) (w.heap.size + 1) 0 [.slice D l.length q] := by simp [BoxC, Go.World.cell?_alloc_at]
  have bm : BoxC (w.alloc (.cells #[.int .i64 m.c, .int .i64 m.d, .int .i64 m.s, .int .i64 m.a, .int .i64 m.l] 25)) w.heap.size 0 [.int .i64 m.c, .int .i64 m.d, .int .i64 m.s, .int .i64 m.a, .int .i64 m.l] := by simp [BoxC, Go.World.cell?_alloc_at]
  have HLL := Lib.hid (l14Code_any m D q l A c al ((w.alloc (.cells #[.int .i64 m.c, .int .i64 m.d, .int .i64 m.s, .int .i64 m.a, .int .i64 m.l] 25)).alloc (.cells #[.slice D l.length q] 28)) (h.below B0) (g.below B0))
  by_cases h1 : allowedC m l al [] = 0
  · have hll := Lib.hid (allowed_lens h1)
    have hal : al.length ≤ 1000000 := by have := (allowedC_0 h1).2.1; omega
    have hlk := (allowedC_0 h1).1
    have HY := Lib.hid (gbound_yes h1)
    rw [h1] at HLL
    have H1 := Lib.hid h1; clear h1
    have HCB := Lib.hid (comb_ok hlk); clear hlk
    go_enter Try.func16, Try.ntmps16
    go_wp2_with fail
    refine HLL.out.mono ?_
    rintro e w1 ⟨rfl, b1⟩
    have B1 := B0.trans (b1.mono B0.size)
    have bM : Below (w.alloc (.cells #[.int .i64 m.c, .int .i64 m.d, .int .i64 m.s, .int .i64 m.a, .int .i64 m.l] 25)).heap.size (w.alloc (.cells #[.int .i64 m.c, .int .i64 m.d, .int .i64 m.s, .int .i64 m.a, .int .i64 m.l] 25)) w1 := ((Below.refl _ _).alloc (Nat.le_refl _) (.cells #[.slice D l.length q] 28)).trans (b1.mono (by simp only [World.size_alloc]; omega))
    have C1 := Lib.hid (bx.below b1)
    obtain ⟨q0, _⟩ := C1.out
    obtain ⟨p0, p1, p2, p3, p4, _⟩ := bm.below bM
    have HC := specComb_any m D q l w1 (h.below B1)
    rw [HCB.out] at HC
    have HCC := Lib.hid HC; clear HC
    go_wp2_with fail
    refine HCC.out.mono ?_
    rintro e w2 ⟨rfl, b2⟩
    have B2 := B1.trans (b2.mono B1.size)
    obtain ⟨r0, _⟩ := bx.below (b1.trans (b2.mono b1.size))
    have HF := Lib.hid (l14Fitting_any D q l A c al w2 (h.below B2) (g.below B2) hll.out hal)
    go_wp2_with fail
    refine HF.out.mono ?_
    rintro e w3 ⟨A3, c3, rfl, hc3, r3, b3⟩
    have hle3 := r3.le
    go_wp2_with fail
    go_ret2
    exact resNC_of HY.out (B2.trans (b3.mono B2.size))
  · have HN := Lib.hid (gbound_no h1)
    have t1 : (allowedC m l al [] != 0) = true := by simpa using h1
    have H1 := Lib.hid h1; clear h1
    go_enter Try.func16, Try.ntmps16
    go_wp2_with fail
    refine HLL.out.mono ?_
    rintro e w1 ⟨rfl, b1⟩
    go_wp2_with fail
    go_ret2
    exact resNC_of HN.out (B0.trans (b1.mono B0.size))
set_option maxRecDepth 100000 in
set_option maxHeartbeats 2000000 in
theorem implGhostBound_any (m : Mk) (D : Option Addr) (q : Nat) (l : List (List Int)) (A : Option Addr) (c : Nat) (al : List (List Int)) (w : World) (h : RII w D l) (g : RII w A al) :
    Calls Try.prog 15 #[.agg #[.int .i64 m.c, .int .i64 m.d, .int .i64 m.s, .int .i64 m.a, .int .i64 m.l], .agg #[.slice D l.length q], .slice A al.length c] w (ResNC w (ghostBoundR m l al)) := by
  have B0 := ((Below.refl w.heap.size w).alloc (Nat.le_refl _) (.cells #[.int .i64 m.c, .int .i64 m.d, .int .i64 m.s, .int .i64 m.a, .int .i64 m.l] 25)).alloc (by simp only [World.size_alloc]; omega) (.cells #[.slice D l.length q] 28)
  have bx : BoxC ((w.alloc (.cells #[.int .i64 m.c, .int .i64 m.d, .int .i64 m.s, .int .i64 m.a, .int .i64 m.l] 25)).alloc (.cells #[.slice D l.length q] 28)) (w.heap.size + 1) 0 [.slice D l.length q] := by simp [BoxC, Go.World.cell?_alloc_at]
  have bm : BoxC (w.alloc (.cells #[.int .i64 m.c, .int .i64 m.d, .int .i64 m.s, .int .i64 m.a, .int .i64 m.l] 25)) w.heap.size 0 [.int .i64 m.c, .int .i64 m.d, .int .i64 m.s, .int .i64 m.a, .int .i64 m.l] := by simp [BoxC, Go.World.cell?_alloc_at]
  have HLL := Lib.hid (allowedCode_any m D q l A c al none 0 [] ((w.alloc (.cells #[.int .i64 m.c, .int .i64 m.d, .int .i64 m.s, .int .i64 m.a, .int .i64 m.l] 25)).alloc (.cells #[.slice D l.length q] 28)) (h.below B0) (g.below B0) RII.nil (by simp))
  by_cases h1 : allowedC m l al [] = 0
  · have hll := Lib.hid (allowed_lens h1)
    have hal : al.length ≤ 1000000 := by have := (allowedC_0 h1).2.1; omega
    have hlk := (allowedC_0 h1).1
    have HY := Lib.hid (gbound_yes h1)
    rw [h1] at HLL
    have H1 := Lib.hid h1; clear h1
    have HCB := Lib.hid (comb_ok hlk); clear hlk
    go_enter Try.func15, Try.ntmps15
    go_wp2_with fail
    refine HLL.out.mono ?_
    rintro e w1 ⟨rfl, b1⟩
    have B1 := B0.trans (b1.mono B0.size)
    have bM : Below (w.alloc (.cells #[.int .i64 m.c, .int .i64 m.d, .int .i64 m.s, .int .i64 m.a, .int .i64 m.l] 25)).heap.size (w.alloc (.cells #[.int .i64 m.c, .int .i64 m.d, .int .i64 m.s, .int .i64 m.a, .int .i64 m.l] 25)) w1 := ((Below.refl _ _).alloc (Nat.le_refl _) (.cells #[.slice D l.length q] 28)).trans (b1.mono (by simp only [World.size_alloc]; omega))
    have C1 := Lib.hid (bx.below b1)
    obtain ⟨q0, _⟩ := C1.out
    obtain ⟨p0, p1, p2, p3, p4, _⟩ := bm.below bM
    have HC := implComb_any m D q l w1 (h.below B1)
    rw [HCB.out] at HC
    have HCC := Lib.hid HC; clear HC
    go_wp2_with fail
    refine HCC.out.mono ?_
    rintro e w2 ⟨rfl, b2⟩
    have B2 := B1.trans (b2.mono B1.size)
    obtain ⟨r0, _⟩ := bx.below (b1.trans (b2.mono b1.size))
    have HF := Lib.hid (allowedOpeners_any D q l A c al w2 (h.below B2) (g.below B2) hll.out hal)
    go_wp2_with fail
    refine HF.out.mono ?_
    rintro e w3 ⟨A3, c3, rfl, hc3, r3, b3⟩
    have hle3 := r3.le
    go_wp2_with fail
    go_ret2
    exact resNC_of HY.out (B2.trans (b3.mono B2.size))
  · have HN := Lib.hid (gbound_no h1)
    have t1 : (allowedC m l al [] != 0) = true := by simpa using h1
    have H1 := Lib.hid h1; clear h1
    go_enter Try.func15, Try.ntmps15
    go_wp2_with fail
    refine HLL.out.mono ?_
    rintro e w1 ⟨rfl, b1⟩
    go_wp2_with fail
    go_ret2
    exact resNC_of HN.out (B0.trans (b1.mono B0.size))
end Go.Proofs.Ythjfilhcfjpinaa
