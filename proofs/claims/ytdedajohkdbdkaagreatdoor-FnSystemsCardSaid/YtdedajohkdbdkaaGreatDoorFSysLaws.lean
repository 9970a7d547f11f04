/- Contracts of LocksOf, IsDesign, IsOpenPart, CountFalse, FalseOpenings, PartFault. -/
import Derived.Test.YtdedajohkdbdkaaGreatDoorFGhost
namespace Go.Proofs.YtdedajohkdbdkaaGreatDoor
set_option linter.unusedVariables false
open Go.RowKit
def ResLSC (w : World) (r : List (List (List Int)) × Int) (e : Ending) (w' : World) : Prop :=
  ∃ A c, e = .returned (.tuple #[.slice A r.1.length c, .int .i64 r.2]) ∧ r.1.length ≤ c ∧ RLS w' A r.1 ∧ OLS w' w.heap.size w'.heap.size (.slice A r.1.length c) r.1 ∧ Below w.heap.size w w'
def locksR (m : Mk) (t cuts : List (List Int)) : List (List (List Int)) × Int := if cutsC m t cuts = 0 then (locksF m t cuts, 0) else ([], cutsC m t cuts)
theorem locks_no {m : Mk} {t cuts : List (List Int)} (h : cutsC m t cuts ≠ 0) : ([], cutsC m t cuts) = locksR m t cuts := by unfold locksR; rw [if_neg h]
theorem locks_yes {m : Mk} {t cuts : List (List Int)} (h : cutsC m t cuts = 0) : (locksF m t cuts, 0) = locksR m t cuts := by unfold locksR; rw [if_pos h]
set_option maxRecDepth 100000 in
set_option maxHeartbeats 2000000 in
theorem implLocksOf_any (m : Mk) (A : Option Addr) (c : Nat) (t : List (List Int)) (B : Option Addr) (d : Nat) (cuts : List (List Int)) (w : World) (h : RII w A t) (g : RII w B cuts) :
    Calls Tryz.prog 6 #[.agg #[.int .i64 m.c, .int .i64 m.d, .int .i64 m.s, .int .i64 m.a, .int .i64 m.l, .slice A t.length c], .slice B cuts.length d] w (ResLSC w (locksR m t cuts)) := by
  have B0 := (Below.refl w.heap.size w).alloc (Nat.le_refl _) (.cells #[.int .i64 m.c, .int .i64 m.d, .int .i64 m.s, .int .i64 m.a, .int .i64 m.l, .slice A t.length c] 28)
  have bx : BoxC (w.alloc (.cells #[.int .i64 m.c, .int .i64 m.d, .int .i64 m.s, .int .i64 m.a, .int .i64 m.l, .slice A t.length c] 28)) w.heap.size 0 [.int .i64 m.c, .int .i64 m.d, .int .i64 m.s, .int .i64 m.a, .int .i64 m.l, .slice A t.length c] := by simp [BoxC, Go.World.cell?_alloc_at]
  have HCC := Lib.hid (cutsCode_any m A c t B d cuts (w.alloc (.cells #[.int .i64 m.c, .int .i64 m.d, .int .i64 m.s, .int .i64 m.a, .int .i64 m.l, .slice A t.length c] 28)) (h.below B0) (g.below B0))
  by_cases h1 : cutsC m t cuts = 0
  rotate_left
  · have HN := Lib.hid (locks_no h1)
    have t1 : (cutsC m t cuts != 0) = true := by simpa using h1
    have H1 := Lib.hid h1; clear h1
    go_enter Tryz.func6, Tryz.ntmps6
    go_wp2_with fail
    refine HCC.out.mono ?_
    rintro e w1 ⟨rfl, b1⟩
    go_wp2_with fail
    go_ret2
    rw [← HN.out]
    exact ⟨none, 0, rfl, Nat.le_refl _, RLS.nil, OLS.nil, B0.trans (b1.mono B0.size)⟩
  have HY := Lib.hid (locks_yes h1)
  have HF := Lib.hid (cutsC_ok h1)
  rw [h1] at HCC
  have H1 := Lib.hid h1; clear h1
  have HH := Lib.hid (fun (W : World) (hW : Below w.heap.size w W) => partLocks_any m A c t B d cuts W (h.below hW) (g.below hW) HF.out)
  obtain ⟨ls, hls⟩ : ∃ ls, ls = locksF m t cuts := ⟨_, rfl⟩
  rw [← hls] at HH HY
  clear hls
  go_enter Tryz.func6, Tryz.ntmps6
  go_wp2_with fail
  refine HCC.out.mono ?_
  rintro e w1 ⟨rfl, b1⟩
  have B1 := B0.trans (b1.mono B0.size)
  obtain ⟨q0, q1, q2, q3, q4, q5, _⟩ := bx.below b1
  go_wp2_with fail
  refine (HH.out _ B1).mono ?_
  rintro e w2 ⟨A2, c2, rfl, hc2, r2, o2, b2⟩
  have HO2 := Lib.hid (And.intro r2 (o2.wide B1.size (Nat.le_refl _))); have HB2 := Lib.hid (B1.trans (b2.mono B1.size))
  clear r2 o2 b2
  go_wp2_with fail
  go_ret2
  rw [← HY.out]
  exact ⟨A2, c2, rfl, hc2, HO2.out.1, HO2.out.2, HB2.out⟩
set_option maxRecDepth 100000 in
set_option maxHeartbeats 2000000 in
theorem specLocksOf_any (m : Mk) (A : Option Addr) (c : Nat) (t : List (List Int)) (B : Option Addr) (d : Nat) (cuts : List (List Int)) (w : World) (h : RII w A t) (g : RII w B cuts) :
    Calls Tryz.prog 7 #[.agg #[.int .i64 m.c, .int .i64 m.d, .int .i64 m.s, .int .i64 m.a, .int .i64 m.l, .slice A t.length c], .slice B cuts.length d] w (ResLSC w (locksR m t cuts)) := by
  have B0 := (Below.refl w.heap.size w).alloc (Nat.le_refl _) (.cells #[.int .i64 m.c, .int .i64 m.d, .int .i64 m.s, .int .i64 m.a, .int .i64 m.l, .slice A t.length c] 28)
  have bx : BoxC (w.alloc (.cells #[.int .i64 m.c, .int .i64 m.d, .int .i64 m.s, .int .i64 m.a, .int .i64 m.l, .slice A t.length c] 28)) w.heap.size 0 [.int .i64 m.c, .int .i64 m.d, .int .i64 m.s, .int .i64 m.a, .int .i64 m.l, .slice A t.length c] := by simp [BoxC, Go.World.cell?_alloc_at]
  have HCC := Lib.hid (l15Code_any m A c t B d cuts (w.alloc (.cells #[.int .i64 m.c, .int .i64 m.d, .int .i64 m.s, .int .i64 m.a, .int .i64 m.l, .slice A t.length c] 28)) (h.below B0) (g.below B0))
  by_cases h1 : cutsC m t cuts = 0
  rotate_left
  · have HN := Lib.hid (locks_no h1)
    have t1 : (cutsC m t cuts != 0) = true := by simpa using h1
    have H1 := Lib.hid h1; clear h1
    go_enter Tryz.func7, Tryz.ntmps7
    go_wp2_with fail
    refine HCC.out.mono ?_
    rintro e w1 ⟨rfl, b1⟩
    go_wp2_with fail
    go_ret2
    rw [← HN.out]
    exact ⟨none, 0, rfl, Nat.le_refl _, RLS.nil, OLS.nil, B0.trans (b1.mono B0.size)⟩
  have HY := Lib.hid (locks_yes h1)
  have HF := Lib.hid (cutsC_ok h1)
  rw [h1] at HCC
  have H1 := Lib.hid h1; clear h1
  have HH := Lib.hid (fun (W : World) (hW : Below w.heap.size w W) => l15Locks_any m A c t B d cuts W (h.below hW) (g.below hW) HF.out)
  obtain ⟨ls, hls⟩ : ∃ ls, ls = locksF m t cuts := ⟨_, rfl⟩
  rw [← hls] at HH HY
  clear hls
  go_enter Tryz.func7, Tryz.ntmps7
  go_wp2_with fail
  refine HCC.out.mono ?_
  rintro e w1 ⟨rfl, b1⟩
  have B1 := B0.trans (b1.mono B0.size)
  obtain ⟨q0, q1, q2, q3, q4, q5, _⟩ := bx.below b1
  go_wp2_with fail
  refine (HH.out _ B1).mono ?_
  rintro e w2 ⟨A2, c2, rfl, hc2, r2, o2, b2⟩
  have HO2 := Lib.hid (And.intro r2 (o2.wide B1.size (Nat.le_refl _))); have HB2 := Lib.hid (B1.trans (b2.mono B1.size))
  clear r2 o2 b2
  go_wp2_with fail
  go_ret2
  rw [← HY.out]
  exact ⟨A2, c2, rfl, hc2, HO2.out.1, HO2.out.2, HB2.out⟩
/-! ### IsDesign, IsOpenPart -/
def designF (m : Mk) (t cuts : List (List Int)) : Bool := (cutsC m t cuts == 0) && openPart m t cuts
def openPartF (m : Mk) (t cuts : List (List Int)) : Bool := (partC m t cuts == 0) && openPart m t cuts
end Go.Proofs.YtdedajohkdbdkaaGreatDoor
