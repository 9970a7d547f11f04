/- Contracts of LocksOf, IsDesign, IsOpenPart, CountFalse, FalseOpenings, PartFault. -/
import Derived.Test.YtdedajohkdbdkaaGreatFGhost
namespace Go.Proofs.YtdedajohkdbdkaaGreat
set_option linter.unusedVariables false
open Go.RowKit
def ResLSC (w : World) (r : List (List (List Int)) × Int) (e : Ending) (w' : World) : Prop :=
  ∃ A c, e = .returned (.tuple #[.slice A r.1.length c, .int .i64 r.2]) ∧ r.1.length ≤ c ∧ RLS w' A r.1 ∧ OLS w' w.heap.size w'.heap.size (.slice A r.1.length c) r.1 ∧ Below w.heap.size w w'
def locksR (m : Mk) (t cuts : List (List Int)) : List (List (List Int)) × Int := if cutsC m t cuts = 0 then (locksF m t cuts, 0) else ([], cutsC m t cuts)
theorem locks_no {m : Mk} {t cuts : List (List Int)} (h : cutsC m t cuts ≠ 0) : ([], cutsC m t cuts) = locksR m t cuts := by unfold locksR; rw [if_neg h]
theorem locks_yes {m : Mk} {t cuts : List (List Int)} (h : cutsC m t cuts = 0) : (locksF m t cuts, 0) = locksR m t cuts := by unfold locksR; rw [if_pos h]
/-! ### IsDesign, IsOpenPart -/
def designF (m : Mk) (t cuts : List (List Int)) : Bool := (cutsC m t cuts == 0) && openPart m t cuts
def openPartF (m : Mk) (t cuts : List (List Int)) : Bool := (partC m t cuts == 0) && openPart m t cuts
set_option maxRecDepth 100000 in
set_option maxHeartbeats 2000000 in
theorem implIsDesign_any (m : Mk) (A : Option Addr) (c : Nat) (t : List (List Int)) (B : Option Addr) (d : Nat) (cuts : List (List Int)) (w : World) (h : RII w A t) (g : RII w B cuts) :
    Calls Tryz.prog 25 #[.agg #[.int .i64 m.c, .int .i64 m.d, .int .i64 m.s, .int .i64 m.a, .int .i64 m.l, .slice A t.length c], .slice B cuts.length d] w fun e w' => e = .returned (.bool (designF m t cuts)) ∧ Below w.heap.size w w' := by
  have B0 := (Below.refl w.heap.size w).alloc (Nat.le_refl _) (.cells #[.int .i64 m.c, .int .i64 m.d, .int .i64 m.s, .int .i64 m.a, .int .i64 m.l, .slice A t.length c] 45)
  have bx : BoxC (w.alloc (.cells #[.int .i64 m.c, .int .i64 m.d, .int .i64 m.s, .int .i64 m.a, .int .i64 m.l, .slice A t.length c] 45)) w.heap.size 0 [.int .i64 m.c, .int .i64 m.d, .int .i64 m.s, .int .i64 m.a, .int .i64 m.l, .slice A t.length c] := by simp [BoxC, Go.World.cell?_alloc_at]
  have HCC := Lib.hid (cutsCode_any m A c t B d cuts (w.alloc (.cells #[.int .i64 m.c, .int .i64 m.d, .int .i64 m.s, .int .i64 m.a, .int .i64 m.l, .slice A t.length c] 45)) (h.below B0) (g.below B0))
  cases h1 : cutsC m t cuts == 0 with
  | false =>
    have HR := Lib.hid (show designF m t cuts = false by unfold designF; rw [h1]; rfl)
    go_enter Tryz.func25, Tryz.ntmps25
    go_wp2_with fail
    refine HCC.out.mono ?_
    rintro e w1 ⟨rfl, b1⟩
    go_wp2_with fail
    go_ret
    exact ⟨retB HR.out.symm, B0.trans (b1.mono B0.size)⟩
  | true =>
  have HR := Lib.hid (show designF m t cuts = openPart m t cuts by unfold designF; rw [h1]; rfl)
  have HF := Lib.hid (cutsC_ok (show cutsC m t cuts = 0 by simpa using h1))
  have HH := Lib.hid (fun (W : World) (hW : Below w.heap.size w W) => partFaults_any m A c t B d cuts W (h.below hW) (g.below hW) HF.out)
  obtain ⟨fs, hfs⟩ : ∃ fs, fs = faultsF m t cuts := ⟨_, rfl⟩
  have HE := Lib.hid (show ((fs.length : Int) == 0) = openPart m t cuts by rw [hfs]; rfl)
  rw [← hfs] at HH
  clear hfs
  go_enter Tryz.func25, Tryz.ntmps25
  go_wp2_with fail
  refine HCC.out.mono ?_
  rintro e w1 ⟨rfl, b1⟩
  have B1 := B0.trans (b1.mono B0.size)
  obtain ⟨q0, q1, q2, q3, q4, q5, _⟩ := bx.below b1
  go_wp2_with fail
  refine (HH.out _ B1).mono ?_
  rintro e w2 ⟨A2, c2, rfl, hc2, r2, o2, b2⟩
  have hl2 := r2.le
  clear r2 o2
  cases hq : ((fs.length : Int) == 0) with
  | true =>
    go_wp2_with fail
    go_ret
    exact ⟨retB (by rw [HR.out, ← HE.out, hq]), B1.trans (b2.mono B1.size)⟩
  | false =>
    go_wp2_with fail
    go_ret
    exact ⟨retB (by rw [HR.out, ← HE.out, hq]), B1.trans (b2.mono B1.size)⟩
set_option maxRecDepth 100000 in
set_option maxHeartbeats 2000000 in
theorem implIsOpenPart_any (m : Mk) (A : Option Addr) (c : Nat) (t : List (List Int)) (B : Option Addr) (d : Nat) (cuts : List (List Int)) (w : World) (h : RII w A t) (g : RII w B cuts) :
    Calls Tryz.prog 40 #[.agg #[.int .i64 m.c, .int .i64 m.d, .int .i64 m.s, .int .i64 m.a, .int .i64 m.l, .slice A t.length c], .slice B cuts.length d] w fun e w' => e = .returned (.bool (openPartF m t cuts)) ∧ Below w.heap.size w w' := by
  have B0 := (Below.refl w.heap.size w).alloc (Nat.le_refl _) (.cells #[.int .i64 m.c, .int .i64 m.d, .int .i64 m.s, .int .i64 m.a, .int .i64 m.l, .slice A t.length c] 45)
  have bx : BoxC (w.alloc (.cells #[.int .i64 m.c, .int .i64 m.d, .int .i64 m.s, .int .i64 m.a, .int .i64 m.l, .slice A t.length c] 45)) w.heap.size 0 [.int .i64 m.c, .int .i64 m.d, .int .i64 m.s, .int .i64 m.a, .int .i64 m.l, .slice A t.length c] := by simp [BoxC, Go.World.cell?_alloc_at]
  have HCC := Lib.hid (partCode_any m A c t B d cuts (w.alloc (.cells #[.int .i64 m.c, .int .i64 m.d, .int .i64 m.s, .int .i64 m.a, .int .i64 m.l, .slice A t.length c] 45)) (h.below B0) (g.below B0))
  cases h1 : partC m t cuts == 0 with
  | false =>
    have HR := Lib.hid (show openPartF m t cuts = false by unfold openPartF; rw [h1]; rfl)
    go_enter Tryz.func40, Tryz.ntmps40
    go_wp2_with fail
    refine HCC.out.mono ?_
    rintro e w1 ⟨rfl, b1⟩
    go_wp2_with fail
    go_ret
    exact ⟨retB HR.out.symm, B0.trans (b1.mono B0.size)⟩
  | true =>
  have HR := Lib.hid (show openPartF m t cuts = openPart m t cuts by unfold openPartF; rw [h1]; rfl)
  have HF := Lib.hid (partC_0 (show partC m t cuts = 0 by simpa using h1))
  have HH := Lib.hid (fun (W : World) (hW : Below w.heap.size w W) => isOpenPart_any m A c t B d cuts W (h.below hW) (g.below hW) HF.out)
  obtain ⟨bb, hbb⟩ : ∃ bb, bb = openPart m t cuts := ⟨_, rfl⟩
  rw [← hbb] at HH HR
  clear hbb
  go_enter Tryz.func40, Tryz.ntmps40
  go_wp2_with fail
  refine HCC.out.mono ?_
  rintro e w1 ⟨rfl, b1⟩
  have B1 := B0.trans (b1.mono B0.size)
  obtain ⟨q0, q1, q2, q3, q4, q5, _⟩ := bx.below b1
  go_wp2_with fail
  refine (HH.out _ B1).mono ?_
  rintro e w2 ⟨rfl, b2⟩
  go_wp2_with fail
  go_ret
  exact ⟨retB HR.out.symm, B1.trans (b2.mono B1.size)⟩
end Go.Proofs.YtdedajohkdbdkaaGreat
