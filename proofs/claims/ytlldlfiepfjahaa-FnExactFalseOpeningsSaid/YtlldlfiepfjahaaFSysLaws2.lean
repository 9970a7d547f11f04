/- Contracts of CountFalse, FalseOpenings, PartFault. -/
import Derived.Test.YtlldlfiepfjahaaFSysLaws
namespace Go.Proofs.Ytlldlfiepfjahaa
set_option linter.unusedVariables false
open Go.RowKit
def cFalseR (m : Mk) (t cuts : List (List Int)) : Int × Int := if partC m t cuts = 0 then (((faultsF m t cuts).length : Int), 0) else (0, partC m t cuts)
theorem cFalse_no {m : Mk} {t cuts : List (List Int)} (h : partC m t cuts ≠ 0) : (0, partC m t cuts) = cFalseR m t cuts := by unfold cFalseR; rw [if_neg h]
theorem cFalse_yes {m : Mk} {t cuts : List (List Int)} (h : partC m t cuts = 0) : (((faultsF m t cuts).length : Int), 0) = cFalseR m t cuts := by unfold cFalseR; rw [if_pos h]
def falseR (m : Mk) (t cuts : List (List Int)) : List (List Int) × Int := if cutsC m t cuts = 0 then (faultsF m t cuts, 0) else ([], cutsC m t cuts)
theorem false_no {m : Mk} {t cuts : List (List Int)} (h : cutsC m t cuts ≠ 0) : ([], cutsC m t cuts) = falseR m t cuts := by unfold falseR; rw [if_neg h]
theorem false_yes {m : Mk} {t cuts : List (List Int)} (h : cutsC m t cuts = 0) : (faultsF m t cuts, 0) = falseR m t cuts := by unfold falseR; rw [if_pos h]
set_option maxRecDepth 100000 in
set_option maxHeartbeats 2000000 in
theorem implFalseOpenings_any (m : Mk) (A : Option Addr) (c : Nat) (t : List (List Int)) (B : Option Addr) (d : Nat) (cuts : List (List Int)) (w : World) (h : RII w A t) (g : RII w B cuts) :
    Calls Try.prog 31 #[.agg #[.int .i64 m.c, .int .i64 m.d, .int .i64 m.s, .int .i64 m.a, .int .i64 m.l, .slice A t.length c], .slice B cuts.length d] w (ResIIC w (falseR m t cuts)) := by
  have B0 := (Below.refl w.heap.size w).alloc (Nat.le_refl _) (.cells #[.int .i64 m.c, .int .i64 m.d, .int .i64 m.s, .int .i64 m.a, .int .i64 m.l, .slice A t.length c] 33)
  have bx : BoxC (w.alloc (.cells #[.int .i64 m.c, .int .i64 m.d, .int .i64 m.s, .int .i64 m.a, .int .i64 m.l, .slice A t.length c] 33)) w.heap.size 0 [.int .i64 m.c, .int .i64 m.d, .int .i64 m.s, .int .i64 m.a, .int .i64 m.l, .slice A t.length c] := by simp [BoxC, Go.World.cell?_alloc_at]
  have HCC := Lib.hid (cutsCode_any m A c t B d cuts (w.alloc (.cells #[.int .i64 m.c, .int .i64 m.d, .int .i64 m.s, .int .i64 m.a, .int .i64 m.l, .slice A t.length c] 33)) (h.below B0) (g.below B0))
  by_cases h1 : cutsC m t cuts = 0
  rotate_left
  · have HN := Lib.hid (false_no h1)
    have t1 : (cutsC m t cuts != 0) = true := by simpa using h1
    have H1 := Lib.hid h1; clear h1
    go_enter Try.func31, Try.ntmps31
    go_wp2_with fail
    refine HCC.out.mono ?_
    rintro e w1 ⟨rfl, b1⟩
    go_wp2_with fail
    go_ret2
    exact resIIC_nil HN.out (B0.trans (b1.mono B0.size))
  have HY := Lib.hid (false_yes h1)
  have HF := Lib.hid (cutsC_ok h1)
  rw [h1] at HCC
  have H1 := Lib.hid h1; clear h1
  have HH := Lib.hid (fun (W : World) (hW : Below w.heap.size w W) => partFaults_any m A c t B d cuts W (h.below hW) (g.below hW) HF.out)
  obtain ⟨ls, hls⟩ : ∃ ls, ls = faultsF m t cuts := ⟨_, rfl⟩
  rw [← hls] at HH HY
  clear hls
  go_enter Try.func31, Try.ntmps31
  go_wp2_with fail
  refine HCC.out.mono ?_
  rintro e w1 ⟨rfl, b1⟩
  have B1 := B0.trans (b1.mono B0.size)
  obtain ⟨q0, q1, q2, q3, q4, q5, _⟩ := bx.below b1
  go_wp2_with fail
  refine (HH.out _ B1).mono ?_
  rintro e w2 ⟨A2, c2, rfl, hc2, r2, o2, b2⟩
  have HO2 := Lib.hid (And.intro r2 (o2.wide B1.size (Nat.le_refl _))); have HB2 := Lib.hid (B1.trans (b2.mono B1.size))
  clear r2 o2 b2
  go_wp2_with fail
  go_ret2
  rw [← HY.out]
  exact ⟨A2, c2, rfl, hc2, HO2.out.1, HO2.out.2, HB2.out⟩
set_option maxRecDepth 100000 in
set_option maxHeartbeats 2000000 in
theorem specFalseOpenings_any (m : Mk) (A : Option Addr) (c : Nat) (t : List (List Int)) (B : Option Addr) (d : Nat) (cuts : List (List Int)) (w : World) (h : RII w A t) (g : RII w B cuts) :
    Calls Try.prog 30 #[.agg #[.int .i64 m.c, .int .i64 m.d, .int .i64 m.s, .int .i64 m.a, .int .i64 m.l, .slice A t.length c], .slice B cuts.length d] w (ResIIC w (falseR m t cuts)) := by
  have B0 := (Below.refl w.heap.size w).alloc (Nat.le_refl _) (.cells #[.int .i64 m.c, .int .i64 m.d, .int .i64 m.s, .int .i64 m.a, .int .i64 m.l, .slice A t.length c] 33)
  have bx : BoxC (w.alloc (.cells #[.int .i64 m.c, .int .i64 m.d, .int .i64 m.s, .int .i64 m.a, .int .i64 m.l, .slice A t.length c] 33)) w.heap.size 0 [.int .i64 m.c, .int .i64 m.d, .int .i64 m.s, .int .i64 m.a, .int .i64 m.l, .slice A t.length c] := by simp [BoxC, Go.World.cell?_alloc_at]
  have HCC := Lib.hid (l15Code_any m A c t B d cuts (w.alloc (.cells #[.int .i64 m.c, .int .i64 m.d, .int .i64 m.s, .int .i64 m.a, .int .i64 m.l, .slice A t.length c] 33)) (h.below B0) (g.below B0))
  by_cases h1 : cutsC m t cuts = 0
  rotate_left
  · have HN := Lib.hid (false_no h1)
    have t1 : (cutsC m t cuts != 0) = true := by simpa using h1
    have H1 := Lib.hid h1; clear h1
    go_enter Try.func30, Try.ntmps30
    go_wp2_with fail
    refine HCC.out.mono ?_
    rintro e w1 ⟨rfl, b1⟩
    go_wp2_with fail
    go_ret2
    exact resIIC_nil HN.out (B0.trans (b1.mono B0.size))
  have HY := Lib.hid (false_yes h1)
  have HF := Lib.hid (cutsC_ok h1)
  rw [h1] at HCC
  have H1 := Lib.hid h1; clear h1
  have HH := Lib.hid (fun (W : World) (hW : Below w.heap.size w W) => l15False_any m A c t B d cuts W (h.below hW) (g.below hW) HF.out)
  obtain ⟨ls, hls⟩ : ∃ ls, ls = faultsF m t cuts := ⟨_, rfl⟩
  rw [← hls] at HH HY
  clear hls
  go_enter Try.func30, Try.ntmps30
  go_wp2_with fail
  refine HCC.out.mono ?_
  rintro e w1 ⟨rfl, b1⟩
  have B1 := B0.trans (b1.mono B0.size)
  obtain ⟨q0, q1, q2, q3, q4, q5, _⟩ := bx.below b1
  go_wp2_with fail
  refine (HH.out _ B1).mono ?_
  rintro e w2 ⟨A2, c2, rfl, hc2, r2, o2, b2⟩
  have HO2 := Lib.hid (And.intro r2 (o2.wide B1.size (Nat.le_refl _))); have HB2 := Lib.hid (B1.trans (b2.mono B1.size))
  clear r2 o2 b2
  go_wp2_with fail
  go_ret2
  rw [← HY.out]
  exact ⟨A2, c2, rfl, hc2, HO2.out.1, HO2.out.2, HB2.out⟩
/-! ### PartFault -/
def ResNNN (w : World) (r : Int × Int × Int) (e : Ending) (w' : World) : Prop := e = .returned (.tuple #[.int .i64 r.1, .int .i64 r.2.1, .int .i64 r.2.2]) ∧ Below w.heap.size w w'
theorem resNNN_of {w w' : World} {r : Int × Int × Int} {a b c : Int} (h : (a, b, c) = r) (hb : Below w.heap.size w w') : ResNNN w r (.returned (.tuple #[.int .i64 a, .int .i64 b, .int .i64 c])) w' := by subst h; exact ⟨rfl, hb⟩
def faultOf (fs : List (List Int)) : Int × Int × Int := match fs with
  | [] => (0, 0, 4)
  | x :: _ => (x.getD 0 0, x.getD 1 0, 0)
def partFaultR (m : Mk) (t cuts : List (List Int)) : Int × Int × Int := if partC m t cuts = 0 then faultOf (faultsF m t cuts) else (0, 0, partC m t cuts)
theorem pf_no {m : Mk} {t cuts : List (List Int)} (h : partC m t cuts ≠ 0) : (0, 0, partC m t cuts) = partFaultR m t cuts := by unfold partFaultR; rw [if_neg h]
theorem pf_yes {m : Mk} {t cuts : List (List Int)} (h : partC m t cuts = 0) : faultOf (faultsF m t cuts) = partFaultR m t cuts := by unfold partFaultR; rw [if_pos h]
theorem faults_two {m : Mk} {t cuts : List (List Int)} {x : List Int} (h : x ∈ faultsF m t cuts) : x.length = 2 := by
  unfold faultsF faultsN at h
  obtain ⟨k, _, hx⟩ := List.mem_flatMap.1 h
  unfold faultRow at hx
  obtain ⟨d, _, rfl⟩ := List.mem_map.1 hx
  rfl
theorem faultOf_0 {fs : List (List Int)} (h : fs.length = 0) : (0, 0, 4) = faultOf fs := by cases fs; rfl; simp at h
theorem faultOf_1 {fs : List (List Int)} (h : 0 < fs.length) (h2 : fs[0].length = 2) : (fs[0][0], fs[0][1], 0) = faultOf fs := by
  cases fs with
  | nil => simp at h
  | cons x r =>
    simp only [List.getElem_cons_zero] at h2 ⊢
    unfold faultOf
    simp [h2]
end Go.Proofs.Ytlldlfiepfjahaa
