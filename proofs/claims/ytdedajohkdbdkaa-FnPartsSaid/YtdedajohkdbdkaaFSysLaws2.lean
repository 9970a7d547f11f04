/- Contracts of CountFalse, FalseOpenings, PartFault. -/
import Derived.Test.YtdedajohkdbdkaaFSysLaws
namespace Go.Proofs.Ytdedajohkdbdkaa
set_option linter.unusedVariables false
open Go.RowKit
def cFalseR (m : Mk) (t cuts : List (List Int)) : Int × Int := if partC m t cuts = 0 then (((faultsF m t cuts).length : Int), 0) else (0, partC m t cuts)
theorem cFalse_no {m : Mk} {t cuts : List (List Int)} (h : partC m t cuts ≠ 0) : (0, partC m t cuts) = cFalseR m t cuts := by unfold cFalseR; rw [if_neg h]
theorem cFalse_yes {m : Mk} {t cuts : List (List Int)} (h : partC m t cuts = 0) : (((faultsF m t cuts).length : Int), 0) = cFalseR m t cuts := by unfold cFalseR; rw [if_pos h]
set_option maxRecDepth 100000 in
set_option maxHeartbeats 2000000 in
theorem implCountFalse_any (m : Mk) (A : Option Addr) (c : Nat) (t : List (List Int)) (B : Option Addr) (d : Nat) (cuts : List (List Int)) (w : World) (h : RII w A t) (g : RII w B cuts) :
    Calls Try.prog 18 #[.agg #[.int .i64 m.c, .int .i64 m.d, .int .i64 m.s, .int .i64 m.a, .int .i64 m.l, .slice A t.length c], .slice B cuts.length d] w (ResNC w (cFalseR m t cuts)) := by
  have B0 := (Below.refl w.heap.size w).alloc (Nat.le_refl _) (.cells #[.int .i64 m.c, .int .i64 m.d, .int .i64 m.s, .int .i64 m.a, .int .i64 m.l, .slice A t.length c] 28)
  have bx : BoxC (w.alloc (.cells #[.int .i64 m.c, .int .i64 m.d, .int .i64 m.s, .int .i64 m.a, .int .i64 m.l, .slice A t.length c] 28)) w.heap.size 0 [.int .i64 m.c, .int .i64 m.d, .int .i64 m.s, .int .i64 m.a, .int .i64 m.l, .slice A t.length c] := by simp [BoxC, Go.World.cell?_alloc_at]
  have HCC := Lib.hid (partCode_any m A c t B d cuts (w.alloc (.cells #[.int .i64 m.c, .int .i64 m.d, .int .i64 m.s, .int .i64 m.a, .int .i64 m.l, .slice A t.length c] 28)) (h.below B0) (g.below B0))
  by_cases h1 : partC m t cuts = 0
  rotate_left
  · have HN := Lib.hid (cFalse_no h1)
    have t1 : (partC m t cuts != 0) = true := by simpa using h1
    have H1 := Lib.hid h1; clear h1
    go_enter Try.func18, Try.ntmps18
    go_wp2_with fail
    refine HCC.out.mono ?_
    rintro e w1 ⟨rfl, b1⟩
    go_wp2_with fail
    go_ret2
    exact resNC_of HN.out (B0.trans (b1.mono B0.size))
  have HY := Lib.hid (cFalse_yes h1)
  have HF := Lib.hid (partC_0 h1)
  rw [h1] at HCC
  have H1 := Lib.hid h1; clear h1
  have HH := Lib.hid (fun (W : World) (hW : Below w.heap.size w W) => partFaults_any m A c t B d cuts W (h.below hW) (g.below hW) HF.out)
  obtain ⟨ls, hls⟩ : ∃ ls, ls = faultsF m t cuts := ⟨_, rfl⟩
  rw [← hls] at HH HY
  clear hls
  go_enter Try.func18, Try.ntmps18
  go_wp2_with fail
  refine HCC.out.mono ?_
  rintro e w1 ⟨rfl, b1⟩
  have B1 := B0.trans (b1.mono B0.size)
  obtain ⟨q0, q1, q2, q3, q4, q5, _⟩ := bx.below b1
  go_wp2_with fail
  refine (HH.out _ B1).mono ?_
  rintro e w2 ⟨A2, c2, rfl, hc2, r2, o2, b2⟩
  have HB2 := Lib.hid (B1.trans (b2.mono B1.size))
  have hl2 := r2.le
  clear r2 o2 b2
  go_wp2_with fail
  go_ret2
  exact resNC_of HY.out HB2.out
set_option maxRecDepth 100000 in
set_option maxHeartbeats 2000000 in
theorem specCountFalse_any (m : Mk) (A : Option Addr) (c : Nat) (t : List (List Int)) (B : Option Addr) (d : Nat) (cuts : List (List Int)) (w : World) (h : RII w A t) (g : RII w B cuts) :
    Calls Try.prog 19 #[.agg #[.int .i64 m.c, .int .i64 m.d, .int .i64 m.s, .int .i64 m.a, .int .i64 m.l, .slice A t.length c], .slice B cuts.length d] w (ResNC w (cFalseR m t cuts)) := by
  have B0 := (Below.refl w.heap.size w).alloc (Nat.le_refl _) (.cells #[.int .i64 m.c, .int .i64 m.d, .int .i64 m.s, .int .i64 m.a, .int .i64 m.l, .slice A t.length c] 28)
  have bx : BoxC (w.alloc (.cells #[.int .i64 m.c, .int .i64 m.d, .int .i64 m.s, .int .i64 m.a, .int .i64 m.l, .slice A t.length c] 28)) w.heap.size 0 [.int .i64 m.c, .int .i64 m.d, .int .i64 m.s, .int .i64 m.a, .int .i64 m.l, .slice A t.length c] := by simp [BoxC, Go.World.cell?_alloc_at]
  have HCC := Lib.hid (l16Code_any m A c t B d cuts (w.alloc (.cells #[.int .i64 m.c, .int .i64 m.d, .int .i64 m.s, .int .i64 m.a, .int .i64 m.l, .slice A t.length c] 28)) (h.below B0) (g.below B0))
  by_cases h1 : partC m t cuts = 0
  rotate_left
  · have HN := Lib.hid (cFalse_no h1)
    have t1 : (partC m t cuts != 0) = true := by simpa using h1
    have H1 := Lib.hid h1; clear h1
    go_enter Try.func19, Try.ntmps19
    go_wp2_with fail
    refine HCC.out.mono ?_
    rintro e w1 ⟨rfl, b1⟩
    go_wp2_with fail
    go_ret2
    exact resNC_of HN.out (B0.trans (b1.mono B0.size))
  have HY := Lib.hid (cFalse_yes h1)
  have HF := Lib.hid (partC_0 h1)
  rw [h1] at HCC
  have H1 := Lib.hid h1; clear h1
  have HH := Lib.hid (fun (W : World) (hW : Below w.heap.size w W) => l15False_any m A c t B d cuts W (h.below hW) (g.below hW) HF.out)
  obtain ⟨ls, hls⟩ : ∃ ls, ls = faultsF m t cuts := ⟨_, rfl⟩
  rw [← hls] at HH HY
  clear hls
  go_enter Try.func19, Try.ntmps19
  go_wp2_with fail
  refine HCC.out.mono ?_
  rintro e w1 ⟨rfl, b1⟩
  have B1 := B0.trans (b1.mono B0.size)
  obtain ⟨q0, q1, q2, q3, q4, q5, _⟩ := bx.below b1
  go_wp2_with fail
  refine (HH.out _ B1).mono ?_
  rintro e w2 ⟨A2, c2, rfl, hc2, r2, o2, b2⟩
  have HB2 := Lib.hid (B1.trans (b2.mono B1.size))
  have hl2 := r2.le
  clear r2 o2 b2
  go_wp2_with fail
  go_ret2
  exact resNC_of HY.out HB2.out
def falseR (m : Mk) (t cuts : List (List Int)) : List (List Int) × Int := if cutsC m t cuts = 0 then (faultsF m t cuts, 0) else ([], cutsC m t cuts)
theorem false_no {m : Mk} {t cuts : List (List Int)} (h : cutsC m t cuts ≠ 0) : ([], cutsC m t cuts) = falseR m t cuts := by unfold falseR; rw [if_neg h]
theorem false_yes {m : Mk} {t cuts : List (List Int)} (h : cutsC m t cuts = 0) : (faultsF m t cuts, 0) = falseR m t cuts := by unfold falseR; rw [if_pos h]
set_option maxRecDepth 100000 in
set_option maxHeartbeats 2000000 in
theorem implFalseOpenings_any (m : Mk) (A : Option Addr) (c : Nat) (t : List (List Int)) (B : Option Addr) (d : Nat) (cuts : List (List Int)) (w : World) (h : RII w A t) (g : RII w B cuts) :
    Calls Try.prog 7 #[.agg #[.int .i64 m.c, .int .i64 m.d, .int .i64 m.s, .int .i64 m.a, .int .i64 m.l, .slice A t.length c], .slice B cuts.length d] w (ResIIC w (falseR m t cuts)) := by
  have B0 := (Below.refl w.heap.size w).alloc (Nat.le_refl _) (.cells #[.int .i64 m.c, .int .i64 m.d, .int .i64 m.s, .int .i64 m.a, .int .i64 m.l, .slice A t.length c] 28)
  have bx : BoxC (w.alloc (.cells #[.int .i64 m.c, .int .i64 m.d, .int .i64 m.s, .int .i64 m.a, .int .i64 m.l, .slice A t.length c] 28)) w.heap.size 0 [.int .i64 m.c, .int .i64 m.d, .int .i64 m.s, .int .i64 m.a, .int .i64 m.l, .slice A t.length c] := by simp [BoxC, Go.World.cell?_alloc_at]
  have HCC := Lib.hid (cutsCode_any m A c t B d cuts (w.alloc (.cells #[.int .i64 m.c, .int .i64 m.d, .int .i64 m.s, .int .i64 m.a, .int .i64 m.l, .slice A t.length c] 28)) (h.below B0) (g.below B0))
  by_cases h1 : cutsC m t cuts = 0
  rotate_left
  · have HN := Lib.hid (false_no h1)
    have t1 : (cutsC m t cuts != 0) = true := by simpa using h1
    have H1 := Lib.hid h1; clear h1
    go_enter Try.func7, Try.ntmps7
    go_wp2_with fail
    refine HCC.out.mono ?_
    rintro e w1 ⟨rfl, b1⟩
    go_wp2_with fail
    go_ret2
    exact resIIC_nil HN.out (B0.trans (b1.mono B0.size))
  have HY := Lib.hid (false_yes h1)
  have HF := Lib.hid (cutsC_ok h1)
  rw [h1] at HCC
  have H1 := Lib.hid h1; clear h1
  have HH := Lib.hid (fun (W : World) (hW : Below w.heap.size w W) => partFaults_any m A c t B d cuts W (h.below hW) (g.below hW) HF.out)
  obtain ⟨ls, hls⟩ : ∃ ls, ls = faultsF m t cuts := ⟨_, rfl⟩
  rw [← hls] at HH HY
  clear hls
  go_enter Try.func7, Try.ntmps7
  go_wp2_with fail
  refine HCC.out.mono ?_
  rintro e w1 ⟨rfl, b1⟩
  have B1 := B0.trans (b1.mono B0.size)
  obtain ⟨q0, q1, q2, q3, q4, q5, _⟩ := bx.below b1
  go_wp2_with fail
  refine (HH.out _ B1).mono ?_
  rintro e w2 ⟨A2, c2, rfl, hc2, r2, o2, b2⟩
  have HO2 := Lib.hid (And.intro r2 (o2.wide B1.size (Nat.le_refl _))); have HB2 := Lib.hid (B1.trans (b2.mono B1.size))
  clear r2 o2 b2
  go_wp2_with fail
  go_ret2
  rw [← HY.out]
  exact ⟨A2, c2, rfl, hc2, HO2.out.1, HO2.out.2, HB2.out⟩
set_option maxRecDepth 100000 in
set_option maxHeartbeats 2000000 in
theorem specFalseOpenings_any (m : Mk) (A : Option Addr) (c : Nat) (t : List (List Int)) (B : Option Addr) (d : Nat) (cuts : List (List Int)) (w : World) (h : RII w A t) (g : RII w B cuts) :
    Calls Try.prog 8 #[.agg #[.int .i64 m.c, .int .i64 m.d, .int .i64 m.s, .int .i64 m.a, .int .i64 m.l, .slice A t.length c], .slice B cuts.length d] w (ResIIC w (falseR m t cuts)) := by
  have B0 := (Below.refl w.heap.size w).alloc (Nat.le_refl _) (.cells #[.int .i64 m.c, .int .i64 m.d, .int .i64 m.s, .int .i64 m.a, .int .i64 m.l, .slice A t.length c] 28)
  have bx : BoxC (w.alloc (.cells #[.int .i64 m.c, .int .i64 m.d, .int .i64 m.s, .int .i64 m.a, .int .i64 m.l, .slice A t.length c] 28)) w.heap.size 0 [.int .i64 m.c, .int .i64 m.d, .int .i64 m.s, .int .i64 m.a, .int .i64 m.l, .slice A t.length c] := by simp [BoxC, Go.World.cell?_alloc_at]
  have HCC := Lib.hid (l15Code_any m A c t B d cuts (w.alloc (.cells #[.int .i64 m.c, .int .i64 m.d, .int .i64 m.s, .int .i64 m.a, .int .i64 m.l, .slice A t.length c] 28)) (h.below B0) (g.below B0))
  by_cases h1 : cutsC m t cuts = 0
  rotate_left
  · have HN := Lib.hid (false_no h1)
    have t1 : (cutsC m t cuts != 0) = true := by simpa using h1
    have H1 := Lib.hid h1; clear h1
    go_enter Try.func8, Try.ntmps8
    go_wp2_with fail
    refine HCC.out.mono ?_
    rintro e w1 ⟨rfl, b1⟩
    go_wp2_with fail
    go_ret2
    exact resIIC_nil HN.out (B0.trans (b1.mono B0.size))
  have HY := Lib.hid (false_yes h1)
  have HF := Lib.hid (cutsC_ok h1)
  rw [h1] at HCC
  have H1 := Lib.hid h1; clear h1
  have HH := Lib.hid (fun (W : World) (hW : Below w.heap.size w W) => l15False_any m A c t B d cuts W (h.below hW) (g.below hW) HF.out)
  obtain ⟨ls, hls⟩ : ∃ ls, ls = faultsF m t cuts := ⟨_, rfl⟩
  rw [← hls] at HH HY
  clear hls
  go_enter Try.func8, Try.ntmps8
  go_wp2_with fail
  refine HCC.out.mono ?_
  rintro e w1 ⟨rfl, b1⟩
  have B1 := B0.trans (b1.mono B0.size)
  obtain ⟨q0, q1, q2, q3, q4, q5, _⟩ := bx.below b1
  go_wp2_with fail
  refine (HH.out _ B1).mono ?_
  rintro e w2 ⟨A2, c2, rfl, hc2, r2, o2, b2⟩
  have HO2 := Lib.hid (And.intro r2 (o2.wide B1.size (Nat.le_refl _))); have HB2 := Lib.hid (B1.trans (b2.mono B1.size))
  clear r2 o2 b2
  go_wp2_with fail
  go_ret2
  rw [← HY.out]
  exact ⟨A2, c2, rfl, hc2, HO2.out.1, HO2.out.2, HB2.out⟩
/-! ### PartFault -/
def ResNNN (w : World) (r : Int × Int × Int) (e : Ending) (w' : World) : Prop := e = .returned (.tuple #[.int .i64 r.1, .int .i64 r.2.1, .int .i64 r.2.2]) ∧ Below w.heap.size w w'
theorem resNNN_of {w w' : World} {r : Int × Int × Int} {a b c : Int} (h : (a, b, c) = r) (hb : Below w.heap.size w w') : ResNNN w r (.returned (.tuple #[.int .i64 a, .int .i64 b, .int .i64 c])) w' := by subst h; exact ⟨rfl, hb⟩
def faultOf (fs : List (List Int)) : Int × Int × Int := match fs with
  | [] => (0, 0, 4)
  | x :: _ => (x.getD 0 0, x.getD 1 0, 0)
def partFaultR (m : Mk) (t cuts : List (List Int)) : Int × Int × Int := if partC m t cuts = 0 then faultOf (faultsF m t cuts) else (0, 0, partC m t cuts)
theorem pf_no {m : Mk} {t cuts : List (List Int)} (h : partC m t cuts ≠ 0) : (0, 0, partC m t cuts) = partFaultR m t cuts := by unfold partFaultR; rw [if_neg h]
theorem pf_yes {m : Mk} {t cuts : List (List Int)} (h : partC m t cuts = 0) : faultOf (faultsF m t cuts) = partFaultR m t cuts := by unfold partFaultR; rw [if_pos h]
theorem faults_two {m : Mk} {t cuts : List (List Int)} {x : List Int} (h : x ∈ faultsF m t cuts) : x.length = 2 := by
  unfold faultsF faultsN at h
  obtain ⟨k, _, hx⟩ := List.mem_flatMap.1 h
  unfold faultRow at hx
  obtain ⟨d, _, rfl⟩ := List.mem_map.1 hx
  rfl
theorem faultOf_0 {fs : List (List Int)} (h : fs.length = 0) : (0, 0, 4) = faultOf fs := by cases fs; rfl; simp at h
theorem faultOf_1 {fs : List (List Int)} (h : 0 < fs.length) (h2 : fs[0].length = 2) : (fs[0][0], fs[0][1], 0) = faultOf fs := by
  cases fs with
  | nil => simp at h
  | cons x r =>
    simp only [List.getElem_cons_zero] at h2 ⊢
    unfold faultOf
    simp [h2]
set_option maxRecDepth 100000 in
set_option maxHeartbeats 4000000 in
theorem implPartFault_any (m : Mk) (A : Option Addr) (c : Nat) (t : List (List Int)) (B : Option Addr) (d : Nat) (cuts : List (List Int)) (w : World) (h : RII w A t) (g : RII w B cuts) :
    Calls Try.prog 20 #[.agg #[.int .i64 m.c, .int .i64 m.d, .int .i64 m.s, .int .i64 m.a, .int .i64 m.l, .slice A t.length c], .slice B cuts.length d] w (ResNNN w (partFaultR m t cuts)) := by
  have B0 := (Below.refl w.heap.size w).alloc (Nat.le_refl _) (.cells #[.int .i64 m.c, .int .i64 m.d, .int .i64 m.s, .int .i64 m.a, .int .i64 m.l, .slice A t.length c] 28)
  have bx : BoxC (w.alloc (.cells #[.int .i64 m.c, .int .i64 m.d, .int .i64 m.s, .int .i64 m.a, .int .i64 m.l, .slice A t.length c] 28)) w.heap.size 0 [.int .i64 m.c, .int .i64 m.d, .int .i64 m.s, .int .i64 m.a, .int .i64 m.l, .slice A t.length c] := by simp [BoxC, Go.World.cell?_alloc_at]
  have HCC := Lib.hid (partCode_any m A c t B d cuts (w.alloc (.cells #[.int .i64 m.c, .int .i64 m.d, .int .i64 m.s, .int .i64 m.a, .int .i64 m.l, .slice A t.length c] 28)) (h.below B0) (g.below B0))
  by_cases h1 : partC m t cuts = 0
  rotate_left
  · have HN := Lib.hid (pf_no h1)
    have t1 : (partC m t cuts != 0) = true := by simpa using h1
    have H1 := Lib.hid h1; clear h1
    go_enter Try.func20, Try.ntmps20
    go_wp2_with fail
    refine HCC.out.mono ?_
    rintro e w1 ⟨rfl, b1⟩
    go_wp2_with fail
    go_ret3
    exact resNNN_of HN.out (B0.trans (b1.mono B0.size))
  have HY := Lib.hid (pf_yes h1)
  have HF := Lib.hid (partC_0 h1)
  rw [h1] at HCC
  have H1 := Lib.hid h1; clear h1
  have HH := Lib.hid (fun (W : World) (hW : Below w.heap.size w W) => partFaults_any m A c t B d cuts W (h.below hW) (g.below hW) HF.out)
  obtain ⟨fs, hfs⟩ : ∃ fs, fs = faultsF m t cuts := ⟨_, rfl⟩
  have HTW := Lib.hid (show ∀ x ∈ fs, x.length = 2 by subst hfs; exact fun x hx => faults_two hx)
  rw [← hfs] at HH HY
  clear hfs
  by_cases h0 : fs.length = 0
  · have HZ := Lib.hid ((faultOf_0 h0).trans HY.out)
    have hz : ((fs.length : Int) == 0) = true := by simp [h0]
    have H0 := Lib.hid h0; clear h0
    go_enter Try.func20, Try.ntmps20
    go_wp2_with fail
    refine HCC.out.mono ?_
    rintro e w1 ⟨rfl, b1⟩
    have B1 := B0.trans (b1.mono B0.size)
    obtain ⟨q0, q1, q2, q3, q4, q5, _⟩ := bx.below b1
    go_wp2_with fail
    refine (HH.out _ B1).mono ?_
    rintro e w2 ⟨A2, c2, rfl, hc2, r2, o2, b2⟩
    have HB2 := Lib.hid (B1.trans (b2.mono B1.size))
    have hl2 := r2.le
    clear r2 o2 b2
    go_wp2_with fail
    go_ret3
    exact resNNN_of HZ.out HB2.out
  · have hpos : 0 < fs.length := by omega
    have hz : ((fs.length : Int) == 0) = false := by rw [beq_eq_false_iff_ne]; omega
    have htw : fs[0].length = 2 := HTW.out _ (List.getElem_mem hpos)
    have HZ := Lib.hid ((faultOf_1 hpos htw).trans HY.out)
    go_enter Try.func20, Try.ntmps20
    go_wp2_with fail
    refine HCC.out.mono ?_
    rintro e w1 ⟨rfl, b1⟩
    have B1 := B0.trans (b1.mono B0.size)
    obtain ⟨q0, q1, q2, q3, q4, q5, _⟩ := bx.below b1
    go_wp2_with fail
    refine (HH.out _ B1).mono ?_
    rintro e w2 ⟨A2, c2, rfl, hc2, r2, o2, b2⟩
    have HB2 := Lib.hid (B1.trans (b2.mono B1.size))
    have hl2 := r2.le
    obtain ⟨bF, oF, A', c', rfl, hcF, hccF, hrF⟩ := r2.at_ hpos
    obtain ⟨bG, oG, rfl, hcG⟩ := hrF.at_ (show 0 < fs[0].length by omega)
    have hcG1 := hrF.cell' (show 1 < fs[0].length by omega)
    obtain ⟨x, hx⟩ : ∃ x, x = fs[0][0] := ⟨_, rfl⟩
    obtain ⟨y, hy⟩ : ∃ y, y = fs[0][1] := ⟨_, rfl⟩
    have HXY := Lib.hid (show (x, y, 0) = partFaultR m t cuts by rw [hx, hy]; exact HZ.out)
    rw [← hx] at hcG
    rw [← hy] at hcG1
    simp only [Nat.add_zero] at hcF hcG
    rw [htw] at hcF
    clear r2 o2 b2 hrF htw hx hy HZ q0 q1 q2 q3 q4 q5
    go_wp2_with fail
    go_quiet (fail)
    go_wp2_with fail
    go_ret3
    exact resNNN_of HXY.out (belowD HB2.out _)
set_option maxRecDepth 100000 in
set_option maxHeartbeats 4000000 in
theorem specPartFault_any (m : Mk) (A : Option Addr) (c : Nat) (t : List (List Int)) (B : Option Addr) (d : Nat) (cuts : List (List Int)) (w : World) (h : RII w A t) (g : RII w B cuts) :
    Calls Try.prog 21 #[.agg #[.int .i64 m.c, .int .i64 m.d, .int .i64 m.s, .int .i64 m.a, .int .i64 m.l, .slice A t.length c], .slice B cuts.length d] w (ResNNN w (partFaultR m t cuts)) := by
  have B0 := (Below.refl w.heap.size w).alloc (Nat.le_refl _) (.cells #[.int .i64 m.c, .int .i64 m.d, .int .i64 m.s, .int .i64 m.a, .int .i64 m.l, .slice A t.length c] 28)
  have bx : BoxC (w.alloc (.cells #[.int .i64 m.c, .int .i64 m.d, .int .i64 m.s, .int .i64 m.a, .int .i64 m.l, .slice A t.length c] 28)) w.heap.size 0 [.int .i64 m.c, .int .i64 m.d, .int .i64 m.s, .int .i64 m.a, .int .i64 m.l, .slice A t.length c] := by simp [BoxC, Go.World.cell?_alloc_at]
  have HCC := Lib.hid (l16Code_any m A c t B d cuts (w.alloc (.cells #[.int .i64 m.c, .int .i64 m.d, .int .i64 m.s, .int .i64 m.a, .int .i64 m.l, .slice A t.length c] 28)) (h.below B0) (g.below B0))
  by_cases h1 : partC m t cuts = 0
  rotate_left
  · have HN := Lib.hid (pf_no h1)
    have t1 : (partC m t cuts != 0) = true := by simpa using h1
    have H1 := Lib.hid h1; clear h1
    go_enter Try.func21, Try.ntmps21
    go_wp2_with fail
    refine HCC.out.mono ?_
    rintro e w1 ⟨rfl, b1⟩
    go_wp2_with fail
    go_ret3
    exact resNNN_of HN.out (B0.trans (b1.mono B0.size))
  have HY := Lib.hid (pf_yes h1)
  have HF := Lib.hid (partC_0 h1)
  rw [h1] at HCC
  have H1 := Lib.hid h1; clear h1
  have HH := Lib.hid (fun (W : World) (hW : Below w.heap.size w W) => l15False_any m A c t B d cuts W (h.below hW) (g.below hW) HF.out)
  obtain ⟨fs, hfs⟩ : ∃ fs, fs = faultsF m t cuts := ⟨_, rfl⟩
  have HTW := Lib.hid (show ∀ x ∈ fs, x.length = 2 by subst hfs; exact fun x hx => faults_two hx)
  rw [← hfs] at HH HY
  clear hfs
  by_cases h0 : fs.length = 0
  · have HZ := Lib.hid ((faultOf_0 h0).trans HY.out)
    have hz : ((fs.length : Int) == 0) = true := by simp [h0]
    have H0 := Lib.hid h0; clear h0
    go_enter Try.func21, Try.ntmps21
    go_wp2_with fail
    refine HCC.out.mono ?_
    rintro e w1 ⟨rfl, b1⟩
    have B1 := B0.trans (b1.mono B0.size)
    obtain ⟨q0, q1, q2, q3, q4, q5, _⟩ := bx.below b1
    go_wp2_with fail
    refine (HH.out _ B1).mono ?_
    rintro e w2 ⟨A2, c2, rfl, hc2, r2, o2, b2⟩
    have HB2 := Lib.hid (B1.trans (b2.mono B1.size))
    have hl2 := r2.le
    clear r2 o2 b2
    go_wp2_with fail
    go_ret3
    exact resNNN_of HZ.out HB2.out
  · have hpos : 0 < fs.length := by omega
    have hz : ((fs.length : Int) == 0) = false := by rw [beq_eq_false_iff_ne]; omega
    have htw : fs[0].length = 2 := HTW.out _ (List.getElem_mem hpos)
    have HZ := Lib.hid ((faultOf_1 hpos htw).trans HY.out)
    go_enter Try.func21, Try.ntmps21
    go_wp2_with fail
    refine HCC.out.mono ?_
    rintro e w1 ⟨rfl, b1⟩
    have B1 := B0.trans (b1.mono B0.size)
    obtain ⟨q0, q1, q2, q3, q4, q5, _⟩ := bx.below b1
    go_wp2_with fail
    refine (HH.out _ B1).mono ?_
    rintro e w2 ⟨A2, c2, rfl, hc2, r2, o2, b2⟩
    have HB2 := Lib.hid (B1.trans (b2.mono B1.size))
    have hl2 := r2.le
    obtain ⟨bF, oF, A', c', rfl, hcF, hccF, hrF⟩ := r2.at_ hpos
    obtain ⟨bG, oG, rfl, hcG⟩ := hrF.at_ (show 0 < fs[0].length by omega)
    have hcG1 := hrF.cell' (show 1 < fs[0].length by omega)
    obtain ⟨x, hx⟩ : ∃ x, x = fs[0][0] := ⟨_, rfl⟩
    obtain ⟨y, hy⟩ : ∃ y, y = fs[0][1] := ⟨_, rfl⟩
    have HXY := Lib.hid (show (x, y, 0) = partFaultR m t cuts by rw [hx, hy]; exact HZ.out)
    rw [← hx] at hcG
    rw [← hy] at hcG1
    simp only [Nat.add_zero] at hcF hcG
    rw [htw] at hcF
    clear r2 o2 b2 hrF htw hx hy HZ q0 q1 q2 q3 q4 q5
    go_wp2_with fail
    go_quiet (fail)
    go_wp2_with fail
    go_ret3
    exact resNNN_of HXY.out (belowD HB2.out _)
end Go.Proofs.Ytdedajohkdbdkaa
