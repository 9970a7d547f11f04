/- Contracts of moreCode, CountCandidates, NextCandidates, on both sides. -/
import Derived.Test.YtdedajohkdbdkaaGreatFCandI
namespace Go.Proofs.YtdedajohkdbdkaaGreat
set_option linter.unusedVariables false
open Go.RowKit
theorem moreC_of {m : Mk} {t cuts : List (List Int)} (h : partC m t cuts ≠ 0) : moreC m t cuts = partC m t cuts := by unfold moreC; rw [if_neg h]
theorem moreC_5 {m : Mk} {t cuts : List (List Int)} (h : partC m t cuts = 0) (hl : cuts.length = t.length) : moreC m t cuts = 5 := by unfold moreC; rw [if_pos h, if_pos hl]
theorem moreC_0 {m : Mk} {t cuts : List (List Int)} (h : partC m t cuts = 0) (hl : cuts.length ≠ t.length) : moreC m t cuts = 0 := by unfold moreC; rw [if_pos h, if_neg hl]
theorem moreC_ok {m : Mk} {t cuts : List (List Int)} (h : moreC m t cuts = 0) : partC m t cuts = 0 ∧ PartOK m t cuts ∧ cuts.length < t.length := by
  by_cases h1 : partC m t cuts = 0
  · have hp := partC_0 h1
    have hl := hp.le
    by_cases h2 : cuts.length = t.length
    · rw [moreC_5 h1 h2] at h; cases h
    · exact ⟨h1, hp, by omega⟩
  · rw [moreC_of h1] at h; exact absurd h h1
def countCandR (m : Mk) (t cuts : List (List Int)) : Int × Int := if moreC m t cuts = 0 then (((candsF m t cuts).length : Int), 0) else (0, moreC m t cuts)
theorem countCand_no {m : Mk} {t cuts : List (List Int)} (h : moreC m t cuts ≠ 0) : (0, moreC m t cuts) = countCandR m t cuts := by unfold countCandR; rw [if_neg h]
theorem countCand_yes {m : Mk} {t cuts : List (List Int)} (h : moreC m t cuts = 0) : (((candsF m t cuts).length : Int), 0) = countCandR m t cuts := by unfold countCandR; rw [if_pos h]
def nextCandR (m : Mk) (t cuts : List (List Int)) (most : Int) : List (List Int) × Int :=
  if partC m t cuts = 0 then (if inB most 0 300 = true then (if moreC m t cuts = 0 then ((candsF m t cuts).take most.toNat, 0) else ([], 5)) else ([], 2)) else ([], partC m t cuts)
theorem nextCand_no {m : Mk} {t cuts : List (List Int)} {most : Int} (h : partC m t cuts ≠ 0) : ([], partC m t cuts) = nextCandR m t cuts most := by unfold nextCandR; rw [if_neg h]
theorem nextCand_2 {m : Mk} {t cuts : List (List Int)} {most : Int} (h : partC m t cuts = 0) (h2 : inB most 0 300 = false) : ([], 2) = nextCandR m t cuts most := by unfold nextCandR; rw [if_pos h, if_neg (by rw [h2]; simp)]
theorem nextCand_5 {m : Mk} {t cuts : List (List Int)} {most : Int} (h : partC m t cuts = 0) (h2 : inB most 0 300 = true) (h3 : moreC m t cuts ≠ 0) : ([], 5) = nextCandR m t cuts most := by unfold nextCandR; rw [if_pos h, if_pos h2, if_neg h3]
theorem nextCand_yes {m : Mk} {t cuts : List (List Int)} {most : Int} (h : moreC m t cuts = 0) (h2 : inB most 0 300 = true) : ((candsF m t cuts).take most.toNat, 0) = nextCandR m t cuts most := by unfold nextCandR; rw [if_pos (moreC_ok h).1, if_pos h2, if_pos h]
set_option maxRecDepth 100000 in
set_option maxHeartbeats 2000000 in
theorem moreCode_any (m : Mk) (A : Option Addr) (c : Nat) (t : List (List Int)) (B : Option Addr) (d : Nat) (cuts : List (List Int)) (w : World) (h : RII w A t) (g : RII w B cuts) :
    Calls Tryz.prog 78 #[.agg #[.int .i64 m.c, .int .i64 m.d, .int .i64 m.s, .int .i64 m.a, .int .i64 m.l, .slice A t.length c], .slice B cuts.length d] w fun e w' => e = .returned (.int .i64 (moreC m t cuts)) ∧ Below w.heap.size w w' := by
  have B0 := (Below.refl w.heap.size w).alloc (Nat.le_refl _) (.cells #[.int .i64 m.c, .int .i64 m.d, .int .i64 m.s, .int .i64 m.a, .int .i64 m.l, .slice A t.length c] 45)
  have bx : BoxC (w.alloc (.cells #[.int .i64 m.c, .int .i64 m.d, .int .i64 m.s, .int .i64 m.a, .int .i64 m.l, .slice A t.length c] 45)) w.heap.size 0 [.int .i64 m.c, .int .i64 m.d, .int .i64 m.s, .int .i64 m.a, .int .i64 m.l, .slice A t.length c] := by simp [BoxC, Go.World.cell?_alloc_at]
  have HCC := Lib.hid (partCode_any m A c t B d cuts (w.alloc (.cells #[.int .i64 m.c, .int .i64 m.d, .int .i64 m.s, .int .i64 m.a, .int .i64 m.l, .slice A t.length c] 45)) (h.below B0) (g.below B0))
  have hs0 := B0.size
  have hl1 := h.le; have hl2 := g.le
  by_cases h1 : partC m t cuts = 0
  rotate_left
  · have HN := Lib.hid (moreC_of h1)
    have t1 : (partC m t cuts != 0) = true := by simpa using h1
    have H1 := Lib.hid h1; clear h1
    go_enter Tryz.func78, Tryz.ntmps78
    go_wp2_with fail
    refine HCC.out.mono ?_
    rintro e w1 ⟨rfl, b1⟩
    go_wp2_with fail
    go_ret
    exact ⟨retI HN.out.symm, B0.trans (b1.mono B0.size)⟩
  rw [h1] at HCC
  by_cases h2 : cuts.length = t.length
  · have HN := Lib.hid (moreC_5 h1 h2)
    have t1 : ((cuts.length : Int) == (t.length : Int)) = true := by rw [h2]; simp
    have H1 := Lib.hid (And.intro h1 h2); clear h1 h2
    go_enter Tryz.func78, Tryz.ntmps78
    go_wp2_with fail
    refine HCC.out.mono ?_
    rintro e w1 ⟨rfl, b1⟩
    obtain ⟨q0, q1, q2, q3, q4, q5, _⟩ := bx.below b1
    have hws : w.heap.size < w1.heap.size := by have := b1.size; simp only [World.size_alloc] at this; omega
    go_wp2_with fail
    go_ret
    exact ⟨retI HN.out.symm, B0.trans (b1.mono B0.size)⟩
  · have HN := Lib.hid (moreC_0 h1 h2)
    have t1 : ((cuts.length : Int) == (t.length : Int)) = false := by simp; omega
    have H1 := Lib.hid (And.intro h1 h2); clear h1 h2
    go_enter Tryz.func78, Tryz.ntmps78
    go_wp2_with fail
    refine HCC.out.mono ?_
    rintro e w1 ⟨rfl, b1⟩
    obtain ⟨q0, q1, q2, q3, q4, q5, _⟩ := bx.below b1
    have hws : w.heap.size < w1.heap.size := by have := b1.size; simp only [World.size_alloc] at this; omega
    go_wp2_with fail
    go_ret
    exact ⟨retI HN.out.symm, B0.trans (b1.mono B0.size)⟩
set_option maxRecDepth 100000 in
set_option maxHeartbeats 2000000 in
theorem implCountCandidates_any (m : Mk) (A : Option Addr) (c : Nat) (t : List (List Int)) (B : Option Addr) (d : Nat) (cuts : List (List Int)) (w : World) (h : RII w A t) (g : RII w B cuts) :
    Calls Tryz.prog 31 #[.agg #[.int .i64 m.c, .int .i64 m.d, .int .i64 m.s, .int .i64 m.a, .int .i64 m.l, .slice A t.length c], .slice B cuts.length d] w (ResNC w (countCandR m t cuts)) := by
  have B0 := (Below.refl w.heap.size w).alloc (Nat.le_refl _) (.cells #[.int .i64 m.c, .int .i64 m.d, .int .i64 m.s, .int .i64 m.a, .int .i64 m.l, .slice A t.length c] 45)
  have bx : BoxC (w.alloc (.cells #[.int .i64 m.c, .int .i64 m.d, .int .i64 m.s, .int .i64 m.a, .int .i64 m.l, .slice A t.length c] 45)) w.heap.size 0 [.int .i64 m.c, .int .i64 m.d, .int .i64 m.s, .int .i64 m.a, .int .i64 m.l, .slice A t.length c] := by simp [BoxC, Go.World.cell?_alloc_at]
  have HCC := Lib.hid (moreCode_any m A c t B d cuts (w.alloc (.cells #[.int .i64 m.c, .int .i64 m.d, .int .i64 m.s, .int .i64 m.a, .int .i64 m.l, .slice A t.length c] 45)) (h.below B0) (g.below B0))
  have hs0 := B0.size
  by_cases h1 : moreC m t cuts = 0
  rotate_left
  · have HN := Lib.hid (countCand_no h1)
    have t1 : (moreC m t cuts != 0) = true := by simpa using h1
    have H1 := Lib.hid h1; clear h1
    go_enter Tryz.func31, Tryz.ntmps31
    go_wp2_with fail
    refine HCC.out.mono ?_
    rintro e w1 ⟨rfl, b1⟩
    go_wp2_with fail
    go_ret2
    exact resNC_of HN.out (B0.trans (b1.mono B0.size))
  have HY := Lib.hid (countCand_yes h1)
  have HF := Lib.hid (moreC_ok h1)
  rw [h1] at HCC
  have H1 := Lib.hid h1; clear h1
  have HH := Lib.hid (fun (W : World) (hW : Below w.heap.size w W) => candidates_any m A c t B d cuts (-1) W (h.below hW) (g.below hW) HF.out.2.1 HF.out.2.2 (by omega))
  go_enter Tryz.func31, Tryz.ntmps31
  go_wp2_with fail
  refine HCC.out.mono ?_
  rintro e w1 ⟨rfl, b1⟩
  have B1 := B0.trans (b1.mono B0.size)
  obtain ⟨q0, q1, q2, q3, q4, q5, _⟩ := bx.below b1
  go_wp2_with fail
  refine (HH.out _ B1).mono ?_
  rintro e w2 ⟨A2, c2, ks, n, rfl, hc2, o2, -, hn, b2⟩
  have HB2 := Lib.hid (B1.trans (b2.mono B1.size))
  have HN := Lib.hid (hn (by omega))
  clear o2 b2 hn
  go_wp2_with fail
  go_ret2
  rw [HN.out]
  exact resNC_of HY.out HB2.out
set_option maxRecDepth 100000 in
set_option maxHeartbeats 4000000 in
theorem implNextCandidates_any (m : Mk) (A : Option Addr) (c : Nat) (t : List (List Int)) (B : Option Addr) (d : Nat) (cuts : List (List Int)) (most : Int) (w : World) (h : RII w A t) (g : RII w B cuts) (hwf : (Lit.int .i64 most).wf = true) :
    Calls Tryz.prog 28 #[.agg #[.int .i64 m.c, .int .i64 m.d, .int .i64 m.s, .int .i64 m.a, .int .i64 m.l, .slice A t.length c], .slice B cuts.length d, .int .i64 most] w (ResIIC w (nextCandR m t cuts most)) := by
  have B0 := (Below.refl w.heap.size w).alloc (Nat.le_refl _) (.cells #[.int .i64 m.c, .int .i64 m.d, .int .i64 m.s, .int .i64 m.a, .int .i64 m.l, .slice A t.length c] 45)
  have bx : BoxC (w.alloc (.cells #[.int .i64 m.c, .int .i64 m.d, .int .i64 m.s, .int .i64 m.a, .int .i64 m.l, .slice A t.length c] 45)) w.heap.size 0 [.int .i64 m.c, .int .i64 m.d, .int .i64 m.s, .int .i64 m.a, .int .i64 m.l, .slice A t.length c] := by simp [BoxC, Go.World.cell?_alloc_at]
  have HCC := moreCode_any m A c t B d cuts (w.alloc (.cells #[.int .i64 m.c, .int .i64 m.d, .int .i64 m.s, .int .i64 m.a, .int .i64 m.l, .slice A t.length c] 45)) (h.below B0) (g.below B0)
  have hs0 := B0.size
  have HIN := within_any most 0 300
  by_cases h1 : moreC m t cuts = 0
  · have HF := Lib.hid (moreC_ok h1)
    rw [h1] at HCC
    have HCX := Lib.hid HCC; clear HCC
    cases h2 : inB most 0 300 with
    | false =>
      rw [h2] at HIN
      have HI := Lib.hid HIN; clear HIN
      have HN := Lib.hid (nextCand_2 HF.out.1 h2)
      have H1 := Lib.hid (And.intro h1 h2); clear h1 h2
      go_enter Tryz.func28, Tryz.ntmps28
      go_wp2_with fail
      refine HCX.out.mono ?_
      rintro e w1 ⟨rfl, b1⟩
      go_wp2_with fail
      refine (HI.out _).mono ?_
      rintro e w2 ⟨rfl, rfl⟩
      go_wp2_with fail
      go_ret2
      exact resIIC_nil HN.out (B0.trans (b1.mono B0.size))
    | true =>
      rw [h2] at HIN
      have HI := Lib.hid HIN; clear HIN
      have HN := Lib.hid (nextCand_yes h1 h2)
      have hb := inB_iff.1 h2
      have HH := Lib.hid (fun (W : World) (hW : Below w.heap.size w W) => candidates_any m A c t B d cuts most W (h.below hW) (g.below hW) HF.out.2.1 HF.out.2.2 (by omega))
      have HB := Lib.hid hb
      have H1 := Lib.hid (And.intro h1 h2); clear h1 h2 hb
      go_enter Tryz.func28, Tryz.ntmps28
      go_wp2_with fail
      refine HCX.out.mono ?_
      rintro e w1 ⟨rfl, b1⟩
      have B1 := B0.trans (b1.mono B0.size)
      obtain ⟨q0, q1, q2, q3, q4, q5, _⟩ := bx.below b1
      go_wp2_with fail
      refine (HI.out _).mono ?_
      rintro e w2 ⟨rfl, rfl⟩
      go_wp2_with fail
      refine (HH.out _ B1).mono ?_
      rintro e w2 ⟨A2, c2, ks, n, rfl, hc2, o2, hk, -, b2⟩
      have HB2 := Lib.hid (B1.trans (b2.mono B1.size))
      have HO2 := Lib.hid o2
      have HK := Lib.hid (hk (by have := HB.out; omega))
      have hs1 : w.heap.size ≤ w1.heap.size := B1.size
      clear o2 b2 hk
      go_wp2_with fail
      go_ret2
      exact resIIC_own (by rw [HK.out]; exact HN.out) HO2.out hs1 (Nat.le_refl _) HB2.out
  · by_cases hp : partC m t cuts = 0
    · have h5 : moreC m t cuts = 5 := by
        by_cases hl : cuts.length = t.length
        · exact moreC_5 hp hl
        · exact absurd (moreC_0 hp hl) h1
      rw [h5] at HCC
      have HCX := Lib.hid HCC; clear HCC
      cases h2 : inB most 0 300 with
      | false =>
        rw [h2] at HIN
        have HI := Lib.hid HIN; clear HIN
        have HN := Lib.hid (nextCand_2 hp h2)
        have H1 := Lib.hid (And.intro h1 (And.intro h2 (And.intro hp h5))); clear h1 h2 hp h5
        go_enter Tryz.func28, Tryz.ntmps28
        go_wp2_with fail
        refine HCX.out.mono ?_
        rintro e w1 ⟨rfl, b1⟩
        go_wp2_with fail
        refine (HI.out _).mono ?_
        rintro e w2 ⟨rfl, rfl⟩
        go_wp2_with fail
        go_ret2
        exact resIIC_nil HN.out (B0.trans (b1.mono B0.size))
      | true =>
        rw [h2] at HIN
        have HI := Lib.hid HIN; clear HIN
        have HN := Lib.hid (nextCand_5 hp h2 h1)
        have H1 := Lib.hid (And.intro h1 (And.intro h2 (And.intro hp h5))); clear h1 h2 hp h5
        go_enter Tryz.func28, Tryz.ntmps28
        go_wp2_with fail
        refine HCX.out.mono ?_
        rintro e w1 ⟨rfl, b1⟩
        go_wp2_with fail
        refine (HI.out _).mono ?_
        rintro e w2 ⟨rfl, rfl⟩
        go_wp2_with fail
        go_ret2
        exact resIIC_nil HN.out (B0.trans (b1.mono B0.size))
    · have hpe := moreC_of hp
      rw [hpe] at HCC
      have HCX := Lib.hid HCC; clear HCC
      have HN := Lib.hid (nextCand_no (most := most) hp)
      have t1 : (partC m t cuts != 0) = true := by simpa using hp
      have t2 : (partC m t cuts == 5) = false := by
        have : partC m t cuts ≤ 2 := by unfold partC; split <;> (try split) <;> omega
        simp; omega
      have H1 := Lib.hid (And.intro h1 (And.intro hp hpe)); clear h1 hp hpe HIN
      go_enter Tryz.func28, Tryz.ntmps28
      go_wp2_with fail
      refine HCX.out.mono ?_
      rintro e w1 ⟨rfl, b1⟩
      go_wp2_with fail
      go_ret2
      exact resIIC_nil HN.out (B0.trans (b1.mono B0.size))
set_option maxRecDepth 100000 in
set_option maxHeartbeats 4000000 in
theorem specCountCandidates_any (m : Mk) (A : Option Addr) (c : Nat) (t : List (List Int)) (B : Option Addr) (d : Nat) (cuts : List (List Int)) (w : World) (h : RII w A t) (g : RII w B cuts) :
    Calls Tryz.prog 32 #[.agg #[.int .i64 m.c, .int .i64 m.d, .int .i64 m.s, .int .i64 m.a, .int .i64 m.l, .slice A t.length c], .slice B cuts.length d] w (ResNC w (countCandR m t cuts)) := by
  have B0 := (Below.refl w.heap.size w).alloc (Nat.le_refl _) (.cells #[.int .i64 m.c, .int .i64 m.d, .int .i64 m.s, .int .i64 m.a, .int .i64 m.l, .slice A t.length c] 45)
  have bx : BoxC (w.alloc (.cells #[.int .i64 m.c, .int .i64 m.d, .int .i64 m.s, .int .i64 m.a, .int .i64 m.l, .slice A t.length c] 45)) w.heap.size 0 [.int .i64 m.c, .int .i64 m.d, .int .i64 m.s, .int .i64 m.a, .int .i64 m.l, .slice A t.length c] := by simp [BoxC, Go.World.cell?_alloc_at]
  have HCC := l16Code_any m A c t B d cuts (w.alloc (.cells #[.int .i64 m.c, .int .i64 m.d, .int .i64 m.s, .int .i64 m.a, .int .i64 m.l, .slice A t.length c] 45)) (h.below B0) (g.below B0)
  have hs0 := B0.size
  have hl1 := h.le; have hl2 := g.le
  by_cases hp : partC m t cuts = 0
  rotate_left
  · have hpe := moreC_of hp
    have hm : moreC m t cuts ≠ 0 := by rw [hpe]; exact hp
    have HN := Lib.hid (countCand_no hm)
    rw [hpe] at HN
    have t1 : (partC m t cuts != 0) = true := by simpa using hp
    have t2 : (partC m t cuts == 0) = false := by simpa using hp
    have HCX := Lib.hid HCC; clear HCC
    have H1 := Lib.hid (And.intro hp (And.intro hpe hm)); clear hp hpe hm
    go_enter Tryz.func32, Tryz.ntmps32
    go_wp2_with fail
    refine HCX.out.mono ?_
    rintro e w1 ⟨rfl, b1⟩
    go_wp2_with fail
    go_ret2
    exact resNC_of HN.out (B0.trans (b1.mono B0.size))
  rw [hp] at HCC
  have HCX := Lib.hid HCC; clear HCC
  by_cases hl : cuts.length = t.length
  · have h5 := moreC_5 hp hl
    have hm : moreC m t cuts ≠ 0 := by rw [h5]; decide
    have HN := Lib.hid (countCand_no hm)
    rw [h5] at HN
    have t1 : ((cuts.length : Int) == (t.length : Int)) = true := by rw [hl]; simp
    have H1 := Lib.hid (And.intro hp (And.intro hl (And.intro h5 hm))); clear hp hl h5 hm
    go_enter Tryz.func32, Tryz.ntmps32
    go_wp2_with fail
    refine HCX.out.mono ?_
    rintro e w1 ⟨rfl, b1⟩
    obtain ⟨q0, q1, q2, q3, q4, q5, _⟩ := bx.below b1
    have hws : w.heap.size < w1.heap.size := by have := b1.size; simp only [World.size_alloc] at this; omega
    go_wp2_with fail
    go_ret2
    exact resNC_of HN.out (B0.trans (b1.mono B0.size))
  · have h5 := moreC_0 hp hl
    have HY := Lib.hid (countCand_yes h5)
    have HF := Lib.hid (moreC_ok h5)
    have t1 : ((cuts.length : Int) == (t.length : Int)) = false := by simp; omega
    have HH := Lib.hid (fun (W : World) (hW : Below w.heap.size w W) => l16Candidates_any m A c t B d cuts 1000000 W (h.below hW) (g.below hW) HF.out.2.1 HF.out.2.2 (Nat.le_refl _))
    have HTK := Lib.hid (show (candsF m t cuts).take 1000000 = candsF m t cuts from List.take_of_length_le (by have := candsF_len (t := t) (cuts := cuts) HF.out.2.1.mak; omega))
    obtain ⟨ls, hls⟩ : ∃ ls, ls = candsF m t cuts := ⟨_, rfl⟩
    rw [HTK.out, ← hls] at HH
    rw [← hls] at HY
    have H1 := Lib.hid (And.intro hp (And.intro hl (And.intro h5 hls))); clear hp hl h5 hls HTK
    go_enter Tryz.func32, Tryz.ntmps32
    go_wp2_with fail
    refine HCX.out.mono ?_
    rintro e w1 ⟨rfl, b1⟩
    have B1 := B0.trans (b1.mono B0.size)
    obtain ⟨q0, q1, q2, q3, q4, q5, _⟩ := bx.below b1
    have hws : w.heap.size < w1.heap.size := by have := b1.size; simp only [World.size_alloc] at this; omega
    go_wp2_with fail
    refine (HH.out _ B1).mono ?_
    rintro e w2 ⟨A2, c2, rfl, hc2, r2, b2⟩
    have HB2 := Lib.hid (B1.trans (b2.mono B1.size))
    have hl2' := r2.le
    clear r2 b2
    go_wp2_with fail
    go_ret2
    exact resNC_of HY.out HB2.out
set_option maxRecDepth 100000 in
set_option maxHeartbeats 4000000 in
theorem specNextCandidates_any (m : Mk) (A : Option Addr) (c : Nat) (t : List (List Int)) (B : Option Addr) (d : Nat) (cuts : List (List Int)) (most : Int) (w : World) (h : RII w A t) (g : RII w B cuts) (hwf : (Lit.int .i64 most).wf = true) :
    Calls Tryz.prog 29 #[.agg #[.int .i64 m.c, .int .i64 m.d, .int .i64 m.s, .int .i64 m.a, .int .i64 m.l, .slice A t.length c], .slice B cuts.length d, .int .i64 most] w (RdIIC w (nextCandR m t cuts most)) := by
  have B0 := (Below.refl w.heap.size w).alloc (Nat.le_refl _) (.cells #[.int .i64 m.c, .int .i64 m.d, .int .i64 m.s, .int .i64 m.a, .int .i64 m.l, .slice A t.length c] 45)
  have bx : BoxC (w.alloc (.cells #[.int .i64 m.c, .int .i64 m.d, .int .i64 m.s, .int .i64 m.a, .int .i64 m.l, .slice A t.length c] 45)) w.heap.size 0 [.int .i64 m.c, .int .i64 m.d, .int .i64 m.s, .int .i64 m.a, .int .i64 m.l, .slice A t.length c] := by simp [BoxC, Go.World.cell?_alloc_at]
  have HCC := l16Code_any m A c t B d cuts (w.alloc (.cells #[.int .i64 m.c, .int .i64 m.d, .int .i64 m.s, .int .i64 m.a, .int .i64 m.l, .slice A t.length c] 45)) (h.below B0) (g.below B0)
  have hs0 := B0.size
  have hl1 := h.le; have hl2 := g.le
  have HIN := l01In_any most 0 300
  by_cases hp : partC m t cuts = 0
  rotate_left
  · have HN := Lib.hid (nextCand_no (most := most) hp)
    have t1 : (partC m t cuts != 0) = true := by simpa using hp
    have t2 : (partC m t cuts == 0) = false := by simpa using hp
    have HCX := Lib.hid HCC; clear HCC HIN
    have H1 := Lib.hid hp; clear hp
    go_enter Tryz.func29, Tryz.ntmps29
    go_wp2_with fail
    refine HCX.out.mono ?_
    rintro e w1 ⟨rfl, b1⟩
    go_wp2_with fail
    go_ret2
    exact rdIIC_nil HN.out (B0.trans (b1.mono B0.size))
  rw [hp] at HCC
  have HCX := Lib.hid HCC; clear HCC
  cases h2 : inB most 0 300 with
  | false =>
    rw [h2] at HIN
    have HI := Lib.hid HIN; clear HIN
    have HN := Lib.hid (nextCand_2 hp h2)
    have H1 := Lib.hid (And.intro hp h2); clear hp h2
    go_enter Tryz.func29, Tryz.ntmps29
    go_wp2_with fail
    refine HCX.out.mono ?_
    rintro e w1 ⟨rfl, b1⟩
    go_wp2_with fail
    refine (HI.out _).mono ?_
    rintro e w2 ⟨rfl, rfl⟩
    go_wp2_with fail
    go_ret2
    exact rdIIC_nil HN.out (B0.trans (b1.mono B0.size))
  | true =>
    rw [h2] at HIN
    have HI := Lib.hid HIN; clear HIN
    by_cases hl : cuts.length = t.length
    · have h5 := moreC_5 hp hl
      have hm : moreC m t cuts ≠ 0 := by rw [h5]; decide
      have HN := Lib.hid (nextCand_5 hp h2 hm)
      have t1 : ((cuts.length : Int) == (t.length : Int)) = true := by rw [hl]; simp
      have H1 := Lib.hid (And.intro hp (And.intro hl (And.intro h5 (And.intro hm h2)))); clear hp hl h5 hm h2
      go_enter Tryz.func29, Tryz.ntmps29
      go_wp2_with fail
      refine HCX.out.mono ?_
      rintro e w1 ⟨rfl, b1⟩
      obtain ⟨q0, q1, q2, q3, q4, q5, _⟩ := bx.below b1
      have hws : w.heap.size < w1.heap.size := by have := b1.size; simp only [World.size_alloc] at this; omega
      go_wp2_with fail
      refine (HI.out _).mono ?_
      rintro e w2 ⟨rfl, rfl⟩
      go_wp2_with fail
      go_ret2
      exact rdIIC_nil HN.out (B0.trans (b1.mono B0.size))
    · have h5 := moreC_0 hp hl
      have hb := inB_iff.1 h2
      obtain ⟨k, rfl⟩ : ∃ k : Nat, most = (k : Int) := ⟨most.toNat, by omega⟩
      have HN := Lib.hid (nextCand_yes h5 h2)
      rw [Int.toNat_natCast] at HN
      have HF := Lib.hid (moreC_ok h5)
      have t1 : ((cuts.length : Int) == (t.length : Int)) = false := by simp; omega
      have HH := Lib.hid (fun (W : World) (hW : Below w.heap.size w W) => l16Candidates_any m A c t B d cuts k W (h.below hW) (g.below hW) HF.out.2.1 HF.out.2.2 (by omega))
      obtain ⟨ls, hls⟩ : ∃ ls, ls = (candsF m t cuts).take k := ⟨_, rfl⟩
      rw [← hls] at HH HN
      have H1 := Lib.hid (And.intro hp (And.intro hl (And.intro h5 (And.intro hls (And.intro h2 hb))))); clear hp hl h5 hls h2 hb
      go_enter Tryz.func29, Tryz.ntmps29
      go_wp2_with fail
      refine HCX.out.mono ?_
      rintro e w1 ⟨rfl, b1⟩
      have B1 := B0.trans (b1.mono B0.size)
      obtain ⟨q0, q1, q2, q3, q4, q5, _⟩ := bx.below b1
      have hws : w.heap.size < w1.heap.size := by have := b1.size; simp only [World.size_alloc] at this; omega
      go_wp2_with fail
      refine (HI.out _).mono ?_
      rintro e w2 ⟨rfl, rfl⟩
      go_wp2_with fail
      refine (HH.out _ B1).mono ?_
      rintro e w2 ⟨A2, c2, rfl, hc2, r2, b2⟩
      have HB2 := Lib.hid (B1.trans (b2.mono B1.size))
      have HR2 := Lib.hid r2
      clear r2 b2
      go_wp2_with fail
      go_ret2
      exact rdIIC_of HN.out hc2 HR2.out HB2.out
end Go.Proofs.YtdedajohkdbdkaaGreat
