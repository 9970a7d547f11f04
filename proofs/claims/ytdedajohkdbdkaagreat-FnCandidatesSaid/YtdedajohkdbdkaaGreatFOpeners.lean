/- Contract of l02Begins. -/
import Derived.Test.YtdedajohkdbdkaaGreatEach
namespace Go.Proofs.YtdedajohkdbdkaaGreat
set_option linter.unusedVariables false
open Go.RowKit
theorem begins_bad {m : Mk} {xs : List Int} {k : Nat} (hk : k < xs.length) (h : (stepAt m.s xs k && runAt m.a xs k) = false) : begins m xs = false := by
  unfold begins stepsOK runsOK
  rcases Bool.and_eq_false_iff.1 h with h | h
  · rw [rangeAll_bad hk h]; rfl
  · rw [rangeAll_bad hk h, Bool.and_false]
theorem begins_all {m : Mk} {xs : List Int} (h1 : (List.range xs.length).all (stepAt m.s xs) = true) (h2 : (List.range xs.length).all (runAt m.a xs) = true) : begins m xs = true := by
  unfold begins stepsOK runsOK; rw [h1, h2]; rfl
set_option maxRecDepth 100000 in
set_option maxHeartbeats 4000000 in
theorem l02Begins_any (m : Mk) (A : Option Addr) (c : Nat) (xs : List Int) (w : World) (h : RI w A xs) (hm : isMaker m = true) (hv : allW 0 (m.d - 1) xs = true) (hn : xs.length ≤ 6) :
    Calls Tryz.prog 141 #[.agg #[.int .i64 m.c, .int .i64 m.d, .int .i64 m.s, .int .i64 m.a, .int .i64 m.l], .slice A xs.length c] w fun e w' => e = .returned (.bool (begins m xs)) ∧ Below w.heap.size w w' := by
  have B0 := (Below.refl w.heap.size w).alloc (Nat.le_refl _) (.cells #[.int .i64 m.c, .int .i64 m.d, .int .i64 m.s, .int .i64 m.a, .int .i64 m.l] 25)
  obtain ⟨c1, c2, d1, d2, s1, s2, a1, a2, l1, l2, l3⟩ := mk_bounds hm
  have hle := h.le
  have HV := Lib.hid hv; clear hv hm
  have h1 := h.below B0
  go_enter Tryz.func141, Tryz.ntmps141
  go_wp2_with fail
  go_loopw [5, 6] (fun r i wr => ∃ k n : Nat, k ≤ xs.length ∧ i = .int .i64 k ∧ r = .int .i64 (runOf xs k) ∧ wr = (w.alloc (.cells #[.int .i64 m.c, .int .i64 m.d, .int .i64 m.s, .int .i64 m.a, .int .i64 m.l] 25)).drewN n ∧ (List.range k).all (stepAt m.s xs) = true ∧ (List.range k).all (runAt m.a xs) = true) (fun _ i _ => xs.length - (intOf i).toNat)
  case atStart => exact ⟨0, 0, by omega, rfl, rfl, rfl, rfl, rfl⟩
  case round =>
    obtain ⟨k, n, hk, rfl, rfl, rfl, hst, hru⟩ := hrel
    have Hst := Lib.hid hst; have Hru := Lib.hid hru; clear hst hru
    have q1 := runOf_le xs k hk
    by_cases hlt : k < xs.length
    · obtain ⟨b, o, rfl, hc⟩ := h1.at_ hlt
      have i0 : (0 : Int) ≤ (k : Int) := by omega
      have i1 : (k : Int) < (xs.length : Int) := by omega
      have v1 := allW_at HV.out hlt
      have v2 := v1.1; have v3 := v1.2
      clear v1
      by_cases hk0 : k = 0
      · subst hk0
        have t2 : decide ((0 : Int) < ((0 : Nat) : Int)) = false := by simp
        have HS := Lib.hid (show (List.range (0 + 1)).all (stepAt m.s xs) = true by simp [List.range_succ, stepAt])
        have HX := Lib.hid (show endRun (xs.take (0 + 1)) = 1 by rw [List.take_succ_eq_append_getElem hlt]; simp [endRun_one])
        have HU := Lib.hid (show (List.range (0 + 1)).all (runAt m.a xs) = true by
          simp only [List.range_succ, List.range_zero, List.nil_append, List.all_cons, List.all_nil, Bool.and_true, runAt]; rw [HX.out]; simp; omega)
        have r0 : ((runOf xs 0 : Nat) : Int) = 0 := rfl
        have ra : decide (m.a < 1) = false := decide_eq_false (by omega)
        go_wp2_with fail
        go_quiet (fail)
        go_wp2_with fail
        go_quiet (fail)
        go_wp2_with fail
        go_roundw
        case rel => exact ⟨1, _, by omega, by go_num, by simp only [runOf]; rw [if_neg (by omega)]; rw [HX.out]; rfl, rfl, HS.out, HU.out⟩
        case measure => simp [intOf]; omega
      · obtain ⟨j, rfl⟩ : ∃ j, k = j + 1 := ⟨k - 1, by omega⟩
        obtain ⟨b2, o2, e2, hc2⟩ := h1.at_ (k := j) (by omega)
        injection e2 with e2
        injection e2 with e3 e4
        subst e3 e4
        have v4 := allW_at HV.out (k := j) (by omega)
        have v5 := v4.1; have v6 := v4.2
        clear v4
        have i2 : (0 : Int) ≤ (j : Int) := by omega
        have i3 : (j : Int) < (xs.length : Int) := by omega
        have i4 : (0 : Int) < (j : Int) + 1 := by omega
        have HS := Lib.hid (stepAt_pos (s := m.s) hlt)
        have HE := Lib.hid (endRun_succ xs j hlt)
        have HR1 := Lib.hid (show runOf xs (j + 1) = endRun (xs.take (j + 1)) by simp [runOf])
        have HR2 := Lib.hid (show runOf xs (j + 1 + 1) = endRun (xs.take (j + 1 + 1)) by simp [runOf])
        have HRA := Lib.hid (show runAt m.a xs (j + 1) = decide ((endRun (xs.take (j + 1 + 1)) : Int) ≤ m.a) from rfl)
        have e5 := fun W => l01Abs_any (xs[j + 1] - xs[j]) W (by omega) (by omega)
        have E5 := Lib.hid e5; clear e5
        cases hq : (xs[j + 1] != xs[j]) with
        | true =>
          have HQ := Lib.hid (show endRun (xs.take (j + 1 + 1)) = 1 by rw [HE.out, if_neg (by simp at hq; omega)])
          cases hr : decide (m.a < (1 : Int)) with
          | true =>
            have HR := Lib.hid (show begins m xs = false from begins_bad hlt (by rw [HRA.out, HQ.out, Bool.and_eq_false_iff]; right; simp at hr ⊢; omega))
            go_wp2_with fail
            go_quiet (fail)
            go_wp2_with fail
            go_quiet (fail)
            go_wp2_with fail
            go_ret
            exact ⟨retB HR.out.symm, by first | exact belowD B0 _ | exact belowD (belowD B0 _) _⟩
          | false =>
            cases hp : decide (m.s < absI (xs[j + 1] - xs[j])) with
            | true =>
              have HR := Lib.hid (show begins m xs = false from begins_bad hlt (by rw [HS.out, Bool.and_eq_false_iff]; left; simp at hp ⊢; omega))
              go_wp2_with fail
              go_quiet (fail)
              go_wp2_with fail
              go_quiet ((go_at_call 109; first | exact quietSA (E5.out _) | exact quietS (E5.out _)))
              go_wp2_with fail
              go_ret
              exact ⟨retB HR.out.symm, by first | exact belowD B0 _ | exact belowD (belowD B0 _) _⟩
            | false =>
              have HO := Lib.hid (show (List.range (j + 1 + 1)).all (stepAt m.s xs) = true by rw [rangeAll_next, Hst.out, HS.out]; simp at hp ⊢; omega)
              have HU := Lib.hid (show (List.range (j + 1 + 1)).all (runAt m.a xs) = true by rw [rangeAll_next, Hru.out, HRA.out, HQ.out]; simp at hr ⊢; omega)
              go_wp2_with fail
              go_quiet (fail)
              go_wp2_with fail
              go_quiet ((go_at_call 109; first | exact quietSA (E5.out _) | exact quietS (E5.out _)))
              go_wp2_with fail
              go_roundw
              case rel => exact ⟨j + 1 + 1, _, by omega, by go_num, by rw [HR2.out, HQ.out]; go_num, rfl, HO.out, HU.out⟩
              case measure => simp [intOf]; omega
        | false =>
          have HQ := Lib.hid (show endRun (xs.take (j + 1 + 1)) = runOf xs (j + 1) + 1 by rw [HE.out, if_pos (by simp at hq; omega), HR1.out])
          cases hr : decide (m.a < ((runOf xs (j + 1) : Int) + 1)) with
          | true =>
            have HR := Lib.hid (show begins m xs = false from begins_bad hlt (by rw [HRA.out, HQ.out, Bool.and_eq_false_iff]; right; simp at hr ⊢; omega))
            go_wp2_with fail
            go_quiet (fail)
            go_wp2_with fail
            go_quiet (fail)
            go_wp2_with fail
            go_ret
            exact ⟨retB HR.out.symm, by first | exact belowD B0 _ | exact belowD (belowD B0 _) _⟩
          | false =>
            cases hp : decide (m.s < absI (xs[j + 1] - xs[j])) with
            | true =>
              have HR := Lib.hid (show begins m xs = false from begins_bad hlt (by rw [HS.out, Bool.and_eq_false_iff]; left; simp at hp ⊢; omega))
              go_wp2_with fail
              go_quiet (fail)
              go_wp2_with fail
              go_quiet ((go_at_call 109; first | exact quietSA (E5.out _) | exact quietS (E5.out _)))
              go_wp2_with fail
              go_ret
              exact ⟨retB HR.out.symm, by first | exact belowD B0 _ | exact belowD (belowD B0 _) _⟩
            | false =>
              have HO := Lib.hid (show (List.range (j + 1 + 1)).all (stepAt m.s xs) = true by rw [rangeAll_next, Hst.out, HS.out]; simp at hp ⊢; omega)
              have HU := Lib.hid (show (List.range (j + 1 + 1)).all (runAt m.a xs) = true by rw [rangeAll_next, Hru.out, HRA.out, HQ.out]; simp at hr ⊢; omega)
              go_wp2_with fail
              go_quiet (fail)
              go_wp2_with fail
              go_quiet ((go_at_call 109; first | exact quietSA (E5.out _) | exact quietS (E5.out _)))
              go_wp2_with fail
              go_roundw
              case rel => exact ⟨j + 1 + 1, _, by omega, by go_num, by rw [HR2.out, HQ.out]; go_num, rfl, HO.out, HU.out⟩
              case measure => simp [intOf]; omega
    · obtain rfl : k = xs.length := by omega
      have HR := Lib.hid (begins_all Hst.out Hru.out)
      go_wp2_with fail
      go_ret
      exact ⟨retB HR.out.symm, belowD B0 _⟩
end Go.Proofs.YtdedajohkdbdkaaGreat

/- Contract of l04Openers. -/
namespace Go.Proofs.YtdedajohkdbdkaaGreat
set_option linter.unusedVariables false
open Go.RowKit
/-- rows that read, in blocks of which K holds -/
def RowsK (w : World) (K : Nat → Prop) (us : List Value) (xss : List (List Int)) : Prop :=
  us.length = xss.length ∧ ∀ j (hj : j < xss.length), ∃ A c, us[j]? = some (.slice A xss[j].length c) ∧ xss[j].length ≤ c ∧ RI w A xss[j] ∧ ∀ b o, A = some ⟨b, o, none⟩ → K b ∧ b < w.heap.size
theorem RowsK.app {w : World} {K : Nat → Prop} {us vs : List Value} {xss yss : List (List Int)} (h : RowsK w K us xss) (g : RowsK w K vs yss) : RowsK w K (us ++ vs) (xss ++ yss) := by
  refine ⟨by simp [h.1, g.1], fun j hj => ?_⟩
  have hl := h.1
  by_cases hx : j < xss.length
  · rw [List.getElem?_append_left (by omega), List.getElem_append_left hx]
    exact h.2 j hx
  · rw [List.getElem?_append_right (by omega), List.getElem_append_right (by omega), hl]
    exact g.2 (j - xss.length) (by simp at hj; omega)
theorem RowsK.keep {w w' : World} {K K' G : Nat → Prop} {us : List Value} {xss : List (List Int)} (h : RowsK w K us xss) (k : KeepF G w w') (hG : ∀ b, b < w.heap.size → K b → ¬ G b ∧ K' b) : RowsK w' K' us xss := by
  refine ⟨h.1, fun j hj => ?_⟩
  obtain ⟨A, c, h1, h2, h3, h4⟩ := h.2 j hj
  exact ⟨A, c, h1, h2, RV.keepF h3 k (fun b o e => (hG b (h4 b o e).2 (h4 b o e).1).1), fun b o e => ⟨(hG b (h4 b o e).2 (h4 b o e).1).2, by have := k.size; have := (h4 b o e).2; omega⟩⟩
theorem RowsK.nil {w : World} {K : Nat → Prop} : RowsK w K [] [] := ⟨rfl, fun j hj => by simp at hj⟩
theorem RowsK.one {w : World} {K : Nat → Prop} {A : Option Addr} {c : Nat} {xs : List Int} (hc : xs.length ≤ c) (h : RI w A xs) (hk : ∀ b o, A = some ⟨b, o, none⟩ → K b ∧ b < w.heap.size) : RowsK w K [.slice A xs.length c] [xs] := by
  refine ⟨rfl, fun j hj => ?_⟩
  match j, hj with
  | 0, _ => exact ⟨A, c, rfl, hc, h, hk⟩
theorem RowsK.rii {w : World} {K : Nat → Prop} {A : Option Addr} {us : List Value} {xss : List (List Int)} (h : RowsK w K us xss) (g : RV w A us) : RII w A xss :=
  ⟨us, h.1, g, fun j hj => by obtain ⟨A, c, h1, h2, h3, _⟩ := h.2 j hj; exact ⟨A, c, h1, h2, h3⟩⟩
theorem RowsK.ones {w : World} {K : Nat → Prop} {us : List Value} {xss : List (List Int)} (h : RowsK w K us xss) : ∀ u ∈ us, u.oneCell' = true := by
  intro u hu
  obtain ⟨j, hj, rfl⟩ := List.getElem_of_mem hu
  obtain ⟨A, c, h1, _⟩ := h.2 j (by have := h.1; omega)
  rw [List.getElem?_eq_getElem hj] at h1
  injection h1 with h1
  rw [h1]; rfl
/-- lists of lists that read, in blocks of which K holds -/
def ResK (w : World) (K : Nat → Prop) (xss : List (List Int)) (e : Ending) (w' : World) : Prop :=
  ∃ A c us, e = .returned (.slice A xss.length c) ∧ xss.length ≤ c ∧ RV w' A us ∧ RowsK w' K us xss ∧ Below w.heap.size w w' ∧ ∀ b o, A = some ⟨b, o, none⟩ → w.heap.size ≤ b
theorem ResK.rd {w w' : World} {K : Nat → Prop} {xss : List (List Int)} {e : Ending} (h : ResK w K xss e w') : RdII w xss e w' := by
  obtain ⟨A, c, us, h1, h2, h3, h4, h5, _⟩ := h
  exact ⟨A, c, h1, h2, h4.rii h3, h5⟩
theorem resK_nil {w w' : World} {K : Nat → Prop} {xss : List (List Int)} (h : xss = []) (hb : Below w.heap.size w w') : ResK w K xss (.returned (.slice none 0 0)) w' := by
  subst h; exact ⟨none, 0, [], rfl, Nat.le_refl _, ⟨by simp, fun h => absurd rfl h⟩, RowsK.nil, hb, fun b o e => by cases e⟩
theorem openF_len (m : Mk) (l : List (List Int)) (hl : ∀ i, Inc 0 m.d (l.getD i [])) (r : Nat) (cuts : List Int) (most : Int) : (openF m l r cuts most).length ≤ most.toNat := by
  rw [openF_eq m l hl]; split
  · rw [List.length_take]; omega
  · simp
theorem openF_no (m : Mk) (l : List (List Int)) (r : Nat) (cuts : List Int) (most : Int) (h : (begins m cuts && decide (0 < most)) = false) : openF m l r cuts most = [] := by
  cases r <;> rw [openF, if_neg (by rw [h]; simp)]
/-- the openers with the first k depths of the set -/
def openG (m : Mk) (l : List (List Int)) (r : Nat) (cuts : List Int) (most : Int) (ds : List Int) : List (List Int) := ds.foldl (fun out d => out ++ openF m l r (cuts ++ [d]) (most - (out.length : Int))) []
theorem openG_succ (m : Mk) (l : List (List Int)) (r : Nat) (cuts : List Int) (most : Int) (ds : List Int) (k : Nat) (h : k < ds.length) : openG m l r cuts most (ds.take (k + 1)) = openG m l r cuts most (ds.take k) ++ openF m l r (cuts ++ [ds[k]]) (most - ((openG m l r cuts most (ds.take k)).length : Int)) := by
  unfold openG; rw [List.take_succ_eq_append_getElem h, List.foldl_append]; rfl
theorem openF_succ (m : Mk) (l : List (List Int)) (r : Nat) (cuts : List Int) (most : Int) (hb : begins m cuts = true) (h : 0 < most) : openF m l (r + 1) cuts most = openG m l r cuts most (l.getD cuts.length []) := by
  rw [openF, if_pos (by rw [hb]; simpa using h)]; rfl
theorem inc_few {hi : Int} : ∀ {xs : List Int} {lo : Int}, Inc lo hi xs → (xs.length : Int) ≤ hi - lo ∨ xs = []
  | [], _, _ => .inr rfl
  | x :: r, lo, h => by
    left
    have := h.1; have := h.2.1
    rcases inc_few h.2.2 with h1 | h1
    · rw [List.length_cons]; omega
    · subst h1; simp; omega
theorem allW_snoc {lo hi d : Int} {xs : List Int} (h : allW lo hi xs = true) (h1 : lo ≤ d) (h2 : d ≤ hi) : allW lo hi (xs ++ [d]) = true := by
  unfold allW at *; rw [List.all_append, h]; simp [inB]; omega
set_option maxRecDepth 100000 in
set_option maxHeartbeats 16000000 in
theorem l04Openers_go (m : Mk) (hm : isMaker m = true) (l : List (List Int)) (hlen : (l.length : Int) = m.c) (hl : ∀ i, Inc 0 m.d (l.getD i [])) : ∀ (r : Nat) (cuts : List Int) (most : Int) (D : Option Addr) (q : Nat) (A : Option Addr) (c : Nat) (w : World),
    RII w D l → RI w A cuts → cuts.length ≤ c → cuts.length + r = l.length → allW 0 (m.d - 1) cuts = true → 0 ≤ most → most ≤ 1000000 →
    Calls Tryz.prog 96 #[.agg #[.int .i64 m.c, .int .i64 m.d, .int .i64 m.s, .int .i64 m.a, .int .i64 m.l], .agg #[.slice D l.length q], .slice A cuts.length c, .int .i64 most] w (ResK w (fun b => w.heap.size ≤ b ∨ ∃ o, A = some ⟨b, o, none⟩) (openF m l r cuts most)) := by
  intro r
  induction r with
  | zero =>
    intro cuts most D q A c w h g hcap hcr haw hm0 hm1
    have hmb := mk_bounds hm
    have c1 : 2 ≤ m.c := hmb.1
    have c2 : m.c ≤ 6 := hmb.2.1
    have d8 : m.d ≤ 8 := hmb.2.2.2.1
    clear hmb
    have hn6 : cuts.length ≤ 6 := by omega
    have B0 := ((Below.refl w.heap.size w).alloc (Nat.le_refl _) (.cells #[.int .i64 m.c, .int .i64 m.d, .int .i64 m.s, .int .i64 m.a, .int .i64 m.l] 25)).alloc (by simp only [World.size_alloc]; omega) (.cells #[.slice D l.length q] 28)
    have HBG := l02Begins_any m A c cuts ((w.alloc (.cells #[.int .i64 m.c, .int .i64 m.d, .int .i64 m.s, .int .i64 m.a, .int .i64 m.l] 25)).alloc (.cells #[.slice D l.length q] 28)) (g.below B0) hm haw hn6
    have hle := g.le
    cases hbg : begins m cuts with
    | false =>
      have HR := Lib.hid (openF_no m l 0 cuts most (by rw [hbg]; rfl))
      rw [hbg] at HBG
      have HB := Lib.hid HBG; clear HBG
      go_enter Tryz.func96, Tryz.ntmps96
      go_wp2_with fail
      refine HB.out.mono ?_
      rintro e w1 ⟨rfl, b1⟩
      go_wp2_with fail
      go_ret
      exact resK_nil HR.out (B0.trans (b1.mono B0.size))
    | true =>
    rw [hbg] at HBG
    have HB := Lib.hid HBG; clear HBG
    by_cases hmp : 0 < most
    rotate_left
    · have HR := Lib.hid (openF_no m l 0 cuts most (by rw [hbg, decide_eq_false hmp]; rfl))
      have hz : most = 0 := by omega
      subst hz
      go_enter Tryz.func96, Tryz.ntmps96
      go_wp2_with fail
      refine HB.out.mono ?_
      rintro e w1 ⟨rfl, b1⟩
      go_wp2_with fail
      go_ret
      exact resK_nil HR.out (B0.trans (b1.mono B0.size))
    have hmp' : decide (most ≤ 0) = false := decide_eq_false (by omega)
    have hne : ((cuts.length : Int) == m.c) = true := by simp; omega
    have bm : BoxC ((w.alloc (.cells #[.int .i64 m.c, .int .i64 m.d, .int .i64 m.s, .int .i64 m.a, .int .i64 m.l] 25)).alloc (.cells #[.slice D l.length q] 28)) w.heap.size 0 [.int .i64 m.c, .int .i64 m.d, .int .i64 m.s, .int .i64 m.a, .int .i64 m.l] := by
      have : BoxC (w.alloc (.cells #[.int .i64 m.c, .int .i64 m.d, .int .i64 m.s, .int .i64 m.a, .int .i64 m.l] 25)) w.heap.size 0 [.int .i64 m.c, .int .i64 m.d, .int .i64 m.s, .int .i64 m.a, .int .i64 m.l] := by simp [BoxC, Go.World.cell?_alloc_at]
      exact this.below ((Below.refl _ _).alloc (Nat.le_refl _) _)
    have hpos : 0 < cuts.length := by omega
    cases hq : decide (kinds cuts < m.l) with
    | true =>
      have HR := Lib.hid (show openF m l 0 cuts most = [] by rw [openF, if_pos (by rw [hbg]; simpa using hmp), if_pos (by simpa using hq)])
      have HBG2 := Lib.hid hbg
      clear haw hl hlen hbg hm hcr
      go_enter Tryz.func96, Tryz.ntmps96
      go_wp2_with fail
      refine HB.out.mono ?_
      rintro e w1 ⟨rfl, b1⟩
      have B1 := B0.trans (b1.mono B0.size)
      obtain ⟨q0, q1, q2, q3, q4, _⟩ := bm.below b1
      have h1 := g.below B1
      go_wp2_with fail
      go_quiet ((go_at_call 136; first | exact quietQA (l02Kinds_any _ _ _ _ (h1.drewN _) hcap) | exact quietQ (l02Kinds_any _ _ _ _ (h1.drewN _) hcap)))
      go_wp2_with fail
      go_ret
      exact resK_nil HR.out (by first | exact belowD B1 _ | exact belowD (belowD B1 _) _)
    | false =>
      have HR := Lib.hid (show openF m l 0 cuts most = [cuts] by rw [openF, if_pos (by rw [hbg]; simpa using hmp), if_neg (by simpa using hq)])
      clear haw hl hlen hbg hm hcr
      go_enter Tryz.func96, Tryz.ntmps96
      go_wp2_with fail
      refine HB.out.mono ?_
      rintro e w1 ⟨rfl, b1⟩
      have B1 := B0.trans (b1.mono B0.size)
      obtain ⟨q0, q1, q2, q3, q4, _⟩ := bm.below b1
      have h1 := g.below B1
      go_wp2_with fail
      go_quiet ((go_at_call 136; first | exact quietQA (l02Kinds_any _ _ _ _ (h1.drewN _) hcap) | exact quietQ (l02Kinds_any _ _ _ _ (h1.drewN _) hcap)))
      generalize hw2 : w1.drewN _ = w2 at *
      have B2 : Below w.heap.size w w2 := by subst hw2; exact belowD B1 _
      have g2 := g.below B2
      have HB2 := Lib.hid B2
      clear hw2 h1 q0 q1 q2 q3 q4
      go_wp2_with fail
      go_ret
      rw [HR.out]
      exact ⟨_, 1, [.slice A cuts.length c], rfl, Nat.le_refl _, RV.one w2 _ _, RowsK.one hcap (g2.alloc _) (fun b o e => ⟨.inr ⟨o, e⟩, by
        subst e
        obtain ⟨b', o', e', hc'⟩ := (g2.alloc (.cells #[.slice (some ⟨b, o, none⟩) cuts.length c] 33)).at_ hpos
        injection e' with e'; injection e' with e1 e2
        subst e1 e2
        exact World.block_lt_of_cell? _ _ hc'⟩), HB2.out.alloc HB2.out.size _, fun b o e => by injection e with e; injection e with e1 _ _; have := HB2.out.size; omega⟩
  | succ r ih =>
  intro cuts most D q A c w h g hcap hcr haw hm0 hm1
  have hmb := mk_bounds hm
  have c1 : 2 ≤ m.c := hmb.1
  have c2 : m.c ≤ 6 := hmb.2.1
  have d8 : m.d ≤ 8 := hmb.2.2.2.1
  clear hmb
  have hn6 : cuts.length ≤ 6 := by omega
  have B0 := ((Below.refl w.heap.size w).alloc (Nat.le_refl _) (.cells #[.int .i64 m.c, .int .i64 m.d, .int .i64 m.s, .int .i64 m.a, .int .i64 m.l] 25)).alloc (by simp only [World.size_alloc]; omega) (.cells #[.slice D l.length q] 28)
  have HBG := l02Begins_any m A c cuts ((w.alloc (.cells #[.int .i64 m.c, .int .i64 m.d, .int .i64 m.s, .int .i64 m.a, .int .i64 m.l] 25)).alloc (.cells #[.slice D l.length q] 28)) (g.below B0) hm haw hn6
  have hle := g.le
  cases hbg : begins m cuts with
  | false =>
    have HR := Lib.hid (openF_no m l (r + 1) cuts most (by rw [hbg]; rfl))
    rw [hbg] at HBG
    have HB := Lib.hid HBG; clear HBG
    go_enter Tryz.func96, Tryz.ntmps96
    go_wp2_with fail
    refine HB.out.mono ?_
    rintro e w1 ⟨rfl, b1⟩
    go_wp2_with fail
    go_ret
    exact resK_nil HR.out (B0.trans (b1.mono B0.size))
  | true =>
  rw [hbg] at HBG
  have HB := Lib.hid HBG; clear HBG
  by_cases hmp : 0 < most
  rotate_left
  · have HR := Lib.hid (openF_no m l (r + 1) cuts most (by rw [hbg, decide_eq_false hmp]; rfl))
    have hz : most = 0 := by omega
    subst hz
    go_enter Tryz.func96, Tryz.ntmps96
    go_wp2_with fail
    refine HB.out.mono ?_
    rintro e w1 ⟨rfl, b1⟩
    go_wp2_with fail
    go_ret
    exact resK_nil HR.out (B0.trans (b1.mono B0.size))
  have hmp' : decide (most ≤ 0) = false := decide_eq_false (by omega)
  have hne : ((cuts.length : Int) == m.c) = false := by simp; omega
  have hcl : cuts.length < l.length := by omega
  have HCR := Lib.hid hcr
  have HR := Lib.hid (openF_succ m l r cuts most hbg hmp)
  have bx : BoxC ((w.alloc (.cells #[.int .i64 m.c, .int .i64 m.d, .int .i64 m.s, .int .i64 m.a, .int .i64 m.l] 25)).alloc (.cells #[.slice D l.length q] 28)) (w.heap.size + 1) 0 [.slice D l.length q] := by simp [BoxC, Go.World.cell?_alloc_at]
  have bm : BoxC ((w.alloc (.cells #[.int .i64 m.c, .int .i64 m.d, .int .i64 m.s, .int .i64 m.a, .int .i64 m.l] 25)).alloc (.cells #[.slice D l.length q] 28)) w.heap.size 0 [.int .i64 m.c, .int .i64 m.d, .int .i64 m.s, .int .i64 m.a, .int .i64 m.l] := by
    have : BoxC (w.alloc (.cells #[.int .i64 m.c, .int .i64 m.d, .int .i64 m.s, .int .i64 m.a, .int .i64 m.l] 25)) w.heap.size 0 [.int .i64 m.c, .int .i64 m.d, .int .i64 m.s, .int .i64 m.a, .int .i64 m.l] := by simp [BoxC, Go.World.cell?_alloc_at]
    exact this.below ((Below.refl _ _).alloc (Nat.le_refl _) _)
  obtain ⟨ss, hss⟩ : ∃ ss, ss = l[cuts.length] := ⟨_, rfl⟩
  have HSS := Lib.hid (show l.getD cuts.length [] = ss by rw [getD_row hcl, hss])
  have HINC := Lib.hid (show Inc 0 m.d ss by rw [← HSS.out]; exact hl _)
  have hs8 : ss.length ≤ 8 := by
    rcases inc_few HINC.out with h1 | h1
    · omega
    · subst h1; simp
  have HLK := Lib.hid hl
  have IH := Lib.hid ih
  have HAW := Lib.hid haw
  clear ih haw hl hlen hbg hm
  go_enter Tryz.func96, Tryz.ntmps96
  go_wp2_with fail
  refine HB.out.mono ?_
  rintro e w1 ⟨rfl, b1⟩
  have B1 := B0.trans (b1.mono B0.size)
  obtain ⟨p0, _⟩ := bx.below b1
  obtain ⟨q0, q1, q2, q3, q4, _⟩ := bm.below b1
  obtain ⟨bl, ol, As, cs, eD, hcl0, hcs, hrs⟩ := h.at_ hcl
  have hcl2 := cell_in B1 (World.block_lt_of_cell? w _ hcl0) hcl0
  rw [← hss] at hcl2 hcs hrs
  clear hcl0
  subst eD
  have s1 : w.heap.size + 2 ≤ w1.heap.size := by have := b1.size; simp only [World.size_alloc] at this; omega
  have HSSX := Lib.hid hss; clear hss
  have hles := hrs.le
  have s2 : w.heap.size + 1 < w1.heap.size := by omega
  have sb : bl < w1.heap.size := World.block_lt_of_cell? w1 _ hcl2
  have BX := Lib.hid (And.intro (bx.below b1) (bm.below b1))
  clear bx bm
  go_wp2_with fail
  go_loopw [9, 11] (fun v i wr => ∃ (k : Nat) (us : List Value) (out : List (List Int)) (v0 : Value), k ≤ ss.length ∧ i = .int .i64 k ∧ v = v0 ∧ out = openG m l r cuts most (ss.take k) ∧ (out.length : Int) ≤ most ∧ OV wr (w.heap.size + 2) 33 v0 us ∧ RowsK wr (fun b => w.heap.size ≤ b ∧ v0.ownBlock ≠ some b) us out ∧ Below (w.heap.size + 2) w1 wr) (fun _ i _ => ss.length - (intOf i).toNat)
  case atStart => exact ⟨0, [], [], _, by omega, rfl, rfl, rfl, by simpa using hm0, OV.new0 (by omega), RowsK.nil, (Below.refl _ _).alloc s1 _⟩
  case round =>
    obtain ⟨k, us, out, v0, hk, rfl, rfl, hout, hol, ho, hro, hb⟩ := hrel
    have HO := Lib.hid ho; have HRO := Lib.hid hro; have HOUT := Lib.hid hout
    have HUS := Lib.hid (show us.length ≤ 1000000 by have := hro.1; omega)
    have hsz := hb.size
    have Bw := B1.trans (hb.mono (by omega))
    obtain ⟨Av, cv, hv0, hcv⟩ : ∃ Av cv, u9 = .slice Av out.length cv ∧ out.length ≤ cv := by
      obtain ⟨A9, c9, e9, h9, _⟩ := ho.reads
      rw [hro.1] at e9 h9
      exact ⟨A9, c9, e9, h9⟩
    subst hv0
    clear ho hro hout
    by_cases hlt : k < ss.length
    · obtain ⟨bs, os, eA, hx0⟩ := hrs.at_ hlt
      subst eA
      have hxb := World.block_lt_of_cell? w _ hx0
      simp only at hxb
      have HSG := Lib.hid (openG_succ m l r cuts most ss k hlt)
      have hxr := inc_lo HINC.out ss[k] (List.getElem_mem hlt)
      obtain ⟨x, hx⟩ : ∃ x, x = ss[k] := ⟨_, rfl⟩
      rw [← hx] at HSG hxr hx0
      have HX := Lib.hid hx; clear hx
      obtain ⟨k2, hk2⟩ : ∃ k2, k2 = cuts ++ [x] := ⟨_, rfl⟩
      have HAW2 := Lib.hid (show allW 0 (m.d - 1) k2 = true by rw [hk2]; exact allW_snoc HAW.out hxr.1 (by omega))
      have HIN := Lib.hid (show ints cuts ++ [.int .i64 x] = ints k2 by rw [hk2, ints_append]; rfl)
      have HL2 := Lib.hid (show k2.length = cuts.length + 1 by rw [hk2]; simp)
      have HK2 := Lib.hid hk2; clear hk2
      have KS7 := Lib.hid (show ∀ w' : World, Below (w.heap.size + 2) w1 w' → (((w'.cell? ⟨w.heap.size, 0, none⟩ = some (.int .i64 m.c) ∧ w'.cell? ⟨w.heap.size, 1, none⟩ = some (.int .i64 m.d) ∧ w'.cell? ⟨w.heap.size, 2, none⟩ = some (.int .i64 m.s) ∧ w'.cell? ⟨w.heap.size, 3, none⟩ = some (.int .i64 m.a) ∧ w'.cell? ⟨w.heap.size, 4, none⟩ = some (.int .i64 m.l) ∧ True) ∧ (w'.cell? ⟨w.heap.size + 1, 0, none⟩ = some (.slice (some ⟨bl, ol, none⟩) l.length q) ∧ True)) ∧ w'.cell? ⟨bs, os + k, none⟩ = some (.int .i64 x)) from fun w' hw =>
        ⟨⟨BX.out.2.keep fun i v hv => cell_in hw (by simp only; omega) hv, BX.out.1.keep fun i v hv => cell_in hw (by simp only; omega) hv⟩, cell_in (B1.trans (hw.mono (by omega))) hxb hx0⟩)
      have KS := Lib.hid (show ∀ w' : World, Below wr.heap.size wr w' → _ from fun w' hw => KS7.out w' (hb.trans (hw.mono (by omega))))
      have i0 : (0 : Int) ≤ (k : Int) := by omega
      have i1 : (k : Int) < (ss.length : Int) := by omega
      have OWN := Lib.hid (fun (W : World) (hW : Below wr.heap.size wr W) => l01Own_any A c cuts W (g.below (Bw.trans (hW.mono Bw.size))) (by omega))
      go_wp2_with fail
      refine wp_region_held_drew (S := (fun w' => (((w'.cell? ⟨w.heap.size, 0, none⟩ = some (.int .i64 m.c) ∧ w'.cell? ⟨w.heap.size, 1, none⟩ = some (.int .i64 m.d) ∧ w'.cell? ⟨w.heap.size, 2, none⟩ = some (.int .i64 m.s) ∧ w'.cell? ⟨w.heap.size, 3, none⟩ = some (.int .i64 m.a) ∧ w'.cell? ⟨w.heap.size, 4, none⟩ = some (.int .i64 m.l) ∧ True) ∧ (w'.cell? ⟨w.heap.size + 1, 0, none⟩ = some (.slice (some ⟨bl, ol, none⟩) l.length q) ∧ True)) ∧ w'.cell? ⟨bs, os + k, none⟩ = some (.int .i64 x)))) (by kernel_rfl) (KS.out _ (belowDrew0 _)) (fun hHeld => ?_)
      refine takeD (i := 0) (some 45) (.slice Av out.length cv) rfl (by kernel_rfl) (by kernel_rfl) (by kernel_rfl) (by kernel_rfl) (fun _ _ _ h => h) (by assumption) (Or.inl ⟨by rfl, fun w hSw => by (try dsimp only at hSw); go_simp⟩) ?_
      simp only [Act.put, List.setIfInBounds_toArray, List.set_cons_zero, List.set_cons_succ]
      refine takeD (i := 1) (some 46) (.agg #[.int .i64 m.c, .int .i64 m.d, .int .i64 m.s, .int .i64 m.a, .int .i64 m.l]) rfl (by kernel_rfl) (by kernel_rfl) (by kernel_rfl) (by kernel_rfl) (fun _ _ _ h => h) (by assumption) (Or.inl ⟨by rfl, fun w hSw => by (try dsimp only at hSw); go_simp⟩) ?_
      simp only [Act.put, List.setIfInBounds_toArray, List.set_cons_zero, List.set_cons_succ]
      refine takeD (i := 2) (some 47) (.agg #[.slice (some ⟨bl, ol, none⟩) l.length q]) rfl (by kernel_rfl) (by kernel_rfl) (by kernel_rfl) (by kernel_rfl) (fun _ _ _ h => h) (by assumption) (Or.inl ⟨by rfl, fun w hSw => by (try dsimp only at hSw); go_simp⟩) ?_
      simp only [Act.put, List.setIfInBounds_toArray, List.set_cons_zero, List.set_cons_succ]
      refine takeD (i := 3) (some 48) (.slice A cuts.length c) rfl (by kernel_rfl) (by kernel_rfl) (by kernel_rfl) (by kernel_rfl) (fun _ _ _ h => h) (by assumption) (Or.inl ⟨by rfl, fun w hSw => by (try dsimp only at hSw); go_simp⟩) ?_
      simp only [Act.put, List.setIfInBounds_toArray, List.set_cons_zero, List.set_cons_succ]
      refine takeD (i := 5) (some 50) (.slice (some ⟨bs, os, none⟩) ss.length cs) rfl (by kernel_rfl) (by kernel_rfl) (by kernel_rfl) (by kernel_rfl) (fun _ _ _ h => h) (by assumption) (Or.inl ⟨by rfl, fun w hSw => by (try dsimp only at hSw); go_simp⟩) ?_
      simp only [Act.put, List.setIfInBounds_toArray, List.set_cons_zero, List.set_cons_succ]
      refine takeD (i := 6) (some 51) (.int .i64 (k : Int)) rfl (by kernel_rfl) (by kernel_rfl) (by kernel_rfl) (by kernel_rfl) (fun _ _ _ h => h) (by assumption) (Or.inl ⟨by rfl, fun w hSw => by (try dsimp only at hSw); go_simp⟩) ?_
      simp only [Act.put, List.setIfInBounds_toArray, List.set_cons_zero, List.set_cons_succ]
      refine takeD (i := 7) (some 52) (.pointer (some ⟨bs, os + k, none⟩)) rfl (by kernel_rfl) (by kernel_rfl) (by kernel_rfl) (by kernel_rfl) (fun _ _ _ h => h) (by assumption) (Or.inl ⟨by rfl, fun w hSw => by (try dsimp only at hSw); go_simp⟩) ?_
      simp only [Act.put, List.setIfInBounds_toArray, List.set_cons_zero, List.set_cons_succ]
      refine takeD (i := 8) (some 53) (.int .i64 x) rfl (by kernel_rfl) (by kernel_rfl) (by kernel_rfl) (by kernel_rfl) (fun _ _ _ h => h) (by assumption) (Or.inl ⟨by rfl, fun w hSw => by (try dsimp only at hSw); go_simp⟩) ?_
      simp only [Act.put, List.setIfInBounds_toArray, List.set_cons_zero, List.set_cons_succ]
      refine takeD (i := 11) (some 56) (.int .i64 most) rfl (by kernel_rfl) (by kernel_rfl) (by kernel_rfl) (by kernel_rfl) (fun _ _ _ h => h) (by assumption) (Or.inl ⟨by rfl, fun w hSw => by (try dsimp only at hSw); go_simp⟩) ?_
      simp only [Act.put, List.setIfInBounds_toArray, List.set_cons_zero, List.set_cons_succ]
      refine takeD (i := 12) (some 57) (.slice Av out.length cv) rfl (by kernel_rfl) (by kernel_rfl) (by kernel_rfl) (by kernel_rfl) (fun _ _ _ h => h) (by assumption) (Or.inl ⟨by rfl, fun w hSw => by (try dsimp only at hSw); go_simp⟩) ?_
      simp only [Act.put, List.setIfInBounds_toArray, List.set_cons_zero, List.set_cons_succ]
      refine takeD (i := 13) (some 58) (.int .i64 (out.length : Int)) rfl (by kernel_rfl) (by kernel_rfl) (by kernel_rfl) (by kernel_rfl) (fun _ _ _ h => h) (by assumption) (Or.inl ⟨by rfl, fun w hSw => by (try dsimp only at hSw); go_simp⟩) ?_
      simp only [Act.put, List.setIfInBounds_toArray, List.set_cons_zero, List.set_cons_succ]
      refine takeD (i := 14) (some 59) (.int .i64 (most - (out.length : Int))) rfl (by kernel_rfl) (by kernel_rfl) (by kernel_rfl) (by kernel_rfl) (fun _ _ _ h => h) (by assumption) (Or.inl ⟨by rfl, fun w hSw => by (try dsimp only at hSw); go_simp; (rw [IntKind.wrap_i64]; omega)⟩) ?_
      simp only [Act.put, List.setIfInBounds_toArray, List.set_cons_zero, List.set_cons_succ]
      refine wpAnyH_ready (rs := [4, 9]) (by kernel_rfl) (by simp) (AllReadyH.cons rfl (fun K hK => ?_) (AllReadyH.cons rfl (fun K hK => ?_) AllReadyH.nil))
      · go_simp
        refine (OWN.out _ (belowDrew0 _)).mono ?_
        rintro e w4 ⟨A4, c4, rfl, hc4, hr4, ho4', hb4'⟩
        have Hb4 := Lib.hid (belowDrew hb4')
        have HHeld := KS.out _ Hb4.out
        refine hK.out _ _ HHeld (fun _ => ?_)
        clear hK K
        try simp only [Act.put, List.setIfInBounds_toArray, List.set_cons_zero, List.set_cons_succ]
        refine wpAnyH_ready (rs := [9]) (by kernel_rfl) (by simp) (AllReadyH.cons rfl (fun K hK => ?_) AllReadyH.nil)
        go_simp
        have hb4 := Hb4.out.alloc Hb4.out.size (.cells #[.int .i64 x] 2)
        have ho4 : OV (w4.alloc (.cells #[.int .i64 x] 2)) wr.heap.size 2 (.slice A4 cuts.length c4) (ints cuts) := ho4'.1.alloc _
        have hcell4 := one_cell w4 (.int .i64 x) 2
        clear ho4' hr4 hb4'
        have HHeld := KS.out _ hb4
        refine hK.out _ _ HHeld (fun _ => ?_)
        clear hK K
        try simp only [Act.put, List.setIfInBounds_toArray, List.set_cons_zero, List.set_cons_succ]
        refine wpAnyH_ready (rs := [10]) (by kernel_rfl) (by simp) (AllReadyH.cons rfl (fun K hK => ?_) AllReadyH.nil)
        refine step_app1 _ (by rfl) _ _ _ (by rfl) wr.heap.size 2 _ 8 Tryz.underlying33 info_int rfl (by omega) _ _ (by rfl) ho4 _ _ (by rfl) hcell4 rfl (by rw [ints_length]; omega) (by have := hb4.size; omega) ?_
        intro v5 w5 ho5 hg5 hn5 hat5
        have hb5 := ho4.own (Nat.le_refl _) hb4 hg5 hb4.size
        rw [HIN.out] at ho5
        have hl2 := HL2.out
        obtain ⟨g5, c5, rfl, hg5a, hg5b, hcc5, _, _⟩ := ho5.open1 (by omega)
        have hr5 : RI w5 (some ⟨g5, 0, none⟩) k2 := by
          obtain ⟨A9, c9, e9, _, h9⟩ := ho5.reads
          injection e9 with e9 _ _
          rw [e9]; exact h9
        have Hb5 := Lib.hid hb5
        clear ho5 hg5 hn5 hat5 hl2
        have HHeld := KS.out _ Hb5.out
        refine hK.out _ _ HHeld (fun _ => ?_)
        clear hK K
        (try simp only [Act.put]); (try simp only [List.setIfInBounds_toArray]); (try simp only [List.set_cons_zero, List.set_cons_succ])
        have HI := IH.out k2 (most - (out.length : Int)) (some ⟨bl, ol, none⟩) q (some ⟨g5, 0, none⟩) c5 w5 (h.below (Bw.trans (Hb5.out.mono Bw.size))) hr5 hcc5 (by have := HL2.out; have := HCR.out; omega) HAW2.out (by omega) (by omega)
        have HLR := Lib.hid (openF_len m l HLK.out r k2 (most - (out.length : Int)))
        obtain ⟨rr, hrr⟩ : ∃ rr, rr = openF m l r k2 (most - (out.length : Int)) := ⟨_, rfl⟩
        rw [← hrr] at HI HLR
        have HRR := Lib.hid hrr; clear hrr
        have HIH := Lib.hid HI; clear HI
        refine wpAnyH_ready (rs := [15]) (by kernel_rfl) (by simp) (AllReadyH.cons rfl (fun K hK => ?_) AllReadyH.nil)
        go_simp
        refine HIH.out.mono ?_
        rintro e w6 ⟨A6, c6, us6, rfl, hc6, hr6, hk6, b6, _⟩
        have Hb6 := Lib.hid (Hb5.out.trans (b6.mono Hb5.out.size))
        have HK6 := Lib.hid hk6
        have hus6 : us6.length = rr.length := hk6.1
        have hle6 : rr.length ≤ 1000000 := by have := HLR.out; omega
        clear hk6
        have HHeld := KS.out _ Hb6.out
        refine hK.out _ _ HHeld (fun _ => ?_)
        clear hK K
        try simp only [Act.put, List.setIfInBounds_toArray, List.set_cons_zero, List.set_cons_succ]
        refine wpAnyH_ready (rs := [16]) (by kernel_rfl) (by simp) (AllReadyH.cons rfl (fun K hK => ?_) AllReadyH.nil)
        refine step_app _ (by rfl) _ _ _ (by rfl) (w.heap.size + 2) 33 _ 24 Tryz.underlying26 info_sl rfl _ _ (by rfl) (HO.out.below' Hb6.out) A6 rr.length c6 us6 (by rfl) hus6.symm hr6 HK6.out.ones (by have := HUS.out; omega) (by have := HUS.out; omega) (by have := Hb6.out.size; omega) ?_
        intro v7 w7 ho7 hg7 hn7 hat7
        have k7 : KeepF (fun x => (Value.slice Av out.length cv).ownBlock = some x) w6 w7 := (KeepF.refl _ _).grown hg7 (fun g e => .inl e)
        have Hb7 := Lib.hid (belowG (Bw.trans (Hb6.out.mono Bw.size)) hg7 (by have := (Bw.trans (Hb6.out.mono Bw.size)).size; omega) (fun x e => by have := (HO.out.lt x e).1; omega))
        have Hb1 := Lib.hid (belowG (hb.trans (Hb6.out.mono (by omega))) hg7 (by have := (hb.trans (Hb6.out.mono (by omega))).size; omega) (fun x e => (HO.out.lt x e).1))
        have HR7 := Lib.hid (show RowsK w7 (fun b => w.heap.size ≤ b ∧ v7.ownBlock ≠ some b) (us ++ us6) (out ++ rr) from by
          have ha := HRO.out.keep (KeepF.ofBelow (F := fun _ => False) Hb6.out) (fun b _ hk => ⟨id, hk⟩)
          have hbb := HK6.out
          refine RowsK.app (ha.keep k7 (fun b hb hk => ⟨fun e => hk.2 e, hk.1, fun e => ?_⟩)) (hbb.keep k7 (fun b hb hk => ?_))
          · rcases hat7 with e7 | e7
            · exact hk.2 (e7.symm.trans e)
            · have := e7.symm.trans e; injection this with this; omega
          · have hge : wr.heap.size ≤ b := by
              rcases hk with hk | ⟨o9, hk⟩
              · have := Hb5.out.size; omega
              · injection hk with hk; injection hk with hk _ _; omega
            have hnv : (Value.slice Av out.length cv).ownBlock ≠ some b := fun e => by have := (HO.out.lt b e).2; omega
            refine ⟨hnv, by have := Bw.size; omega, fun e => ?_⟩
            rcases hat7 with e7 | e7
            · exact hnv (e7.symm.trans e)
            · have := e7.symm.trans e; injection this with this; omega)
        have HO7 := Lib.hid ho7
        clear ho7 hg7 hn7 hat7 k7
        have HHeld := KS7.out _ Hb1.out
        refine hK.out _ _ HHeld (fun _ => ?_)
        clear hK K
        (try simp only [Act.put]); (try simp only [List.setIfInBounds_toArray]); (try simp only [List.set_cons_zero, List.set_cons_succ])
        refine takeD (i := 17) (some 9) (v7) rfl (by kernel_rfl) (by kernel_rfl) (by kernel_rfl) (by kernel_rfl) (fun _ _ _ h => h) (by assumption) (Or.inl ⟨by rfl, fun w hSw => by (try dsimp only at hSw); go_simp⟩) ?_
        (try simp only [Act.put]); (try simp only [List.setIfInBounds_toArray]); (try simp only [List.set_cons_zero, List.set_cons_succ])
        refine wpAnyH_done (by kernel_rfl) ?_ _
        go_wp2_with fail
        go_roundw
        case rel => exact ⟨k + 1, us ++ us6, out ++ rr, v7, by omega, by go_num, rfl, by rw [HSG.out, HRR.out, HK2.out, ← HOUT.out], by have := HLR.out; simp; omega, HO7.out, HR7.out, Hb1.out⟩
        case measure => simp [intOf]; omega
      · go_simp
        have hb40 : Below wr.heap.size wr (wr.drew.alloc (.cells #[.int .i64 x] 2)) := (belowDrew0 wr).alloc (Nat.le_refl _) _
        have HHeld := KS.out _ hb40
        refine hK.out _ _ HHeld (fun _ => ?_)
        clear hK K
        try simp only [Act.put, List.setIfInBounds_toArray, List.set_cons_zero, List.set_cons_succ]
        refine wpAnyH_ready (rs := [4]) (by kernel_rfl) (by simp) (AllReadyH.cons rfl (fun K hK => ?_) AllReadyH.nil)
        go_simp
        refine (OWN.out _ hb40).mono ?_
        rintro e w4 ⟨A4, c4, rfl, hc4, hr4, ho4', hb4'⟩
        have hb4 := hb40.trans (hb4'.mono hb40.size)
        have ho4 : OV w4 wr.heap.size 2 (.slice A4 cuts.length c4) (ints cuts) := ho4'.1.mono (by simp)
        have hcell4 : w4.cell? ⟨wr.heap.size, 0, none⟩ = some (.int .i64 x) := cell_in hb4' (by simp) (one_cell wr (.int .i64 x) 2)
        clear ho4' hr4 hb4'
        have HHeld := KS.out _ hb4
        refine hK.out _ _ HHeld (fun _ => ?_)
        clear hK K
        try simp only [Act.put, List.setIfInBounds_toArray, List.set_cons_zero, List.set_cons_succ]
        refine wpAnyH_ready (rs := [10]) (by kernel_rfl) (by simp) (AllReadyH.cons rfl (fun K hK => ?_) AllReadyH.nil)
        refine step_app1 _ (by rfl) _ _ _ (by rfl) wr.heap.size 2 _ 8 Tryz.underlying33 info_int rfl (by omega) _ _ (by rfl) ho4 _ _ (by rfl) hcell4 rfl (by rw [ints_length]; omega) (by have := hb4.size; omega) ?_
        intro v5 w5 ho5 hg5 hn5 hat5
        have hb5 := ho4.own (Nat.le_refl _) hb4 hg5 hb4.size
        rw [HIN.out] at ho5
        have hl2 := HL2.out
        obtain ⟨g5, c5, rfl, hg5a, hg5b, hcc5, _, _⟩ := ho5.open1 (by omega)
        have hr5 : RI w5 (some ⟨g5, 0, none⟩) k2 := by
          obtain ⟨A9, c9, e9, _, h9⟩ := ho5.reads
          injection e9 with e9 _ _
          rw [e9]; exact h9
        have Hb5 := Lib.hid hb5
        clear ho5 hg5 hn5 hat5 hl2
        have HHeld := KS.out _ Hb5.out
        refine hK.out _ _ HHeld (fun _ => ?_)
        clear hK K
        (try simp only [Act.put]); (try simp only [List.setIfInBounds_toArray]); (try simp only [List.set_cons_zero, List.set_cons_succ])
        have HI := IH.out k2 (most - (out.length : Int)) (some ⟨bl, ol, none⟩) q (some ⟨g5, 0, none⟩) c5 w5 (h.below (Bw.trans (Hb5.out.mono Bw.size))) hr5 hcc5 (by have := HL2.out; have := HCR.out; omega) HAW2.out (by omega) (by omega)
        have HLR := Lib.hid (openF_len m l HLK.out r k2 (most - (out.length : Int)))
        obtain ⟨rr, hrr⟩ : ∃ rr, rr = openF m l r k2 (most - (out.length : Int)) := ⟨_, rfl⟩
        rw [← hrr] at HI HLR
        have HRR := Lib.hid hrr; clear hrr
        have HIH := Lib.hid HI; clear HI
        refine wpAnyH_ready (rs := [15]) (by kernel_rfl) (by simp) (AllReadyH.cons rfl (fun K hK => ?_) AllReadyH.nil)
        go_simp
        refine HIH.out.mono ?_
        rintro e w6 ⟨A6, c6, us6, rfl, hc6, hr6, hk6, b6, _⟩
        have Hb6 := Lib.hid (Hb5.out.trans (b6.mono Hb5.out.size))
        have HK6 := Lib.hid hk6
        have hus6 : us6.length = rr.length := hk6.1
        have hle6 : rr.length ≤ 1000000 := by have := HLR.out; omega
        clear hk6
        have HHeld := KS.out _ Hb6.out
        refine hK.out _ _ HHeld (fun _ => ?_)
        clear hK K
        try simp only [Act.put, List.setIfInBounds_toArray, List.set_cons_zero, List.set_cons_succ]
        refine wpAnyH_ready (rs := [16]) (by kernel_rfl) (by simp) (AllReadyH.cons rfl (fun K hK => ?_) AllReadyH.nil)
        refine step_app _ (by rfl) _ _ _ (by rfl) (w.heap.size + 2) 33 _ 24 Tryz.underlying26 info_sl rfl _ _ (by rfl) (HO.out.below' Hb6.out) A6 rr.length c6 us6 (by rfl) hus6.symm hr6 HK6.out.ones (by have := HUS.out; omega) (by have := HUS.out; omega) (by have := Hb6.out.size; omega) ?_
        intro v7 w7 ho7 hg7 hn7 hat7
        have k7 : KeepF (fun x => (Value.slice Av out.length cv).ownBlock = some x) w6 w7 := (KeepF.refl _ _).grown hg7 (fun g e => .inl e)
        have Hb7 := Lib.hid (belowG (Bw.trans (Hb6.out.mono Bw.size)) hg7 (by have := (Bw.trans (Hb6.out.mono Bw.size)).size; omega) (fun x e => by have := (HO.out.lt x e).1; omega))
        have Hb1 := Lib.hid (belowG (hb.trans (Hb6.out.mono (by omega))) hg7 (by have := (hb.trans (Hb6.out.mono (by omega))).size; omega) (fun x e => (HO.out.lt x e).1))
        have HR7 := Lib.hid (show RowsK w7 (fun b => w.heap.size ≤ b ∧ v7.ownBlock ≠ some b) (us ++ us6) (out ++ rr) from by
          have ha := HRO.out.keep (KeepF.ofBelow (F := fun _ => False) Hb6.out) (fun b _ hk => ⟨id, hk⟩)
          have hbb := HK6.out
          refine RowsK.app (ha.keep k7 (fun b hb hk => ⟨fun e => hk.2 e, hk.1, fun e => ?_⟩)) (hbb.keep k7 (fun b hb hk => ?_))
          · rcases hat7 with e7 | e7
            · exact hk.2 (e7.symm.trans e)
            · have := e7.symm.trans e; injection this with this; omega
          · have hge : wr.heap.size ≤ b := by
              rcases hk with hk | ⟨o9, hk⟩
              · have := Hb5.out.size; omega
              · injection hk with hk; injection hk with hk _ _; omega
            have hnv : (Value.slice Av out.length cv).ownBlock ≠ some b := fun e => by have := (HO.out.lt b e).2; omega
            refine ⟨hnv, by have := Bw.size; omega, fun e => ?_⟩
            rcases hat7 with e7 | e7
            · exact hnv (e7.symm.trans e)
            · have := e7.symm.trans e; injection this with this; omega)
        have HO7 := Lib.hid ho7
        clear ho7 hg7 hn7 hat7 k7
        have HHeld := KS7.out _ Hb1.out
        refine hK.out _ _ HHeld (fun _ => ?_)
        clear hK K
        (try simp only [Act.put]); (try simp only [List.setIfInBounds_toArray]); (try simp only [List.set_cons_zero, List.set_cons_succ])
        refine takeD (i := 17) (some 9) (v7) rfl (by kernel_rfl) (by kernel_rfl) (by kernel_rfl) (by kernel_rfl) (fun _ _ _ h => h) (by assumption) (Or.inl ⟨by rfl, fun w hSw => by (try dsimp only at hSw); go_simp⟩) ?_
        (try simp only [Act.put]); (try simp only [List.setIfInBounds_toArray]); (try simp only [List.set_cons_zero, List.set_cons_succ])
        refine wpAnyH_done (by kernel_rfl) ?_ _
        go_wp2_with fail
        go_roundw
        case rel => exact ⟨k + 1, us ++ us6, out ++ rr, v7, by omega, by go_num, rfl, by rw [HSG.out, HRR.out, HK2.out, ← HOUT.out], by have := HLR.out; simp; omega, HO7.out, HR7.out, Hb1.out⟩
        case measure => simp [intOf]; omega
    · obtain rfl : k = ss.length := by omega
      have HT := Lib.hid (show openF m l (r + 1) cuts most = out by rw [HR.out, HSS.out, HOUT.out, List.take_length])
      obtain ⟨A9, c9, e9, h9, hr9⟩ := HO.out.reads
      go_wp2_with fail
      go_ret
      rw [HT.out]
      injection e9 with e91 e92 e93
      subst e91
      exact ⟨Av, cv, us, rfl, hcv, hr9, HRO.out.keep (KeepF.refl (fun _ => False) _) (fun b _ hk => ⟨id, .inl hk.1⟩), Bw, fun b o e => by subst e; have := (HO.out.lt b rfl).1; omega⟩
end Go.Proofs.YtdedajohkdbdkaaGreat
