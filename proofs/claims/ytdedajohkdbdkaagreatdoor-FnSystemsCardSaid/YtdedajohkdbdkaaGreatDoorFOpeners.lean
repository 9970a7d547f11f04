/- Contract of l02Begins. -/
import Derived.Test.YtdedajohkdbdkaaGreatDoorEach
namespace Go.Proofs.YtdedajohkdbdkaaGreatDoor
set_option linter.unusedVariables false
open Go.RowKit
theorem begins_bad {m : Mk} {xs : List Int} {k : Nat} (hk : k < xs.length) (h : (stepAt m.s xs k && runAt m.a xs k) = false) : begins m xs = false := by
  unfold begins stepsOK runsOK
  rcases Bool.and_eq_false_iff.1 h with h | h
  · rw [rangeAll_bad hk h]; rfl
  · rw [rangeAll_bad hk h, Bool.and_false]
theorem begins_all {m : Mk} {xs : List Int} (h1 : (List.range xs.length).all (stepAt m.s xs) = true) (h2 : (List.range xs.length).all (runAt m.a xs) = true) : begins m xs = true := by
  unfold begins stepsOK runsOK; rw [h1, h2]; rfl
set_option maxRecDepth 100000 in
set_option maxHeartbeats 4000000 in
theorem l02Begins_any (m : Mk) (A : Option Addr) (c : Nat) (xs : List Int) (w : World) (h : RI w A xs) (hm : isMaker m = true) (hv : allW 0 (m.d - 1) xs = true) (hn : xs.length ≤ 6) :
    Calls Tryz.prog 85 #[.agg #[.int .i64 m.c, .int .i64 m.d, .int .i64 m.s, .int .i64 m.a, .int .i64 m.l], .slice A xs.length c] w fun e w' => e = .returned (.bool (begins m xs)) ∧ Below w.heap.size w w' := by
  have B0 := (Below.refl w.heap.size w).alloc (Nat.le_refl _) (.cells #[.int .i64 m.c, .int .i64 m.d, .int .i64 m.s, .int .i64 m.a, .int .i64 m.l] 25)
  obtain ⟨c1, c2, d1, d2, s1, s2, a1, a2, l1, l2, l3⟩ := mk_bounds hm
  have hle := h.le
  have HV := Lib.hid hv; clear hv hm
  have h1 := h.below B0
  go_enter Tryz.func85, Tryz.ntmps85
  go_wp2_with fail
  go_loopw [5, 6] (fun r i wr => ∃ k n : Nat, k ≤ xs.length ∧ i = .int .i64 k ∧ r = .int .i64 (runOf xs k) ∧ wr = (w.alloc (.cells #[.int .i64 m.c, .int .i64 m.d, .int .i64 m.s, .int .i64 m.a, .int .i64 m.l] 25)).drewN n ∧ (List.range k).all (stepAt m.s xs) = true ∧ (List.range k).all (runAt m.a xs) = true) (fun _ i _ => xs.length - (intOf i).toNat)
  case atStart => exact ⟨0, 0, by omega, rfl, rfl, rfl, rfl, rfl⟩
  case round =>
    obtain ⟨k, n, hk, rfl, rfl, rfl, hst, hru⟩ := hrel
    have Hst := Lib.hid hst; have Hru := Lib.hid hru; clear hst hru
    have q1 := runOf_le xs k hk
    by_cases hlt : k < xs.length
    · obtain ⟨b, o, rfl, hc⟩ := h1.at_ hlt
      have i0 : (0 : Int) ≤ (k : Int) := by omega
      have i1 : (k : Int) < (xs.length : Int) := by omega
      have v1 := allW_at HV.out hlt
      have v2 := v1.1; have v3 := v1.2
      clear v1
      by_cases hk0 : k = 0
      · subst hk0
        have t2 : decide ((0 : Int) < ((0 : Nat) : Int)) = false := by simp
        have HS := Lib.hid (show (List.range (0 + 1)).all (stepAt m.s xs) = true by simp [List.range_succ, stepAt])
        have HX := Lib.hid (show endRun (xs.take (0 + 1)) = 1 by rw [List.take_succ_eq_append_getElem hlt]; simp [endRun_one])
        have HU := Lib.hid (show (List.range (0 + 1)).all (runAt m.a xs) = true by
          simp only [List.range_succ, List.range_zero, List.nil_append, List.all_cons, List.all_nil, Bool.and_true, runAt]; rw [HX.out]; simp; omega)
        have r0 : ((runOf xs 0 : Nat) : Int) = 0 := rfl
        have ra : decide (m.a < 1) = false := decide_eq_false (by omega)
        go_wp2_with fail
        go_quiet (fail)
        go_wp2_with fail
        go_quiet (fail)
        go_wp2_with fail
        go_roundw
        case rel => exact ⟨1, _, by omega, by go_num, by simp only [runOf]; rw [if_neg (by omega)]; rw [HX.out]; rfl, rfl, HS.out, HU.out⟩
        case measure => simp [intOf]; omega
      · obtain ⟨j, rfl⟩ : ∃ j, k = j + 1 := ⟨k - 1, by omega⟩
        obtain ⟨b2, o2, e2, hc2⟩ := h1.at_ (k := j) (by omega)
        injection e2 with e2
        injection e2 with e3 e4
        subst e3 e4
        have v4 := allW_at HV.out (k := j) (by omega)
        have v5 := v4.1; have v6 := v4.2
        clear v4
        have i2 : (0 : Int) ≤ (j : Int) := by omega
        have i3 : (j : Int) < (xs.length : Int) := by omega
        have i4 : (0 : Int) < (j : Int) + 1 := by omega
        have HS := Lib.hid (stepAt_pos (s := m.s) hlt)
        have HE := Lib.hid (endRun_succ xs j hlt)
        have HR1 := Lib.hid (show runOf xs (j + 1) = endRun (xs.take (j + 1)) by simp [runOf])
        have HR2 := Lib.hid (show runOf xs (j + 1 + 1) = endRun (xs.take (j + 1 + 1)) by simp [runOf])
        have HRA := Lib.hid (show runAt m.a xs (j + 1) = decide ((endRun (xs.take (j + 1 + 1)) : Int) ≤ m.a) from rfl)
        have e5 := fun W => l01Abs_any (xs[j + 1] - xs[j]) W (by omega) (by omega)
        have E5 := Lib.hid e5; clear e5
        cases hq : (xs[j + 1] != xs[j]) with
        | true =>
          have HQ := Lib.hid (show endRun (xs.take (j + 1 + 1)) = 1 by rw [HE.out, if_neg (by simp at hq; omega)])
          cases hr : decide (m.a < (1 : Int)) with
          | true =>
            have HR := Lib.hid (show begins m xs = false from begins_bad hlt (by rw [HRA.out, HQ.out, Bool.and_eq_false_iff]; right; simp at hr ⊢; omega))
            go_wp2_with fail
            go_quiet (fail)
            go_wp2_with fail
            go_quiet (fail)
            go_wp2_with fail
            go_ret
            exact ⟨retB HR.out.symm, by first | exact belowD B0 _ | exact belowD (belowD B0 _) _⟩
          | false =>
            cases hp : decide (m.s < absI (xs[j + 1] - xs[j])) with
            | true =>
              have HR := Lib.hid (show begins m xs = false from begins_bad hlt (by rw [HS.out, Bool.and_eq_false_iff]; left; simp at hp ⊢; omega))
              go_wp2_with fail
              go_quiet (fail)
              go_wp2_with fail
              go_quiet ((go_at_call 103; first | exact quietSA (E5.out _) | exact quietS (E5.out _)))
              go_wp2_with fail
              go_ret
              exact ⟨retB HR.out.symm, by first | exact belowD B0 _ | exact belowD (belowD B0 _) _⟩
            | false =>
              have HO := Lib.hid (show (List.range (j + 1 + 1)).all (stepAt m.s xs) = true by rw [rangeAll_next, Hst.out, HS.out]; simp at hp ⊢; omega)
              have HU := Lib.hid (show (List.range (j + 1 + 1)).all (runAt m.a xs) = true by rw [rangeAll_next, Hru.out, HRA.out, HQ.out]; simp at hr ⊢; omega)
              go_wp2_with fail
              go_quiet (fail)
              go_wp2_with fail
              go_quiet ((go_at_call 103; first | exact quietSA (E5.out _) | exact quietS (E5.out _)))
              go_wp2_with fail
              go_roundw
              case rel => exact ⟨j + 1 + 1, _, by omega, by go_num, by rw [HR2.out, HQ.out]; go_num, rfl, HO.out, HU.out⟩
              case measure => simp [intOf]; omega
        | false =>
          have HQ := Lib.hid (show endRun (xs.take (j + 1 + 1)) = runOf xs (j + 1) + 1 by rw [HE.out, if_pos (by simp at hq; omega), HR1.out])
          cases hr : decide (m.a < ((runOf xs (j + 1) : Int) + 1)) with
          | true =>
            have HR := Lib.hid (show begins m xs = false from begins_bad hlt (by rw [HRA.out, HQ.out, Bool.and_eq_false_iff]; right; simp at hr ⊢; omega))
            go_wp2_with fail
            go_quiet (fail)
            go_wp2_with fail
            go_quiet (fail)
            go_wp2_with fail
            go_ret
            exact ⟨retB HR.out.symm, by first | exact belowD B0 _ | exact belowD (belowD B0 _) _⟩
          | false =>
            cases hp : decide (m.s < absI (xs[j + 1] - xs[j])) with
            | true =>
              have HR := Lib.hid (show begins m xs = false from begins_bad hlt (by rw [HS.out, Bool.and_eq_false_iff]; left; simp at hp ⊢; omega))
              go_wp2_with fail
              go_quiet (fail)
              go_wp2_with fail
              go_quiet ((go_at_call 103; first | exact quietSA (E5.out _) | exact quietS (E5.out _)))
              go_wp2_with fail
              go_ret
              exact ⟨retB HR.out.symm, by first | exact belowD B0 _ | exact belowD (belowD B0 _) _⟩
            | false =>
              have HO := Lib.hid (show (List.range (j + 1 + 1)).all (stepAt m.s xs) = true by rw [rangeAll_next, Hst.out, HS.out]; simp at hp ⊢; omega)
              have HU := Lib.hid (show (List.range (j + 1 + 1)).all (runAt m.a xs) = true by rw [rangeAll_next, Hru.out, HRA.out, HQ.out]; simp at hr ⊢; omega)
              go_wp2_with fail
              go_quiet (fail)
              go_wp2_with fail
              go_quiet ((go_at_call 103; first | exact quietSA (E5.out _) | exact quietS (E5.out _)))
              go_wp2_with fail
              go_roundw
              case rel => exact ⟨j + 1 + 1, _, by omega, by go_num, by rw [HR2.out, HQ.out]; go_num, rfl, HO.out, HU.out⟩
              case measure => simp [intOf]; omega
    · obtain rfl : k = xs.length := by omega
      have HR := Lib.hid (begins_all Hst.out Hru.out)
      go_wp2_with fail
      go_ret
      exact ⟨retB HR.out.symm, belowD B0 _⟩
end Go.Proofs.YtdedajohkdbdkaaGreatDoor

/- Contract of l04Openers. -/
namespace Go.Proofs.YtdedajohkdbdkaaGreatDoor
set_option linter.unusedVariables false
open Go.RowKit
/-- rows that read, in blocks of which K holds -/
def RowsK (w : World) (K : Nat → Prop) (us : List Value) (xss : List (List Int)) : Prop :=
  us.length = xss.length ∧ ∀ j (hj : j < xss.length), ∃ A c, us[j]? = some (.slice A xss[j].length c) ∧ xss[j].length ≤ c ∧ RI w A xss[j] ∧ ∀ b o, A = some ⟨b, o, none⟩ → K b ∧ b < w.heap.size
theorem RowsK.app {w : World} {K : Nat → Prop} {us vs : List Value} {xss yss : List (List Int)} (h : RowsK w K us xss) (g : RowsK w K vs yss) : RowsK w K (us ++ vs) (xss ++ yss) := by
  refine ⟨by simp [h.1, g.1], fun j hj => ?_⟩
  have hl := h.1
  by_cases hx : j < xss.length
  · rw [List.getElem?_append_left (by omega), List.getElem_append_left hx]
    exact h.2 j hx
  · rw [List.getElem?_append_right (by omega), List.getElem_append_right (by omega), hl]
    exact g.2 (j - xss.length) (by simp at hj; omega)
theorem RowsK.keep {w w' : World} {K K' G : Nat → Prop} {us : List Value} {xss : List (List Int)} (h : RowsK w K us xss) (k : KeepF G w w') (hG : ∀ b, b < w.heap.size → K b → ¬ G b ∧ K' b) : RowsK w' K' us xss := by
  refine ⟨h.1, fun j hj => ?_⟩
  obtain ⟨A, c, h1, h2, h3, h4⟩ := h.2 j hj
  exact ⟨A, c, h1, h2, RV.keepF h3 k (fun b o e => (hG b (h4 b o e).2 (h4 b o e).1).1), fun b o e => ⟨(hG b (h4 b o e).2 (h4 b o e).1).2, by have := k.size; have := (h4 b o e).2; omega⟩⟩
theorem RowsK.nil {w : World} {K : Nat → Prop} : RowsK w K [] [] := ⟨rfl, fun j hj => by simp at hj⟩
theorem RowsK.one {w : World} {K : Nat → Prop} {A : Option Addr} {c : Nat} {xs : List Int} (hc : xs.length ≤ c) (h : RI w A xs) (hk : ∀ b o, A = some ⟨b, o, none⟩ → K b ∧ b < w.heap.size) : RowsK w K [.slice A xs.length c] [xs] := by
  refine ⟨rfl, fun j hj => ?_⟩
  match j, hj with
  | 0, _ => exact ⟨A, c, rfl, hc, h, hk⟩
theorem RowsK.rii {w : World} {K : Nat → Prop} {A : Option Addr} {us : List Value} {xss : List (List Int)} (h : RowsK w K us xss) (g : RV w A us) : RII w A xss :=
  ⟨us, h.1, g, fun j hj => by obtain ⟨A, c, h1, h2, h3, _⟩ := h.2 j hj; exact ⟨A, c, h1, h2, h3⟩⟩
theorem RowsK.ones {w : World} {K : Nat → Prop} {us : List Value} {xss : List (List Int)} (h : RowsK w K us xss) : ∀ u ∈ us, u.oneCell' = true := by
  intro u hu
  obtain ⟨j, hj, rfl⟩ := List.getElem_of_mem hu
  obtain ⟨A, c, h1, _⟩ := h.2 j (by have := h.1; omega)
  rw [List.getElem?_eq_getElem hj] at h1
  injection h1 with h1
  rw [h1]; rfl
/-- lists of lists that read, in blocks of which K holds -/
def ResK (w : World) (K : Nat → Prop) (xss : List (List Int)) (e : Ending) (w' : World) : Prop :=
  ∃ A c us, e = .returned (.slice A xss.length c) ∧ xss.length ≤ c ∧ RV w' A us ∧ RowsK w' K us xss ∧ Below w.heap.size w w' ∧ ∀ b o, A = some ⟨b, o, none⟩ → w.heap.size ≤ b
theorem ResK.rd {w w' : World} {K : Nat → Prop} {xss : List (List Int)} {e : Ending} (h : ResK w K xss e w') : RdII w xss e w' := by
  obtain ⟨A, c, us, h1, h2, h3, h4, h5, _⟩ := h
  exact ⟨A, c, h1, h2, h4.rii h3, h5⟩
theorem resK_nil {w w' : World} {K : Nat → Prop} {xss : List (List Int)} (h : xss = []) (hb : Below w.heap.size w w') : ResK w K xss (.returned (.slice none 0 0)) w' := by
  subst h; exact ⟨none, 0, [], rfl, Nat.le_refl _, ⟨by simp, fun h => absurd rfl h⟩, RowsK.nil, hb, fun b o e => by cases e⟩
theorem openF_len (m : Mk) (l : List (List Int)) (hl : ∀ i, Inc 0 m.d (l.getD i [])) (r : Nat) (cuts : List Int) (most : Int) : (openF m l r cuts most).length ≤ most.toNat := by
  rw [openF_eq m l hl]; split
  · rw [List.length_take]; omega
  · simp
theorem openF_no (m : Mk) (l : List (List Int)) (r : Nat) (cuts : List Int) (most : Int) (h : (begins m cuts && decide (0 < most)) = false) : openF m l r cuts most = [] := by
  cases r <;> rw [openF, if_neg (by rw [h]; simp)]
/-- the openers with the first k depths of the set -/
def openG (m : Mk) (l : List (List Int)) (r : Nat) (cuts : List Int) (most : Int) (ds : List Int) : List (List Int) := ds.foldl (fun out d => out ++ openF m l r (cuts ++ [d]) (most - (out.length : Int))) []
theorem openG_succ (m : Mk) (l : List (List Int)) (r : Nat) (cuts : List Int) (most : Int) (ds : List Int) (k : Nat) (h : k < ds.length) : openG m l r cuts most (ds.take (k + 1)) = openG m l r cuts most (ds.take k) ++ openF m l r (cuts ++ [ds[k]]) (most - ((openG m l r cuts most (ds.take k)).length : Int)) := by
  unfold openG; rw [List.take_succ_eq_append_getElem h, List.foldl_append]; rfl
theorem openF_succ (m : Mk) (l : List (List Int)) (r : Nat) (cuts : List Int) (most : Int) (hb : begins m cuts = true) (h : 0 < most) : openF m l (r + 1) cuts most = openG m l r cuts most (l.getD cuts.length []) := by
  rw [openF, if_pos (by rw [hb]; simpa using h)]; rfl
theorem inc_few {hi : Int} : ∀ {xs : List Int} {lo : Int}, Inc lo hi xs → (xs.length : Int) ≤ hi - lo ∨ xs = []
  | [], _, _ => .inr rfl
  | x :: r, lo, h => by
    left
    have := h.1; have := h.2.1
    rcases inc_few h.2.2 with h1 | h1
    · rw [List.length_cons]; omega
    · subst h1; simp; omega
theorem allW_snoc {lo hi d : Int} {xs : List Int} (h : allW lo hi xs = true) (h1 : lo ≤ d) (h2 : d ≤ hi) : allW lo hi (xs ++ [d]) = true := by
  unfold allW at *; rw [List.all_append, h]; simp [inB]; omega
end Go.Proofs.YtdedajohkdbdkaaGreatDoor
