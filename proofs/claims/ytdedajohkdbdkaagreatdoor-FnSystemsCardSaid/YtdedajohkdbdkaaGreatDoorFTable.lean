/- Contracts of IsTable, tableCode, MasterKeys. -/
import Derived.Test.YtdedajohkdbdkaaGreatDoorMem
namespace Go.Proofs.YtdedajohkdbdkaaGreatDoor
set_option linter.unusedVariables false
open Go.RowKit
def rowOK (n : Nat) (r : List Int) : Bool := (r.length == n && inB r.length 1 12) && allW 0 1 r
def isTable (t : List (List Int)) : Bool := inB t.length 1 10 && t.all (rowOK (t.headD []).length)
theorem inB_iff' {a b c : Int} : inB a b c = true ↔ b ≤ a ∧ a ≤ c := by simp [inB]
theorem headD_len {t : List (List Int)} (h : 0 < t.length) : (t.headD []) = t[0] := by cases t <;> simp at h ⊢
theorem isTable_get {t : List (List Int)} (h : isTable t = true) : 1 ≤ t.length ∧ t.length ≤ 10 ∧ ∀ k (hk : k < t.length), t[k].length = (t.headD []).length ∧ 1 ≤ t[k].length ∧ t[k].length ≤ 12 ∧ allW 0 1 t[k] = true := by
  simp only [isTable, Bool.and_eq_true, List.all_eq_true] at h
  have h1 := inB_iff'.1 h.1
  refine ⟨by omega, by omega, fun k hk => ?_⟩
  have := h.2 _ (List.getElem_mem hk)
  simp only [rowOK, Bool.and_eq_true, beq_iff_eq] at this
  have h2 := inB_iff'.1 this.1.2
  exact ⟨this.1.1, by omega, by omega, this.2⟩
theorem isTable_false {t : List (List Int)} {k : Nat} (hk : k < t.length) (h : rowOK (t.headD []).length t[k] = false) : isTable t = false := by
  unfold isTable; rw [all_false_at _ t k hk h]; simp
set_option maxHeartbeats 2000000 in
theorem specIsTable_any (A : Option Addr) (c : Nat) (t : List (List Int)) (w : World) (h : RII w A t) :
    Calls Tryz.prog 29 #[.slice A t.length c] w fun e w' => e = .returned (.bool (isTable t)) ∧ ∃ n, w' = w.drewN n := by
  have hle := h.le
  cases h1 : inB t.length 1 10 with
  | false =>
    have HR := Lib.hid (show isTable t = false by simp [isTable, h1])
    go_enter Tryz.func29, Tryz.ntmps29
    go_wp2_with (go_at_call 49; refine (l01In_any _ _ _ _).mono ?_; rintro e w' ⟨rfl, rfl⟩)
    go_ret
    exact ⟨retB HR.out.symm, 0, rfl⟩
  | true =>
    have hn := inB_iff'.1 h1
    have h0 : 0 < t.length := by omega
    have HH := Lib.hid (headD_len h0)
    have H1 := Lib.hid h1
    go_enter Tryz.func29, Tryz.ntmps29
    go_wp2_with (go_at_call 49; refine (l01In_any _ _ _ _).mono ?_; rintro e w' ⟨rfl, rfl⟩)
    clear h1
    go_loopw [3, 4] (fun i _ wr => ∃ k n : Nat, k ≤ t.length ∧ i = .int .i64 k ∧ (t.take k).all (rowOK (t.headD []).length) = true ∧ wr = w.drewN n) (fun i _ _ => t.length - (intOf i).toNat)
    case atStart => exact ⟨0, 0, by omega, rfl, rfl, rfl⟩
    case round =>
      obtain ⟨k, n, hk, rfl, hrel, rfl⟩ := hrel
      have Hrel := Lib.hid hrel; clear hrel
      by_cases hlt : k < t.length
      · obtain ⟨b, o, A1, c1, A2, c2, rfl, hc1, hcc1, hr1, hc2, hcc2, hr2⟩ := h.at2 hlt h0
        simp only [Nat.add_zero] at hc2
        have i0 : (0 : Int) ≤ (k : Int) := by omega
        have i1 : (k : Int) < (t.length : Int) := by omega
        have i2 : (0 : Int) < (t.length : Int) := by omega
        have hl1 := hr1.le
        by_cases p1 : t[k].length = t[0].length
        · have hb : (((t[k].length : Nat) : Int) != ((t[0].length : Nat) : Int)) = false := by simp [p1]
          have P1 := Lib.hid p1; clear p1
          cases p2 : inB t[k].length 1 12 with
          | false =>
            have HR := Lib.hid (isTable_false hlt (by simp [rowOK, p2]))
            go_wp2_with fail
            go_quiet ((go_at_call 49; first | exact quietSA (l01In_any _ _ _ _) | exact quietS (l01In_any _ _ _ _)))
            go_wp2_with fail
            go_ret
            exact ⟨retB HR.out.symm, by first | exact ⟨_, rfl⟩ | exact drewEx⟩
          | true =>
            go_wp2_with fail
            go_quiet ((go_at_call 49; first | exact quietSA (l01In_any _ _ _ _) | exact quietS (l01In_any _ _ _ _)))
            go_wp2_with fail
            have P2 := Lib.hid p2; clear p2
            go_loopw [4] (fun i wx => ∃ j m : Nat, j ≤ t[k].length ∧ i = .int .i64 j ∧ allW 0 1 (t[k].take j) = true ∧ wx = w.drewN m) (fun i _ => t[k].length - (intOf i).toNat)
            case atStart => exact ⟨0, _, by omega, rfl, rfl, by first | rfl | exact World.drewN_drewN _ _ _⟩
            case round =>
              obtain ⟨j, m, hj, rfl, hrel, rfl⟩ := hrel
              have Hj := Lib.hid hrel; clear hrel
              by_cases hjl : j < t[k].length
              · obtain ⟨b', o', rfl, hcj⟩ := hr1.at_ hjl
                cases p3 : inB t[k][j] 0 1 with
                | false =>
                  have HR := Lib.hid (isTable_false hlt (by
                    have := all_false_at (fun x => inB x 0 1) t[k] j hjl p3
                    simp [rowOK, allW, this]))
                  go_wp2_with (go_at_call 49; refine (l01In_any _ _ _ _).mono ?_; rintro e w' ⟨rfl, rfl⟩)
                  go_ret
                  exact ⟨retB HR.out.symm, by first | exact ⟨_, rfl⟩ | exact drewEx⟩
                | true =>
                  go_wp2_with (go_at_call 49; refine (l01In_any _ _ _ _).mono ?_; rintro e w' ⟨rfl, rfl⟩)
                  go_roundw
                  case rel =>
                    have HJ1 : allW 0 1 (t[k].take (j + 1)) = true := by unfold allW at *; rw [take_succ_all _ _ _ hjl, Hj.out, p3]; rfl
                    exact ⟨j + 1, m, by omega, by go_num, HJ1, rfl⟩
                  case measure => simp [intOf]; omega
              · obtain rfl : j = t[k].length := by omega
                have HJ := Lib.hid (show rowOK (t.headD []).length t[k] = true by
                  have := Hj.out; rw [List.take_length] at this
                  simp only [rowOK, P2.out, this, HH.out, ← P1.out, beq_self_eq_true, Bool.and_self])
                go_wp2_with fail
                go_roundw
                case rel => exact ⟨k + 1, _, by omega, by go_num, by rw [take_succ_all _ _ _ hlt, Hrel.out, HJ.out]; rfl, by first | rfl | exact World.drewN_drewN _ _ _⟩
                case measure => simp [intOf]; omega
        · have hb : (((t[k].length : Nat) : Int) != ((t[0].length : Nat) : Int)) = true := by simp; omega
          have HR := Lib.hid (isTable_false hlt (by
            have : (t[k].length == (t.headD []).length) = false := by rw [HH.out]; exact beq_eq_false_iff_ne.2 p1
            unfold rowOK; rw [this]; rfl))
          clear p1
          go_wp2_with fail
          go_quiet (fail)
          go_wp2_with fail
          go_ret
          exact ⟨retB HR.out.symm, by first | exact ⟨_, rfl⟩ | exact drewEx⟩
      · obtain rfl : k = t.length := by omega
        have HR := Lib.hid (show isTable t = true by
          have := Hrel.out; rw [List.take_length] at this
          simp only [isTable, H1.out, this, Bool.and_self])
        go_wp2_with fail
        go_ret
        exact ⟨retB HR.out.symm, by first | exact ⟨_, rfl⟩ | exact drewEx⟩
theorem isTable_end {t : List (List Int)} (h : t.all (rowOK (t.headD []).length) = true) : isTable t = inB t.length 1 10 := by unfold isTable; rw [h, Bool.and_true]
set_option maxHeartbeats 2000000 in
theorem implIsTable_any (A : Option Addr) (c : Nat) (t : List (List Int)) (w : World) (h : RII w A t) :
    Calls Tryz.prog 26 #[.slice A t.length c] w fun e w' => e = .returned (.bool (isTable t)) ∧ w = w' := by
  have hle := h.le
  go_enter Tryz.func26, Tryz.ntmps26
  go_wp2_with fail
  go_loop [7] (fun i => ∃ k : Nat, k ≤ t.length ∧ i = .int .i64 k ∧ (t.take k).all (rowOK (t.headD []).length) = true) (fun i => t.length - (intOf i).toNat)
  case atStart => exact ⟨0, by omega, rfl, rfl⟩
  case round =>
    obtain ⟨k, hk, rfl, hrel⟩ := hrel
    have Hrel := Lib.hid hrel; clear hrel
    by_cases hlt : k < t.length
    · have h0 : 0 < t.length := by omega
      have HH := Lib.hid (headD_len h0)
      obtain ⟨b, o, A1, c1, A2, c2, rfl, hc1, hcc1, hr1, hc2, hcc2, hr2⟩ := h.at2 hlt h0
      simp only [Nat.add_zero] at hc2
      have hl1 := hr1.le
      by_cases p1 : t[k].length = t[0].length
      · have hb : (((t[k].length : Nat) : Int) != ((t[0].length : Nat) : Int)) = false := by simp [p1]
        have P1 := Lib.hid p1; clear p1
        by_cases p2 : 1 ≤ t[k].length ∧ t[k].length ≤ 12
        · obtain ⟨p2, p3⟩ := p2
          cases p4 : allW 0 1 t[k] with
          | false =>
            have HR := Lib.hid (isTable_false hlt (by simp [rowOK, p4]))
            go_wp2_with (go_at_call 48; refine (allWithin_any _ _ _ _ _ _ hr1).mono ?_; rintro e w' ⟨rfl, rfl⟩)
            go_ret
            exact ⟨retB HR.out.symm, rfl⟩
          | true =>
            have HJ := Lib.hid (show rowOK (t.headD []).length t[k] = true by
              have : inB t[k].length 1 12 = true := inB_iff'.2 ⟨by omega, by omega⟩
              simp only [rowOK, this, p4, HH.out, ← P1.out, beq_self_eq_true, Bool.and_self])
            go_wp2_with (go_at_call 48; refine (allWithin_any _ _ _ _ _ _ hr1).mono ?_; rintro e w' ⟨rfl, rfl⟩)
            go_round
            case rel => exact ⟨k + 1, by omega, by go_num, by rw [take_succ_all _ _ _ hlt, Hrel.out, HJ.out]; rfl⟩
            case measure => simp [intOf]; omega
        · have HR := Lib.hid (isTable_false hlt (by
            have : inB t[k].length 1 12 = false := by rw [Bool.eq_false_iff]; intro h; have := inB_iff'.1 h; omega
            simp [rowOK, this]))
          by_cases p3 : t[k].length < 1
          · go_wp2_with fail
            go_ret
            exact ⟨retB HR.out.symm, rfl⟩
          · have p4 : 12 < t[k].length := by omega
            clear p2
            go_wp2_with fail
            go_ret
            exact ⟨retB HR.out.symm, rfl⟩
      · have hb : (((t[k].length : Nat) : Int) != ((t[0].length : Nat) : Int)) = true := by simp; omega
        have HR := Lib.hid (isTable_false hlt (by
          have : (t[k].length == (t.headD []).length) = false := by rw [HH.out]; exact beq_eq_false_iff_ne.2 p1
          unfold rowOK; rw [this]; rfl))
        clear p1
        go_wp2_with fail
        go_ret
        exact ⟨retB HR.out.symm, rfl⟩
    · obtain rfl : k = t.length := by omega
      have HE := Lib.hid (isTable_end (by have := Hrel.out; rwa [List.take_length] at this))
      by_cases p1 : 1 ≤ t.length
      · by_cases p2 : t.length ≤ 10
        · have HR := Lib.hid (show isTable t = true by rw [HE.out]; exact inB_iff'.2 ⟨by omega, by omega⟩)
          go_wp2_with fail
          go_ret
          exact ⟨retB (by rw [HR.out]; first | rfl | (simp; omega)), rfl⟩
        · have HR := Lib.hid (show isTable t = false by rw [HE.out, Bool.eq_false_iff]; intro h; have := inB_iff'.1 h; omega)
          go_wp2_with fail
          go_ret
          exact ⟨retB (by rw [HR.out]; first | rfl | (simp; omega)), rfl⟩
      · have HR := Lib.hid (show isTable t = false by rw [HE.out, Bool.eq_false_iff]; intro h; have := inB_iff'.1 h; omega)
        go_wp2_with fail
        go_ret
        exact ⟨retB HR.out.symm, rfl⟩
def tableCode (t : List (List Int)) (ks : List Int) : Int := if isTable t then (if allW 0 (t.length - 1) ks then 0 else 2) else 1
end Go.Proofs.YtdedajohkdbdkaaGreatDoor

/- Contracts of MasterKeys. -/
namespace Go.Proofs.YtdedajohkdbdkaaGreatDoor
set_option linter.unusedVariables false
open Go.RowKit
/-- the numbers of the rows that p keeps -/
def selF (p : List Int → Bool) (t : List (List Int)) : List Int := (t.zipIdx.filter fun x => p x.1).map fun x => (x.2 : Int)
theorem selF_succ (p : List Int → Bool) (t : List (List Int)) (k : Nat) (h : k < t.length) : selF p (t.take (k + 1)) = selF p (t.take k) ++ if p t[k] then [(k : Int)] else [] := by
  have hl : (t.take k).length = k := by simp; omega
  unfold selF
  rw [List.take_succ_eq_append_getElem h, List.zipIdx_append, List.filter_append, List.map_append, hl]
  cases hp : p t[k] <;> simp [hp]
theorem selF_len (p : List Int → Bool) (t : List (List Int)) : (selF p t).length ≤ t.length := by
  unfold selF
  rw [List.length_map]
  exact Nat.le_trans (List.length_filter_le _ _) (by simp)
def masterKeys (t : List (List Int)) : List Int × Int := if isTable t then (selF (fun r => !hasI r 0) t, 0) else ([], 1)
end Go.Proofs.YtdedajohkdbdkaaGreatDoor

/- Contracts of IsMaker, areLevels, l12Levels. -/
namespace Go.Proofs.YtdedajohkdbdkaaGreatDoor
set_option linter.unusedVariables false
open Go.RowKit
structure Mk where
  c : Int
  d : Int
  s : Int
  a : Int
  l : Int
def isMaker (m : Mk) : Bool := inB m.c 2 6 && inB m.d 2 8 && inB m.s 1 (m.d - 1) && inB m.a 1 m.c && inB m.l 1 (min m.c m.d)
theorem inB_iff {a b c : Int} : inB a b c = true ↔ b ≤ a ∧ a ≤ c := by simp [inB]
set_option maxHeartbeats 1000000 in
theorem implIsMaker_any (m : Mk) (w : World) :
    Calls Tryz.prog 25 #[.agg #[.int .i64 m.c, .int .i64 m.d, .int .i64 m.s, .int .i64 m.a, .int .i64 m.l]] w fun e w' => e = .returned (.bool (isMaker m)) ∧ Below w.heap.size w w' := by
  have HB := Lib.hid ((Below.refl w.heap.size w).alloc (Nat.le_refl _) (.cells #[.int .i64 m.c, .int .i64 m.d, .int .i64 m.s, .int .i64 m.a, .int .i64 m.l] 25))
  cases h1 : inB m.c 2 6 with
  | false =>
    have HR := Lib.hid (show isMaker m = false by simp [isMaker, h1])
    go_enter Tryz.func25, Tryz.ntmps25
    go_wp2_with (go_at_call 47; refine (within_any _ _ _ _).mono ?_; rintro e w' ⟨rfl, rfl⟩)
    go_ret
    exact ⟨retB HR.out.symm, HB.out⟩
  | true =>
  cases h2 : inB m.d 2 8 with
  | false =>
    have HR := Lib.hid (show isMaker m = false by simp [isMaker, h1, h2])
    go_enter Tryz.func25, Tryz.ntmps25
    go_wp2_with (go_at_call 47; refine (within_any _ _ _ _).mono ?_; rintro e w' ⟨rfl, rfl⟩)
    go_ret
    exact ⟨retB HR.out.symm, HB.out⟩
  | true =>
  have ⟨d1, d2⟩ := inB_iff.1 h2
  cases h3 : inB m.s 1 (m.d - 1) with
  | false =>
    have HR := Lib.hid (show isMaker m = false by simp [isMaker, h1, h2, h3])
    go_enter Tryz.func25, Tryz.ntmps25
    go_wp2_with (go_at_call 47; refine (within_any _ _ _ _).mono ?_; rintro e w' ⟨rfl, rfl⟩)
    go_ret
    exact ⟨retB HR.out.symm, HB.out⟩
  | true =>
  cases h4 : inB m.a 1 m.c with
  | false =>
    have HR := Lib.hid (show isMaker m = false by simp [isMaker, h1, h2, h3, h4])
    go_enter Tryz.func25, Tryz.ntmps25
    go_wp2_with (go_at_call 47; refine (within_any _ _ _ _).mono ?_; rintro e w' ⟨rfl, rfl⟩)
    go_ret
    exact ⟨retB HR.out.symm, HB.out⟩
  | true =>
  by_cases hm : m.c ≤ m.d
  · have HR := Lib.hid (show isMaker m = inB m.l 1 m.c by simp [isMaker, h1, h2, h3, h4, Int.min_eq_left hm])
    go_enter Tryz.func25, Tryz.ntmps25
    go_wp2_with (go_at_call 47; refine (within_any _ _ _ _).mono ?_; rintro e w' ⟨rfl, rfl⟩)
    go_ret
    exact ⟨retB HR.out.symm, HB.out⟩
  · have HR := Lib.hid (show isMaker m = inB m.l 1 m.d by simp [isMaker, h1, h2, h3, h4, Int.min_eq_right (show m.d ≤ m.c by omega)])
    go_enter Tryz.func25, Tryz.ntmps25
    go_wp2_with (go_at_call 47; refine (within_any _ _ _ _).mono ?_; rintro e w' ⟨rfl, rfl⟩)
    go_ret
    exact ⟨retB HR.out.symm, HB.out⟩
set_option maxHeartbeats 1000000 in
theorem specIsMaker_any (m : Mk) (w : World) :
    Calls Tryz.prog 28 #[.agg #[.int .i64 m.c, .int .i64 m.d, .int .i64 m.s, .int .i64 m.a, .int .i64 m.l]] w fun e w' => e = .returned (.bool (isMaker m)) ∧ Below w.heap.size w w' := by
  have HB := Lib.hid ((Below.refl w.heap.size w).alloc (Nat.le_refl _) (.cells #[.int .i64 m.c, .int .i64 m.d, .int .i64 m.s, .int .i64 m.a, .int .i64 m.l] 25))
  cases h1 : inB m.c 2 6 with
  | false =>
    have HR := Lib.hid (show isMaker m = false by simp [isMaker, h1])
    go_enter Tryz.func28, Tryz.ntmps28
    go_wp2_with (go_at_call 49; refine (l01In_any _ _ _ _).mono ?_; rintro e w' ⟨rfl, rfl⟩)
    go_ret
    exact ⟨retB HR.out.symm, HB.out⟩
  | true =>
  cases h2 : inB m.d 2 8 with
  | false =>
    have HR := Lib.hid (show isMaker m = false by simp [isMaker, h1, h2])
    go_enter Tryz.func28, Tryz.ntmps28
    go_wp2_with (go_at_call 49; refine (l01In_any _ _ _ _).mono ?_; rintro e w' ⟨rfl, rfl⟩)
    go_ret
    exact ⟨retB HR.out.symm, HB.out⟩
  | true =>
  have ⟨d1, d2⟩ := inB_iff.1 h2
  cases h3 : inB m.s 1 (m.d - 1) with
  | false =>
    have HR := Lib.hid (show isMaker m = false by simp [isMaker, h1, h2, h3])
    go_enter Tryz.func28, Tryz.ntmps28
    go_wp2_with (go_at_call 49; refine (l01In_any _ _ _ _).mono ?_; rintro e w' ⟨rfl, rfl⟩)
    go_ret
    exact ⟨retB HR.out.symm, HB.out⟩
  | true =>
  cases h4 : inB m.a 1 m.c with
  | false =>
    have HR := Lib.hid (show isMaker m = false by simp [isMaker, h1, h2, h3, h4])
    go_enter Tryz.func28, Tryz.ntmps28
    go_wp2_with (go_at_call 49; refine (l01In_any _ _ _ _).mono ?_; rintro e w' ⟨rfl, rfl⟩)
    go_ret
    exact ⟨retB HR.out.symm, HB.out⟩
  | true =>
  by_cases hm : m.c ≤ m.d
  · have HR := Lib.hid (show isMaker m = inB m.l 1 m.c by simp [isMaker, h1, h2, h3, h4, Int.min_eq_left hm])
    go_enter Tryz.func28, Tryz.ntmps28
    go_wp2_with (go_at_call 49; refine (l01In_any _ _ _ _).mono ?_; rintro e w' ⟨rfl, rfl⟩)
    go_ret
    exact ⟨retB HR.out.symm, HB.out⟩
  · have HR := Lib.hid (show isMaker m = inB m.l 1 m.d by simp [isMaker, h1, h2, h3, h4, Int.min_eq_right (show m.d ≤ m.c by omega)])
    go_enter Tryz.func28, Tryz.ntmps28
    go_wp2_with (go_at_call 49; refine (l01In_any _ _ _ _).mono ?_; rintro e w' ⟨rfl, rfl⟩)
    go_ret
    exact ⟨retB HR.out.symm, HB.out⟩
theorem isMaker_iff {m : Mk} : isMaker m = true ↔ (2 ≤ m.c ∧ m.c ≤ 6) ∧ (2 ≤ m.d ∧ m.d ≤ 8) ∧ (1 ≤ m.s ∧ m.s ≤ m.d - 1) ∧ (1 ≤ m.a ∧ m.a ≤ m.c) ∧ (1 ≤ m.l ∧ m.l ≤ m.c ∧ m.l ≤ m.d) := by
  simp [isMaker, inB, and_assoc]; omega

/-! ### levels -/
def areLevels (m : Mk) (ls : List Int) : Bool := decide (1 ≤ ls.length) && (decide (ls.length ≤ 4) && (allW 1 m.c ls && sumI ls == m.c))
end Go.Proofs.YtdedajohkdbdkaaGreatDoor

/- Contracts of IsSystem. -/
namespace Go.Proofs.YtdedajohkdbdkaaGreatDoor
set_option linter.unusedVariables false
open Go.RowKit
/-- does the row have a 1 in column d? -/
def oneAt (d : Nat) (r : List Int) : Bool := r.getD d 0 == 1
/-- is there a row with a 1 in column d? -/
def opened (t : List (List Int)) (d : Nat) : Bool := t.any (oneAt d)
def isSystem (m : Mk) (t : List (List Int)) : Bool := isMaker m && isTable t && (List.range (t.headD []).length).all fun d => opened t d
def rowsForL (t : List (List Int)) (d : Nat) : List Int := selF (oneAt d) t
theorem oneAt_in {d : Nat} {r : List Int} (h : d < r.length) : oneAt d r = (r[d] == 1) := by simp [oneAt, List.getElem?_eq_getElem h]
theorem getD_in {xs : List Int} {k : Nat} (h : k < xs.length) : xs.getD k 0 = xs[k] := by simp [List.getD, List.getElem?_eq_getElem h]
theorem opened_succ (t : List (List Int)) (d k : Nat) (h : k < t.length) (hd : d < t[k].length) : opened (t.take (k + 1)) d = (opened (t.take k) d || (t[k][d] == 1)) := by
  unfold opened
  rw [List.take_succ_eq_append_getElem h, List.any_append]; simp [oneAt_in hd]
theorem selF_none (p : List Int → Bool) (t : List (List Int)) : ((((selF p t).length : Nat) : Int) == 0) = !t.any p := by
  have : (selF p t).length = ((t.zipIdx.filter fun x => p x.1)).length := by simp [selF]
  rw [this]
  rw [Bool.eq_iff_iff]
  simp only [beq_iff_eq, Int.natCast_eq_zero, List.length_eq_zero_iff, List.filter_eq_nil_iff, Bool.not_eq_true', List.any_eq_false, Bool.not_eq_true]
  constructor
  · intro h x hx
    obtain ⟨i, hi, rfl⟩ := List.getElem_of_mem hx
    have := h (t[i], i) (by rw [List.mem_zipIdx_iff_getElem?]; simp [List.getElem?_eq_getElem hi])
    simpa using this
  · intro h x hx
    obtain ⟨a, i⟩ := x
    rw [List.mem_zipIdx_iff_getElem?] at hx
    simpa using h a (List.mem_of_getElem? hx)
theorem rangeAll_at {p : Nat → Bool} {n k : Nat} (hk : k < n) (h : p k = false) : (List.range n).all p = false := by
  rw [Bool.eq_false_iff]; intro ha; rw [List.all_eq_true] at ha; have := ha k (List.mem_range.2 hk); rw [h] at this; cases this
theorem rangeAll_succ (p : Nat → Bool) (k : Nat) : (List.range (k + 1)).all p = ((List.range k).all p && p k) := by simp [List.range_succ]
theorem isSystem_bad {m : Mk} {t : List (List Int)} {d : Nat} (hd : d < (t.headD []).length) (h : opened t d = false) : isSystem m t = false := by
  unfold isSystem; rw [rangeAll_at hd h]; simp
set_option maxRecDepth 100000 in
set_option maxHeartbeats 2000000 in
theorem rowsFor_any (m : Mk) (A : Option Addr) (c : Nat) (t : List (List Int)) (d : Nat) (w : World) (h : RII w A t) (hd : ∀ k (hk : k < t.length), d < t[k].length) (hl : t.length ≤ 1073741824) :
    Calls Tryz.prog 27 #[.agg #[.int .i64 m.c, .int .i64 m.d, .int .i64 m.s, .int .i64 m.a, .int .i64 m.l, .slice A t.length c], .int .i64 (d : Int)] w (ResI w (rowsForL t d)) := by
  have B0 : Below w.heap.size w (w.alloc (.cells #[.int .i64 m.c, .int .i64 m.d, .int .i64 m.s, .int .i64 m.a, .int .i64 m.l, .slice A t.length c] 28)) := (Below.refl w.heap.size w).alloc (Nat.le_refl _) _
  go_enter Tryz.func27, Tryz.ntmps27
  go_wp2_with fail
  go_loopw [5, 12] (fun v i wr => ∃ k : Nat, k ≤ t.length ∧ i = .int .i64 k ∧ OV wr w.heap.size 2 v (ints (selF (oneAt d) (t.take k))) ∧ Below w.heap.size w wr)
    (fun _ i _ => t.length - (intOf i).toNat)
  case atStart => exact ⟨0, by omega, rfl, by simpa [ints, selF] using OV.new0 (w := w.alloc (.cells #[.int .i64 m.c, .int .i64 m.d, .int .i64 m.s, .int .i64 m.a, .int .i64 m.l, .slice A t.length c] 28)) (B := w.heap.size) (e := 2) (by simp only [World.size_alloc]; omega), B0.alloc (by simp) _⟩
  case round =>
    obtain ⟨k, hk, rfl, ho, hb⟩ := hrel
    have hsz := hb.size
    by_cases hlt : k < t.length
    · obtain ⟨b, o, A', c', rfl, hc, hcc, hr⟩ := (h.below hb).at_ hlt
      have hs := Lib.hid (selF_succ (oneAt d) t k hlt)
      have HL := Lib.hid (selF_len (oneAt d) (t.take k))
      have hdk := hd k hlt
      have hG := oneAt_in hdk
      obtain ⟨b2, o2, rfl, hc2⟩ := hr.at_ hdk
      have HG := Lib.hid hG; clear hG
      cases hp : (t[k][d] == 1) with
      | false =>
        go_wp2_with fail
        go_roundw
        case rel => exact ⟨k + 1, by omega, by go_num, by rw [hs.out, HG.out, hp]; simpa using ho, hb⟩
        case measure => simp [intOf]; omega
      | true =>
        go_wp2_with (at_builtin; refine wpList_app1 _ rfl _ _ _ rfl w.heap.size 2 _ 8 Tryz.underlying44 info_int rfl (by omega) _ _ rfl (ho.alloc _) _ _ rfl (one_cell _ _ _) rfl (by rw [ints_length]; have := HL.out; simp at this; omega) (by simp; omega) ?_; intro v' w3 ho3 hg3 hn3 hat3)
        go_roundw
        case rel => exact ⟨k + 1, by omega, by go_num, by rw [hs.out, HG.out, hp, ints_append]; exact ho3, (ho.alloc _).own (Nat.le_refl _) (hb.alloc (by omega) _) hg3 (by simp; omega)⟩
        case measure => simp [intOf]; omega
    · obtain rfl : k = t.length := by omega
      rw [List.take_length] at ho
      go_wp2_with fail
      go_ret
      exact resI_own ho (Nat.le_refl _) hb
set_option maxRecDepth 100000 in
set_option maxHeartbeats 4000000 in
theorem implIsSystem_any (m : Mk) (A : Option Addr) (c : Nat) (t : List (List Int)) (w : World) (h : RII w A t) :
    Calls Tryz.prog 12 #[.agg #[.int .i64 m.c, .int .i64 m.d, .int .i64 m.s, .int .i64 m.a, .int .i64 m.l, .slice A t.length c]] w fun e w' => e = .returned (.bool (isSystem m t)) ∧ Below w.heap.size w w' := by
  have B0 : Below w.heap.size w (w.alloc (.cells #[.int .i64 m.c, .int .i64 m.d, .int .i64 m.s, .int .i64 m.a, .int .i64 m.l, .slice A t.length c] 28)) := (Below.refl w.heap.size w).alloc (Nat.le_refl _) _
  cases h1 : isMaker m with
  | false =>
    have HR := Lib.hid (show isSystem m t = false by simp [isSystem, h1])
    go_enter Tryz.func12, Tryz.ntmps12
    go_wp2_with (go_at_call 25; refine (implIsMaker_any m _).mono ?_; rw [h1]; rintro e w1 ⟨rfl, b1⟩)
    go_ret
    exact ⟨retB HR.out.symm, B0.trans (b1.mono B0.size)⟩
  | true =>
  cases h2 : isTable t with
  | false =>
    have HR := Lib.hid (show isSystem m t = false by simp [isSystem, h2])
    go_enter Tryz.func12, Tryz.ntmps12
    go_wp2_with fail
    refine (implIsMaker_any m _).mono ?_
    rw [h1]
    rintro e w1 ⟨rfl, b1⟩
    have C := (bcell b1).1
    have B1 := B0.trans (b1.mono B0.size)
    go_wp2_with fail
    refine (implIsTable_any _ _ _ _ (h.below B1)).mono ?_
    rw [h2]
    rintro e w2 ⟨rfl, rfl⟩
    go_wp2_with fail
    go_ret
    exact ⟨retB HR.out.symm, B1⟩
  | true =>
    have hT := isTable_get h2
    have hT1 := hT.1
    have h0 : 0 < t.length := by omega
    have hd0 := headD_len h0
    have hcol : ∀ k (hk : k < t.length), t[k].length = t[0].length := fun k hk => by rw [(hT.2.2 k hk).1, hd0]
    have ht0 : t[0].length ≤ 12 := (hT.2.2 0 h0).2.2.1
    have hlt10 : t.length ≤ 10 := hT.2.1
    have HS := Lib.hid (show isSystem m t = (List.range t[0].length).all fun d => opened t d by unfold isSystem; rw [h1, h2, hd0]; rfl)
    have HB := Lib.hid (show ∀ d, d < t[0].length → opened t d = false → isSystem m t = false from fun d hd ho => isSystem_bad (by rw [hd0]; exact hd) ho)
    have HC := Lib.hid hcol
    clear hT hd0 hcol
    go_enter Tryz.func12, Tryz.ntmps12
    go_wp2_with fail
    refine (implIsMaker_any m _).mono ?_
    rw [h1]
    rintro e w1 ⟨rfl, b1⟩
    have C := (bcell b1).1
    have B1 := B0.trans (b1.mono B0.size)
    go_wp2_with fail
    refine (implIsTable_any _ _ _ _ (h.below B1)).mono ?_
    rw [h2]
    rintro e w2 ⟨rfl, rfl⟩
    obtain ⟨b, o, A', c', rfl, hc, hcc, hr⟩ := (h.below B1).at_ h0
    simp only [Nat.add_zero] at hc
    have s1 : w.heap.size < w1.heap.size := by have := b1.size; simp only [World.size_alloc] at this; omega
    have H1 := Lib.hid h1; have H2 := Lib.hid h2
    clear h1 h2
    go_wp2_with fail
    go_loopw [3, 19] (fun _ i wr => ∃ k : Nat, k ≤ t[0].length ∧ i = .int .i64 k ∧ (List.range k).all (fun d => opened t d) = true ∧ Below w1.heap.size w1 wr) (fun _ i _ => t[0].length - (intOf i).toNat)
    case atStart => exact ⟨0, by omega, rfl, rfl, Below.refl _ _⟩
    case round =>
      obtain ⟨k, hk, rfl, hall, hb⟩ := hrel
      have HA := Lib.hid hall; clear hall
      have Cr := (bcell hb).1
      have Brr := B1.trans (hb.mono B1.size)
      by_cases hlt : k < t[0].length
      · go_wp2_with fail
        refine (rowsFor_any m _ _ t k _ (h.below Brr) (fun j hj => by rw [HC.out j hj]; exact hlt) (by omega)).mono ?_
        rintro e w3 ⟨A3, c3, rfl, hc3, r3, o3, b3⟩
        have hn := selF_none (oneAt k) t
        have B3 := Brr.trans (b3.mono Brr.size)
        have hl3 := r3.le
        cases hop : opened t k with
        | true =>
          have hz : ((((rowsForL t k).length : Nat) : Int) == 0) = false := by unfold rowsForL; rw [hn]; unfold opened at hop; rw [hop]; rfl
          clear hn o3 r3
          have HO := Lib.hid hop; clear hop
          go_wp2_with fail
          go_roundw
          case rel => exact ⟨k + 1, by omega, by go_num, by rw [rangeAll_succ, HA.out, HO.out]; rfl, hb.trans (b3.mono hb.size)⟩
          case measure => simp [intOf]; omega
        | false =>
          have hz : ((((rowsForL t k).length : Nat) : Int) == 0) = true := by unfold rowsForL; rw [hn]; unfold opened at hop; rw [hop]; rfl
          have HR := Lib.hid (HB.out k hlt hop)
          clear hn o3 r3 hop
          go_wp2_with fail
          go_ret
          exact ⟨retB HR.out.symm, B3⟩
      · obtain rfl : k = t[0].length := by omega
        go_wp2_with fail
        go_ret
        exact ⟨retB (by rw [HS.out, HA.out]), Brr⟩
set_option maxRecDepth 100000 in
set_option maxHeartbeats 4000000 in
theorem specIsSystem_any (m : Mk) (A : Option Addr) (c : Nat) (t : List (List Int)) (w : World) (h : RII w A t) :
    Calls Tryz.prog 13 #[.agg #[.int .i64 m.c, .int .i64 m.d, .int .i64 m.s, .int .i64 m.a, .int .i64 m.l, .slice A t.length c]] w fun e w' => e = .returned (.bool (isSystem m t)) ∧ Below w.heap.size w w' := by
  have B0 : Below w.heap.size w (w.alloc (.cells #[.int .i64 m.c, .int .i64 m.d, .int .i64 m.s, .int .i64 m.a, .int .i64 m.l, .slice A t.length c] 28)) := (Below.refl w.heap.size w).alloc (Nat.le_refl _) _
  cases h1 : isMaker m with
  | false =>
    have HR := Lib.hid (show isSystem m t = false by simp [isSystem, h1])
    go_enter Tryz.func13, Tryz.ntmps13
    go_wp2_with (go_at_call 28; refine (specIsMaker_any m _).mono ?_; rw [h1]; rintro e w1 ⟨rfl, b1⟩)
    go_ret
    exact ⟨retB HR.out.symm, B0.trans (b1.mono B0.size)⟩
  | true =>
  cases h2 : isTable t with
  | false =>
    have HR := Lib.hid (show isSystem m t = false by simp [isSystem, h2])
    go_enter Tryz.func13, Tryz.ntmps13
    go_wp2_with fail
    refine (specIsMaker_any m _).mono ?_
    rw [h1]
    rintro e w1 ⟨rfl, b1⟩
    have C := (bcell b1).1
    have B1 := B0.trans (b1.mono B0.size)
    go_wp2_with fail
    refine (specIsTable_any _ _ _ _ (h.below B1)).mono ?_
    rw [h2]
    rintro e w2 ⟨rfl, n2, rfl⟩
    go_wp2_with fail
    go_ret
    exact ⟨retB HR.out.symm, belowD B1 n2⟩
  | true =>
    have hT := isTable_get h2
    have hT1 := hT.1
    have h0 : 0 < t.length := by omega
    have hd0 := headD_len h0
    have hcol : ∀ k (hk : k < t.length), t[k].length = t[0].length := fun k hk => by rw [(hT.2.2 k hk).1, hd0]
    have ht0 : t[0].length ≤ 12 := (hT.2.2 0 h0).2.2.1
    have hlt10 : t.length ≤ 10 := hT.2.1
    have HS := Lib.hid (show isSystem m t = (List.range t[0].length).all fun d => opened t d by unfold isSystem; rw [h1, h2, hd0]; rfl)
    have HB := Lib.hid (show ∀ d, d < t[0].length → opened t d = false → isSystem m t = false from fun d hd ho => isSystem_bad (by rw [hd0]; exact hd) ho)
    have HC := Lib.hid hcol
    clear hT hd0 hcol
    go_enter Tryz.func13, Tryz.ntmps13
    go_wp2_with fail
    refine (specIsMaker_any m _).mono ?_
    rw [h1]
    rintro e w1 ⟨rfl, b1⟩
    have C := (bcell b1).1
    have B1 := B0.trans (b1.mono B0.size)
    go_wp2_with fail
    refine (specIsTable_any _ _ _ _ (h.below B1)).mono ?_
    rw [h2]
    rintro e w2 ⟨rfl, n2, rfl⟩
    have s1 : w.heap.size < w1.heap.size := by have := b1.size; simp only [World.size_alloc] at this; omega
    have H1 := Lib.hid h1; have H2 := Lib.hid h2
    clear h1 h2
    go_wp2_with fail
    go_loop [3, 4, 5] (fun i _ _ => ∃ k : Nat, k ≤ t[0].length ∧ i = .int .i64 k ∧ (List.range k).all (fun d => opened t d) = true) (fun i _ _ => t[0].length - (intOf i).toNat)
    case atStart => exact ⟨0, by omega, rfl, rfl⟩
    case round =>
      obtain ⟨k, hk, rfl, hall⟩ := hrel
      have HA := Lib.hid hall; clear hall
      obtain ⟨b, o, A', c', rfl, hc, hcc, hr⟩ := (h.below B1).at_ h0
      simp only [Nat.add_zero] at hc
      have hl0 := hr.le
      by_cases hlt : k < t[0].length
      · go_wp2_with fail
        go_loop [4, 5] (fun x i => ∃ j : Nat, j ≤ t.length ∧ i = .int .i64 j ∧ x = .bool (opened (t.take j) k)) (fun _ i => t.length - (intOf i).toNat)
        case atStart => exact ⟨0, by omega, rfl, by simp [opened]⟩
        case round =>
          obtain ⟨j, hj, rfl, rfl⟩ := hrel
          by_cases hjl : j < t.length
          · obtain ⟨b2, o2, A2, c2, e2, hc2, hcc2, hr2⟩ := (h.below B1).at_ hjl
            injection e2 with e2
            injection e2 with e3 e4
            subst e3 e4
            have hkj : k < t[j].length := by rw [HC.out j hjl]; exact hlt
            obtain ⟨b3, o3, rfl, hc3⟩ := hr2.at_ hkj
            have hs := Lib.hid (opened_succ t k j hjl hkj)
            cases hp : opened (t.take j) k with
            | true =>
              go_wp2_with fail
              go_round
              case rel => exact ⟨j + 1, by omega, by go_num, by rw [hs.out, hp]; rfl⟩
              case measure => simp [intOf]; omega
            | false =>
              go_wp2_with fail
              go_round
              case rel => exact ⟨j + 1, by omega, by go_num, by rw [hs.out, hp]; rfl⟩
              case measure => simp [intOf]; omega
          · obtain rfl : j = t.length := by omega
            rw [List.take_length]
            cases hop : opened t k with
            | true =>
              have HO := Lib.hid hop; clear hop
              go_wp2_with fail
              go_round
              case rel => exact ⟨k + 1, by omega, by go_num, by rw [rangeAll_succ, HA.out, HO.out]; rfl⟩
              case measure => simp [intOf]; omega
            | false =>
              have HR := Lib.hid (HB.out k hlt hop)
              clear hop
              go_wp2_with fail
              go_ret
              exact ⟨retB HR.out.symm, belowD B1 n2⟩
      · obtain rfl : k = t[0].length := by omega
        go_wp2_with fail
        go_ret
        exact ⟨retB (by rw [HS.out, HA.out]), belowD B1 n2⟩
end Go.Proofs.YtdedajohkdbdkaaGreatDoor
