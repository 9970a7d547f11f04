/- Contracts of IsTable, tableCode, MasterKeys. -/
import Derived.Test.YtapocenhmdcfoaaHelp
namespace Go.Proofs.Ytapocenhmdcfoaa
set_option linter.unusedVariables false
open Go.RowKit
def rowOK (n : Nat) (r : List Int) : Bool := (r.length == n && inB r.length 1 12) && allW 0 1 r
def isTable (t : List (List Int)) : Bool := inB t.length 1 10 && t.all (rowOK (t.headD []).length)
theorem inB_iff' {a b c : Int} : inB a b c = true ↔ b ≤ a ∧ a ≤ c := by simp [inB]
theorem headD_len {t : List (List Int)} (h : 0 < t.length) : (t.headD []) = t[0] := by cases t <;> simp at h ⊢
theorem isTable_get {t : List (List Int)} (h : isTable t = true) : 1 ≤ t.length ∧ t.length ≤ 10 ∧ ∀ k (hk : k < t.length), t[k].length = (t.headD []).length ∧ 1 ≤ t[k].length ∧ t[k].length ≤ 12 ∧ allW 0 1 t[k] = true := by
  simp only [isTable, Bool.and_eq_true, List.all_eq_true] at h
  have h1 := inB_iff'.1 h.1
  refine ⟨by omega, by omega, fun k hk => ?_⟩
  have := h.2 _ (List.getElem_mem hk)
  simp only [rowOK, Bool.and_eq_true, beq_iff_eq] at this
  have h2 := inB_iff'.1 this.1.2
  exact ⟨this.1.1, by omega, by omega, this.2⟩
theorem isTable_false {t : List (List Int)} {k : Nat} (hk : k < t.length) (h : rowOK (t.headD []).length t[k] = false) : isTable t = false := by
  unfold isTable; rw [all_false_at _ t k hk h]; simp
set_option maxHeartbeats 2000000 in
theorem specIsTable_any (A : Option Addr) (c : Nat) (t : List (List Int)) (w : World) (h : RII w A t) :
    Calls Try.prog 110 #[.slice A t.length c] w fun e w' => e = .returned (.bool (isTable t)) ∧ ∃ n, w' = w.drewN n := by
  have hle := h.le
  cases h1 : inB t.length 1 10 with
  | false =>
    have HR := Lib.hid (show isTable t = false by simp [isTable, h1])
    go_enter Try.func110, Try.ntmps110
    go_wp2_with (go_at_call 98; refine (l01In_any _ _ _ _).mono ?_; rintro e w' ⟨rfl, rfl⟩)
    go_ret
    exact ⟨retB HR.out.symm, 0, rfl⟩
  | true =>
    have hn := inB_iff'.1 h1
    have h0 : 0 < t.length := by omega
    have HH := Lib.hid (headD_len h0)
    have H1 := Lib.hid h1
    go_enter Try.func110, Try.ntmps110
    go_wp2_with (go_at_call 98; refine (l01In_any _ _ _ _).mono ?_; rintro e w' ⟨rfl, rfl⟩)
    clear h1
    go_loopw [3, 4] (fun i _ wr => ∃ k n : Nat, k ≤ t.length ∧ i = .int .i64 k ∧ (t.take k).all (rowOK (t.headD []).length) = true ∧ wr = w.drewN n) (fun i _ _ => t.length - (intOf i).toNat)
    case atStart => exact ⟨0, 0, by omega, rfl, rfl, rfl⟩
    case round =>
      obtain ⟨k, n, hk, rfl, hrel, rfl⟩ := hrel
      have Hrel := Lib.hid hrel; clear hrel
      by_cases hlt : k < t.length
      · obtain ⟨b, o, A1, c1, A2, c2, rfl, hc1, hcc1, hr1, hc2, hcc2, hr2⟩ := h.at2 hlt h0
        simp only [Nat.add_zero] at hc2
        have i0 : (0 : Int) ≤ (k : Int) := by omega
        have i1 : (k : Int) < (t.length : Int) := by omega
        have i2 : (0 : Int) < (t.length : Int) := by omega
        have hl1 := hr1.le
        by_cases p1 : t[k].length = t[0].length
        · have hb : (((t[k].length : Nat) : Int) != ((t[0].length : Nat) : Int)) = false := by simp [p1]
          have P1 := Lib.hid p1; clear p1
          cases p2 : inB t[k].length 1 12 with
          | false =>
            have HR := Lib.hid (isTable_false hlt (by simp [rowOK, p2]))
            go_wp2_with fail
            go_quiet ((go_at_call 98; first | exact quietSA (l01In_any _ _ _ _) | exact quietS (l01In_any _ _ _ _)))
            go_wp2_with fail
            go_ret
            exact ⟨retB HR.out.symm, by first | exact ⟨_, rfl⟩ | exact drewEx⟩
          | true =>
            go_wp2_with fail
            go_quiet ((go_at_call 98; first | exact quietSA (l01In_any _ _ _ _) | exact quietS (l01In_any _ _ _ _)))
            go_wp2_with fail
            have P2 := Lib.hid p2; clear p2
            go_loopw [4] (fun i wx => ∃ j m : Nat, j ≤ t[k].length ∧ i = .int .i64 j ∧ allW 0 1 (t[k].take j) = true ∧ wx = w.drewN m) (fun i _ => t[k].length - (intOf i).toNat)
            case atStart => exact ⟨0, _, by omega, rfl, rfl, by first | rfl | exact World.drewN_drewN _ _ _⟩
            case round =>
              obtain ⟨j, m, hj, rfl, hrel, rfl⟩ := hrel
              have Hj := Lib.hid hrel; clear hrel
              by_cases hjl : j < t[k].length
              · obtain ⟨b', o', rfl, hcj⟩ := hr1.at_ hjl
                cases p3 : inB t[k][j] 0 1 with
                | false =>
                  have HR := Lib.hid (isTable_false hlt (by
                    have := all_false_at (fun x => inB x 0 1) t[k] j hjl p3
                    simp [rowOK, allW, this]))
                  go_wp2_with (go_at_call 98; refine (l01In_any _ _ _ _).mono ?_; rintro e w' ⟨rfl, rfl⟩)
                  go_ret
                  exact ⟨retB HR.out.symm, by first | exact ⟨_, rfl⟩ | exact drewEx⟩
                | true =>
                  go_wp2_with (go_at_call 98; refine (l01In_any _ _ _ _).mono ?_; rintro e w' ⟨rfl, rfl⟩)
                  go_roundw
                  case rel =>
                    have HJ1 : allW 0 1 (t[k].take (j + 1)) = true := by unfold allW at *; rw [take_succ_all _ _ _ hjl, Hj.out, p3]; rfl
                    exact ⟨j + 1, m, by omega, by go_num, HJ1, rfl⟩
                  case measure => simp [intOf]; omega
              · obtain rfl : j = t[k].length := by omega
                have HJ := Lib.hid (show rowOK (t.headD []).length t[k] = true by
                  have := Hj.out; rw [List.take_length] at this
                  simp only [rowOK, P2.out, this, HH.out, ← P1.out, beq_self_eq_true, Bool.and_self])
                go_wp2_with fail
                go_roundw
                case rel => exact ⟨k + 1, _, by omega, by go_num, by rw [take_succ_all _ _ _ hlt, Hrel.out, HJ.out]; rfl, by first | rfl | exact World.drewN_drewN _ _ _⟩
                case measure => simp [intOf]; omega
        · have hb : (((t[k].length : Nat) : Int) != ((t[0].length : Nat) : Int)) = true := by simp; omega
          have HR := Lib.hid (isTable_false hlt (by
            have : (t[k].length == (t.headD []).length) = false := by rw [HH.out]; exact beq_eq_false_iff_ne.2 p1
            unfold rowOK; rw [this]; rfl))
          clear p1
          go_wp2_with fail
          go_quiet (fail)
          go_wp2_with fail
          go_ret
          exact ⟨retB HR.out.symm, by first | exact ⟨_, rfl⟩ | exact drewEx⟩
      · obtain rfl : k = t.length := by omega
        have HR := Lib.hid (show isTable t = true by
          have := Hrel.out; rw [List.take_length] at this
          simp only [isTable, H1.out, this, Bool.and_self])
        go_wp2_with fail
        go_ret
        exact ⟨retB HR.out.symm, by first | exact ⟨_, rfl⟩ | exact drewEx⟩
theorem isTable_end {t : List (List Int)} (h : t.all (rowOK (t.headD []).length) = true) : isTable t = inB t.length 1 10 := by unfold isTable; rw [h, Bool.and_true]
set_option maxHeartbeats 2000000 in
theorem implIsTable_any (A : Option Addr) (c : Nat) (t : List (List Int)) (w : World) (h : RII w A t) :
    Calls Try.prog 57 #[.slice A t.length c] w fun e w' => e = .returned (.bool (isTable t)) ∧ w = w' := by
  have hle := h.le
  go_enter Try.func57, Try.ntmps57
  go_wp2_with fail
  go_loop [7] (fun i => ∃ k : Nat, k ≤ t.length ∧ i = .int .i64 k ∧ (t.take k).all (rowOK (t.headD []).length) = true) (fun i => t.length - (intOf i).toNat)
  case atStart => exact ⟨0, by omega, rfl, rfl⟩
  case round =>
    obtain ⟨k, hk, rfl, hrel⟩ := hrel
    have Hrel := Lib.hid hrel; clear hrel
    by_cases hlt : k < t.length
    · have h0 : 0 < t.length := by omega
      have HH := Lib.hid (headD_len h0)
      obtain ⟨b, o, A1, c1, A2, c2, rfl, hc1, hcc1, hr1, hc2, hcc2, hr2⟩ := h.at2 hlt h0
      simp only [Nat.add_zero] at hc2
      have hl1 := hr1.le
      by_cases p1 : t[k].length = t[0].length
      · have hb : (((t[k].length : Nat) : Int) != ((t[0].length : Nat) : Int)) = false := by simp [p1]
        have P1 := Lib.hid p1; clear p1
        by_cases p2 : 1 ≤ t[k].length ∧ t[k].length ≤ 12
        · obtain ⟨p2, p3⟩ := p2
          cases p4 : allW 0 1 t[k] with
          | false =>
            have HR := Lib.hid (isTable_false hlt (by simp [rowOK, p4]))
            go_wp2_with (go_at_call 121; refine (allWithin_any _ _ _ _ _ _ hr1).mono ?_; rintro e w' ⟨rfl, rfl⟩)
            go_ret
            exact ⟨retB HR.out.symm, rfl⟩
          | true =>
            have HJ := Lib.hid (show rowOK (t.headD []).length t[k] = true by
              have : inB t[k].length 1 12 = true := inB_iff'.2 ⟨by omega, by omega⟩
              simp only [rowOK, this, p4, HH.out, ← P1.out, beq_self_eq_true, Bool.and_self])
            go_wp2_with (go_at_call 121; refine (allWithin_any _ _ _ _ _ _ hr1).mono ?_; rintro e w' ⟨rfl, rfl⟩)
            go_round
            case rel => exact ⟨k + 1, by omega, by go_num, by rw [take_succ_all _ _ _ hlt, Hrel.out, HJ.out]; rfl⟩
            case measure => simp [intOf]; omega
        · have HR := Lib.hid (isTable_false hlt (by
            have : inB t[k].length 1 12 = false := by rw [Bool.eq_false_iff]; intro h; have := inB_iff'.1 h; omega
            simp [rowOK, this]))
          by_cases p3 : t[k].length < 1
          · go_wp2_with fail
            go_ret
            exact ⟨retB HR.out.symm, rfl⟩
          · have p4 : 12 < t[k].length := by omega
            clear p2
            go_wp2_with fail
            go_ret
            exact ⟨retB HR.out.symm, rfl⟩
      · have hb : (((t[k].length : Nat) : Int) != ((t[0].length : Nat) : Int)) = true := by simp; omega
        have HR := Lib.hid (isTable_false hlt (by
          have : (t[k].length == (t.headD []).length) = false := by rw [HH.out]; exact beq_eq_false_iff_ne.2 p1
          unfold rowOK; rw [this]; rfl))
        clear p1
        go_wp2_with fail
        go_ret
        exact ⟨retB HR.out.symm, rfl⟩
    · obtain rfl : k = t.length := by omega
      have HE := Lib.hid (isTable_end (by have := Hrel.out; rwa [List.take_length] at this))
      by_cases p1 : 1 ≤ t.length
      · by_cases p2 : t.length ≤ 10
        · have HR := Lib.hid (show isTable t = true by rw [HE.out]; exact inB_iff'.2 ⟨by omega, by omega⟩)
          go_wp2_with fail
          go_ret
          exact ⟨retB (by rw [HR.out]; first | rfl | (simp; omega)), rfl⟩
        · have HR := Lib.hid (show isTable t = false by rw [HE.out, Bool.eq_false_iff]; intro h; have := inB_iff'.1 h; omega)
          go_wp2_with fail
          go_ret
          exact ⟨retB (by rw [HR.out]; first | rfl | (simp; omega)), rfl⟩
      · have HR := Lib.hid (show isTable t = false by rw [HE.out, Bool.eq_false_iff]; intro h; have := inB_iff'.1 h; omega)
        go_wp2_with fail
        go_ret
        exact ⟨retB HR.out.symm, rfl⟩
def tableCode (t : List (List Int)) (ks : List Int) : Int := if isTable t then (if allW 0 (t.length - 1) ks then 0 else 2) else 1
set_option maxHeartbeats 2000000 in
theorem tableCode_any (A B : Option Addr) (c d : Nat) (t : List (List Int)) (ks : List Int) (w : World) (h : RII w A t) (g : RI w B ks) :
    Calls Try.prog 107 #[.slice A t.length c, .slice B ks.length d] w fun e w' => e = .returned (.int .i64 (tableCode t ks)) ∧ w = w' := by
  have hle := h.le
  cases h1 : isTable t with
  | false =>
    have HR := Lib.hid (show tableCode t ks = 1 by simp [tableCode, h1])
    go_enter Try.func107, Try.ntmps107
    go_wp2_with (go_at_call 57; refine (implIsTable_any _ _ _ _ h).mono ?_; rintro e w' ⟨rfl, rfl⟩)
    go_ret
    exact ⟨retI HR.out.symm, rfl⟩
  | true =>
    cases h2 : allW 0 (t.length - 1) ks with
    | false =>
      have HR := Lib.hid (show tableCode t ks = 2 by simp [tableCode, h1, h2])
      go_enter Try.func107, Try.ntmps107
      go_wp2_with (first | (go_at_call 57; refine (implIsTable_any _ _ _ _ h).mono ?_; rintro e w' ⟨rfl, rfl⟩) | (go_at_call 121; refine (allWithin_any _ _ _ _ _ _ g).mono ?_; rintro e w' ⟨rfl, rfl⟩))
      go_ret
      exact ⟨retI HR.out.symm, rfl⟩
    | true =>
      have HR := Lib.hid (show tableCode t ks = 0 by simp [tableCode, h1, h2])
      go_enter Try.func107, Try.ntmps107
      go_wp2_with (first | (go_at_call 57; refine (implIsTable_any _ _ _ _ h).mono ?_; rintro e w' ⟨rfl, rfl⟩) | (go_at_call 121; refine (allWithin_any _ _ _ _ _ _ g).mono ?_; rintro e w' ⟨rfl, rfl⟩))
      go_ret
      exact ⟨retI HR.out.symm, rfl⟩
end Go.Proofs.Ytapocenhmdcfoaa
