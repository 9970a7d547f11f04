/- Contracts of the functions on cuts and keys. -/
import Derived.Test.YtapocenhmdcfoaaGreatPKey
namespace Go.Proofs.YtapocenhmdcfoaaGreat
set_option linter.unusedVariables false
open Go.RowKit
theorem l01Abs_any (n : Int) (w : World) (h1 : -1000000000 ≤ n) (h2 : n ≤ 1000000000) :
    Calls Tryz.prog 58 #[.int .i64 n] w fun e w' => e = .returned (.int .i64 (absI n)) ∧ w = w' := by
  go_enter Tryz.func58, Tryz.ntmps58
  go_wp2
  all_goals go_ret
  all_goals exact ⟨retI (by unfold absI; omega), rfl⟩
theorem absolute_any (n : Int) (w : World) (h1 : -1000000000 ≤ n) (h2 : n ≤ 1000000000) :
    Calls Tryz.prog 74 #[.int .i64 n] w fun e w' => e = .returned (.int .i64 (absI n)) ∧ w = w' := by
  go_enter Tryz.func74, Tryz.ntmps74
  go_wp2
  all_goals go_ret
  all_goals exact ⟨retI (by unfold absI; omega), rfl⟩
set_option maxHeartbeats 1000000 in
theorem areCuts_any (m : Mk) (A : Option Addr) (c : Nat) (xs : List Int) (w : World) (h : RI w A xs) (hm : isMaker m = true) :
    Calls Tryz.prog 83 #[.agg #[.int .i64 m.c, .int .i64 m.d, .int .i64 m.s, .int .i64 m.a, .int .i64 m.l], .slice A xs.length c] w fun e w' => e = .returned (.bool (cutsOK m xs)) ∧ Below w.heap.size w w' := by
  have HB := Lib.hid ((Below.refl w.heap.size w).alloc (Nat.le_refl _) (.cells #[.int .i64 m.c, .int .i64 m.d, .int .i64 m.s, .int .i64 m.a, .int .i64 m.l] 30))
  have hmk := isMaker_iff.1 hm
  have d1 := hmk.2.1.1; have d2 := hmk.2.1.2
  clear hmk hm
  have hle := h.le
  cases hp : ((xs.length : Int) == m.c) with
  | true =>
    have HR := Lib.hid (show cutsOK m xs = allW 0 (m.d - 1) xs by simp [cutsOK, hp])
    go_enter Tryz.func83, Tryz.ntmps83
    go_wp2_with (go_at_call 77; refine (allWithin_any _ _ _ _ _ _ (h.alloc _)).mono ?_; rintro e w' ⟨rfl, rfl⟩)
    go_ret
    exact ⟨retB HR.out.symm, HB.out⟩
  | false =>
    have HR := Lib.hid (show cutsOK m xs = false by simp [cutsOK, hp])
    go_enter Tryz.func83, Tryz.ntmps83
    go_wp2_with fail
    go_ret
    exact ⟨retB HR.out.symm, HB.out⟩
set_option maxHeartbeats 1000000 in
theorem l02Kinds_any (A : Option Addr) (c : Nat) (xs : List Int) (w : World) (h : RI w A xs) (hcap : xs.length ≤ c) :
    Calls Tryz.prog 46 #[.slice A xs.length c] w fun e w' => e = .returned (.int .i64 (kinds xs)) ∧ ∃ n, w' = w.drewN n := by
  have hle := h.le
  go_enter Tryz.func46, Tryz.ntmps46
  go_wp2_with fail
  go_loopw [3, 4] (fun a i wr => ∃ k n : Nat, k ≤ xs.length ∧ i = .int .i64 k ∧ a = .int .i64 (kindsN xs k) ∧ wr = w.drewN n) (fun _ i _ => xs.length - (intOf i).toNat)
  case atStart => exact ⟨0, 0, by omega, rfl, rfl, rfl⟩
  case round =>
    obtain ⟨k, n, hk, rfl, rfl, rfl⟩ := hrel
    have hkn := kindsN_le xs k
    by_cases hlt : k < xs.length
    · obtain ⟨b, o, rfl, hc⟩ := h.at_ hlt
      have i0 : (0 : Int) ≤ (k : Int) := by omega
      have i1 : (k : Int) < (xs.length : Int) := by omega
      have i2 : (k : Int) ≤ (c : Int) := by omega
      have hs := Lib.hid (kindsN_succ xs k)
      have hni := Lib.hid (newAt_in hlt)
      have hr := h.take k
      have hl : (xs.take k).length = k := by simp; omega
      have CC := fun W (hW : RI W (some ⟨b, o, none⟩) (xs.take k)) => l01Has_any (some ⟨b, o, none⟩) c (xs.take k) xs[k] W hW
      rw [hl] at CC
      have HCC := Lib.hid CC; clear CC hl
      cases hp : hasI (xs.take k) xs[k] with
      | true =>
        go_wp2_with fail
        go_quiet ((go_at_call 59; first | exact quietSA (HCC.out _ (hr.drewN _)) | exact quietS (HCC.out _ (hr.drewN _))))
        go_wp2_with fail
        go_roundw
        case rel => exact ⟨k + 1, _, by omega, by go_num, by rw [hs.out, hni.out, hp]; rfl, rfl⟩
        case measure => simp [intOf]; omega
      | false =>
        go_wp2_with fail
        go_quiet ((go_at_call 59; first | exact quietSA (HCC.out _ (hr.drewN _)) | exact quietS (HCC.out _ (hr.drewN _))))
        go_wp2_with fail
        go_roundw
        case rel => exact ⟨k + 1, _, by omega, by go_num, by rw [hs.out, hni.out, hp]; go_num, rfl⟩
        case measure => simp [intOf]; omega
    · obtain rfl : k = xs.length := by omega
      go_wp2_with fail
      go_ret
      exact ⟨rfl, n, rfl⟩
set_option maxHeartbeats 1000000 in
theorem different_any (A : Option Addr) (c : Nat) (xs : List Int) (w : World) (h : RI w A xs) (hcap : xs.length ≤ c) :
    Calls Tryz.prog 73 #[.slice A xs.length c] w fun e w' => e = .returned (.int .i64 (kinds xs)) ∧ w = w' := by
  have hle := h.le
  go_enter Tryz.func73, Tryz.ntmps73
  go_wp2_with fail
  go_loop [3, 8] (fun a i => ∃ k : Nat, k ≤ xs.length ∧ i = .int .i64 k ∧ a = .int .i64 (kindsN xs k)) (fun _ i => xs.length - (intOf i).toNat)
  case atStart => exact ⟨0, by omega, rfl, rfl⟩
  case round =>
    obtain ⟨k, hk, rfl, rfl⟩ := hrel
    have hkn := kindsN_le xs k
    by_cases hlt : k < xs.length
    · obtain ⟨b, o, rfl, hc⟩ := h.at_ hlt
      have i2 : (k : Int) ≤ (c : Int) := by omega
      have hs := Lib.hid (kindsN_succ xs k)
      have hni := Lib.hid (newAt_in hlt)
      have hr := h.take k
      have hl : (xs.take k).length = k := by simp; omega
      have CC := sContains_any (some ⟨b, o, none⟩) c (xs.take k) xs[k] w hr
      rw [hl] at CC
      have HCC := Lib.hid CC; clear CC hl
      cases hp : hasI (xs.take k) xs[k] with
      | true =>
        go_wp2_with fail
        refine HCC.out.mono ?_
        rw [hp]
        rintro e w' ⟨rfl, rfl⟩
        go_wp2_with fail
        go_round
        case rel => exact ⟨k + 1, by omega, by go_num, by rw [hs.out, hni.out, hp]; rfl⟩
        case measure => simp [intOf]; omega
      | false =>
        go_wp2_with fail
        refine HCC.out.mono ?_
        rw [hp]
        rintro e w' ⟨rfl, rfl⟩
        go_wp2_with fail
        go_round
        case rel => exact ⟨k + 1, by omega, by go_num, by rw [hs.out, hni.out, hp]; go_num⟩
        case measure => simp [intOf]; omega
    · obtain rfl : k = xs.length := by omega
      go_wp2_with fail
      go_ret
      exact ⟨rfl, rfl⟩
theorem endRun_end {xs : List Int} {r : Nat} (h1 : 1 ≤ r) (h2 : r ≤ xs.length) (hall : ∀ j, j < r → xs.getD (xs.length - 1 - j) 0 = xs.getD (xs.length - 1) 0) (hstop : r = xs.length ∨ xs.getD (xs.length - 1 - r) 0 ≠ xs.getD (xs.length - 1) 0) : endRun xs = r := by
  have hlen : 0 < xs.length := by omega
  unfold endRun
  have hr : xs.reverse ≠ [] := by intro e; rw [List.reverse_eq_nil_iff] at e; subst e; simp at hlen
  have hg : ∀ j, j < xs.length → xs.reverse[j]? = some (xs.getD (xs.length - 1 - j) 0) := by
    intro j hj
    rw [List.getElem?_reverse hj]
    simp [List.getD, List.getElem?_eq_getElem (show xs.length - 1 - j < xs.length by omega)]
  split
  · rename_i e; exact absurd e hr
  · rename_i x t e
    have hx : x = xs.getD (xs.length - 1) 0 := by have := hg 0 hlen; rw [e] at this; simpa using this
    have hl : t.length + 1 = xs.length := by have := congrArg List.length e; simpa using this.symm
    have ht : ∀ j (hj : j < t.length), t[j] = xs.getD (xs.length - 1 - (j + 1)) 0 := by
      intro j hj
      have := hg (j + 1) (by omega)
      rw [e] at this
      simpa [List.getElem?_eq_getElem hj] using this
    have key : ∀ (n : Nat) (l : List Int), n ≤ l.length → (∀ j (hj : j < n) (hl : j < l.length), l[j] = x) → (∀ hl : n < l.length, l[n] ≠ x) → (l.takeWhile (· == x)).length = n := by
      intro n
      induction n with
      | zero =>
        intro l _ _ h3
        cases l with
        | nil => rfl
        | cons y r => have := h3 (by simp); simp at this; simp [this]
      | succ n ih =>
        intro l h1 h2 h3
        cases l with
        | nil => simp at h1
        | cons y r =>
          have hy := h2 0 (by omega) (by simp)
          simp at hy
          subst hy
          simp
          exact ih r (by simpa using h1) (fun j hj hl => by have := h2 (j + 1) (by omega) (by simpa using hl); simpa using this) (fun hl => by have := h3 (by simpa using hl); simpa using this)
    have := key (r - 1) t (by omega) (fun j hj hl => by rw [ht j hl, hx]; exact hall (j + 1) (by omega)) (fun hl => by
      rw [ht _ hl, hx, show r - 1 + 1 = r by omega]
      rcases hstop with h | h
      · omega
      · exact h)
    omega
set_option maxHeartbeats 1000000 in
theorem sameRun_any (A : Option Addr) (c : Nat) (xs : List Int) (w : World) (h : RI w A xs) (h0 : 0 < xs.length) :
    Calls Tryz.prog 75 #[.slice A xs.length c] w fun e w' => e = .returned (.int .i64 (endRun xs)) ∧ ∃ n, w' = w.drewN n := by
  have hle := h.le
  obtain ⟨b, o, rfl, hlast⟩ := h.at_ (k := xs.length - 1) (by omega)
  have eL : xs[xs.length - 1]'(by omega) = xs.getD (xs.length - 1) 0 := by simp [List.getD, List.getElem?_eq_getElem (show xs.length - 1 < xs.length by omega)]
  rw [eL] at hlast
  clear eL
  have j0 : (0 : Int) ≤ (xs.length : Int) - 1 := by omega
  have j1 : (xs.length : Int) - 1 < (xs.length : Int) := by omega
  have e1 : ((xs.length : Int) - 1).toNat = xs.length - 1 := by omega
  generalize hX : xs.getD (xs.length - 1) 0 = X at *
  have HX := Lib.hid hX; clear hX
  go_enter Tryz.func75, Tryz.ntmps75
  go_wp2_with fail
  go_loopw [3] (fun r wr => ∃ k n : Nat, k + 1 ≤ xs.length ∧ r = .int .i64 ((k : Int) + 1) ∧ wr = w.drewN n ∧ ∀ j, j < k + 1 → xs.getD (xs.length - 1 - j) 0 = X) (fun r _ => xs.length - (intOf r).toNat)
  case atStart => exact ⟨0, 0, by omega, rfl, rfl, fun j hj => by rw [← HX.out]; congr 1; omega⟩
  case round =>
    obtain ⟨k, n, hk, rfl, rfl, hrel⟩ := hrel
    have Hrel := Lib.hid hrel; clear hrel
    by_cases hlt : k + 1 < xs.length
    · have hg : (k : Int) + 1 < (xs.length : Int) := by omega
      obtain ⟨b2, o2, e2, hc⟩ := h.at_ (k := xs.length - 1 - (k + 1)) (by omega)
      injection e2 with e2
      injection e2 with e3 e4
      subst e3 e4
      have eC : xs[xs.length - 1 - (k + 1)]'(by omega) = xs.getD (xs.length - 1 - (k + 1)) 0 := by simp [List.getD, List.getElem?_eq_getElem (show xs.length - 1 - (k + 1) < xs.length by omega)]
      rw [eC] at hc
      clear eC
      have i0 : (0 : Int) ≤ (xs.length : Int) - 1 - ((k : Int) + 1) := by omega
      have i1 : (xs.length : Int) - 1 - ((k : Int) + 1) < (xs.length : Int) := by omega
      have e5 : ((xs.length : Int) - 1 - ((k : Int) + 1)).toNat = xs.length - 1 - (k + 1) := by omega
      generalize hY : xs.getD (xs.length - 1 - (k + 1)) 0 = Y at *
      have HY := Lib.hid hY; clear hY
      cases hp : (Y == X) with
      | true =>
        have HP := Lib.hid hp
        go_wp2_with fail
        go_quiet (fail)
        go_wp2_with fail
        go_roundw
        case rel => exact ⟨k + 1, _, by omega, by go_num, rfl, fun j hj => by
          by_cases hj2 : j = k + 1
          · subst hj2; rw [HY.out]; exact beq_iff_eq.1 HP.out
          · exact Hrel.out j (by omega)⟩
        case measure => simp [intOf]; omega
      | false =>
        have HR := Lib.hid (endRun_end (xs := xs) (r := k + 1) (by omega) (by omega) (fun j hj => by rw [HX.out]; exact Hrel.out j hj) (.inr (by rw [HX.out, HY.out]; exact beq_eq_false_iff_ne.1 hp)))
        go_wp2_with fail
        go_quiet (fail)
        go_wp2_with fail
        go_ret
        exact ⟨retI (by rw [HR.out]; omega), drewEx⟩
    · have hg : decide ((k : Int) + 1 < (xs.length : Int)) = false := by simp; omega
      have HR := Lib.hid (endRun_end (xs := xs) (r := k + 1) (by omega) (by omega) (fun j hj => by rw [HX.out]; exact Hrel.out j hj) (.inl (by omega)))
      have Hlt := Lib.hid hlt; clear hlt
      go_wp2_with fail
      go_quiet (fail)
      go_wp2_with fail
      go_ret
      exact ⟨retI (by rw [HR.out]; omega), drewEx⟩
end Go.Proofs.YtapocenhmdcfoaaGreat
