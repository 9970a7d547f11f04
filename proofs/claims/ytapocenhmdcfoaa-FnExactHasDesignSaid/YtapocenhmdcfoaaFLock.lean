/- Contracts of isLock, opens, contains, locksCode, of the program and of the reference. -/
import Derived.Test.YtapocenhmdcfoaaFProg
import Derived.Test.YtapocenhmdcfoaaFSets
namespace Go.Proofs.Ytapocenhmdcfoaa
set_option linter.unusedVariables false
open Go.RowKit
/-! ### plain words -/
def setOK (m : Mk) (s : List Int) : Bool := decide (s.length ≠ 0) && isRising m.d s
def lockOK (m : Mk) (l : List (List Int)) : Bool := l.all (setOK m) && decide ((l.length : Int) = m.c)
def isLockF (m : Mk) (l : List (List Int)) : Bool := isMaker m && lockOK m l
def frees (l : List (List Int)) (i : Nat) (d : Int) : Bool := hasI (l.getD i []) d
def opensAt (l : List (List Int)) (xs : List Int) (i : Nat) : Bool := frees l i (xs.getD i 0)
def opensL (l : List (List Int)) (xs : List Int) : Bool := (List.range xs.length).all (opensAt l xs)
/-- is the list one of the lists? -/
def hasL (ls : List (List Int)) (xs : List Int) : Bool := ls.any fun y => y == xs
theorem getD_row {xss : List (List Int)} {k : Nat} (h : k < xss.length) : xss.getD k [] = xss[k] := by simp [List.getD, List.getElem?_eq_getElem h]
theorem opensAt_in {l : List (List Int)} {xs : List Int} {k : Nat} (h : k < l.length) (h2 : k < xs.length) : opensAt l xs k = hasI l[k] xs[k] := by
  unfold opensAt frees; rw [getD_row h]; simp [List.getD, List.getElem?_eq_getElem h2]
theorem lockOK_bad {m : Mk} {l : List (List Int)} {k : Nat} (h : k < l.length) (hp : setOK m l[k] = false) : lockOK m l = false := by
  unfold lockOK; rw [all_false_at _ _ k h hp]; rfl
theorem setOK_0 {m : Mk} {s : List Int} (h : s.length = 0) : setOK m s = false := by simp [setOK, h]
theorem setOK_r {m : Mk} {s : List Int} (h : ¬ s.length = 0) : setOK m s = isRising m.d s := by simp [setOK, h]
theorem hasL_succ (ls : List (List Int)) (xs : List Int) (k : Nat) (h : k < ls.length) (hn : (ls[k] == xs) = false) (h0 : hasL (ls.take k) xs = false) : hasL (ls.take (k + 1)) xs = false := by
  unfold hasL at *; rw [List.take_succ_eq_append_getElem h, List.any_append, h0]; simpa using hn
theorem hasL_at {ls : List (List Int)} {xs : List Int} {k : Nat} (h : k < ls.length) (hn : (ls[k] == xs) = true) : hasL ls xs = true := by
  unfold hasL; rw [List.any_eq_true]; exact ⟨_, List.getElem_mem h, hn⟩
/-! ### the walks -/
set_option maxRecDepth 100000 in
set_option maxHeartbeats 4000000 in
theorem isLock_any (m : Mk) (A : Option Addr) (c : Nat) (l : List (List Int)) (w : World) (h : RII w A l) :
    Calls Try.prog 199 #[.agg #[.int .i64 m.c, .int .i64 m.d, .int .i64 m.s, .int .i64 m.a, .int .i64 m.l], .agg #[.slice A l.length c]] w fun e w' => e = .returned (.bool (lockOK m l)) ∧ Below w.heap.size w w' := by
  have B0 := ((Below.refl w.heap.size w).alloc (Nat.le_refl _) (.cells #[.int .i64 m.c, .int .i64 m.d, .int .i64 m.s, .int .i64 m.a, .int .i64 m.l] 29)).alloc (by simp only [World.size_alloc]; omega) (.cells #[.slice A l.length c] 75)
  have hle := h.le
  go_enter Try.func199, Try.ntmps199
  go_wp2_with fail
  go_loopw [6, 10] (fun _ i wr => ∃ k n : Nat, k ≤ l.length ∧ i = .int .i64 k ∧ wr = ((w.alloc (.cells #[.int .i64 m.c, .int .i64 m.d, .int .i64 m.s, .int .i64 m.a, .int .i64 m.l] 29)).alloc (.cells #[.slice A l.length c] 75)).drewN n ∧ (l.take k).all (setOK m) = true) (fun _ i _ => l.length - (intOf i).toNat)
  case atStart => exact ⟨0, 0, by omega, rfl, rfl, rfl⟩
  case round =>
    obtain ⟨k, n, hk, rfl, rfl, hst⟩ := hrel
    have Hst := Lib.hid hst; clear hst
    by_cases hlt : k < l.length
    · obtain ⟨b, o, A', c', rfl, hc, hcc, hr⟩ := h.at_ hlt
      have hbw : b < w.heap.size := World.block_lt_of_cell? w _ hc
      by_cases h0 : l[k].length = 0
      · have HR := Lib.hid (lockOK_bad (m := m) hlt (setOK_0 h0))
        have t1 : (((l[k].length : Nat) : Int) == 0) = true := by simp [h0]
        have H0 := Lib.hid h0; clear h0
        go_wp2_with fail
        go_ret
        exact ⟨retB HR.out.symm, belowD B0 _⟩
      · have t1 : (((l[k].length : Nat) : Int) == 0) = false := by simp [h0]
        have HS := Lib.hid (setOK_r (m := m) h0)
        have H0 := Lib.hid h0; clear h0
        have E1 := Lib.hid (fun W (hW : Below w.heap.size w W) => implIsRising_any A' c' l[k] m.d W (hr.below hW))
        cases hp : isRising m.d l[k] with
        | false =>
          have HR := Lib.hid (lockOK_bad (m := m) hlt (by rw [HS.out, hp]))
          go_wp2_with (go_at_call 221; refine (E1.out _ (belowD B0 _)).mono ?_; rw [hp]; rintro e w' ⟨rfl, n', rfl⟩)
          go_ret
          exact ⟨retB HR.out.symm, by first | exact belowD B0 _ | exact belowD (belowD B0 _) _⟩
        | true =>
          have HO := Lib.hid (show (l.take (k + 1)).all (setOK m) = true by rw [take_succ_all _ _ _ hlt, Hst.out, HS.out, hp]; rfl)
          go_wp2_with (go_at_call 221; refine (E1.out _ (belowD B0 _)).mono ?_; rw [hp]; rintro e w' ⟨rfl, n', rfl⟩)
          go_roundw
          case rel => exact ⟨k + 1, _, by omega, by go_num, by first | rfl | exact World.drewN_drewN _ _ _, HO.out⟩
          case measure => simp [intOf]; omega
    · obtain rfl : k = l.length := by omega
      have HR := Lib.hid (show lockOK m l = ((l.length : Int) == m.c) by
        have := Hst.out; rw [List.take_length] at this; unfold lockOK; rw [this, Bool.true_and]; rfl)
      go_wp2_with fail
      go_ret
      exact ⟨retB HR.out.symm, belowD B0 _⟩
set_option maxRecDepth 100000 in
set_option maxHeartbeats 4000000 in
theorem specIsLock_any (m : Mk) (A : Option Addr) (c : Nat) (l : List (List Int)) (w : World) (h : RII w A l) :
    Calls Try.prog 151 #[.agg #[.int .i64 m.c, .int .i64 m.d, .int .i64 m.s, .int .i64 m.a, .int .i64 m.l], .agg #[.slice A l.length c]] w fun e w' => e = .returned (.bool (isLockF m l)) ∧ Below w.heap.size w w' := by
  have B0 := ((Below.refl w.heap.size w).alloc (Nat.le_refl _) (.cells #[.int .i64 m.c, .int .i64 m.d, .int .i64 m.s, .int .i64 m.a, .int .i64 m.l] 29)).alloc (by simp only [World.size_alloc]; omega) (.cells #[.slice A l.length c] 75)
  have hle := h.le
  cases h1 : isMaker m with
  | false =>
    have HR := Lib.hid (show isLockF m l = false by simp [isLockF, h1])
    go_enter Try.func151, Try.ntmps151
    go_wp2_with fail
    refine (specIsMaker_any m _).mono ?_
    rw [h1]
    rintro e w1 ⟨rfl, b1⟩
    go_wp2_with fail
    go_ret
    exact ⟨retB HR.out.symm, B0.trans (b1.mono B0.size)⟩
  | true =>
  have HF := Lib.hid (show isLockF m l = lockOK m l by simp [isLockF, h1])
  by_cases hlen : (l.length : Int) = m.c
  · have t1 : (((l.length : Nat) : Int) != m.c) = false := by simp [hlen]
    have HL := Lib.hid hlen; clear hlen
    go_enter Try.func151, Try.ntmps151
    go_wp2_with fail
    refine (specIsMaker_any m _).mono ?_
    rw [h1]
    rintro e w1 ⟨rfl, b1⟩
    have C := (bcell b1).1
    have B1 := B0.trans (b1.mono B0.size)
    have s1 : w.heap.size + 1 < w1.heap.size := by have := b1.size; simp only [World.size_alloc] at this; omega
    have s0 : w.heap.size < w1.heap.size := by omega
    have q0 : w1.cell? ⟨w.heap.size + 1, 0, none⟩ = some (.slice A l.length c) := by rw [C _ _ (by simp only [World.size_alloc]; omega)]; simp
    have q1 : w1.cell? ⟨w.heap.size, 1, none⟩ = some (.int .i64 m.d) := by rw [C _ _ (by simp only [World.size_alloc]; omega)]; simp
    have q2 : w1.cell? ⟨w.heap.size, 0, none⟩ = some (.int .i64 m.c) := by rw [C _ _ (by simp only [World.size_alloc]; omega)]; simp
    clear C
    have g := h.below B1
    have hcell := g
    go_wp2_with fail
    go_loopw [5] (fun i wr => ∃ k n : Nat, k ≤ l.length ∧ i = .int .i64 k ∧ wr = w1.drewN n ∧ (l.take k).all (setOK m) = true) (fun i _ => l.length - (intOf i).toNat)
    case atStart => exact ⟨0, 0, by omega, rfl, rfl, rfl⟩
    case round =>
      obtain ⟨k, n, hk, rfl, rfl, hst⟩ := hrel
      have Hst := Lib.hid hst; clear hst
      by_cases hlt : k < l.length
      · obtain ⟨b, o, A', c', rfl, hc, hcc, hr⟩ := g.at_ hlt
        have i0 : (0 : Int) ≤ (k : Int) := by omega
        have i1 : (k : Int) < (l.length : Int) := by omega
        by_cases h0 : l[k].length = 0
        · have HR := Lib.hid (lockOK_bad (m := m) hlt (setOK_0 h0))
          have t1 : (((l[k].length : Nat) : Int) == 0) = true := by simp [h0]
          have H0 := Lib.hid h0; clear h0
          go_wp2_with fail
          go_quiet (fail)
          go_wp2_with fail
          go_ret
          exact ⟨retB (by rw [HF.out, HR.out]), by first | exact belowD B1 _ | exact belowD (belowD B1 _) _⟩
        · have t1 : (((l[k].length : Nat) : Int) == 0) = false := by simp [h0]
          have HS := Lib.hid (setOK_r (m := m) h0)
          have H0 := Lib.hid h0; clear h0
          have E1 := fun n => l01Rises_any A' c' l[k] m.d (w1.drewN n) hr
          cases hp : isRising m.d l[k] with
          | false =>
            have HR := Lib.hid (lockOK_bad (m := m) hlt (by rw [HS.out, hp]))
            rw [hp] at E1
            have E2 := Lib.hid E1; clear E1
            go_wp2_with fail
            go_quiet ((go_at_call 196; first | exact quietQA (E2.out _) | exact quietQ (E2.out _)))
            go_wp2_with fail
            go_ret
            exact ⟨retB (by rw [HF.out, HR.out]), by first | exact belowD B1 _ | exact belowD (belowD B1 _) _⟩
          | true =>
            have HO := Lib.hid (show (l.take (k + 1)).all (setOK m) = true by rw [take_succ_all _ _ _ hlt, Hst.out, HS.out, hp]; rfl)
            rw [hp] at E1
            have E2 := Lib.hid E1; clear E1
            go_wp2_with fail
            go_quiet ((go_at_call 196; first | exact quietQA (E2.out _) | exact quietQ (E2.out _)))
            go_wp2_with fail
            go_roundw
            case rel => exact ⟨k + 1, _, by omega, by go_num, by first | rfl | exact World.drewN_drewN _ _ _, HO.out⟩
            case measure => simp [intOf]; omega
      · obtain rfl : k = l.length := by omega
        have HR := Lib.hid (show lockOK m l = true by
          have := Hst.out; rw [List.take_length] at this; unfold lockOK; rw [this, Bool.true_and]; simpa using HL.out)
        go_wp2_with fail
        go_ret
        exact ⟨retB (by rw [HF.out, HR.out]), belowD B1 _⟩
  · have t1 : (((l.length : Nat) : Int) != m.c) = true := by simp [hlen]
    have HR := Lib.hid (show lockOK m l = false by simp [lockOK, hlen])
    have HL := Lib.hid hlen; clear hlen
    go_enter Try.func151, Try.ntmps151
    go_wp2_with fail
    refine (specIsMaker_any m _).mono ?_
    rw [h1]
    rintro e w1 ⟨rfl, b1⟩
    have C := (bcell b1).1
    have B1 := B0.trans (b1.mono B0.size)
    have s1 : w.heap.size + 1 < w1.heap.size := by have := b1.size; simp only [World.size_alloc] at this; omega
    have s0 : w.heap.size < w1.heap.size := by omega
    go_wp2_with fail
    go_ret
    exact ⟨retB (by rw [HF.out, HR.out]), B1⟩
set_option maxRecDepth 100000 in
set_option maxHeartbeats 2000000 in
theorem opens_any (A : Option Addr) (c : Nat) (l : List (List Int)) (K : Option Addr) (d : Nat) (xs : List Int) (w : World) (h : RII w A l) (g : RI w K xs) (hl : xs.length ≤ l.length) :
    Calls Try.prog 153 #[.agg #[.slice A l.length c], .slice K xs.length d] w fun e w' => e = .returned (.bool (opensL l xs)) ∧ Below w.heap.size w w' := by
  have B0 := (Below.refl w.heap.size w).alloc (Nat.le_refl _) (.cells #[.slice A l.length c] 75)
  have hle := g.le
  go_enter Try.func153, Try.ntmps153
  go_wp2_with fail
  go_loop [5, 6, 9] (fun _ _ i => ∃ k : Nat, k ≤ xs.length ∧ i = .int .i64 k ∧ (List.range k).all (opensAt l xs) = true) (fun _ _ i => xs.length - (intOf i).toNat)
  case atStart => exact ⟨0, by omega, rfl, rfl⟩
  case round =>
    obtain ⟨k, hk, rfl, hst⟩ := hrel
    have Hst := Lib.hid hst; clear hst
    by_cases hlt : k < xs.length
    · have hlt2 : k < l.length := by omega
      obtain ⟨b2, o2, rfl, hc2⟩ := g.at_ hlt
      obtain ⟨b, o, A', c', rfl, hc, hcc, hr⟩ := h.at_ hlt2
      have hbw : b < w.heap.size := World.block_lt_of_cell? w _ hc
      have hbw2 : b2 < w.heap.size := World.block_lt_of_cell? w _ hc2
      have i0 : (0 : Int) ≤ (k : Int) := by omega
      have i1 : (k : Int) < (l.length : Int) := by omega
      have HS := Lib.hid (opensAt_in hlt2 hlt)
      have E1 := Lib.hid (sContains_any A' c' l[k] xs[k] _ (hr.below B0))
      cases hp : hasI l[k] xs[k] with
      | false =>
        have HR := Lib.hid (show opensL l xs = false from rangeAll_bad hlt (by rw [HS.out, hp]))
        go_wp2_with fail
        refine E1.out.mono ?_
        rw [hp]
        rintro e w1 ⟨rfl, rfl⟩
        go_wp2_with fail
        go_ret
        exact ⟨retB HR.out.symm, B0⟩
      | true =>
        have HO := Lib.hid (show (List.range (k + 1)).all (opensAt l xs) = true by rw [rangeAll_next, Hst.out, HS.out, hp]; rfl)
        go_wp2_with fail
        refine E1.out.mono ?_
        rw [hp]
        rintro e w1 ⟨rfl, rfl⟩
        go_wp2_with fail
        go_round
        case rel => exact ⟨k + 1, by omega, by go_num, HO.out⟩
        case measure => simp [intOf]; omega
    · obtain rfl : k = xs.length := by omega
      go_wp2_with fail
      go_ret
      exact ⟨retB (by have := Hst.out; exact this.symm), B0⟩
set_option maxRecDepth 100000 in
set_option maxHeartbeats 2000000 in
theorem l04Opens_any (A : Option Addr) (c : Nat) (l : List (List Int)) (K : Option Addr) (d : Nat) (xs : List Int) (w : World) (h : RII w A l) (g : RI w K xs) (hl : xs.length ≤ l.length) :
    Calls Try.prog 156 #[.agg #[.slice A l.length c], .slice K xs.length d] w fun e w' => e = .returned (.bool (opensL l xs)) ∧ Below w.heap.size w w' := by
  have B0 := (Below.refl w.heap.size w).alloc (Nat.le_refl _) (.cells #[.slice A l.length c] 75)
  have hle := g.le
  go_enter Try.func156, Try.ntmps156
  go_wp2_with fail
  go_loopw [5] (fun i wr => ∃ k n : Nat, k ≤ xs.length ∧ i = .int .i64 k ∧ wr = (w.alloc (.cells #[.slice A l.length c] 75)).drewN n ∧ (List.range k).all (opensAt l xs) = true) (fun i _ => xs.length - (intOf i).toNat)
  case atStart => exact ⟨0, 0, by omega, rfl, rfl, rfl⟩
  case round =>
    obtain ⟨k, n, hk, rfl, rfl, hst⟩ := hrel
    have Hst := Lib.hid hst; clear hst
    by_cases hlt : k < xs.length
    · have hlt2 : k < l.length := by omega
      obtain ⟨b2, o2, rfl, hc2⟩ := g.at_ hlt
      obtain ⟨b, o, A', c', rfl, hc, hcc, hr⟩ := h.at_ hlt2
      have hbw : b < w.heap.size := World.block_lt_of_cell? w _ hc
      have hbw2 : b2 < w.heap.size := World.block_lt_of_cell? w _ hc2
      have i0 : (0 : Int) ≤ (k : Int) := by omega
      have i1 : (k : Int) < (l.length : Int) := by omega
      have i2 : (k : Int) < (xs.length : Int) := by omega
      have HS := Lib.hid (opensAt_in hlt2 hlt)
      have E1 := fun n => l01Has_any A' c' l[k] xs[k] ((w.alloc (.cells #[.slice (some ⟨b, o, none⟩) l.length c] 75)).drewN n) (hr.below (belowD B0 _))
      cases hp : hasI l[k] xs[k] with
      | false =>
        have HR := Lib.hid (show opensL l xs = false from rangeAll_bad hlt (by rw [HS.out, hp]))
        rw [hp] at E1
        have E2 := Lib.hid E1; clear E1
        go_wp2_with fail
        go_quiet ((go_at_call 149; first | exact quietSA (E2.out _) | exact quietS (E2.out _)))
        go_wp2_with fail
        go_ret
        exact ⟨retB HR.out.symm, by first | exact belowD B0 _ | exact belowD (belowD B0 _) _⟩
      | true =>
        have HO := Lib.hid (show (List.range (k + 1)).all (opensAt l xs) = true by rw [rangeAll_next, Hst.out, HS.out, hp]; rfl)
        rw [hp] at E1
        have E2 := Lib.hid E1; clear E1
        go_wp2_with fail
        go_quiet ((go_at_call 149; first | exact quietSA (E2.out _) | exact quietS (E2.out _)))
        go_wp2_with fail
        go_roundw
        case rel => exact ⟨k + 1, _, by omega, by go_num, by first | rfl | exact World.drewN_drewN _ _ _, HO.out⟩
        case measure => simp [intOf]; omega
    · obtain rfl : k = xs.length := by omega
      go_wp2_with fail
      go_ret
      exact ⟨retB (by have := Hst.out; exact this.symm), belowD B0 _⟩
set_option maxRecDepth 100000 in
set_option maxHeartbeats 1000000 in
theorem l14Has_any (A K : Option Addr) (c d : Nat) (ls : List (List Int)) (xs : List Int) (w : World) (h : RII w A ls) (g : RI w K xs) :
    Calls Try.prog 157 #[.slice A ls.length c, .slice K xs.length d] w fun e w' => e = .returned (.bool (hasL ls xs)) ∧ ∃ n, w' = w.drewN n := by
  have hle := h.le
  go_enter Try.func157, Try.ntmps157
  go_wp2_with fail
  go_loopw [5] (fun i wr => ∃ k n : Nat, k ≤ ls.length ∧ i = .int .i64 k ∧ wr = w.drewN n ∧ hasL (ls.take k) xs = false) (fun i _ => ls.length - (intOf i).toNat)
  case atStart => exact ⟨0, 0, by omega, rfl, rfl, rfl⟩
  case round =>
    obtain ⟨k, n, hk, rfl, rfl, hst⟩ := hrel
    have Hst := Lib.hid hst; clear hst
    by_cases hlt : k < ls.length
    · obtain ⟨b, o, A', c', rfl, hc, hcc, hr⟩ := h.at_ hlt
      have i0 : (0 : Int) ≤ (k : Int) := by omega
      have i1 : (k : Int) < (ls.length : Int) := by omega
      have E1 := Lib.hid (fun n => l01Same_any A' K c' d ls[k] xs (w.drewN n) hr g)
      cases hp : (ls[k] == xs) with
      | true =>
        have HR := Lib.hid (hasL_at hlt hp)
        go_wp2_with fail
        refine (E1.out _).mono ?_
        rw [hp]
        rintro e w' ⟨rfl, n', rfl⟩
        go_wp2_with fail
        go_ret
        exact ⟨retB HR.out.symm, by first | exact ⟨_, rfl⟩ | exact drewEx⟩
      | false =>
        have HO := Lib.hid (hasL_succ ls xs k hlt hp Hst.out)
        go_wp2_with fail
        refine (E1.out _).mono ?_
        rw [hp]
        rintro e w' ⟨rfl, n', rfl⟩
        go_wp2_with fail
        go_roundw
        case rel => exact ⟨k + 1, _, by omega, by go_num, by first | rfl | exact World.drewN_drewN _ _ _, HO.out⟩
        case measure => simp [intOf]; omega
    · obtain rfl : k = ls.length := by omega
      have HR := Lib.hid (show hasL ls xs = false by have := Hst.out; rwa [List.take_length] at this)
      go_wp2_with fail
      go_ret
      exact ⟨retB HR.out.symm, _, rfl⟩
end Go.Proofs.Ytapocenhmdcfoaa
