/- Contracts of isLock, opens, contains, locksCode, of the program and of the reference. -/
import Derived.Test.YtapocenhmdcfoaaGreatFProg
import Derived.Test.YtapocenhmdcfoaaGreatFSets
namespace Go.Proofs.YtapocenhmdcfoaaGreat
set_option linter.unusedVariables false
open Go.RowKit
/-! ### plain words -/
def setOK (m : Mk) (s : List Int) : Bool := decide (s.length ≠ 0) && isRising m.d s
def lockOK (m : Mk) (l : List (List Int)) : Bool := l.all (setOK m) && decide ((l.length : Int) = m.c)
def isLockF (m : Mk) (l : List (List Int)) : Bool := isMaker m && lockOK m l
def frees (l : List (List Int)) (i : Nat) (d : Int) : Bool := hasI (l.getD i []) d
def opensAt (l : List (List Int)) (xs : List Int) (i : Nat) : Bool := frees l i (xs.getD i 0)
def opensL (l : List (List Int)) (xs : List Int) : Bool := (List.range xs.length).all (opensAt l xs)
/-- is the list one of the lists? -/
def hasL (ls : List (List Int)) (xs : List Int) : Bool := ls.any fun y => y == xs
theorem getD_row {xss : List (List Int)} {k : Nat} (h : k < xss.length) : xss.getD k [] = xss[k] := by simp [List.getD, List.getElem?_eq_getElem h]
theorem opensAt_in {l : List (List Int)} {xs : List Int} {k : Nat} (h : k < l.length) (h2 : k < xs.length) : opensAt l xs k = hasI l[k] xs[k] := by
  unfold opensAt frees; rw [getD_row h]; simp [List.getD, List.getElem?_eq_getElem h2]
theorem lockOK_bad {m : Mk} {l : List (List Int)} {k : Nat} (h : k < l.length) (hp : setOK m l[k] = false) : lockOK m l = false := by
  unfold lockOK; rw [all_false_at _ _ k h hp]; rfl
theorem setOK_0 {m : Mk} {s : List Int} (h : s.length = 0) : setOK m s = false := by simp [setOK, h]
theorem setOK_r {m : Mk} {s : List Int} (h : ¬ s.length = 0) : setOK m s = isRising m.d s := by simp [setOK, h]
theorem hasL_succ (ls : List (List Int)) (xs : List Int) (k : Nat) (h : k < ls.length) (hn : (ls[k] == xs) = false) (h0 : hasL (ls.take k) xs = false) : hasL (ls.take (k + 1)) xs = false := by
  unfold hasL at *; rw [List.take_succ_eq_append_getElem h, List.any_append, h0]; simpa using hn
theorem hasL_at {ls : List (List Int)} {xs : List Int} {k : Nat} (h : k < ls.length) (hn : (ls[k] == xs) = true) : hasL ls xs = true := by
  unfold hasL; rw [List.any_eq_true]; exact ⟨_, List.getElem_mem h, hn⟩
/-! ### the walks -/
set_option maxRecDepth 100000 in
set_option maxHeartbeats 2000000 in
theorem opens_any (A : Option Addr) (c : Nat) (l : List (List Int)) (K : Option Addr) (d : Nat) (xs : List Int) (w : World) (h : RII w A l) (g : RI w K xs) (hl : xs.length ≤ l.length) :
    Calls Tryz.prog 69 #[.agg #[.slice A l.length c], .slice K xs.length d] w fun e w' => e = .returned (.bool (opensL l xs)) ∧ Below w.heap.size w w' := by
  have B0 := (Below.refl w.heap.size w).alloc (Nat.le_refl _) (.cells #[.slice A l.length c] 85)
  have hle := g.le
  go_enter Tryz.func69, Tryz.ntmps69
  go_wp2_with fail
  go_loop [5, 6, 9] (fun _ _ i => ∃ k : Nat, k ≤ xs.length ∧ i = .int .i64 k ∧ (List.range k).all (opensAt l xs) = true) (fun _ _ i => xs.length - (intOf i).toNat)
  case atStart => exact ⟨0, by omega, rfl, rfl⟩
  case round =>
    obtain ⟨k, hk, rfl, hst⟩ := hrel
    have Hst := Lib.hid hst; clear hst
    by_cases hlt : k < xs.length
    · have hlt2 : k < l.length := by omega
      obtain ⟨b2, o2, rfl, hc2⟩ := g.at_ hlt
      obtain ⟨b, o, A', c', rfl, hc, hcc, hr⟩ := h.at_ hlt2
      have hbw : b < w.heap.size := World.block_lt_of_cell? w _ hc
      have hbw2 : b2 < w.heap.size := World.block_lt_of_cell? w _ hc2
      have i0 : (0 : Int) ≤ (k : Int) := by omega
      have i1 : (k : Int) < (l.length : Int) := by omega
      have HS := Lib.hid (opensAt_in hlt2 hlt)
      have E1 := Lib.hid (sContains_any A' c' l[k] xs[k] _ (hr.below B0))
      cases hp : hasI l[k] xs[k] with
      | false =>
        have HR := Lib.hid (show opensL l xs = false from rangeAll_bad hlt (by rw [HS.out, hp]))
        go_wp2_with fail
        refine E1.out.mono ?_
        rw [hp]
        rintro e w1 ⟨rfl, rfl⟩
        go_wp2_with fail
        go_ret
        exact ⟨retB HR.out.symm, B0⟩
      | true =>
        have HO := Lib.hid (show (List.range (k + 1)).all (opensAt l xs) = true by rw [rangeAll_next, Hst.out, HS.out, hp]; rfl)
        go_wp2_with fail
        refine E1.out.mono ?_
        rw [hp]
        rintro e w1 ⟨rfl, rfl⟩
        go_wp2_with fail
        go_round
        case rel => exact ⟨k + 1, by omega, by go_num, HO.out⟩
        case measure => simp [intOf]; omega
    · obtain rfl : k = xs.length := by omega
      go_wp2_with fail
      go_ret
      exact ⟨retB (by have := Hst.out; exact this.symm), B0⟩
set_option maxRecDepth 100000 in
set_option maxHeartbeats 2000000 in
theorem l04Opens_any (A : Option Addr) (c : Nat) (l : List (List Int)) (K : Option Addr) (d : Nat) (xs : List Int) (w : World) (h : RII w A l) (g : RI w K xs) (hl : xs.length ≤ l.length) :
    Calls Tryz.prog 61 #[.agg #[.slice A l.length c], .slice K xs.length d] w fun e w' => e = .returned (.bool (opensL l xs)) ∧ Below w.heap.size w w' := by
  have B0 := (Below.refl w.heap.size w).alloc (Nat.le_refl _) (.cells #[.slice A l.length c] 85)
  have hle := g.le
  go_enter Tryz.func61, Tryz.ntmps61
  go_wp2_with fail
  go_loopw [5] (fun i wr => ∃ k n : Nat, k ≤ xs.length ∧ i = .int .i64 k ∧ wr = (w.alloc (.cells #[.slice A l.length c] 85)).drewN n ∧ (List.range k).all (opensAt l xs) = true) (fun i _ => xs.length - (intOf i).toNat)
  case atStart => exact ⟨0, 0, by omega, rfl, rfl, rfl⟩
  case round =>
    obtain ⟨k, n, hk, rfl, rfl, hst⟩ := hrel
    have Hst := Lib.hid hst; clear hst
    by_cases hlt : k < xs.length
    · have hlt2 : k < l.length := by omega
      obtain ⟨b2, o2, rfl, hc2⟩ := g.at_ hlt
      obtain ⟨b, o, A', c', rfl, hc, hcc, hr⟩ := h.at_ hlt2
      have hbw : b < w.heap.size := World.block_lt_of_cell? w _ hc
      have hbw2 : b2 < w.heap.size := World.block_lt_of_cell? w _ hc2
      have i0 : (0 : Int) ≤ (k : Int) := by omega
      have i1 : (k : Int) < (l.length : Int) := by omega
      have i2 : (k : Int) < (xs.length : Int) := by omega
      have HS := Lib.hid (opensAt_in hlt2 hlt)
      have E1 := fun n => l01Has_any A' c' l[k] xs[k] ((w.alloc (.cells #[.slice (some ⟨b, o, none⟩) l.length c] 85)).drewN n) (hr.below (belowD B0 _))
      cases hp : hasI l[k] xs[k] with
      | false =>
        have HR := Lib.hid (show opensL l xs = false from rangeAll_bad hlt (by rw [HS.out, hp]))
        rw [hp] at E1
        have E2 := Lib.hid E1; clear E1
        go_wp2_with fail
        go_quiet ((go_at_call 59; first | exact quietSA (E2.out _) | exact quietS (E2.out _)))
        go_wp2_with fail
        go_ret
        exact ⟨retB HR.out.symm, by first | exact belowD B0 _ | exact belowD (belowD B0 _) _⟩
      | true =>
        have HO := Lib.hid (show (List.range (k + 1)).all (opensAt l xs) = true by rw [rangeAll_next, Hst.out, HS.out, hp]; rfl)
        rw [hp] at E1
        have E2 := Lib.hid E1; clear E1
        go_wp2_with fail
        go_quiet ((go_at_call 59; first | exact quietSA (E2.out _) | exact quietS (E2.out _)))
        go_wp2_with fail
        go_roundw
        case rel => exact ⟨k + 1, _, by omega, by go_num, by first | rfl | exact World.drewN_drewN _ _ _, HO.out⟩
        case measure => simp [intOf]; omega
    · obtain rfl : k = xs.length := by omega
      go_wp2_with fail
      go_ret
      exact ⟨retB (by have := Hst.out; exact this.symm), belowD B0 _⟩
end Go.Proofs.YtapocenhmdcfoaaGreat
