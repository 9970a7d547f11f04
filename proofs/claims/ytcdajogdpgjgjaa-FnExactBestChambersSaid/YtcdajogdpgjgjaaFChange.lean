/- Contracts of l13Fits, changes, IsChangeKey. -/
import Derived.Test.YtcdajogdpgjgjaaFProg
namespace Go.Proofs.Ytcdajogdpgjgjaa
set_option linter.unusedVariables false
open Go.RowKit
/-- may the cut stand in the chamber of a change key? -/
def fits (xs ys : List Int) (s : Int) (ch : Nat) (d : Int) : Bool := if hasI ys ch = true then (d - xs.getD ch 0 != 0 && (d - xs.getD ch 0).tmod s == 0) else d - xs.getD ch 0 == 0
theorem getD_at' {xs : List Int} {k : Nat} (h : k < xs.length) : xs.getD k 0 = xs[k] := by simp [List.getD, List.getElem?_eq_getElem h]
set_option maxHeartbeats 2000000 in
theorem l13Fits_any (A : Option Addr) (c : Nat) (xs : List Int) (B : Option Addr) (d : Nat) (ys : List Int) (s : Int) (ch : Nat) (x : Int) (w : World) (h : RI w A xs) (g : RI w B ys)
    (hch : ch < xs.length) (hs1 : 1 ≤ s) (hs2 : s ≤ 2) (hx1 : -1000 ≤ x) (hx2 : x ≤ 1000) (hy1 : -1000 ≤ xs[ch]) (hy2 : xs[ch] ≤ 1000) :
    Calls Try.prog 161 #[.agg #[.slice A xs.length c, .slice B ys.length d, .int .i64 s], .int .i64 (ch : Int), .int .i64 x] w fun e w' => e = .returned (.bool (fits xs ys s ch x)) ∧ Below w.heap.size w w' := by
  have B0 : Below w.heap.size w (w.alloc (.cells #[.slice A xs.length c, .slice B ys.length d, .int .i64 s] 36)) := (Below.refl w.heap.size w).alloc (Nat.le_refl _) _
  obtain ⟨b, o, rfl, hc⟩ := h.at_ hch
  have hbw : b < w.heap.size := World.block_lt_of_cell? w _ hc
  have i0 : (0 : Int) ≤ (ch : Int) := by omega
  have i1 : (ch : Int) < (xs.length : Int) := by omega
  have hle := h.le
  have hz : (s == 0) = false := by simp; omega
  have E := getD_at' hch
  cases hp : hasI ys ch with
  | false =>
    have HR := Lib.hid (show fits xs ys s ch x = (x - xs[ch] == 0) by unfold fits; rw [hp, E]; rfl)
    clear E
    go_enter Try.func161, Try.ntmps161
    go_wp2_with fail
    refine (l01Has_any B d ys _ _ (g.below B0)).mono ?_
    rw [hp]
    rintro e w1 ⟨rfl, rfl⟩
    go_wp2_with fail
    go_ret
    exact ⟨retB HR.out.symm, B0⟩
  | true =>
    have HR := Lib.hid (show fits xs ys s ch x = (x - xs[ch] != 0 && (x - xs[ch]).tmod s == 0) by unfold fits; rw [hp, E]; rfl)
    clear E
    cases hq : (x - xs[ch] != 0) with
    | false =>
      go_enter Try.func161, Try.ntmps161
      go_wp2_with fail
      refine (l01Has_any B d ys _ _ (g.below B0)).mono ?_
      rw [hp]
      rintro e w1 ⟨rfl, rfl⟩
      go_wp2_with fail
      go_ret
      exact ⟨retB (by rw [HR.out, hq]; rfl), B0⟩
    | true =>
      go_enter Try.func161, Try.ntmps161
      go_wp2_with fail
      refine (l01Has_any B d ys _ _ (g.below B0)).mono ?_
      rw [hp]
      rintro e w1 ⟨rfl, rfl⟩
      go_wp2_with fail
      go_ret
      exact ⟨retB (by rw [HR.out, hq]; rfl), B0⟩
set_option maxHeartbeats 2000000 in
/-- The closure: its captured progression lies in block bp. -/
theorem changesClo_any (bp : Nat) (A : Option Addr) (c : Nat) (xs : List Int) (B : Option Addr) (d : Nat) (ys : List Int) (s : Int) (ch : Nat) (x : Int) (w : World) (h : RI w A xs) (g : RI w B ys)
    (hb : BoxC w bp 0 [.slice A xs.length c, .slice B ys.length d, .int .i64 s])
    (hch : ch < xs.length) (hs1 : 1 ≤ s) (hs2 : s ≤ 2) (hx1 : -1000 ≤ x) (hx2 : x ≤ 1000) (hy1 : -1000 ≤ xs[ch]) (hy2 : xs[ch] ≤ 1000) :
    Calls Try.prog 129 #[.int .i64 (ch : Int), .int .i64 x, .pointer (some ⟨bp, 0, none⟩)] w fun e w' => e = .returned (.bool (fits xs ys s ch x)) ∧ w = w' := by
  obtain ⟨b, o, rfl, hc⟩ := h.at_ hch
  have hbw : b < w.heap.size := World.block_lt_of_cell? w _ hc
  have i0 : (0 : Int) ≤ (ch : Int) := by omega
  have i1 : (ch : Int) < (xs.length : Int) := by omega
  have hle := h.le
  have hz : (s == 0) = false := by simp; omega
  have E := getD_at' hch
  have q : w.cell? ⟨bp, 0, none⟩ = some (.slice (some ⟨b, o, none⟩) xs.length c) ∧ w.cell? ⟨bp, 1, none⟩ = some (.slice B ys.length d) ∧ w.cell? ⟨bp, 2, none⟩ = some (.int .i64 s) ∧ True := hb
  have HBX := Lib.hid hb; clear hb
  cases hp : hasI ys ch with
  | false =>
    have HR := Lib.hid (show fits xs ys s ch x = (x - xs[ch] == 0) by unfold fits; rw [hp, E]; rfl)
    clear E
    go_enter Try.func129, Try.ntmps129
    go_wp2_with fail
    refine (sContains_any B d ys _ _ g).mono ?_
    rw [hp]
    rintro e w1 ⟨rfl, rfl⟩
    go_wp2_with fail
    go_ret
    exact ⟨retB HR.out.symm, rfl⟩
  | true =>
    have HR := Lib.hid (show fits xs ys s ch x = (x - xs[ch] != 0 && (x - xs[ch]).tmod s == 0) by unfold fits; rw [hp, E]; rfl)
    clear E
    cases hq : (x - xs[ch] != 0) with
    | false =>
      go_enter Try.func129, Try.ntmps129
      go_wp2_with fail
      refine (sContains_any B d ys _ _ g).mono ?_
      rw [hp]
      rintro e w1 ⟨rfl, rfl⟩
      go_wp2_with fail
      go_ret
      exact ⟨retB (by rw [HR.out, hq]; rfl), rfl⟩
    | true =>
      go_enter Try.func129, Try.ntmps129
      go_wp2_with fail
      refine (sContains_any B d ys _ _ g).mono ?_
      rw [hp]
      rintro e w1 ⟨rfl, rfl⟩
      go_wp2_with fail
      go_ret
      exact ⟨retB (by rw [HR.out, hq]; rfl), rfl⟩
theorem changes_any (A : Option Addr) (c : Nat) (xs : List Int) (B : Option Addr) (d : Nat) (ys : List Int) (s : Int) (w : World) :
    Calls Try.prog 73 #[.agg #[.slice A xs.length c, .slice B ys.length d, .int .i64 s]] w fun e w' => e = .returned (.func (.func 129) #[] #[.pointer (some ⟨w.heap.size, 0, none⟩)]) ∧ w' = w.alloc (.cells #[.slice A xs.length c, .slice B ys.length d, .int .i64 s] 36) := by
  go_enter Try.func73, Try.ntmps73
  go_wp2_with fail
  go_ret
  exact ⟨rfl, rfl⟩
def changeAt (xs ys : List Int) (s : Int) (key : List Int) (i : Nat) : Bool := fits xs ys s i (key.getD i 0)
def isChange (xs ys : List Int) (s : Int) (key : List Int) : Bool := (List.range key.length).all (changeAt xs ys s key)
/-- small numbers -/
def small (xs : List Int) : Prop := ∀ k (hk : k < xs.length), -1000 ≤ xs[k] ∧ xs[k] ≤ 1000
/-- the bounds of a key -/
theorem key_small {m : Mk} {xs : List Int} (hm : isMaker m = true) (h : isKey m xs = true) : (xs.length : Int) = m.c ∧ small xs := by
  have := fault_zero_iff.1 (show fault m xs = 0 by simpa [isKey] using h)
  obtain ⟨_, _, _, d8, _⟩ := mk_bounds hm
  exact ⟨this.1, fun k hk => by have := allW_at this.2.1 hk; omega⟩
theorem isProg_iff {m : Mk} {xs ys : List Int} {s : Int} : isProg m xs ys s = true ↔ isKey m xs = true ∧ 0 < ys.length ∧ isRising m.c ys = true ∧ 1 ≤ s ∧ s ≤ 2 := by
  unfold isProg; simp only [Bool.and_eq_true, decide_eq_true_eq, inB_iff]
def isChangeKeyF (m : Mk) (xs ys : List Int) (s : Int) (key : List Int) : Bool := isProgF m xs ys s && (isKey m key && isChange xs ys s key)
end Go.Proofs.Ytcdajogdpgjgjaa
