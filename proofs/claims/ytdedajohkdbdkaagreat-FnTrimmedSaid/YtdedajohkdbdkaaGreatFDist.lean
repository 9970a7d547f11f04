/- Contracts of the distances; the nearest of some keys. -/
import Derived.Test.YtdedajohkdbdkaaGreatFEachGhost
import Derived.Test.YtdedajohkdbdkaaGreatFChange
namespace Go.Proofs.YtdedajohkdbdkaaGreat
set_option linter.unusedVariables false
open Go.RowKit
def distN (a b : List Int) : Nat → Int
  | 0 => 0
  | k + 1 => distN a b k + absI (a.getD k 0 - b.getD k 0)
def distF (a b : List Int) : Int := distN a b a.length
theorem absI_nn (n : Int) : 0 ≤ absI n := by unfold absI; omega
theorem distN_nn (a b : List Int) : ∀ k, 0 ≤ distN a b k
  | 0 => Int.le_refl _
  | k + 1 => by have := distN_nn a b k; have := absI_nn (a.getD k 0 - b.getD k 0); unfold distN; omega
theorem distN_le {a b : List Int} (ha : small a) (hb : small b) : ∀ k, k ≤ a.length → k ≤ b.length → distN a b k ≤ 2000 * k
  | 0, _, _ => by simp [distN]
  | k + 1, h1, h2 => by
    have := distN_le ha hb k (by omega) (by omega)
    have x1 := ha k (by omega); have x2 := hb k (by omega)
    have : absI (a.getD k 0 - b.getD k 0) ≤ 2000 := by rw [getD_at' (by omega), getD_at' (by omega)]; unfold absI; omega
    unfold distN; omega
set_option maxRecDepth 100000 in
set_option maxHeartbeats 2000000 in
theorem l03Distance_any (A K : Option Addr) (c d : Nat) (xs ys : List Int) (w : World) (h : RI w A xs) (g : RI w K ys) (hl : xs.length ≤ ys.length) (hn : xs.length ≤ 1000) (hx : small xs) (hy : small ys) :
    Calls Tryz.prog 57 #[.slice A xs.length c, .slice K ys.length d] w fun e w' => e = .returned (.int .i64 (distF xs ys)) ∧ ∃ n, w' = w.drewN n := by
  have hle := h.le
  have HX := Lib.hid hx; have HY := Lib.hid hy; clear hx hy
  go_enter Tryz.func57, Tryz.ntmps57
  go_wp2_with fail
  go_loopw [5, 6] (fun v i wr => ∃ k n : Nat, k ≤ xs.length ∧ i = .int .i64 k ∧ v = .int .i64 (distN xs ys k) ∧ wr = w.drewN n) (fun v i _ => xs.length - (intOf i).toNat)
  case atStart => exact ⟨0, 0, by omega, rfl, rfl, rfl⟩
  case round =>
    obtain ⟨k, n, hk, rfl, rfl, rfl⟩ := hrel
    have q0 := distN_nn xs ys k
    have q1 := distN_le HX.out HY.out k hk (by omega)
    by_cases hlt : k < xs.length
    · obtain ⟨b, o, rfl, hc⟩ := h.at_ hlt
      obtain ⟨b2, o2, rfl, hc2⟩ := g.at_ (show k < ys.length by omega)
      have i0 : (0 : Int) ≤ (k : Int) := by omega
      have i1 : (k : Int) < (xs.length : Int) := by omega
      have i2 : (k : Int) < (ys.length : Int) := by omega
      have v1 := HX.out k hlt
      have v2 := HY.out k (by omega)
      have HS := Lib.hid (show distN xs ys (k + 1) = distN xs ys k + absI (xs[k] - ys[k]'(by omega)) by rw [distN, getD_at' hlt, getD_at' (by omega)])
      have ab : 0 ≤ absI (xs[k] - ys[k]'(by omega)) ∧ absI (xs[k] - ys[k]'(by omega)) ≤ 2000 := ⟨absI_nn _, by unfold absI; omega⟩
      have E5 := Lib.hid (fun W => l01Abs_any (xs[k] - ys[k]'(by omega)) W (by omega) (by omega))
      obtain ⟨x, hx⟩ : ∃ x, x = xs[k] := ⟨_, rfl⟩
      obtain ⟨y, hy⟩ : ∃ y, y = ys[k]'(by omega) := ⟨_, rfl⟩
      rw [← hx] at hc v1 HS ab E5
      rw [← hy] at hc2 v2 HS ab E5
      clear hx hy
      go_wp2_with fail
      go_quiet ((go_at_call 109; first | exact quietSA (E5.out _) | exact quietS (E5.out _)))
      go_wp2_with fail
      go_roundw
      case rel => exact ⟨k + 1, _, by omega, by go_num, by rw [HS.out], rfl⟩
      case measure => simp [intOf]; omega
    · obtain rfl : k = xs.length := by omega
      go_wp2_with fail
      go_ret
      exact ⟨rfl, n, rfl⟩
set_option maxRecDepth 100000 in
set_option maxHeartbeats 2000000 in
theorem distanceOf_any (A K : Option Addr) (c d : Nat) (xs ys : List Int) (w : World) (h : RI w A xs) (g : RI w K ys) (hl : xs.length ≤ ys.length) (hn : xs.length ≤ 1000) (hx : small xs) (hy : small ys) :
    Calls Tryz.prog 53 #[.slice A xs.length c, .slice K ys.length d] w fun e w' => e = .returned (.int .i64 (distF xs ys)) ∧ ∃ n, w' = w.drewN n := by
  have hle := h.le
  have HX := Lib.hid hx; have HY := Lib.hid hy; clear hx hy
  go_enter Tryz.func53, Tryz.ntmps53
  go_wp2_with fail
  go_loopw [5, 6, 9] (fun v _ i wr => ∃ k n : Nat, k ≤ xs.length ∧ i = .int .i64 k ∧ v = .int .i64 (distN xs ys k) ∧ wr = w.drewN n) (fun v _ i _ => xs.length - (intOf i).toNat)
  case atStart => exact ⟨0, 0, by omega, rfl, rfl, rfl⟩
  case round =>
    obtain ⟨k, n, hk, rfl, rfl, rfl⟩ := hrel
    have q0 := distN_nn xs ys k
    have q1 := distN_le HX.out HY.out k hk (by omega)
    by_cases hlt : k < xs.length
    · obtain ⟨b, o, rfl, hc⟩ := h.at_ hlt
      obtain ⟨b2, o2, rfl, hc2⟩ := g.at_ (show k < ys.length by omega)
      have i0 : (0 : Int) ≤ (k : Int) := by omega
      have i1 : (k : Int) < (xs.length : Int) := by omega
      have i2 : (k : Int) < (ys.length : Int) := by omega
      have v1 := HX.out k hlt
      have v2 := HY.out k (by omega)
      have HS := Lib.hid (show distN xs ys (k + 1) = distN xs ys k + absI (xs[k] - ys[k]'(by omega)) by rw [distN, getD_at' hlt, getD_at' (by omega)])
      have ab : 0 ≤ absI (xs[k] - ys[k]'(by omega)) ∧ absI (xs[k] - ys[k]'(by omega)) ≤ 2000 := ⟨absI_nn _, by unfold absI; omega⟩
      have E5 := Lib.hid (fun W => absolute_any (xs[k] - ys[k]'(by omega)) W (by omega) (by omega))
      obtain ⟨x, hx⟩ : ∃ x, x = xs[k] := ⟨_, rfl⟩
      obtain ⟨y, hy⟩ : ∃ y, y = ys[k]'(by omega) := ⟨_, rfl⟩
      rw [← hx] at hc v1 HS ab E5
      rw [← hy] at hc2 v2 HS ab E5
      clear hx hy
      go_wp2_with fail
      go_quiet ((go_at_call 108; first | exact quietSA (E5.out _) | exact quietS (E5.out _)))
      go_wp2_with fail
      go_roundw
      case rel => exact ⟨k + 1, _, by omega, by go_num, by rw [HS.out], rfl⟩
      case measure => simp [intOf]; omega
    · obtain rfl : k = xs.length := by omega
      go_wp2_with fail
      go_ret
      exact ⟨rfl, n, rfl⟩
/-- the nearer one -/
def nearer (kk b k : List Int) : List Int := if distF k kk < distF b kk then k else b
def visN (kk : List Int) (s : List Int × Int) (k : List Int) : Bool × (List Int × Int) := if s.2 < 0 ∨ distF k kk < s.2 then (true, (k, distF k kk)) else (true, s)
theorem runVis_N (kk : List Int) : ∀ (ks : List (List Int)) (b : List Int), runVis (visN kk) (b, distF b kk) ks = (true, (ks.foldl (nearer kk) b, distF (ks.foldl (nearer kk) b) kk))
  | [], b => rfl
  | k :: ks, b => by
    have h0 : 0 ≤ distF b kk := distN_nn _ _ _
    have e : visN kk (b, distF b kk) k = (true, (nearer kk b k, distF (nearer kk b k) kk)) := by
      unfold visN nearer
      by_cases h : distF k kk < distF b kk
      · rw [if_pos (.inr h), if_pos h]
      · rw [if_neg (by simp only; omega), if_neg h]
    rw [runVis, e, if_pos rfl, List.foldl_cons]
    exact runVis_N kk ks _
theorem runVis_N0 (kk : List Int) (k : List Int) (ks : List (List Int)) : (runVis (visN kk) ([], -1) (k :: ks)).2 = ((k :: ks).foldl (nearer kk) k, distF ((k :: ks).foldl (nearer kk) k) kk) := by
  have e : visN kk ([], -1) k = (true, (k, distF k kk)) := by unfold visN; rw [if_pos (.inl (by simp only; omega))]
  rw [runVis, e, if_pos rfl, runVis_N, List.foldl_cons]
  have : nearer kk k k = k := by unfold nearer; rw [if_neg (by omega)]
  rw [this]
def nearestL (kk : List Int) (ks : List (List Int)) : List Int × Int := match ks with
  | [] => ([], 4)
  | k :: r => ((k :: r).foldl (nearer kk) k, 0)
end Go.Proofs.YtdedajohkdbdkaaGreat
