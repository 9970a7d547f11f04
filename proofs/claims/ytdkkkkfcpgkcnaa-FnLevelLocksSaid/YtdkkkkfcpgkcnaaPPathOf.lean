/- Plain laws: cuts and paths determine each other. No program. -/
import Derived.Test.YtdkkkkfcpgkcnaaPCuts
namespace Go.Proofs.Ytdkkkkfcpgkcnaa
set_option linter.unusedVariables false
open Go.RowKit
/-- the digit of a cut x beside the master's y -/
def dg (x y : Int) : Int := if y < x then x - 1 else x
def numS (b : Int) (ms cs : List Int) (first : Nat) : Nat → Int
  | 0 => 0
  | k + 1 => numS b ms cs first k * b + dg (cs.getD (first + k) 0) (ms.getD (first + k) 0)
def numI (b : Int) (ms cs : List Int) (first : Nat) : Nat → Int
  | 0 => 0
  | k + 1 => numI b ms cs first k * b + min (dg (cs.getD (first + k) 0) (ms.getD (first + k) 0)) (b - 1)
def numsI (b : Int) (ms cs : List Int) : Nat → List Int → List Int
  | _, [] => []
  | f, l :: ls => numI b ms cs f l.toNat :: numsI b ms cs (f + l.toNat) ls
theorem numsI_len (b : Int) (ms cs : List Int) : ∀ (ls : List Int) (f : Nat), (numsI b ms cs f ls).length = ls.length
  | [], _ => rfl
  | l :: ls, f => by simp [numsI, numsI_len b ms cs ls]
theorem bump_ne (g y : Int) : bump g y ≠ y := by unfold bump; split <;> omega
theorem bump_dg {x y : Int} (h : x ≠ y) : bump (dg x y) y = x := by unfold bump dg; split <;> split <;> omega
theorem dg_in {x y b : Int} (hx : 0 ≤ x ∧ x ≤ b) (hy : 0 ≤ y ∧ y ≤ b) (h : x ≠ y) : 0 ≤ dg x y ∧ dg x y ≤ b - 1 := by unfold dg; split <;> omega
/-- the state of the cuts behind one level -/
theorem innerC_at (b : Int) (ms : List Int) (first : Nat) : ∀ (k : Nat) (n : Int) (cs : List Int) (q : Nat), q < first ∨ first + k ≤ q → (innerC b ms first k n cs).getD q 0 = cs.getD q 0
  | 0, _, _, _, _ => rfl
  | k + 1, n, cs, q, h => by
    rw [innerC, innerC_at b ms first k _ _ q (by omega)]
    simp only [List.getD, List.getElem?_set]
    rw [if_neg (by omega)]
theorem innerC_ne (b : Int) (ms : List Int) (first : Nat) : ∀ (k : Nat) (n : Int) (cs : List Int) (q : Nat), first ≤ q → q < first + k → first + k ≤ cs.length → (innerC b ms first k n cs).getD q 0 ≠ ms.getD q 0
  | 0, _, _, _, h1, h2, _ => by omega
  | k + 1, n, cs, q, h1, h2, h3 => by
    rw [innerC]
    by_cases hq : q = first + k
    · subst hq
      rw [innerC_at b ms first k _ _ _ (by omega)]
      simp only [List.getD, List.getElem?_set, if_true]
      rw [if_pos (by omega)]
      exact bump_ne _ _
    · exact innerC_ne b ms first k _ _ q h1 (by omega) (by simpa using (by omega))
/-- a level's number writes the level's cuts -/
theorem innerC_num {b : Int} {ms cs : List Int} {first : Nat} (hb : 1 ≤ b) : ∀ (k : Nat) (out : List Int), first + k ≤ out.length → (∀ q, first ≤ q → q < first + k → cs.getD q 0 ≠ ms.getD q 0 ∧ 0 ≤ dg (cs.getD q 0) (ms.getD q 0) ∧ dg (cs.getD q 0) (ms.getD q 0) ≤ b - 1) →
    ∀ q, first ≤ q → q < first + k → (innerC b ms first k (numI b ms cs first k) out).getD q 0 = cs.getD q 0
  | 0, _, _, _, q, h1, h2 => by omega
  | k + 1, out, hl, hd, q, h1, h2 => by
    have hk := hd (first + k) (by omega) (by omega)
    have hmin : min (dg (cs.getD (first + k) 0) (ms.getD (first + k) 0)) (b - 1) = dg (cs.getD (first + k) 0) (ms.getD (first + k) 0) := Int.min_eq_left hk.2.2
    have e1 : numI b ms cs first (k + 1) % b = dg (cs.getD (first + k) 0) (ms.getD (first + k) 0) := by
      rw [numI, hmin, Int.add_comm, Int.add_mul_emod_self_right]
      exact Int.emod_eq_of_lt hk.2.1 (by omega)
    have e2 : numI b ms cs first (k + 1) / b = numI b ms cs first k := by
      rw [numI, hmin, Int.add_comm, Int.add_mul_ediv_right _ _ (by omega), Int.ediv_eq_zero_of_lt hk.2.1 (by omega)]
      omega
    rw [innerC, e1, e2, bump_dg hk.1]
    by_cases hq : q = first + k
    · subst hq
      rw [innerC_at b ms first k _ _ _ (by omega)]
      simp only [List.getD, List.getElem?_set, if_true]
      rw [if_pos (by omega)]
      rfl
    · exact innerC_num hb k _ (by simpa using (by omega)) (fun q a c => hd q a (by omega)) q h1 (by omega)
theorem numI_eq {b : Int} {ms cs : List Int} {first : Nat} : ∀ (k : Nat), (∀ q, first ≤ q → q < first + k → dg (cs.getD q 0) (ms.getD q 0) ≤ b - 1) → numI b ms cs first k = numS b ms cs first k
  | 0, _ => rfl
  | k + 1, h => by
    rw [numI, numS, numI_eq k (fun q a c => h q a (by omega)), Int.min_eq_left (h (first + k) (by omega) (by omega))]
theorem numI_in {b : Int} {ms cs : List Int} {first : Nat} (hb : 1 ≤ b) : ∀ (k : Nat), (∀ q, first ≤ q → q < first + k → 0 ≤ cs.getD q 0 ∧ 0 ≤ ms.getD q 0) → 0 ≤ numI b ms cs first k ∧ numI b ms cs first k ≤ b ^ k - 1
  | 0, _ => by simp [numI]
  | k + 1, h => by
    have ih := numI_in hb k (fun q a c => h q a (by omega))
    have hq := h (first + k) (by omega) (by omega)
    rw [numI, Int.pow_succ]
    have hd0 : 0 ≤ min (dg (cs.getD (first + k) 0) (ms.getD (first + k) 0)) (b - 1) := by unfold dg; split <;> omega
    have hd1 : min (dg (cs.getD (first + k) 0) (ms.getD (first + k) 0)) (b - 1) ≤ b - 1 := Int.min_le_right _ _
    have h1 : numI b ms cs first k * b ≤ (b ^ k - 1) * b := Int.mul_le_mul_of_nonneg_right ih.2 (by omega)
    have h2 : 0 ≤ numI b ms cs first k * b := Int.mul_nonneg ih.1 (by omega)
    rw [Int.sub_mul] at h1
    omega
/-- the cuts behind all levels of a path -/
theorem outerC_low (b : Int) (ms : List Int) : ∀ (ls ps : List Int) (f : Nat) (cs : List Int) (q : Nat), q < f → (outerC b ms f ls ps cs).getD q 0 = cs.getD q 0
  | [], _, _, _, _, _ => by simp [outerC]
  | _ :: _, [], _, _, _, _ => by simp [outerC]
  | l :: ls, n :: ps, f, cs, q, h => by rw [outerC, outerC_low b ms ls ps _ _ q (by omega), innerC_at b ms f _ _ _ q (by omega)]
theorem outerC_high (b : Int) (ms : List Int) : ∀ (ls ps : List Int) (f : Nat) (cs : List Int) (q : Nat), f + restSum (ls.take ps.length) ≤ q → (outerC b ms f ls ps cs).getD q 0 = cs.getD q 0
  | [], _, _, _, _, _ => by simp [outerC]
  | _ :: _, [], _, _, _, _ => by simp [outerC]
  | l :: ls, n :: ps, f, cs, q, h => by
    simp only [List.length_cons, List.take_succ_cons, restSum] at h
    rw [outerC, outerC_high b ms ls ps _ _ q (by omega), innerC_at b ms f _ _ _ q (by omega)]
theorem outerC_ne (b : Int) (ms : List Int) : ∀ (ls ps : List Int) (f : Nat) (cs : List Int) (q : Nat), ps.length ≤ ls.length → f + restSum ls ≤ cs.length → f ≤ q → q < f + restSum (ls.take ps.length) → (outerC b ms f ls ps cs).getD q 0 ≠ ms.getD q 0
  | [], ps, f, cs, q, h, _, h1, h2 => by simp [restSum] at h2; omega
  | _ :: _, [], f, cs, q, _, _, h1, h2 => by simp [restSum] at h2; omega
  | l :: ls, n :: ps, f, cs, q, h, hl, h1, h2 => by
    simp only [List.length_cons, List.take_succ_cons, restSum] at h h2 hl
    rw [outerC]
    by_cases hq : q < f + l.toNat
    · rw [outerC_low b ms ls ps _ _ q hq]
      exact innerC_ne b ms f _ _ _ q h1 hq (by omega)
    · exact outerC_ne b ms ls ps _ _ q (by omega) (by rw [innerC_len]; omega) (by omega) (by omega)
theorem outerC_num {b : Int} {ms cs : List Int} (hb : 1 ≤ b) : ∀ (ls : List Int) (k f : Nat) (out : List Int), f + restSum ls ≤ out.length →
    (∀ q, f ≤ q → q < f + restSum (ls.take k) → cs.getD q 0 ≠ ms.getD q 0 ∧ 0 ≤ dg (cs.getD q 0) (ms.getD q 0) ∧ dg (cs.getD q 0) (ms.getD q 0) ≤ b - 1) →
    ∀ q, f ≤ q → q < f + restSum (ls.take k) → (outerC b ms f ls ((numsI b ms cs f ls).take k) out).getD q 0 = cs.getD q 0
  | [], k, f, out, hl, hd, q, h1, h2 => by simp [restSum] at h2; omega
  | l :: ls, 0, f, out, hl, hd, q, h1, h2 => by simp [restSum] at h2; omega
  | l :: ls, k + 1, f, out, hl, hd, q, h1, h2 => by
    simp only [List.take_succ_cons, restSum] at h2 hl hd
    rw [numsI, List.take_succ_cons, outerC]
    by_cases hq : q < f + l.toNat
    · rw [outerC_low b ms ls _ _ _ q hq]
      exact innerC_num hb l.toNat out (by omega) (fun q a c => hd q a (by omega)) q h1 hq
    · exact outerC_num hb ls k (f + l.toNat) _ (by rw [innerC_len]; omega) (fun q a c => hd q (by omega) (by omega)) q (by omega) (by omega)
/-- Cuts differ from the master in the first levels, and are the master's behind them. -/
def Good (ms ls cs : List Int) (k : Nat) : Prop := (∀ q, q < restSum (ls.take k) → cs.getD q 0 ≠ ms.getD q 0) ∧ ∀ q, restSum (ls.take k) ≤ q → cs.getD q 0 = ms.getD q 0
theorem restSum_le (ls : List Int) (k : Nat) : restSum (ls.take k) ≤ restSum ls := by
  induction ls generalizing k with
  | nil => simp [restSum]
  | cons l r ih => cases k with
    | zero => simp [restSum]
    | succ k => simp only [List.take_succ_cons, restSum]; have := ih k; omega
theorem restSum_lt {ls : List Int} (h : ∀ x ∈ ls, 1 ≤ x) : ∀ {k j : Nat}, k < j → j ≤ ls.length → restSum (ls.take k) < restSum (ls.take j) := by
  induction ls with
  | nil => intro k j h1 h2; simp at h2; omega
  | cons l r ih =>
    intro k j h1 h2
    have hl := h l (by simp)
    cases j with
    | zero => omega
    | succ j =>
      cases k with
      | zero => simp only [List.take_zero, List.take_succ_cons, restSum]; omega
      | succ k =>
        simp only [List.take_succ_cons, restSum]
        have := ih (fun x hx => h x (by simp [hx])) (k := k) (j := j) (by omega) (by simpa using h2)
        omega
theorem Good.unique {ms ls cs : List Int} {k j : Nat} (h : ∀ x ∈ ls, 1 ≤ x) (hk : Good ms ls cs k) (hj : Good ms ls cs j) (h1 : k ≤ ls.length) (h2 : j ≤ ls.length) : k = j := by
  rcases Nat.lt_trichotomy k j with hlt | h | hlt
  · exact absurd (hk.2 _ (Nat.le_refl _)) (hj.1 _ (restSum_lt h hlt h2))
  · exact h
  · exact absurd (hj.2 _ (Nat.le_refl _)) (hk.1 _ (restSum_lt h hlt h1))
theorem getD_ext {a b : List Int} (h : a.length = b.length) (hq : ∀ q, q < a.length → a.getD q 0 = b.getD q 0) : a = b := by
  apply List.ext_getElem h
  intro i h1 h2
  have := hq i h1
  simpa [List.getD, List.getElem?_eq_getElem h1, List.getElem?_eq_getElem h2] using this
/-- any path that gives the cuts tells how many levels differ -/
theorem good_of {m : Mk} {ms ls ps cs : List Int} (hlen : restSum ls = ms.length) (hp : ps.length ≤ ls.length) (hc : cs.length = ms.length) (h : cutsAtF m ms ls ps = cs) : Good ms ls cs ps.length := by
  subst h
  unfold cutsAtF
  exact ⟨fun q hq => outerC_ne _ ms ls ps 0 ms q hp (by omega) (by omega) (by omega), fun q hq => outerC_high _ ms ls ps 0 ms q (by omega)⟩
theorem good_num {m : Mk} {ms ls cs : List Int} {k : Nat} (hd : 2 ≤ m.d) (hlen : restSum ls = ms.length) (hc : cs.length = ms.length) (hx : ∀ q, q < ms.length → (0 ≤ cs.getD q 0 ∧ cs.getD q 0 ≤ m.d - 1) ∧ 0 ≤ ms.getD q 0 ∧ ms.getD q 0 ≤ m.d - 1)
    (h : Good ms ls cs k) : cutsAtF m ms ls ((numsI (m.d - 1) ms cs 0 ls).take k) = cs := by
  refine getD_ext (by unfold cutsAtF; rw [outerC_len, hc]) fun q hq => ?_
  have hq' : q < ms.length := by unfold cutsAtF at hq; rwa [outerC_len] at hq
  have hk := restSum_le ls k
  unfold cutsAtF
  by_cases hlt : q < restSum (ls.take k)
  · exact outerC_num (by omega) ls k 0 ms (by omega) (fun q _ h2 => ⟨h.1 q (by omega), dg_in (hx q (by omega)).1 (hx q (by omega)).2 (h.1 q (by omega))⟩) q (by omega) (by omega)
  · rw [outerC_high _ ms ls _ 0 ms q (by
      have : (ls.take ((numsI (m.d - 1) ms cs 0 ls).take k).length) = ls.take k := by
        rw [List.length_take, numsI_len, ← List.take_take, List.take_length]
      rw [this]; omega), h.2 q (by omega)]
end Go.Proofs.Ytdkkkkfcpgkcnaa
