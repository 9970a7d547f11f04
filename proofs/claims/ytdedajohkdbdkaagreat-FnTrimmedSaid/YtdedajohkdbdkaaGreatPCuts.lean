/- Plain words on the cuts at a path. No program. -/
import Derived.Test.YtdedajohkdbdkaaGreatFPath
namespace Go.Proofs.YtdedajohkdbdkaaGreat
set_option linter.unusedVariables false
open Go.RowKit
def bump (g ms : Int) : Int := if ms ≤ g then g + 1 else g
def innerC (b : Int) (ms : List Int) (first : Nat) : Nat → Int → List Int → List Int
  | 0, _, cs => cs
  | k + 1, n, cs => innerC b ms first k (n / b) (cs.set (first + k) (bump (n % b) (ms.getD (first + k) 0)))
def outerC (b : Int) (ms : List Int) : Nat → List Int → List Int → List Int → List Int
  | first, l :: ls, n :: ps, cs => outerC b ms (first + l.toNat) ls ps (innerC b ms first l.toNat n cs)
  | _, [], _, cs => cs
  | _, _ :: _, [], cs => cs
def cutsAtF (m : Mk) (ms ls ps : List Int) : List Int := outerC (m.d - 1) ms 0 ls ps ms
def restSum : List Int → Nat
  | [] => 0
  | l :: r => l.toNat + restSum r
theorem innerC_len (b : Int) (ms : List Int) (first : Nat) : ∀ (k : Nat) (n : Int) (cs : List Int), (innerC b ms first k n cs).length = cs.length
  | 0, _, _ => rfl
  | k + 1, n, cs => by rw [innerC, innerC_len]; simp
theorem outerC_len (b : Int) (ms : List Int) : ∀ (ls ps : List Int) (first : Nat) (cs : List Int), (outerC b ms first ls ps cs).length = cs.length
  | [], _, _, _ => by simp [outerC]
  | _ :: _, [], _, _ => by simp [outerC]
  | l :: ls, n :: ps, first, cs => by rw [outerC, outerC_len b ms ls ps, innerC_len]
theorem outerC_end (b : Int) (ms : List Int) (first : Nat) (ls cs : List Int) : outerC b ms first ls [] cs = cs := by cases ls <;> rfl
theorem outerC_step (b : Int) (ms : List Int) (first : Nat) (ls ps : List Int) (cs : List Int) (k : Nat) (h : k < ps.length) (h2 : k < ls.length) :
    outerC b ms first (ls.drop k) (ps.drop k) cs = outerC b ms (first + ls[k].toNat) (ls.drop (k + 1)) (ps.drop (k + 1)) (innerC b ms first ls[k].toNat ps[k] cs) := by
  rw [List.drop_eq_getElem_cons h, List.drop_eq_getElem_cons h2, outerC]
theorem restSum_step (ls : List Int) (k : Nat) (h : k < ls.length) : restSum (ls.drop k) = ls[k].toNat + restSum (ls.drop (k + 1)) := by
  rw [List.drop_eq_getElem_cons h, restSum]
theorem sumI_restGo : ∀ (ls : List Int) (a : Int), 0 ≤ a → (∀ x ∈ ls, 0 ≤ x ∧ x ≤ 6) → a + 6 * ls.length ≤ 1000 → ls.foldl (fun a x => wrap64 (a + x)) a = a + restSum ls
  | [], a, _, _, _ => by simp [restSum]
  | x :: r, a, h0, h1, h2 => by
    have hx := h1 x (by simp)
    simp only [List.length_cons] at h2
    have hw := IntWalk.wrap64_in (a + x) ⟨by omega, by omega⟩
    rw [List.foldl_cons, hw, sumI_restGo r (a + x) (by omega) (fun y hy => h1 y (by simp [hy])) (by omega), restSum]
    omega
theorem levels_rest {m : Mk} {ls : List Int} (hm : isMaker m = true) (h : areLevels m ls = true) : (restSum ls : Int) = m.c := by
  have hb := mk_bounds hm
  have hg := areLevels_get h
  simp only [areLevels, Bool.and_eq_true, beq_iff_eq] at h
  have := sumI_restGo ls 0 (by omega) (fun x hx => by obtain ⟨i, hi, rfl⟩ := List.getElem_of_mem hx; have := hg.2.2 i hi; omega) (by omega)
  have h2 : sumI ls = m.c := h.2.2.2
  unfold sumI at h2
  omega
theorem path_at {m : Mk} {ls ps : List Int} (hm : isMaker m = true) (hl : areLevels m ls = true) (h : isPath m ls ps = true) : ps.length ≤ ls.length ∧ ∀ k (hk : k < ps.length), 0 ≤ ps[k] ∧ ps[k] ≤ 117648 := by
  have hb := mk_bounds hm
  have hg := areLevels_get hl
  simp only [isPath, Bool.and_eq_true, decide_eq_true_eq, List.all_eq_true, List.mem_range] at h
  refine ⟨h.1, fun k hk => ?_⟩
  have h2 := h.2 k hk
  have hk2 : k < ls.length := by omega
  rw [pathAt_in hk hk2] at h2
  have h3 := inB_iff.1 h2
  have := hg.2.2 k hk2
  have := powW_in (b := m.d - 1) (n := ls[k].toNat) (by omega) (by omega) (by omega)
  omega
theorem cutsOK_get {m : Mk} {ms : List Int} (h : cutsOK m ms = true) : (ms.length : Int) = m.c ∧ ∀ k (hk : k < ms.length), 0 ≤ ms[k] ∧ ms[k] ≤ m.d - 1 := by
  simp only [cutsOK, Bool.and_eq_true, beq_iff_eq] at h
  exact ⟨h.1, fun k hk => allW_at h.2 hk⟩
theorem ediv_in {n b : Int} (h0 : 0 ≤ n) (h1 : n ≤ 1000000) (hb : 1 ≤ b) : 0 ≤ n / b ∧ n / b ≤ 1000000 := by
  refine ⟨Int.ediv_nonneg h0 (by omega), ?_⟩
  have := Int.ediv_le_self b h0
  omega
theorem emod_in {n b : Int} (hb : 1 ≤ b) : 0 ≤ n % b ∧ n % b < b := ⟨Int.emod_nonneg _ (by omega), Int.emod_lt_of_pos _ (by omega)⟩
end Go.Proofs.YtdedajohkdbdkaaGreat
