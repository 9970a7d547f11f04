/- Plain laws of FnPaths: cuts at a path and the path of cuts determine each other. No program. -/
import Derived.Test.YtdkkkkfcpgkcnaaPPathOf2
import Derived.Test.YtdkkkkfcpgkcnaaFPathOf
namespace Go.Proofs.Ytdkkkkfcpgkcnaa
set_option linter.unusedVariables false
theorem dg_bump (g y : Int) : dg (bump g y) y = g := by unfold dg bump; split <;> split <;> omega
theorem numI_congr {b : Int} {ms cs cs' : List Int} {first : Nat} : ∀ (k : Nat), (∀ q, first ≤ q → q < first + k → cs.getD q 0 = cs'.getD q 0) → numI b ms cs first k = numI b ms cs' first k
  | 0, _ => rfl
  | k + 1, h => by rw [numI, numI, numI_congr k (fun q a c => h q a (by omega)), h (first + k) (by omega) (by omega)]
/-- a level's cuts tell the level's number -/
theorem numI_inner {b : Int} {ms : List Int} {first : Nat} (hb : 1 ≤ b) : ∀ (k : Nat) (n : Int) (out : List Int), 0 ≤ n → n < b ^ k → first + k ≤ out.length → numI b ms (innerC b ms first k n out) first k = n
  | 0, n, out, h0, h1, _ => by simp [numI]; simp at h1; omega
  | k + 1, n, out, h0, h1, hl => by
    have hm0 := Int.emod_nonneg n (show b ≠ 0 by omega)
    have hm1 := Int.emod_lt_of_pos n (show 0 < b by omega)
    have hd0 : 0 ≤ n / b := Int.ediv_nonneg h0 (by omega)
    have hd1 : n / b < b ^ k := by
      rw [Int.pow_succ] at h1
      exact Int.ediv_lt_of_lt_mul (by omega) h1
    have ih := numI_inner (ms := ms) (first := first) hb k (n / b) (out.set (first + k) (bump (n % b) (ms.getD (first + k) 0))) hd0 hd1 (by simp; omega)
    have hg : (innerC b ms first (k + 1) n out).getD (first + k) 0 = bump (n % b) (ms.getD (first + k) 0) := by
      rw [innerC, innerC_at b ms first k _ _ _ (by omega)]
      simp only [List.getD, List.getElem?_set, if_true]
      rw [if_pos (by omega)]
      rfl
    rw [numI, hg, dg_bump, Int.min_eq_left (by omega)]
    have e : numI b ms (innerC b ms first (k + 1) n out) first k = n / b := by rw [innerC]; exact ih
    rw [e]
    have := Int.mul_ediv_add_emod n b
    rw [Int.mul_comm] at this
    exact this
theorem nums_outer {b : Int} {ms : List Int} (hb : 1 ≤ b) : ∀ (ls ps : List Int) (f : Nat) (out : List Int), ps.length ≤ ls.length → f + restSum ls ≤ out.length →
    (∀ i (hi : i < ps.length) (hl : i < ls.length), 0 ≤ ps[i] ∧ ps[i] < b ^ ls[i].toNat) → (numsI b ms (outerC b ms f ls ps out) f ls).take ps.length = ps
  | ls, [], f, out, _, _, _ => by simp
  | [], n :: ps, f, out, h, _, _ => by simp at h
  | l :: ls, n :: ps, f, out, h, hl, hp => by
    have h0 := hp 0 (by simp) (by simp)
    simp only [List.getElem_cons_zero] at h0
    simp only [restSum] at hl
    rw [outerC]
    have e1 : numI b ms (outerC b ms (f + l.toNat) ls ps (innerC b ms f l.toNat n out)) f l.toNat = n := by
      rw [numI_congr (cs' := innerC b ms f l.toNat n out) l.toNat (fun q a c => outerC_low b ms ls ps _ _ q (by omega))]
      exact numI_inner hb l.toNat n out h0.1 h0.2 (by omega)
    have ih := nums_outer (ms := ms) hb ls ps (f + l.toNat) (innerC b ms f l.toNat n out) (by simpa using h) (by rw [innerC_len]; omega) (fun i hi hl2 => by
      have := hp (i + 1) (by simpa using hi) (by simpa using hl2)
      simpa using this)
    simp only [numsI, List.length_cons, List.take_succ_cons, e1]
    rw [ih]
theorem innerC_in {b : Int} {ms : List Int} {first : Nat} (hb : 1 ≤ b) : ∀ (k : Nat) (n : Int) (cs : List Int), (∀ q, q < cs.length → 0 ≤ cs.getD q 0 ∧ cs.getD q 0 ≤ b) → ∀ q, q < cs.length → 0 ≤ (innerC b ms first k n cs).getD q 0 ∧ (innerC b ms first k n cs).getD q 0 ≤ b
  | 0, _, _, h, q, hq => h q hq
  | k + 1, n, cs, h, q, hq => by
    rw [innerC]
    refine innerC_in hb k _ _ (fun r hr => ?_) q (by simpa using hq)
    simp only [List.length_set] at hr
    simp only [List.getD, List.getElem?_set]
    by_cases hf : first + k = r
    · rw [if_pos hf, if_pos (by omega)]
      have hm0 := Int.emod_nonneg n (show b ≠ 0 by omega)
      have hm1 := Int.emod_lt_of_pos n (show 0 < b by omega)
      simp only [Option.getD_some]
      unfold bump
      split <;> omega
    · rw [if_neg hf]; exact h r hr
theorem outerC_in {b : Int} {ms : List Int} (hb : 1 ≤ b) : ∀ (ls ps : List Int) (f : Nat) (cs : List Int), (∀ q, q < cs.length → 0 ≤ cs.getD q 0 ∧ cs.getD q 0 ≤ b) → ∀ q, q < cs.length → 0 ≤ (outerC b ms f ls ps cs).getD q 0 ∧ (outerC b ms f ls ps cs).getD q 0 ≤ b
  | [], ps, f, cs, h, q, hq => by cases ps <;> exact h q hq
  | _ :: _, [], f, cs, h, q, hq => h q hq
  | l :: ls, n :: ps, f, cs, h, q, hq => by
    rw [outerC]
    exact outerC_in hb ls ps _ _ (fun r hr => innerC_in hb _ _ _ h r (by rw [innerC_len] at hr; exact hr)) q (by rw [innerC_len]; exact hq)
/-- the path of the cuts at a path -/
theorem path_of_cuts {m : Mk} {ms ls ps : List Int} (h : (cutsAtR m ms ls ps).2 = 0) : pathOfR m ms ls (cutsAtR m ms ls ps).1 = (ps, 0) := by
  unfold cutsAtR at *
  by_cases hc : levelsCode m ms ls ps = 0
  · rw [if_pos hc]
    obtain ⟨hm, hk, hl, hp⟩ := lc_0_iff.1 hc
    have hmb := mk_bounds hm
    have hd2 : 2 ≤ m.d := hmb.2.2.1
    have hd8 : m.d ≤ 8 := hmb.2.2.2.1
    have hc6 : m.c ≤ 6 := hmb.2.1
    obtain ⟨hml, hmx⟩ := cutsOK_get hk
    have hcl : (cutsAtF m ms ls ps).length = ms.length := outerC_len _ _ _ _ _ _
    have hin : ∀ q, q < ms.length → 0 ≤ (cutsAtF m ms ls ps).getD q 0 ∧ (cutsAtF m ms ls ps).getD q 0 ≤ m.d - 1 := fun q hq => outerC_in (by omega) ls ps 0 ms (fun r hr => by rw [getD_mem hr]; exact hmx r hr) q hq
    have hx : cutsOK m (cutsAtF m ms ls ps) = true := by
      unfold cutsOK
      rw [Bool.and_eq_true]
      refine ⟨by rw [hcl]; simpa using hml, ?_⟩
      unfold allW
      rw [List.all_eq_true]
      intro x hx
      obtain ⟨q, hq, rfl⟩ := List.getElem_of_mem hx
      have := hin q (by omega)
      rw [getD_mem hq] at this
      exact inB_iff'.2 this
    have hP := pathIn_of hm hk hl hx
    have hpl := (path_at hm hl hp).1
    have hg := good_of (m := m) (cs := cutsAtF m ms ls ps) hP.sum hpl hcl rfl
    have hlast := hP.last hpl hg
    have hp0 : isPath m ls [] = true := by simp [isPath]
    unfold pathOfR
    rw [if_pos (lc_0 hm hk hl hp0), if_pos hx]
    simp only
    rw [hlast]
    simp only [pathEnd, Prod.mk.injEq, and_true]
    unfold numsF cutsAtF
    refine nums_outer (by omega) ls ps 0 ms hpl (by rw [hP.sum]; omega) (fun i hi hil => ?_)
    simp only [isPath, Bool.and_eq_true, decide_eq_true_eq, List.all_eq_true, List.mem_range] at hp
    have := hp.2 i hi
    rw [pathAt_in hi hil, inB_iff] at this
    have hll := hP.lv.2.2 i hil
    rw [powW_pow (by omega) (by omega) (by omega)] at this
    omega
  · rw [if_neg hc] at h; exact absurd h hc
/-- the cuts at the path of cuts -/
theorem cuts_of_path {m : Mk} {ms ls cs : List Int} (h : (pathOfR m ms ls cs).2 = 0) : cutsAtR m ms ls (pathOfR m ms ls cs).1 = (cs, 0) := by
  unfold pathOfR at *
  by_cases hc : levelsCode m ms ls [] = 0
  · rw [if_pos hc] at h ⊢
    by_cases hx : cutsOK m cs = true
    · rw [if_pos hx] at h ⊢
      obtain ⟨hm, hk, hl, _⟩ := lc_0_iff.1 hc
      have hP := pathIn_of hm hk hl hx
      cases he : lastGood m ms ls cs ls.length with
      | none => rw [he] at h; simp [pathEnd] at h
      | some k =>
        have hg := lastGood_some he
        simp only [pathEnd]
        unfold cutsAtR
        rw [if_pos (lc_0 hm hk hl (hP.isPath k))]
        have := hg.2
        unfold goodB at this
        rw [beq_iff_eq.1 this]
    · rw [if_neg hx] at h; simp at h
  · rw [if_neg hc] at h; exact absurd h hc
end Go.Proofs.Ytdkkkkfcpgkcnaa
