/- The result of PathOf, from the program's side and from the reference's. No program. -/
import Derived.Test.YtdkkkkfcpgkcnaaPPathOf
namespace Go.Proofs.Ytdkkkkfcpgkcnaa
set_option linter.unusedVariables false
open Go.RowKit
def numsF (m : Mk) (ms ls cs : List Int) : List Int := numsI (m.d - 1) ms cs 0 ls
def goodB (m : Mk) (ms ls cs : List Int) (k : Nat) : Bool := cutsAtF m ms ls ((numsF m ms ls cs).take k) == cs
def lastGood (m : Mk) (ms ls cs : List Int) : Nat → Option Nat
  | 0 => if goodB m ms ls cs 0 = true then some 0 else none
  | k + 1 => if goodB m ms ls cs (k + 1) = true then some (k + 1) else lastGood m ms ls cs k
def pathEnd (m : Mk) (ms ls cs : List Int) : Option Nat → List Int × Int
  | some k => ((numsF m ms ls cs).take k, 0)
  | none => ([], 4)
def pathOfR (m : Mk) (ms ls cs : List Int) : List Int × Int :=
  if levelsCode m ms ls [] = 0 then (if cutsOK m cs = true then pathEnd m ms ls cs (lastGood m ms ls cs ls.length) else ([], 2)) else ([], levelsCode m ms ls [])
theorem lastGood_some {m : Mk} {ms ls cs : List Int} : ∀ {n k : Nat}, lastGood m ms ls cs n = some k → k ≤ n ∧ goodB m ms ls cs k = true
  | 0, k, h => by
    unfold lastGood at h
    split at h
    · rename_i hg; injection h with h; subst h; exact ⟨Nat.le_refl _, hg⟩
    · cases h
  | n + 1, k, h => by
    unfold lastGood at h
    split at h
    · rename_i hg; injection h with h; subst h; exact ⟨Nat.le_refl _, hg⟩
    · have := lastGood_some h; exact ⟨by omega, this.2⟩
theorem lastGood_none {m : Mk} {ms ls cs : List Int} : ∀ {n : Nat}, lastGood m ms ls cs n = none → ∀ k, k ≤ n → goodB m ms ls cs k = false
  | 0, h, k, hk => by
    unfold lastGood at h
    split at h
    · cases h
    · rename_i hg; obtain rfl : k = 0 := by omega
      simpa using hg
  | n + 1, h, k, hk => by
    unfold lastGood at h
    split at h
    · cases h
    · rename_i hg
      by_cases hkn : k = n + 1
      · subst hkn; simpa using hg
      · exact lastGood_none h k (by omega)
theorem pow_tab : ∀ b : Fin 8, ∀ n : Fin 7, powW (b.val : Int) n.val = (b.val : Int) ^ n.val := by decide +kernel
theorem powW_pow {b : Int} {n : Nat} (h1 : 1 ≤ b) (h2 : b ≤ 7) (h3 : n ≤ 6) : powW b n = b ^ n := by
  obtain ⟨k, rfl⟩ := Int.eq_ofNat_of_zero_le (show 0 ≤ b by omega)
  exact pow_tab ⟨k, by omega⟩ ⟨n, by omega⟩
theorem numsI_at (b : Int) (ms cs : List Int) : ∀ (ls : List Int) (f i : Nat) (h : i < ls.length), (numsI b ms cs f ls)[i]? = some (numI b ms cs (f + restSum (ls.take i)) ls[i].toNat)
  | [], f, i, h => by simp at h
  | l :: ls, f, 0, h => by simp [numsI, restSum]
  | l :: ls, f, i + 1, h => by
    simp only [numsI, List.getElem?_cons_succ, List.take_succ_cons, restSum, List.getElem_cons_succ]
    rw [numsI_at b ms cs ls _ i (by simpa using h), show f + l.toNat + restSum (List.take i ls) = f + (l.toNat + restSum (List.take i ls)) by omega]
theorem restSum_take_add (ls : List Int) (k : Nat) (h : k < ls.length) : restSum (ls.take (k + 1)) = restSum (ls.take k) + ls[k].toNat := by
  induction ls generalizing k with
  | nil => simp at h
  | cons l r ih => cases k with
    | zero => simp [restSum]
    | succ k =>
      simp only [List.take_succ_cons, restSum, List.getElem_cons_succ]
      rw [ih k (by simpa using h)]; omega
structure PathIn (m : Mk) (ms ls cs : List Int) : Prop where
  d2 : 2 ≤ m.d
  d8 : m.d ≤ 8
  c6 : m.c ≤ 6
  sum : restSum ls = ms.length
  ml : (ms.length : Int) = m.c
  cl : cs.length = ms.length
  lv : 1 ≤ ls.length ∧ ls.length ≤ 4 ∧ ∀ k (hk : k < ls.length), 1 ≤ ls[k] ∧ ls[k] ≤ m.c
  mx : ∀ k (hk : k < ms.length), 0 ≤ ms[k] ∧ ms[k] ≤ m.d - 1
  cx : ∀ k (hk : k < cs.length), 0 ≤ cs[k] ∧ cs[k] ≤ m.d - 1
theorem getD_mem {xs : List Int} {k : Nat} (h : k < xs.length) : xs.getD k 0 = xs[k] := by simp [List.getD, List.getElem?_eq_getElem h]
theorem PathIn.x {m : Mk} {ms ls cs : List Int} (h : PathIn m ms ls cs) : ∀ q, q < ms.length → (0 ≤ cs.getD q 0 ∧ cs.getD q 0 ≤ m.d - 1) ∧ 0 ≤ ms.getD q 0 ∧ ms.getD q 0 ≤ m.d - 1 := by
  intro q hq
  have hc := h.cl
  rw [getD_mem (show q < cs.length by omega), getD_mem hq]
  exact ⟨h.cx q _, h.mx q hq⟩
theorem PathIn.pos {m : Mk} {ms ls cs : List Int} (h : PathIn m ms ls cs) : ∀ x ∈ ls, 1 ≤ x := fun x hx => by
  obtain ⟨i, hi, rfl⟩ := List.getElem_of_mem hx; exact (h.lv.2.2 i hi).1
theorem PathIn.num {m : Mk} {ms ls cs : List Int} (h : PathIn m ms ls cs) {i : Nat} (hi : i < ls.length) :
    0 ≤ numI (m.d - 1) ms cs (restSum (ls.take i)) ls[i].toNat ∧ numI (m.d - 1) ms cs (restSum (ls.take i)) ls[i].toNat ≤ powW (m.d - 1) ls[i].toNat - 1 := by
  have hd := h.d2; have hd8 := h.d8; have hc6 := h.c6
  have hl := h.lv.2.2 i hi
  rw [powW_pow (by omega) (by omega) (by omega)]
  refine numI_in (by omega) _ fun q h1 h2 => ?_
  have hs := restSum_le ls (i + 1)
  rw [restSum_take_add ls i hi, h.sum] at hs
  have := h.x q (by omega)
  exact ⟨this.1.1, this.2.1⟩
theorem PathIn.isPath {m : Mk} {ms ls cs : List Int} (h : PathIn m ms ls cs) (k : Nat) : isPath m ls ((numsF m ms ls cs).take k) = true := by
  have hl : (numsF m ms ls cs).length = ls.length := numsI_len _ _ _ _ _
  simp only [Proofs.Ytdkkkkfcpgkcnaa.isPath, Bool.and_eq_true, decide_eq_true_eq, List.all_eq_true, List.mem_range]
  refine ⟨by simp; omega, fun i hi => ?_⟩
  simp only [List.length_take] at hi
  have hi2 : i < ls.length := by omega
  rw [pathAt_in (by simp; omega) hi2, inB_iff]
  have e : ((numsF m ms ls cs).take k)[i]'(by simp; omega) = numI (m.d - 1) ms cs (restSum (ls.take i)) ls[i].toNat := by
    have := numsI_at (m.d - 1) ms cs ls 0 i hi2
    rw [List.getElem_take]
    unfold numsF
    rw [List.getElem?_eq_getElem (by rw [numsI_len]; exact hi2)] at this
    rw [Option.some.inj this, Nat.zero_add]
  rw [e]
  exact h.num hi2
theorem PathIn.goodB_iff {m : Mk} {ms ls cs : List Int} (h : PathIn m ms ls cs) {k : Nat} (hk : k ≤ ls.length) : goodB m ms ls cs k = true ↔ Good ms ls cs k := by
  have hl : (numsF m ms ls cs).length = ls.length := numsI_len _ _ _ _ _
  unfold goodB
  rw [beq_iff_eq]
  constructor
  · intro hg
    have := good_of h.sum (by simp; omega) h.cl hg
    simpa [hl, Nat.min_eq_left hk] using this
  · intro hg
    exact good_num h.d2 h.sum h.cl h.x hg
/-! ### the reference's path -/
def numsS (b : Int) (ms cs : List Int) : Nat → List Int → List Int
  | _, [] => []
  | f, l :: ls => numS b ms cs f l.toNat :: numsS b ms cs (f + l.toNat) ls
theorem numsS_at (b : Int) (ms cs : List Int) : ∀ (ls : List Int) (f i : Nat) (h : i < ls.length), (numsS b ms cs f ls)[i]? = some (numS b ms cs (f + restSum (ls.take i)) ls[i].toNat)
  | [], f, i, h => by simp at h
  | l :: ls, f, 0, h => by simp [numsS, restSum]
  | l :: ls, f, i + 1, h => by
    simp only [numsS, List.getElem?_cons_succ, List.take_succ_cons, restSum, List.getElem_cons_succ]
    rw [numsS_at b ms cs ls _ i (by simpa using h), show f + l.toNat + restSum (List.take i ls) = f + (l.toNat + restSum (List.take i ls)) by omega]
theorem numsS_len (b : Int) (ms cs : List Int) : ∀ (ls : List Int) (f : Nat), (numsS b ms cs f ls).length = ls.length
  | [], _ => rfl
  | l :: ls, f => by simp [numsS, numsS_len b ms cs ls]
theorem PathIn.same {m : Mk} {ms ls cs : List Int} (h : PathIn m ms ls cs) {k : Nat} (hk : k ≤ ls.length) (hg : Good ms ls cs k) : (numsS (m.d - 1) ms cs 0 ls).take k = (numsF m ms ls cs).take k := by
  have hl1 := numsS_len (m.d - 1) ms cs ls 0
  have hl2 := numsI_len (m.d - 1) ms cs ls 0
  unfold numsF
  apply List.ext_getElem?
  intro i
  by_cases hi : i < k
  · have hi2 : i < ls.length := by omega
    rw [List.getElem?_take, List.getElem?_take, if_pos hi, if_pos hi, numsS_at _ _ _ _ _ _ hi2, numsI_at _ _ _ _ _ _ hi2, Nat.zero_add]
    congr 1
    symm
    refine numI_eq _ fun q h1 h2 => ?_
    have h3 : restSum (ls.take (i + 1)) ≤ restSum (ls.take k) := by
      rcases Nat.eq_or_lt_of_le (show i + 1 ≤ k from hi) with e | e
      · rw [e]; exact Nat.le_refl _
      · exact Nat.le_of_lt (restSum_lt h.pos e hk)
    rw [restSum_take_add ls i hi2] at h3
    have hx := h.x q (by have := restSum_le ls k; have := h.sum; omega)
    exact (dg_in hx.1 hx.2 (hg.1 q (by omega))).2
  · rw [List.getElem?_eq_none (by simp; omega), List.getElem?_eq_none (by simp; omega)]
theorem PathIn.last {m : Mk} {ms ls cs : List Int} (h : PathIn m ms ls cs) {k : Nat} (hk : k ≤ ls.length) (hg : Good ms ls cs k) : lastGood m ms ls cs ls.length = some k := by
  cases he : lastGood m ms ls cs ls.length with
  | none => have := lastGood_none he k hk; rw [(h.goodB_iff hk).2 hg] at this; cases this
  | some j =>
    have hj := lastGood_some he
    rw [Good.unique h.pos hg ((h.goodB_iff hj.1).1 hj.2) hk hj.1]
/-- The reference's loop has stopped at k levels. -/
structure SpecStop (ms ls cs : List Int) (k : Nat) : Prop where
  le : k ≤ ls.length
  lead : ∀ i, i < k → cs.getD (restSum (ls.take i)) 0 ≠ ms.getD (restSum (ls.take i)) 0
  stop : k = ls.length ∨ cs.getD (restSum (ls.take k)) 0 = ms.getD (restSum (ls.take k)) 0
theorem SpecStop.good {m : Mk} {ms ls cs : List Int} (h : PathIn m ms ls cs) {k j : Nat} (hs : SpecStop ms ls cs k) (hj : j ≤ ls.length) (hg : Good ms ls cs j) : j = k := by
  have hle := hs.le
  rcases Nat.lt_trichotomy k j with hlt | h' | hlt
  · rcases hs.stop with e | e
    · omega
    · exact absurd e (hg.1 _ (restSum_lt h.pos hlt hj))
  · exact h'.symm
  · exact absurd (hg.2 _ (Nat.le_refl _)) (hs.lead j hlt)
theorem spec_yes {m : Mk} {ms ls cs : List Int} (h : PathIn m ms ls cs) {k : Nat} (hs : SpecStop ms ls cs k) (he : cutsAtF m ms ls ((numsS (m.d - 1) ms cs 0 ls).take k) = cs) :
    ((numsS (m.d - 1) ms cs 0 ls).take k, 0) = pathEnd m ms ls cs (lastGood m ms ls cs ls.length) := by
  have hle := hs.le
  have hl1 := numsS_len (m.d - 1) ms cs ls 0
  have hg := good_of h.sum (by simp; omega) h.cl he
  rw [List.length_take, hl1, Nat.min_eq_left hle] at hg
  rw [h.last hle hg, h.same hle hg]; rfl
theorem spec_no {m : Mk} {ms ls cs : List Int} (h : PathIn m ms ls cs) {k : Nat} (hs : SpecStop ms ls cs k) (hne : isPath m ls ((numsS (m.d - 1) ms cs 0 ls).take k) = false ∨ cutsAtF m ms ls ((numsS (m.d - 1) ms cs 0 ls).take k) ≠ cs) :
    ([], 4) = pathEnd m ms ls cs (lastGood m ms ls cs ls.length) := by
  cases he : lastGood m ms ls cs ls.length with
  | none => rfl
  | some j =>
    have hj := lastGood_some he
    have hg := (h.goodB_iff hj.1).1 hj.2
    have e := hs.good h hj.1 hg
    subst e
    rw [h.same hj.1 hg] at hne
    rcases hne with h1 | h1
    · rw [h.isPath j] at h1; cases h1
    · exact absurd (by have := hj.2; unfold goodB at this; exact beq_iff_eq.1 this) h1
/-! ### the program's loop -/
theorem trim_step {m : Mk} {ms ls cs : List Int} {k n : Nat} (h : lastGood m ms ls cs n = lastGood m ms ls cs (k + 1)) (hg : goodB m ms ls cs (k + 1) = false) : lastGood m ms ls cs n = lastGood m ms ls cs k := by
  rw [h]; conv => lhs; unfold lastGood
  rw [if_neg (by rw [hg]; simp)]
theorem trim_yes {m : Mk} {ms ls cs : List Int} {k n : Nat} (h : lastGood m ms ls cs n = lastGood m ms ls cs k) (hg : goodB m ms ls cs k = true) : lastGood m ms ls cs n = some k := by
  rw [h]; cases k <;> (unfold lastGood; rw [if_pos hg])
theorem trim_no {m : Mk} {ms ls cs : List Int} {n : Nat} (h : lastGood m ms ls cs n = lastGood m ms ls cs 0) (hg : goodB m ms ls cs 0 = false) : lastGood m ms ls cs n = none := by
  rw [h]; unfold lastGood; rw [if_neg (by rw [hg]; simp)]
end Go.Proofs.Ytdkkkkfcpgkcnaa
