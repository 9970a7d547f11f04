/- Plain law of FnLevelLocks: cuts at a path open the lock at another path with all levels just if that is below it. No program. -/
import Derived.Test.YtdkkkkfcpgkcnaaFLockAtS
import Derived.Test.YtdkkkkfcpgkcnaaPPathOf2
import Derived.Test.YtdkkkkfcpgkcnaaFIsBelow
namespace Go.Proofs.Ytdkkkkfcpgkcnaa.Lk
set_option linter.unusedVariables false
theorem dg_bump (g y : Int) : dg (bump g y) y = g := by unfold dg bump; split <;> split <;> omega
theorem numI_congr {b : Int} {ms cs cs' : List Int} {first : Nat} : ∀ (k : Nat), (∀ q, first ≤ q → q < first + k → cs.getD q 0 = cs'.getD q 0) → numI b ms cs first k = numI b ms cs' first k
  | 0, _ => rfl
  | k + 1, h => by rw [numI, numI, numI_congr k (fun q a c => h q a (by omega)), h (first + k) (by omega) (by omega)]
theorem numI_inner {b : Int} {ms : List Int} {first : Nat} (hb : 1 ≤ b) : ∀ (k : Nat) (n : Int) (out : List Int), 0 ≤ n → n < b ^ k → first + k ≤ out.length → numI b ms (innerC b ms first k n out) first k = n
  | 0, n, out, h0, h1, _ => by simp [numI]; simp at h1; omega
  | k + 1, n, out, h0, h1, hl => by
    have hm0 := Int.emod_nonneg n (show b ≠ 0 by omega)
    have hm1 := Int.emod_lt_of_pos n (show 0 < b by omega)
    have hd0 : 0 ≤ n / b := Int.ediv_nonneg h0 (by omega)
    have hd1 : n / b < b ^ k := by
      rw [Int.pow_succ] at h1
      exact Int.ediv_lt_of_lt_mul (by omega) h1
    have ih := numI_inner (ms := ms) (first := first) hb k (n / b) (out.set (first + k) (bump (n % b) (ms.getD (first + k) 0))) hd0 hd1 (by simp; omega)
    have hg : (innerC b ms first (k + 1) n out).getD (first + k) 0 = bump (n % b) (ms.getD (first + k) 0) := by
      rw [innerC, innerC_at b ms first k _ _ _ (by omega)]
      simp only [List.getD, List.getElem?_set, if_true]
      rw [if_pos (by omega)]
      rfl
    rw [numI, hg, dg_bump, Int.min_eq_left (by omega)]
    have e : numI b ms (innerC b ms first (k + 1) n out) first k = n / b := by rw [innerC]; exact ih
    rw [e]
    have := Int.mul_ediv_add_emod n b
    rw [Int.mul_comm] at this
    exact this
theorem innerC_out {b : Int} {ms : List Int} {first : Nat} : ∀ (k : Nat) (n : Int) (out out' : List Int), first + k ≤ out.length → first + k ≤ out'.length → ∀ q, first ≤ q → q < first + k → (innerC b ms first k n out).getD q 0 = (innerC b ms first k n out').getD q 0
  | 0, n, out, out', _, _, q, h1, h2 => by omega
  | k + 1, n, out, out', hl, hl', q, h1, h2 => by
    rw [innerC, innerC]
    by_cases hq : q = first + k
    · subst hq
      rw [innerC_at b ms first k _ _ _ (by omega), innerC_at b ms first k _ _ _ (by omega)]
      simp only [List.getD, List.getElem?_set, if_true]
      rw [if_pos (by omega), if_pos (by omega)]
    · exact innerC_out k _ _ _ (by simp; omega) (by simp; omega) q h1 (by omega)
theorem inner_same {b : Int} {ms : List Int} {first k : Nat} (hb : 1 ≤ b) {n o : Int} {out out' : List Int} (n0 : 0 ≤ n) (n1 : n < b ^ k) (o0 : 0 ≤ o) (o1 : o < b ^ k) (hl : first + k ≤ out.length) (hl' : first + k ≤ out'.length)
    (h : ∀ q, first ≤ q → q < first + k → (innerC b ms first k n out).getD q 0 = (innerC b ms first k o out').getD q 0) : n = o := by
  rw [← numI_inner (ms := ms) (first := first) hb k n out n0 n1 hl, numI_congr k h, numI_inner hb k o out' o0 o1 hl']
theorem opens_outer {b : Int} {ms : List Int} (hb : 1 ≤ b) : ∀ (ls ps os : List Int) (f : Nat) (out out' : List Int), ps.length ≤ ls.length → os.length = ls.length → f + restSum ls = out.length → out'.length = out.length →
    (∀ q, f ≤ q → q < out.length → out.getD q 0 = ms.getD q 0) →
    (∀ i (hi : i < ps.length) (hl : i < ls.length), 0 ≤ ps[i] ∧ ps[i] < b ^ ls[i].toNat) → (∀ i (hi : i < os.length) (hl : i < ls.length), 0 ≤ os[i] ∧ os[i] < b ^ ls[i].toNat) →
    ((∀ q, f ≤ q → q < out.length → (outerC b ms f ls ps out).getD q 0 = ms.getD q 0 ∨ (outerC b ms f ls ps out).getD q 0 = (outerC b ms f ls os out').getD q 0) ↔ os.take ps.length = ps)
  | ls, [], os, f, out, out', _, _, _, _, ho, _, _ => by
    rw [outerC_end]
    simp only [List.length_nil, List.take_zero, iff_true]
    exact fun q h1 h2 => .inl (ho q h1 h2)
  | [], n :: ps, os, f, out, out', h, _, _, _, _, _, _ => by simp at h
  | l :: ls, n :: ps, [], f, out, out', _, h, _, _, _, _, _ => by simp at h
  | l :: ls, n :: ps, o :: os, f, out, out', hp, ho, hl, hl', hout, rp, ro => by
    have hn := rp 0 (by simp) (by simp)
    have hO := ro 0 (by simp) (by simp)
    simp only [List.getElem_cons_zero] at hn hO
    simp only [restSum] at hl
    have ih := opens_outer (ms := ms) hb ls ps os (f + l.toNat) (innerC b ms f l.toNat n out) (innerC b ms f l.toNat o out') (by simpa using hp) (by simpa using ho) (by rw [innerC_len]; omega) (by rw [innerC_len, innerC_len]; exact hl')
      (fun q h1 h2 => by rw [innerC_len] at h2; rw [innerC_at b ms f l.toNat _ _ q (by omega)]; exact hout q (by omega) h2)
      (fun i hi h2 => by have := rp (i + 1) (by simpa using hi) (by simpa using h2); simpa using this)
      (fun i hi h2 => by have := ro (i + 1) (by simpa using hi) (by simpa using h2); simpa using this)
    rw [outerC, outerC]
    rw [innerC_len] at ih
    simp only [List.length_cons, List.take_succ_cons, List.cons.injEq]
    constructor
    · intro H
      refine ⟨(inner_same hb hn.1 hn.2 hO.1 hO.2 (out := out) (out' := out') (first := f) (ms := ms) (by omega) (by omega) fun q h1 h2 => ?_).symm, ih.1 fun q h1 h2 => H q (by omega) h2⟩
      have hq := H q h1 (by omega)
      rw [outerC_low b ms ls ps _ _ q h2, outerC_low b ms ls os _ _ q h2] at hq
      rcases hq with hq | hq
      · exact absurd hq (innerC_ne b ms f l.toNat _ _ q h1 h2 (by omega))
      · exact hq
    · rintro ⟨e, ht⟩ q h1 h2
      by_cases hq : q < f + l.toNat
      · rw [outerC_low b ms ls ps _ _ q hq, outerC_low b ms ls os _ _ q hq]
        subst e
        exact .inr (innerC_out _ _ _ _ (by omega) (by omega) q h1 hq)
      · exact ih.2 ht q (by omega) h2
def opensF (lock : List (List Int)) (cs : List Int) (n : Nat) : Bool := (List.range n).all fun i => hasI (lock.getD i []) (cs.getD i 0)
theorem opensF_succ (lock : List (List Int)) (cs : List Int) (n : Nat) : opensF lock cs (n + 1) = (opensF lock cs n && hasI (lock.getD n []) (cs.getD n 0)) := by
  unfold opensF; rw [List.range_succ, List.all_append]; simp
theorem path_in {m : Mk} {ms ls ps : List Int} (h : levelsCode m ms ls ps = 0) : ∀ i (hi : i < ps.length) (hl : i < ls.length), 0 ≤ ps[i] ∧ ps[i] < (m.d - 1) ^ ls[i].toNat := by
  obtain ⟨hm, hk, hl, hp⟩ := lc_0_iff.1 h
  have hb := mk_bounds hm
  intro i hi hil
  simp only [isPath, Bool.and_eq_true, decide_eq_true_eq, List.all_eq_true, List.mem_range] at hp
  have := hp.2 i hi
  rw [pathAt_in hi hil, inB_iff] at this
  have hll := (areLevels_get hl).2.2 i hil
  rw [powW_pow (by omega) (by omega) (by omega)] at this
  omega
/-- the law -/
theorem lock_law {m : Mk} {ms ls ps os : List Int} (h : levelsCode m ms ls ps = 0) (h2 : levelsCode m ms ls os = 0) (hl : os.length = ls.length) :
    opensF (hullF m.c.toNat m.d.toNat [ms, cutsAtF m ms ls os]) (cutsAtF m ms ls ps) (cutsAtF m ms ls ps).length = isBelowF os ps := by
  obtain ⟨hm, hk, hlv, hp⟩ := lc_0_iff.1 h
  have hb := mk_bounds hm
  have hpl := (path_at hm hlv hp).1
  have hr := levels_rest hm hlv
  have hml := (cutsOK_get hk).1
  have c1 := cutsAt_cuts h; have c2 := cutsAt_cuts h2
  have L := opens_outer (b := m.d - 1) (ms := ms) (by omega) ls ps os 0 ms ms hpl hl (by omega) rfl (fun _ _ _ => rfl) (path_in h) (path_in h2)
  rw [Bool.eq_iff_iff]
  unfold opensF isBelowF
  simp only [List.all_eq_true, List.mem_range, Bool.and_eq_true, decide_eq_true_eq, beq_iff_eq]
  have hP : ∀ q, q < ms.length → (hasI ((hullF m.c.toNat m.d.toNat [ms, cutsAtF m ms ls os]).getD q []) ((cutsAtF m ms ls ps).getD q 0) = true ↔ (cutsAtF m ms ls ps).getD q 0 = ms.getD q 0 ∨ (cutsAtF m ms ls ps).getD q 0 = (cutsAtF m ms ls os).getD q 0) := fun q hq => by
    have hqc : q < m.c.toNat := by omega
    have e : (hullF m.c.toNat m.d.toNat [ms, cutsAtF m ms ls os]).getD q [] = hullSet m.d.toNat [ms.getD q 0, (cutsAtF m ms ls os).getD q 0] := by
      have hlt : q < (hullF m.c.toNat m.d.toNat [ms, cutsAtF m ms ls os]).length := by rw [hullF_length]; exact hqc
      rw [List.getD, List.getElem?_eq_getElem hlt, Option.getD_some, hullF_at hqc]
      rfl
    rw [e, hasI_iff, mem_hullSet]
    simp only [List.mem_cons, List.mem_nil_iff, or_false]
    refine ⟨fun x => x.2, fun x => ⟨?_, x⟩⟩
    obtain ⟨hi, a⟩ := allCuts_at c1.1 (k := 1) (i := q) (by simp) (by omega)
    simp only [List.getElem_cons_succ, List.getElem_cons_zero] at hi a
    rw [List.getD, List.getElem?_eq_getElem hi, Option.getD_some]
    omega
  rw [c1.2]
  constructor
  · intro H
    exact ⟨by omega, L.1 fun q _ hq => (hP q hq).1 (H q hq)⟩
  · rintro ⟨_, ht⟩ q hq
    exact (hP q hq).2 (L.2 ht q (by omega) hq)
/-- a number that the other path may have on level i -/
def Oth (m : Mk) (ls ps os : List Int) : Prop := ∀ i (h : i < os.length), (∃ hp : i < ps.length, os[i] = ps[i]) ∨ (0 ≤ os[i] ∧ os[i] < (sizesF m ls).getD i 0)
theorem Oth.push {m : Mk} {ls ps os : List Int} {x : Int} (h : Oth m ls ps os) (hx : (∃ hp : os.length < ps.length, x = ps[os.length]) ∨ (0 ≤ x ∧ x < (sizesF m ls).getD os.length 0)) : Oth m ls ps (os ++ [x]) := by
  intro i hi
  by_cases hlt : i < os.length
  · rw [List.getElem_append_left hlt]; exact h i hlt
  · have e : i = os.length := by simp at hi; omega
    subst e
    rw [List.getElem_concat_length rfl]
    exact hx
theorem other_ok {m : Mk} {ms ls ps os : List Int} (h : levelsCode m ms ls ps = 0) (hl : os.length = ls.length) (ho : Oth m ls ps os) : levelsCode m ms ls os = 0 := by
  obtain ⟨hm, hk, hlv, hp⟩ := lc_0_iff.1 h
  refine lc_0 hm hk hlv ?_
  simp only [isPath, Bool.and_eq_true, decide_eq_true_eq, List.all_eq_true, List.mem_range] at hp ⊢
  refine ⟨by omega, fun i hi => ?_⟩
  have hil : i < ls.length := by omega
  rw [pathAt_in hi hil]
  rcases ho i hi with ⟨hip, e⟩ | e
  · have := hp.2 i hip
    rw [pathAt_in hip hil] at this
    rw [e]; exact this
  · have es : (sizesF m ls).getD i 0 = powW (m.d - 1) ls[i].toNat := by simp [sizesF, List.getElem?_eq_getElem hil]
    rw [es] at e
    exact inB_iff.2 ⟨e.1, by omega⟩
theorem size_pos {m : Mk} {ms ls ps : List Int} (h : levelsCode m ms ls ps = 0) {i : Nat} (hi : i < ls.length) : 1 ≤ (sizesF m ls).getD i 0 := by
  obtain ⟨hm, hk, hlv, hp⟩ := lc_0_iff.1 h
  have hb := mk_bounds hm
  have hll := (areLevels_get hlv).2.2 i hi
  have es : (sizesF m ls).getD i 0 = powW (m.d - 1) ls[i].toNat := by simp [sizesF, List.getElem?_eq_getElem hi]
  rw [es]
  exact (powW_in (by omega) (by omega) (by omega)).1
end Go.Proofs.Ytdkkkkfcpgkcnaa.Lk
