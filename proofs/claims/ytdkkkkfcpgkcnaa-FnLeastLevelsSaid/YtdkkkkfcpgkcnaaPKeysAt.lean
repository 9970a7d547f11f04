/- Plain laws: the keys below a path are those of its ways on, without doubles. No program. -/
import Derived.Test.YtdkkkkfcpgkcnaaPPathOf2
import Derived.Test.YtdkkkkfcpgkcnaaFKeysAt
import Derived.Test.YtdkkkkfcpgkcnaaPGhost
namespace Go.Proofs.Ytdkkkkfcpgkcnaa
set_option linter.unusedVariables false
open Go.RowKit
theorem dg_bump (g y : Int) : dg (bump g y) y = g := by unfold dg bump; split <;> split <;> omega
theorem innerC_back {b : Int} {ms : List Int} {first : Nat} (hb : 1 ≤ b) : ∀ (k : Nat) (n : Int) (cs : List Int), 0 ≤ n → n < b ^ k → first + k ≤ cs.length → numI b ms (innerC b ms first k n cs) first k = n
  | 0, n, cs, h0, h1, _ => by simp [numI] at h1 ⊢; omega
  | k + 1, n, cs, h0, h1, hl => by
    have he := emod_in (n := n) hb
    have hd0 : 0 ≤ n / b := Int.ediv_nonneg h0 (by omega)
    have hd1 : n / b < b ^ k := by
      rw [Int.pow_succ] at h1
      exact Int.ediv_lt_of_lt_mul (by omega) h1
    have ih := innerC_back (ms := ms) (first := first) hb k (n / b) (cs.set (first + k) (bump (n % b) (ms.getD (first + k) 0))) hd0 hd1 (by simp; omega)
    rw [innerC, numI, ih, innerC_at b ms first k _ _ _ (by omega)]
    have e : (cs.set (first + k) (bump (n % b) (ms.getD (first + k) 0))).getD (first + k) 0 = bump (n % b) (ms.getD (first + k) 0) := by
      simp only [List.getD, List.getElem?_set, if_true]
      rw [if_pos (by omega)]; rfl
    rw [e, dg_bump, Int.min_eq_left (by omega)]
    have := Int.emod_add_mul_ediv n b
    rw [Int.mul_comm] at this
    omega
theorem numI_congr {b : Int} {ms xs ys : List Int} {first : Nat} : ∀ (k : Nat), (∀ q, first ≤ q → q < first + k → xs.getD q 0 = ys.getD q 0) → numI b ms xs first k = numI b ms ys first k
  | 0, _ => rfl
  | k + 1, h => by rw [numI, numI, numI_congr k (fun q a c => h q a (by omega)), h (first + k) (by omega) (by omega)]
theorem outerC_snoc (b : Int) (ms : List Int) (k : Int) : ∀ (ls ps : List Int) (f : Nat) (cs : List Int) (h : ps.length < ls.length), outerC b ms f ls (ps ++ [k]) cs = innerC b ms (f + restSum (ls.take ps.length)) ls[ps.length].toNat k (outerC b ms f ls ps cs)
  | [], ps, _, _, h => by simp at h
  | l :: ls, [], f, cs, h => by simp [outerC, outerC_end, restSum]
  | l :: ls, n :: ps, f, cs, h => by
    rw [List.cons_append, outerC, outerC_snoc b ms k ls ps _ _ (by simpa using h), outerC]
    simp only [List.length_cons, List.take_succ_cons, restSum, List.getElem_cons_succ]
    rw [show f + l.toNat + restSum (List.take ps.length ls) = f + (l.toNat + restSum (List.take ps.length ls)) by omega]
/-- the keys below a path -/
def keysAt (m : Mk) (ms ls ps : List Int) : List (List Int) := keysG m (atAl (cutsAtF m ms ls ps) ms (restSum (ls.take ps.length) : Nat)) [] m.c.toNat [] false
/-- what holds of a maker, a master and levels -/
structure LvOK (m : Mk) (ms ls : List Int) : Prop where
  c0 : 0 ≤ m.c
  d2 : 2 ≤ m.d
  ml : (ms.length : Int) = m.c
  mi : ∀ q, q < ms.length → 0 ≤ ms.getD q 0 ∧ ms.getD q 0 ≤ m.d - 1
  sum : restSum ls = ms.length
theorem mem_keysAt {m : Mk} {ms ls ps : List Int} (h : LvOK m ms ls) {x : List Int} : x ∈ keysAt m ms ls ps ↔ isKey m x = true ∧ ∀ i, i < ms.length → (i < restSum (ls.take ps.length) → x.getD i 0 = (cutsAtF m ms ls ps).getD i 0) ∧ (restSum (ls.take ps.length) ≤ i → x.getD i 0 ≠ ms.getD i 0) := by
  unfold keysAt
  rw [mem_keys m _ h.c0 x]
  refine and_congr_right fun hk => ?_
  have hl : x.length = ms.length := by have := (begins_fault.1 hk).1; have := h.ml; omega
  rw [hl]
  refine forall_congr' fun i => forall_congr' fun hi => ?_
  unfold atAl
  by_cases hf : i < restSum (ls.take ps.length)
  · rw [if_pos (by omega), beq_iff_eq]
    exact ⟨fun e => ⟨fun _ => e, fun h => by omega⟩, fun e => e.1 hf⟩
  · rw [if_neg (by omega), bne_iff_ne]
    exact ⟨fun e => ⟨fun h => by omega, fun _ => e⟩, fun e => e.2 (by omega)⟩
theorem mem_keysAt_snoc {m : Mk} {ms ls ps : List Int} (h : LvOK m ms ls) (hp : ps.length < ls.length) {k : Int} (h0 : 0 ≤ k) (h1 : k < (m.d - 1) ^ ls[ps.length].toNat) {x : List Int} :
    x ∈ keysAt m ms ls (ps ++ [k]) ↔ x ∈ keysAt m ms ls ps ∧ numI (m.d - 1) ms x (restSum (ls.take ps.length)) ls[ps.length].toNat = k := by
  have hb : 1 ≤ m.d - 1 := by have := h.d2; omega
  have hcut : cutsAtF m ms ls (ps ++ [k]) = innerC (m.d - 1) ms (restSum (ls.take ps.length)) ls[ps.length].toNat k (cutsAtF m ms ls ps) := by
    unfold cutsAtF; rw [outerC_snoc _ _ _ _ _ _ _ hp, Nat.zero_add]
  have hsum := restSum_take_add ls ps.length hp
  have hle := restSum_le ls (ps.length + 1)
  rw [h.sum, hsum] at hle
  have hcl : (cutsAtF m ms ls ps).length = ms.length := outerC_len _ _ _ _ _ _
  rw [mem_keysAt h, mem_keysAt h]
  rw [List.length_append, List.length_singleton, hsum, hcut]
  generalize restSum (ls.take ps.length) = f at *
  generalize ls[ps.length].toNat = L at *
  generalize cutsAtF m ms ls ps = cs at *
  constructor
  · rintro ⟨hk, hx⟩
    have hin : ∀ q, f ≤ q → q < f + L → x.getD q 0 = (innerC (m.d - 1) ms f L k cs).getD q 0 := fun q a c => (hx q (by omega)).1 (by omega)
    refine ⟨⟨hk, fun i hi => ⟨fun hf => ?_, fun hf => ?_⟩⟩, ?_⟩
    · rw [(hx i hi).1 (by omega), innerC_at _ _ _ _ _ _ _ (by omega)]
    · by_cases hfl : i < f + L
      · rw [hin i hf hfl]; exact innerC_ne _ _ _ _ _ _ _ hf hfl (by omega)
      · exact (hx i hi).2 (by omega)
    · rw [numI_congr L hin]; exact innerC_back hb L k cs h0 h1 (by omega)
  · rintro ⟨⟨hk, hx⟩, rfl⟩
    have hkx := begins_fault.1 hk
    have hxi := allW_iff.1 hkx.2.1
    have hxl : x.length = ms.length := by have := hkx.1; have := h.ml; omega
    refine ⟨hk, fun i hi => ⟨fun hf => ?_, fun hf => (hx i hi).2 (by omega)⟩⟩
    by_cases hif : i < f
    · rw [(hx i hi).1 hif, innerC_at _ _ _ _ _ _ _ (by omega)]
    · rw [innerC_num hb L cs (by omega) (fun q a c => ?_) i (by omega) hf]
      have hq := (hx q (by omega)).2 a
      have hd := dg_in (b := m.d - 1) (hxi q (by omega)) (h.mi q (by omega)) hq
      exact ⟨hq, hd⟩
theorem filter_lt_succ {α : Type} (κ : α → Int) (n : Nat) : ∀ l : List α, (l.filter fun x => decide (κ x < ((n + 1 : Nat) : Int))).length = (l.filter fun x => decide (κ x < (n : Int))).length + (l.filter fun x => κ x == (n : Int)).length
  | [] => rfl
  | x :: r => by
    have ih := filter_lt_succ κ n r
    rw [List.filter_cons, List.filter_cons, List.filter_cons]
    by_cases h1 : κ x < (n : Int)
    · rw [if_pos (decide_eq_true (show κ x < ((n + 1 : Nat) : Int) by omega)), if_pos (decide_eq_true h1), if_neg (by rw [beq_iff_eq]; omega), List.length_cons, List.length_cons]; omega
    · by_cases h3 : κ x = (n : Int)
      · rw [if_pos (decide_eq_true (show κ x < ((n + 1 : Nat) : Int) by omega)), if_neg (by rw [decide_eq_true_eq]; exact h1), if_pos (by rw [beq_iff_eq]; exact h3), List.length_cons, List.length_cons]; omega
      · rw [if_neg (by rw [decide_eq_true_eq]; omega), if_neg (by rw [decide_eq_true_eq]; exact h1), if_neg (by rw [beq_iff_eq]; exact h3)]; exact ih
/-- the number of keys below the first n ways on -/
def sumAt (m : Mk) (ms ls ps : List Int) : Nat → Nat
  | 0 => 0
  | n + 1 => sumAt m ms ls ps n + (keysAt m ms ls (ps ++ [(n : Int)])).length
theorem sumAt_eq {m : Mk} {ms ls ps : List Int} (h : LvOK m ms ls) (hp : ps.length < ls.length) : ∀ n : Nat, (n : Int) ≤ (m.d - 1) ^ ls[ps.length].toNat →
    sumAt m ms ls ps n = ((keysAt m ms ls ps).filter fun x => decide (numI (m.d - 1) ms x (restSum (ls.take ps.length)) ls[ps.length].toNat < (n : Int))).length
  | 0, _ => by
    have hneg : ∀ x ∈ keysAt m ms ls ps, ¬ numI (m.d - 1) ms x (restSum (ls.take ps.length)) ls[ps.length].toNat < 0 := by
      intro x hx
      have hk := begins_fault.1 ((mem_keysAt h).1 hx).1
      have hxi := allW_iff.1 hk.2.1
      have hxl : x.length = ms.length := by have := hk.1; have := h.ml; omega
      have hsum := restSum_take_add ls ps.length hp
      have hle := restSum_le ls (ps.length + 1)
      rw [h.sum, hsum] at hle
      have := (numI_in (b := m.d - 1) (ms := ms) (cs := x) (first := restSum (ls.take ps.length)) (by have := h.d2; omega) ls[ps.length].toNat (fun q a c => ⟨(hxi q (by omega)).1, (h.mi q (by omega)).1⟩)).1
      omega
    have : ((keysAt m ms ls ps).filter fun x => decide (numI (m.d - 1) ms x (restSum (ls.take ps.length)) ls[ps.length].toNat < ((0 : Nat) : Int))) = [] := by
      rw [List.filter_eq_nil_iff]
      intro x hx
      have := hneg x hx
      simpa using this
    rw [this]; rfl
  | n + 1, hn => by
    rw [sumAt, sumAt_eq h hp n (by omega), filter_lt_succ]
    congr 1
    have hperm : (keysAt m ms ls (ps ++ [(n : Int)])).Perm ((keysAt m ms ls ps).filter fun x => numI (m.d - 1) ms x (restSum (ls.take ps.length)) ls[ps.length].toNat == (n : Int)) := by
      refine (List.perm_ext_iff_of_nodup (nodup_keysG _ _ _ _ _ _) ((nodup_keysG _ _ _ _ _ _).filter _)).2 fun x => ?_
      rw [List.mem_filter, beq_iff_eq]
      exact mem_keysAt_snoc h hp (by omega) (by omega)
    exact hperm.length_eq
theorem sumAt_all {m : Mk} {ms ls ps : List Int} (h : LvOK m ms ls) (hp : ps.length < ls.length) {n : Nat} (hn : (n : Int) = (m.d - 1) ^ ls[ps.length].toNat) : sumAt m ms ls ps n = (keysAt m ms ls ps).length := by
  rw [sumAt_eq h hp n (by omega)]
  congr 1
  rw [List.filter_eq_self]
  intro x hx
  have hk := begins_fault.1 ((mem_keysAt h).1 hx).1
  have hxi := allW_iff.1 hk.2.1
  have hxl : x.length = ms.length := by have := hk.1; have := h.ml; omega
  have hsum := restSum_take_add ls ps.length hp
  have hle := restSum_le ls (ps.length + 1)
  rw [h.sum, hsum] at hle
  have := (numI_in (b := m.d - 1) (ms := ms) (cs := x) (first := restSum (ls.take ps.length)) (by have := h.d2; omega) ls[ps.length].toNat (fun q a c => ⟨(hxi q (by omega)).1, (h.mi q (by omega)).1⟩)).2
  simp only [decide_eq_true_eq]; omega
theorem sumAt_mono {m : Mk} {ms ls ps : List Int} {n k : Nat} (h : n ≤ k) : sumAt m ms ls ps n ≤ sumAt m ms ls ps k := by
  induction k with
  | zero => have : n = 0 := by omega
            subst this; exact Nat.le_refl _
  | succ k ih =>
    by_cases e : n = k + 1
    · subst e; exact Nat.le_refl _
    · rw [sumAt]; have := ih (by omega); omega
/-- at the end of all levels -/
theorem keysAt_end {m : Mk} {ms ls ps : List Int} (h : LvOK m ms ls) (hp : ps.length = ls.length) : (keysAt m ms ls ps).length = if isKey m (cutsAtF m ms ls ps) = true then 1 else 0 := by
  have hcl : (cutsAtF m ms ls ps).length = ms.length := outerC_len _ _ _ _ _ _
  have hall : restSum (ls.take ps.length) = ms.length := by rw [hp, List.take_length, h.sum]
  have hmem : ∀ x, x ∈ keysAt m ms ls ps ↔ isKey m x = true ∧ x = cutsAtF m ms ls ps := by
    intro x
    rw [mem_keysAt h]
    refine and_congr_right fun hk => ?_
    have hxl : x.length = ms.length := by have := (begins_fault.1 hk).1; have := h.ml; omega
    constructor
    · intro hx
      exact getD_ext (by omega) fun q hq => (hx q (by omega)).1 (by omega)
    · rintro rfl i hi
      exact ⟨fun _ => rfl, fun hf => by omega⟩
  by_cases hk : isKey m (cutsAtF m ms ls ps) = true
  · rw [if_pos hk]
    have : (keysAt m ms ls ps).Perm [cutsAtF m ms ls ps] := (List.perm_ext_iff_of_nodup (nodup_keysG _ _ _ _ _ _) (by simp)).2 fun x => by
      show x ∈ keysAt m ms ls ps ↔ _
      rw [hmem, List.mem_singleton]
      exact ⟨fun a => a.2, fun a => ⟨by rw [a]; exact hk, a⟩⟩
    exact this.length_eq
  · rw [if_neg hk]
    have : keysAt m ms ls ps = [] := List.eq_nil_iff_forall_not_mem.2 fun x hx => by
      have := (hmem x).1 hx
      rw [this.2] at this
      exact hk this.1
    rw [this]; rfl
theorem lvOK_of {m : Mk} {ms ls : List Int} (hm : isMaker m = true) (hc : cutsOK m ms = true) (hl : areLevels m ls = true) : LvOK m ms ls := by
  have hb := mk_bounds hm
  have h2 := cutsOK_get hc
  have h3 := levels_rest hm hl
  exact ⟨by omega, by omega, h2.1, fun q hq => by rw [getD_mem hq]; exact h2.2 q hq, by omega⟩
end Go.Proofs.Ytdkkkkfcpgkcnaa
