/- Plain laws: change keys and their locks. No program. -/
import Derived.Test.YthjfilhcfjpinaaFChLock
import Derived.Test.YthjfilhcfjpinaaFChKeys
import Derived.Test.YthjfilhcfjpinaaFHull
import Derived.Test.YthjfilhcfjpinaaPGhost
namespace Go.Proofs.Ythjfilhcfjpinaa
set_option linter.unusedVariables false
theorem key_at' {m : Mk} {x : List Int} (h : isKey m x = true) {i : Nat} (hi : i < x.length) : 0 ≤ x.getD i 0 ∧ x.getD i 0 < m.d := by
  have := allW_iff.1 (begins_fault.1 h).2.1 i hi
  omega
theorem mem_change {m : Mk} {xs ys : List Int} {s : Int} (hc : 0 ≤ m.c) {x : List Int} : x ∈ changeKeys m xs ys s ↔ isKey m x = true ∧ isChange xs ys s x = true := by
  unfold changeKeys
  rw [mem_keys m _ hc]
  unfold isChange changeAt
  rw [List.all_eq_true]; simp only [List.mem_range]
theorem nodup_change (m : Mk) (xs ys : List Int) (s : Int) : (changeKeys m xs ys s).Nodup := nodup_keysG _ _ _ _ _ _
theorem list_ext_getD {a b : List Int} (hl : a.length = b.length) (h : ∀ i, i < a.length → a.getD i 0 = b.getD i 0) : a = b := by
  apply List.ext_getElem hl
  intro i h1 h2
  have := h i h1
  rwa [getD_in' h1, getD_in' h2] at this
/-- a key opens the hull of two keys exactly if each cut is one of theirs -/
theorem hull_two {m : Mk} {a b x : List Int} (ha : isKey m a = true) (hb : isKey m b = true) (hx : isKey m x = true) :
    opensL (hullF m.c.toNat m.d.toNat [a, b]) x = true ↔ ∀ i, i < x.length → x.getD i 0 = a.getD i 0 ∨ x.getD i 0 = b.getD i 0 := by
  rw [opensL_iff]
  have hl := isKey_len hx
  constructor
  · intro h i hi
    have h1 := h i hi
    unfold frees at h1
    have hic : i < m.c.toNat := by omega
    rw [getD_row (by rw [hullF_length]; exact hic), hullF_at hic, hasI_iff, mem_hullSet] at h1
    have h2 := h1.2
    unfold colI at h2
    simpa using h2
  · intro h i hi
    have hic : i < m.c.toNat := by omega
    unfold frees
    rw [getD_row (by rw [hullF_length]; exact hic), hullF_at hic, hasI_iff, mem_hullSet]
    have := key_at' hx hi
    refine ⟨⟨this.1, by omega⟩, ?_⟩
    unfold colI
    simpa using h i hi
theorem hull_two_fst {m : Mk} {a b : List Int} (ha : isKey m a = true) (hb : isKey m b = true) : opensL (hullF m.c.toNat m.d.toNat [a, b]) a = true := (hull_two ha hb ha).2 fun _ _ => .inl rfl
theorem hull_two_snd {m : Mk} {a b : List Int} (ha : isKey m a = true) (hb : isKey m b = true) : opensL (hullF m.c.toNat m.d.toNat [a, b]) b = true := (hull_two ha hb hb).2 fun _ _ => .inr rfl
/-- a change key does not open the change lock of another one -/
theorem change_other {m : Mk} {xs ys a b : List Int} {s : Int} (hx : isKey m xs = true) (ha : isKey m a = true) (hb : isKey m b = true) (ca : isChange xs ys s a = true) (cb : isChange xs ys s b = true) (hne : a ≠ b) :
    opensL (hullF m.c.toNat m.d.toNat [xs, a]) b = false := by
  rw [Bool.eq_false_iff]
  intro h
  have h1 := (hull_two hx ha hb).1 h
  apply hne
  have la := isKey_len ha; have lb := isKey_len hb
  unfold isChange changeAt at ca cb
  rw [List.all_eq_true] at ca cb
  refine list_ext_getD (by omega) fun i hi => ?_
  have f1 := ca i (List.mem_range.2 hi)
  have f2 := cb i (List.mem_range.2 (by omega))
  unfold fits at f1 f2
  by_cases hy : hasI ys i = true
  · rw [if_pos hy, Bool.and_eq_true] at f2
    have f3 : b.getD i 0 - xs.getD i 0 ≠ 0 := by simpa using f2.1
    rcases h1 i (by omega) with e | e
    · omega
    · exact e.symm
  · rw [if_neg hy, beq_iff_eq] at f1 f2
    omega
theorem changeC_at {m : Mk} {xs ys : List Int} {s : Int} (h : isProgF m xs ys s = true) {x : List Int} (hx : x ∈ changeKeys m xs ys s) : isKey m x = true ∧ isChange xs ys s x = true ∧ changeC m xs ys s x = 0 := by
  have hm := (prog_key h).1
  have hb := mk_bounds hm
  obtain ⟨h1, h2⟩ := (mem_change (by omega)).1 hx
  refine ⟨h1, h2, ?_⟩
  unfold changeC
  rw [if_pos h, h1, h2]; rfl
theorem two_all {m : Mk} {a b : List Int} (ha : isKey m a = true) (hb : isKey m b = true) : allCuts m [a, b] := two_cuts ha hb
end Go.Proofs.Ythjfilhcfjpinaa
