/- Plain law: a depth more in a lock. No program. -/
import Derived.Test.YthjfilhcfjpinaaPGhost
import Derived.Test.YthjfilhcfjpinaaFHarm
namespace Go.Proofs.Ythjfilhcfjpinaa
set_option linter.unusedVariables false
/-- a set with one more depth -/
def addSet (m : Mk) (s : List Int) (d : Int) (n : Nat) : List Int := (depths 0 (n : Int)).filter fun k => k == d || hasI s k
theorem addSet_succ (m : Mk) (s : List Int) (d : Int) (n : Nat) : addSet m s d (n + 1) = addSet m s d n ++ (if ((n : Int) == d || hasI s n) = true then [(n : Int)] else []) := by
  unfold addSet
  have e : depths 0 (((n + 1 : Nat) : Int)) = depths 0 (n : Int) ++ [(n : Int)] := by
    unfold depths
    rw [show (((n + 1 : Nat) : Int) - 0).toNat = n + 1 by omega, show ((n : Int) - 0).toNat = n by omega, List.range_succ, List.map_append]
    simp
  rw [e, List.filter_append, List.filter_cons]; rfl
theorem addSet_len (m : Mk) (s : List Int) (d : Int) (n : Nat) : (addSet m s d n).length ≤ n := by
  unfold addSet; refine Nat.le_trans (List.length_filter_le _ _) ?_; simp [depths]
theorem mem_addSet {m : Mk} {s : List Int} {d : Int} {n : Nat} {x : Int} : x ∈ addSet m s d n ↔ (0 ≤ x ∧ x < n) ∧ (x = d ∨ hasI s x = true) := by
  unfold addSet; rw [List.mem_filter, mem_depths, Bool.or_eq_true, beq_iff_eq]
theorem depths_rising (n : Nat) : (depths 0 (n : Int)).Pairwise (· < ·) := by
  unfold depths
  refine List.pairwise_map.2 (List.pairwise_lt_range.imp fun {a b} h => ?_)
  omega
/-- a rising list of depths is a set -/
theorem setOK_of {m : Mk} {s : List Int} (hne : s ≠ []) (hr : s.Pairwise (· < ·)) (hin : ∀ x ∈ s, 0 ≤ x ∧ x < m.d) : setOK m s = true := by
  unfold setOK isRising
  rw [Bool.and_eq_true, decide_eq_true_eq, List.all_eq_true]
  refine ⟨by simpa using hne, fun j hj => ?_⟩
  have hj := List.mem_range.1 hj
  have h1 := hin _ (List.getElem_mem hj)
  match j, hj with
  | 0, hj => rw [risesAt_0 hj]; simp; omega
  | j + 1, hj =>
    rw [risesAt_s hj]
    have := List.pairwise_iff_getElem.1 hr j (j + 1) (by omega) hj (by omega)
    simp; omega
def addL (m : Mk) (l : List (List Int)) (c : Nat) (d : Int) : List (List Int) := l.set c (addSet m (l.getD c []) d m.d.toNat)
theorem addL_row {m : Mk} {l : List (List Int)} {c : Nat} {d : Int} (i : Nat) (hi : i < (addL m l c d).length) : (addL m l c d)[i] = if i = c then addSet m (l.getD c []) d m.d.toNat else l.getD i [] := by
  have hl : i < l.length := by simpa [addL] using hi
  have e : (addL m l c d)[i] = (l.set c (addSet m (l.getD c []) d m.d.toNat))[i]'(by rw [List.length_set]; exact hl) := rfl
  rw [e, List.getElem_set]
  by_cases h : c = i
  · rw [if_pos h, if_pos h.symm]
  · rw [if_neg h, if_neg (Ne.symm h), getD_row hl]
theorem addL_lock {m : Mk} {l : List (List Int)} {c : Nat} {d : Int} (h : isLockF m l = true) (hc : c < l.length) (d0 : 0 ≤ d) (d1 : d < m.d) : isLockF m (addL m l c d) = true := by
  unfold isLockF lockOK at h ⊢
  rw [Bool.and_eq_true, Bool.and_eq_true, List.all_eq_true] at h ⊢
  refine ⟨h.1, fun s hs => ?_, by unfold addL; rw [List.length_set]; exact h.2.2⟩
  unfold addL at hs
  rcases List.mem_or_eq_of_mem_set hs with hs | hs
  · exact h.2.1 s hs
  · subst hs
    refine setOK_of (List.ne_nil_of_mem (mem_addSet.2 ⟨⟨d0, by omega⟩, .inl rfl⟩)) (List.Pairwise.filter _ (depths_rising _)) fun x hx => ?_
    have := (mem_addSet.1 hx).1; omega
theorem frees_add {m : Mk} {l : List (List Int)} {c i : Nat} {d x : Int} (hc : c < l.length) (x0 : 0 ≤ x) (x1 : x < m.d) : frees (addL m l c d) i x = (frees l i x || (i == c && x == d)) := by
  unfold frees addL
  by_cases hi : i = c
  · subst hi
    rw [show (l.set i (addSet m (l.getD i []) d m.d.toNat)).getD i [] = addSet m (l.getD i []) d m.d.toNat by simp [List.getD, hc]]
    rw [Bool.eq_iff_iff, hasI_iff, mem_addSet, Bool.or_eq_true]
    simp
    constructor
    · rintro ⟨_, h | h⟩
      · exact .inr h
      · exact .inl h
    · rintro (h | h)
      · exact ⟨⟨x0, by omega⟩, .inr h⟩
      · exact ⟨⟨x0, by omega⟩, .inl h⟩
  · rw [show (l.set c (addSet m (l.getD c []) d m.d.toNat)).getD i [] = l.getD i [] by simp [List.getD, List.getElem?_set_ne (Ne.symm hi)]]
    simp [hi]
theorem key_at {m : Mk} {x : List Int} (h : isKey m x = true) {i : Nat} (hi : i < x.length) : 0 ≤ x.getD i 0 ∧ x.getD i 0 < m.d := by
  have := allW_iff.1 (begins_fault.1 h).2.1 i hi
  omega
theorem hasI_harm {m : Mk} {l : List (List Int)} {c : Nat} {d : Int} (hc : c < l.length) (d0 : 0 ≤ d) (d1 : d < m.d) : hasI ((harmL m l l.length).getD c []) d = harmAt m l c d := by
  rw [show (harmL m l l.length).getD c [] = harmSet m l c m.d.toNat by simp [harmL, List.getD, hc]]
  rw [Bool.eq_iff_iff, hasI_iff]
  unfold harmSet
  rw [List.mem_filter, mem_depths]
  exact ⟨fun h => h.2, fun h => ⟨⟨d0, by omega⟩, h⟩⟩
/-- as many keys open as before exactly if the depth was there or is harmless -/
theorem harm_law {m : Mk} {l : List (List Int)} {c : Nat} {d : Int} (h : isLockF m l = true) (hc : c < l.length) (d0 : 0 ≤ d) (d1 : d < m.d) :
    (((openers m l).length : Int) == ((openers m (addL m l c d)).length : Int)) = (hasI (l.getD c []) d || hasI ((harmL m l l.length).getD c []) d) := by
  rw [hasI_harm hc d0 d1]
  have hm := mk_bounds (isLock_mk h)
  have hc0 : 0 ≤ m.c := by omega
  have hlen := isLock_len h
  have hsub : ∀ x, x ∈ openers m (addL m l c d) ∧ opensL l x = true ↔ x ∈ openers m l := by
    intro x
    rw [mem_openers hc0, mem_openers hc0]
    constructor
    · rintro ⟨⟨a, _⟩, b⟩; exact ⟨a, b⟩
    · rintro ⟨a, b⟩
      refine ⟨⟨a, ?_⟩, b⟩
      rw [opensL_iff] at b ⊢
      intro i hi
      have := key_at a hi
      rw [frees_add hc this.1 this.2, b i hi]; rfl
  have hp : ((openers m (addL m l c d)).filter (opensL l)).length = (openers m l).length := by
    apply List.Perm.length_eq
    refine (List.perm_ext_iff_of_nodup ((nodup_keysG _ _ _ _ _ _).filter _) (nodup_keysG _ _ _ _ _ _)).2 fun x => ?_
    rw [List.mem_filter]; exact hsub x
  have h2 := filter_two (opensL l) (openers m (addL m l c d))
  rw [Bool.eq_iff_iff, beq_iff_eq]
  have h3 : ((openers m l).length : Int) = ((openers m (addL m l c d)).length : Int) ↔ ∀ x, x ∈ openers m (addL m l c d) → opensL l x = true := by
    constructor
    · intro e x hx
      have e0 : ((openers m (addL m l c d)).filter fun x => !opensL l x).length = 0 := by omega
      by_cases ho : opensL l x = true
      · exact ho
      · have : x ∈ (openers m (addL m l c d)).filter fun x => !opensL l x := List.mem_filter.2 ⟨hx, by simpa using ho⟩
        rw [List.length_eq_zero_iff.1 e0] at this; cases this
    · intro e
      have e0 : ((openers m (addL m l c d)).filter fun x => !opensL l x) = [] := by
        rw [List.filter_eq_nil_iff]; intro x hx; rw [e x hx]; simp
      rw [e0] at h2; simp at h2; omega
  rw [h3, Bool.or_eq_true]
  unfold harmAt noneWith
  by_cases hf : hasI (l.getD c []) d = true
  · constructor
    · intro _; exact .inl hf
    · intro _ x hx
      rw [mem_openers hc0] at hx
      rw [opensL_iff] at hx ⊢
      intro i hi
      have h4 := hx.2 i hi
      have h5 := key_at hx.1 hi
      rw [frees_add hc h5.1 h5.2, Bool.or_eq_true] at h4
      rcases h4 with h4 | h4
      · exact h4
      · rw [Bool.and_eq_true, beq_iff_eq, beq_iff_eq] at h4
        rw [h4.2, h4.1]; exact hf
  · have hf' : frees l c d = false := by unfold frees; simpa using hf
    rw [hf']
    have e1 : (((((keysG m (withAl l c d) [] m.c.toNat [] false).take 1).length : Nat) : Int) == 0) = true ↔ ∀ x, x ∉ keysG m (withAl l c d) [] m.c.toNat [] false := by
      rw [beq_iff_eq]
      constructor
      · intro e x hx
        have : (keysG m (withAl l c d) [] m.c.toNat [] false).length ≠ 0 := fun e => by rw [List.length_eq_zero_iff] at e; rw [e] at hx; cases hx
        rw [List.length_take] at e; omega
      · intro e
        have : keysG m (withAl l c d) [] m.c.toNat [] false = [] := List.eq_nil_iff_forall_not_mem.2 e
        rw [this]; rfl
    constructor
    · intro e
      refine .inr ?_
      rw [Bool.and_eq_true]
      refine ⟨rfl, e1.2 fun x hx => ?_⟩
      rw [mem_keys m _ hc0] at hx
      have hcx : c < x.length := by have := isKey_len hx.1; omega
      have hw := hx.2 c hcx
      unfold withAl at hw
      rw [if_pos rfl, beq_iff_eq] at hw
      have hx2 : x ∈ openers m (addL m l c d) := by
        rw [mem_openers hc0, opensL_iff]
        refine ⟨hx.1, fun i hi => ?_⟩
        have h5 := key_at hx.1 hi
        rw [frees_add hc h5.1 h5.2, Bool.or_eq_true]
        by_cases hic : i = c
        · right; rw [Bool.and_eq_true, beq_iff_eq, beq_iff_eq]; exact ⟨hic, by rw [hic]; exact hw⟩
        · left
          have := hx.2 i hi
          unfold withAl at this
          rwa [if_neg hic] at this
      have h6 := opensL_iff.1 (e x hx2) c hcx
      rw [hw, hf'] at h6; cases h6
    · rintro (e | e)
      · exact absurd e hf
      · rw [Bool.and_eq_true] at e
        intro x hx
        rw [mem_openers hc0] at hx
        have hcx : c < x.length := by have := isKey_len hx.1; omega
        rw [opensL_iff]
        have hxc : x.getD c 0 ≠ d := fun hxd => by
          refine e1.1 e.2 x ((mem_keys m _ hc0 x).2 ⟨hx.1, fun i hi => ?_⟩)
          have h5 := key_at hx.1 hi
          have h4 := opensL_iff.1 hx.2 i hi
          rw [frees_add hc h5.1 h5.2, Bool.or_eq_true] at h4
          unfold withAl
          by_cases hic : i = c
          · subst hic; rw [if_pos rfl, beq_iff_eq]; exact hxd
          · rw [if_neg hic]
            rcases h4 with h4 | h4
            · exact h4
            · rw [Bool.and_eq_true, beq_iff_eq] at h4; exact absurd h4.1 hic
        intro i hi
        have h5 := key_at hx.1 hi
        have h4 := opensL_iff.1 hx.2 i hi
        rw [frees_add hc h5.1 h5.2, Bool.or_eq_true] at h4
        rcases h4 with h4 | h4
        · exact h4
        · rw [Bool.and_eq_true, beq_iff_eq, beq_iff_eq] at h4
          rw [h4.1] at h4
          exact absurd h4.2 hxc
end Go.Proofs.Ythjfilhcfjpinaa
