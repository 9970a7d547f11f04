/- Plain laws: the allowed keys that open, and the ghosts. No program. -/
import Derived.Test.YtdedajohkdbdkaaGreatDoorEach
import Derived.Test.YtdedajohkdbdkaaGreatDoorFGhost
namespace Go.Proofs.YtdedajohkdbdkaaGreatDoor
set_option linter.unusedVariables false
/-- the different keys that open -/
def fitF (l al : List (List Int)) : List (List Int) := al.foldl (fun out key => if (opensL l key && !hasL out key) = true then out ++ [key] else out) []
theorem fitF_succ (l al : List (List Int)) (k : Nat) (h : k < al.length) : fitF l (al.take (k + 1)) = if (opensL l al[k] && !hasL (fitF l (al.take k)) al[k]) = true then fitF l (al.take k) ++ [al[k]] else fitF l (al.take k) := by
  unfold fitF; rw [List.take_succ_eq_append_getElem h, List.foldl_append]; rfl
theorem fitF_le (l al : List (List Int)) : ∀ k, k ≤ al.length → (fitF l (al.take k)).length ≤ k
  | 0, _ => by simp [fitF]
  | k + 1, h => by
    have := fitF_le l al k (by omega)
    rw [fitF_succ l al k (by omega)]
    split
    · simp; omega
    · omega
theorem hasL_iff {ls : List (List Int)} {x : List Int} : hasL ls x = true ↔ x ∈ ls := by
  unfold hasL; rw [List.any_eq_true]
  constructor
  · rintro ⟨y, hy, h⟩; rw [beq_iff_eq] at h; subst h; exact hy
  · intro h; exact ⟨x, h, by simp⟩
theorem fitF_prop (l al : List (List Int)) : ∀ k, k ≤ al.length → (fitF l (al.take k)).Nodup ∧ ∀ x, x ∈ fitF l (al.take k) ↔ x ∈ al.take k ∧ opensL l x = true
  | 0, _ => by simp [fitF]
  | k + 1, h => by
    obtain ⟨h1, h2⟩ := fitF_prop l al k (by omega)
    have ht : al.take (k + 1) = al.take k ++ [al[k]] := List.take_succ_eq_append_getElem (by omega)
    rw [fitF_succ l al k (by omega)]
    by_cases hc : (opensL l al[k] && !hasL (fitF l (al.take k)) al[k]) = true
    · rw [if_pos hc]
      rw [Bool.and_eq_true, Bool.not_eq_true'] at hc
      have hn : al[k] ∉ fitF l (al.take k) := fun hm => by rw [hasL_iff.2 hm] at hc; cases hc.2
      constructor
      · rw [List.nodup_append]
        refine ⟨h1, by simp, fun a ha b hb e => ?_⟩
        rw [List.mem_singleton] at hb
        subst e hb
        exact hn ha
      · intro x
        rw [List.mem_append, h2, ht, List.mem_append, List.mem_singleton]
        constructor
        · rintro (⟨a, b⟩ | rfl)
          · exact ⟨.inl a, b⟩
          · exact ⟨.inr rfl, hc.1⟩
        · rintro ⟨a | rfl, b⟩
          · exact .inl ⟨a, b⟩
          · exact .inr rfl
    · rw [if_neg hc]
      refine ⟨h1, fun x => ?_⟩
      rw [h2, ht, List.mem_append, List.mem_singleton]
      constructor
      · rintro ⟨a, b⟩; exact ⟨.inl a, b⟩
      · rintro ⟨a | rfl, b⟩
        · exact ⟨a, b⟩
        · rw [b, Bool.true_and, Bool.not_eq_true', Bool.not_eq_false] at hc
          exact (h2 _).1 (hasL_iff.1 hc)
theorem mem_fitF {l al : List (List Int)} {x : List Int} : x ∈ fitF l al ↔ x ∈ al ∧ opensL l x = true := by
  have := (fitF_prop l al al.length (Nat.le_refl _)).2 x
  rwa [List.take_length] at this
theorem nodup_fitF (l al : List (List Int)) : (fitF l al).Nodup := by
  have := (fitF_prop l al al.length (Nat.le_refl _)).1
  rwa [List.take_length] at this
/-- all openers of a lock -/
def openers (m : Mk) (l : List (List Int)) : List (List Int) := keysG m (frees l) [] m.c.toNat [] false
def ghosts (m : Mk) (l al : List (List Int)) : List (List Int) := (openers m l).filter fun k => !hasL al k
theorem begins_fault {m : Mk} {x : List Int} : isKey m x = true ↔ (x.length : Int) = m.c ∧ allW 0 (m.d - 1) x = true ∧ begins m x = true ∧ m.l ≤ kinds x := by
  unfold isKey begins
  rw [beq_iff_eq, fault_zero_iff, Bool.and_eq_true]
  constructor
  · rintro ⟨a, b, c, d, e⟩; exact ⟨a, b, ⟨c, d⟩, e⟩
  · rintro ⟨a, b, ⟨c, d⟩, e⟩; exact ⟨a, b, c, d, e⟩
theorem allW_iff {lo hi : Int} {xs : List Int} : allW lo hi xs = true ↔ ∀ i, i < xs.length → lo ≤ xs.getD i 0 ∧ xs.getD i 0 ≤ hi := by
  unfold allW; rw [List.all_eq_true]
  constructor
  · intro h i hi
    have := h _ (List.getElem_mem hi)
    rw [getD_in' hi]; simpa [inB] using this
  · intro h x hx
    obtain ⟨i, hi, rfl⟩ := List.getElem_of_mem hx
    have := h i hi
    rw [getD_in' hi] at this; simpa [inB] using this
theorem mem_keys (m : Mk) (al : Nat → Int → Bool) (hc : 0 ≤ m.c) (x : List Int) : x ∈ keysG m al [] m.c.toNat [] false ↔ isKey m x = true ∧ ∀ i, i < x.length → al i (x.getD i 0) = true := by
  rw [mem_keysG m al _ [] x (begins_nil m), begins_fault, allW_iff]
  simp only [List.length_nil, Nat.zero_add, List.take_zero, Nat.zero_le, true_and, forall_const]
  constructor
  · rintro ⟨h1, h2, h3, h4⟩
    exact ⟨⟨by omega, fun i hi => ⟨(h4 i hi).1, by have := (h4 i hi).2.1; omega⟩, h2, h3⟩, fun i hi => (h4 i hi).2.2⟩
  · rintro ⟨⟨h1, h2, h3, h4⟩, h5⟩
    exact ⟨by omega, h3, h4, fun i hi => ⟨(h2 i hi).1, by have := (h2 i hi).2; omega, h5 i hi⟩⟩
theorem opensL_iff {l : List (List Int)} {x : List Int} : opensL l x = true ↔ ∀ i, i < x.length → frees l i (x.getD i 0) = true := by
  unfold opensL opensAt; rw [List.all_eq_true]; simp only [List.mem_range]
theorem mem_openers {m : Mk} {l : List (List Int)} (hc : 0 ≤ m.c) {x : List Int} : x ∈ openers m l ↔ isKey m x = true ∧ opensL l x = true := by
  unfold openers; rw [mem_keys m _ hc, opensL_iff]
theorem filter_two {α : Type} (p : α → Bool) : ∀ l : List α, l.length = (l.filter p).length + (l.filter fun x => !p x).length
  | [] => rfl
  | x :: r => by
    rw [List.filter_cons, List.filter_cons, List.length_cons, filter_two p r]
    cases p x <;> simp <;> omega
theorem ghosts_len {m : Mk} {l al : List (List Int)} (hc : 0 ≤ m.c) (h : areKeysF m al = true) : ((openers m l).length : Int) - ((fitF l al).length : Int) = ((ghosts m l al).length : Int) := by
  have h1 : (fitF l al).length = ((openers m l).filter (hasL al)).length := by
    apply List.Perm.length_eq
    apply (List.perm_ext_iff_of_nodup (nodup_fitF l al) ((nodup_keysG m (frees l) [] _ _ _).filter _)).2
    intro x
    rw [mem_fitF, List.mem_filter, show keysG m (frees l) [] m.c.toNat [] false = openers m l from rfl, mem_openers hc, hasL_iff]
    constructor
    · rintro ⟨a, b⟩
      unfold areKeysF at h; rw [List.all_eq_true] at h
      exact ⟨⟨h x a, b⟩, a⟩
    · rintro ⟨⟨a, b⟩, c⟩; exact ⟨c, b⟩
  have h2 := filter_two (hasL al) (openers m l)
  unfold ghosts
  omega
/-- the sets of a lock rise -/
theorem rising_inc (n : Int) : ∀ (xs : List Int) (lo : Int), (∀ i, i < xs.length → 0 ≤ xs.getD i 0 ∧ xs.getD i 0 < n ∧ (i = 0 ∨ xs.getD (i - 1) 0 < xs.getD i 0)) → (∀ x, x ∈ xs.head? → lo ≤ x) → Inc lo n xs
  | [], lo, h, h0 => trivial
  | x :: r, lo, h, h0 => by
    have hx := h 0 (by simp)
    simp at hx
    refine ⟨h0 x (by simp), hx.2, rising_inc n r (x + 1) (fun i hi => ?_) (fun y hy => ?_)⟩
    · have := h (i + 1) (by simpa using hi)
      simp only [List.getD_cons_succ, Nat.add_sub_cancel] at this
      refine ⟨this.1, this.2.1, ?_⟩
      cases i with
      | zero => exact .inl rfl
      | succ i => right; have := this.2.2; simp at this; simpa using this
    · cases r with
      | nil => simp at hy
      | cons z s =>
        simp at hy; subst hy
        have := h 1 (by simp)
        simp at this; omega
theorem isRising_inc {n : Int} {xs : List Int} (h : isRising n xs = true) : Inc 0 n xs := by
  unfold isRising at h; rw [List.all_eq_true] at h
  have h' : ∀ i, i < xs.length → 0 ≤ xs.getD i 0 ∧ xs.getD i 0 < n ∧ (i = 0 ∨ xs.getD (i - 1) 0 < xs.getD i 0) := by
    intro i hi
    have := h i (List.mem_range.2 hi)
    unfold risesAt at this
    simpa [Bool.and_eq_true] using this
  refine rising_inc n xs 0 h' (fun x hx => ?_)
  cases xs with
  | nil => simp at hx
  | cons y r => simp at hx; subst hx; have := h' 0 (by simp); simp at this; exact this.1
theorem lock_inc {m : Mk} {l : List (List Int)} (h : isLockF m l = true) (i : Nat) : Inc 0 m.d (l.getD i []) := by
  by_cases hi : i < l.length
  · rw [getD_row hi]
    unfold isLockF lockOK at h
    rw [Bool.and_eq_true, Bool.and_eq_true, List.all_eq_true] at h
    have := h.2.1 _ (List.getElem_mem hi)
    unfold setOK at this; rw [Bool.and_eq_true] at this
    exact isRising_inc this.2
  · rw [show l.getD i [] = [] by simp [List.getD, List.getElem?_eq_none (show l.length ≤ i by omega)]]; trivial
end Go.Proofs.YtdedajohkdbdkaaGreatDoor
