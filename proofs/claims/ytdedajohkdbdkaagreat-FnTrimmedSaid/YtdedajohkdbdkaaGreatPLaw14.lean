/- Plain laws: the ghosts and their bound, lists without repetition. No program. -/
import Derived.Test.YtdedajohkdbdkaaGreatFGBound
import Derived.Test.YtdedajohkdbdkaaGreatFGhostsOf
namespace Go.Proofs.YtdedajohkdbdkaaGreat
set_option linter.unusedVariables false
open Go.RowKit
/-- the product of the sizes of r sets, from set i on -/
def prodL (l : List (List Int)) (i : Nat) : Nat → Nat
  | 0 => 1
  | r + 1 => (l.getD i []).length * prodL l (i + 1) r
theorem prodL_snoc (l : List (List Int)) : ∀ (r i : Nat), prodL l i (r + 1) = prodL l i r * (l.getD (i + r) []).length
  | 0, i => by simp [prodL]
  | r + 1, i => by
    rw [prodL, prodL_snoc l r (i + 1), prodL, Nat.mul_assoc, show i + 1 + r = i + (r + 1) by omega]
theorem keysG_prod (m : Mk) (l : List (List Int)) (hl : ∀ i, Inc 0 m.d (l.getD i [])) : ∀ (r : Nat) (key : List Int), (keysG m (frees l) [] r key false).length ≤ prodL l key.length r
  | 0, key => by rw [keysG]; split <;> simp [prodL]
  | r + 1, key => by
    rw [keysG, least_f]
    have h1 : ∀ ds : List Int, (ds.flatMap fun d => if (mayAt m (frees l) key d && mayRun m key d) = true then keysG m (frees l) [] r (key ++ [d]) (false && d == 0) else []).length ≤ (ds.filter (frees l key.length)).length * prodL l (key.length + 1) r := by
      intro ds
      induction ds with
      | nil => simp
      | cons d ds ih =>
        rw [List.flatMap_cons, List.length_append, List.filter_cons]
        have h2 : (if (mayAt m (frees l) key d && mayRun m key d) = true then keysG m (frees l) [] r (key ++ [d]) (false && d == 0) else []).length ≤ if frees l key.length d = true then prodL l (key.length + 1) r else 0 := by
          by_cases hf : frees l key.length d = true
          · rw [if_pos hf]
            split
            · have := keysG_prod m l hl r (key ++ [d])
              simpa using this
            · simp
          · rw [if_neg hf, if_neg (by unfold mayAt; rw [Bool.not_eq_true] at hf; rw [hf]; simp)]; simp
        by_cases hf : frees l key.length d = true
        · rw [if_pos hf] at h2 ⊢
          rw [List.length_cons, Nat.add_mul, Nat.one_mul]; omega
        · rw [if_neg hf] at h2 ⊢; omega
    refine Nat.le_trans (h1 _) ?_
    have e : (depths 0 m.d).filter (frees l key.length) = l.getD key.length [] := inc_filter m.d m.d.toNat 0 _ (by omega) (hl _)
    rw [e]; exact Nat.le_refl _
theorem inc_len {m : Mk} (hm : isMaker m = true) {s : List Int} (h : Inc 0 m.d s) : s.length ≤ 8 := by
  have := mk_bounds hm
  rcases inc_few h with h | h
  · omega
  · subst h; simp
theorem prodL_le {m : Mk} (hm : isMaker m = true) {l : List (List Int)} (hl : ∀ i, Inc 0 m.d (l.getD i [])) (i : Nat) : ∀ r, prodL l i r ≤ 8 ^ r
  | 0 => by simp [prodL]
  | r + 1 => by rw [prodL_snoc, Nat.pow_succ]; exact Nat.mul_le_mul (prodL_le hm hl i r) (inc_len hm (hl _))
theorem prodW_eq {m : Mk} {l : List (List Int)} (h : isLockF m l = true) : prodW l = (prodL l 0 l.length : Int) ∧ prodL l 0 l.length ≤ 262144 := by
  have hm := isLock_mk h
  have hlen := isLock_len h
  have hb := mk_bounds hm
  have h6 : l.length ≤ 6 := by omega
  have hp : ∀ k, k ≤ 6 → prodL l 0 k ≤ 262144 := fun k hk => Nat.le_trans (prodL_le hm (lock_inc h) 0 k) (by have : 8 ^ k ≤ 8 ^ 6 := Nat.pow_le_pow_right (by decide) hk; omega)
  have key : ∀ k, k ≤ l.length → prodW (l.take k) = (prodL l 0 k : Int) := by
    intro k
    induction k with
    | zero => intro _; simp [prodW, prodL]
    | succ k ih =>
      intro hk
      rw [prodW_succ l k (by omega), ih (by omega), prodL_snoc, Nat.zero_add, getD_row (show k < l.length by omega)]
      have h1 := hp (k + 1) (by omega)
      rw [prodL_snoc, Nat.zero_add, getD_row (show k < l.length by omega)] at h1
      rw [Int.natCast_mul] 
      generalize hx : ((prodL l 0 k : Nat) : Int) * ((l[k].length : Nat) : Int) = x
      have hx0 : 0 ≤ x := by rw [← hx]; exact Int.mul_nonneg (by omega) (by omega)
      have hx1 : x ≤ 262144 := by rw [← hx, ← Int.natCast_mul]; omega
      unfold wrap64; omega
  refine ⟨?_, hp _ h6⟩
  have := key l.length (Nat.le_refl _)
  rwa [List.take_length] at this
/-- there are never more ghosts than the bound -/
theorem ghosts_bound {m : Mk} {l al : List (List Int)} (h : allowedC m l al [] = 0) : (ghostBoundR m l al).2 = 0 ∧ ((ghosts m l al).length : Int) ≤ (ghostBoundR m l al).1 := by
  obtain ⟨h1, h2, h3⟩ := allowedC_0 h
  rw [List.append_nil] at h3
  have hm := isLock_mk h1
  have hb := mk_bounds hm
  have hg := ghosts_len (l := l) (show 0 ≤ m.c by omega) h3
  have hp := prodW_eq h1
  have ho : (openers m l).length ≤ prodL l 0 l.length := by
    have h := keysG_prod m l (lock_inc h1) m.c.toNat []
    have e : m.c.toNat = l.length := by have := isLock_len h1; omega
    have e2 : openers m l = keysG m (frees l) [] m.c.toNat [] false := rfl
    rw [e2]; rw [e] at h ⊢; exact h
  unfold ghostBoundR
  rw [if_pos h]
  refine ⟨rfl, ?_⟩
  show _ ≤ wrap64 _
  rw [hp.1]
  have := hp.2
  unfold wrap64; omega
theorem ghosts_each {m : Mk} {l al : List (List Int)} (h : allowedC m l al [] = 0) {g : List Int} (hg : g ∈ ghosts m l al) : isGhostR m l al g = (true, 0) ∧ hasL al g = false := by
  obtain ⟨h1, h2, h3⟩ := allowedC_0 h
  have hb := mk_bounds (isLock_mk h1)
  unfold ghosts at hg
  rw [List.mem_filter, mem_openers (by omega)] at hg
  obtain ⟨⟨k1, k2⟩, k3⟩ := hg
  rw [Bool.not_eq_true'] at k3
  refine ⟨?_, k3⟩
  have : allowedC m l al [g] = 0 := by rw [allowedC_key h, if_pos k1]
  unfold isGhostR
  rw [if_pos this, k2, k3]; rfl
theorem ghostsOf_0 {m : Mk} {l al : List (List Int)} {most : Int} (h : (ghostsOfR m l al most).2 = 0) : allowedC m l al [] = 0 ∧ (0 ≤ most ∧ most ≤ 300) ∧ ghostsOfR m l al most = ((ghosts m l al).take most.toNat, 0) := by
  unfold ghostsOfR at h ⊢
  by_cases h1 : allowedC m l al [] = 0
  · rw [if_pos h1] at h ⊢
    by_cases h2 : inB most 0 300 = true
    · rw [if_pos h2] at h ⊢
      exact ⟨h1, by simpa [inB] using h2, rfl⟩
    · rw [if_neg h2] at h; cases h
  · rw [if_neg h1] at h; exact absurd h h1
/-- lists without repetition -/
theorem nodup_sub_len {xs ys : List (List Int)} (hx : xs.Nodup) (hy : ys.Nodup) (h : ∀ z ∈ xs, z ∈ ys) : xs.length ≤ ys.length := by
  have : xs.Perm (ys.filter (hasL xs)) := (List.perm_ext_iff_of_nodup hx (hy.filter _)).2 fun z => by
    rw [List.mem_filter, hasL_iff]; exact ⟨fun hz => ⟨h z hz, hz⟩, fun hz => hz.2⟩
  rw [this.length_eq]; exact List.length_filter_le _ _
theorem nodup_openers (m : Mk) (l : List (List Int)) : (openers m l).Nodup := nodup_keysG _ _ _ _ _ _
theorem nodup_ghosts (m : Mk) (l al : List (List Int)) : (ghosts m l al).Nodup := (nodup_openers m l).filter _
end Go.Proofs.YtdedajohkdbdkaaGreat
