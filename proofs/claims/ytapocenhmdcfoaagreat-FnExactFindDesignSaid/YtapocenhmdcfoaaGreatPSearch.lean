/- Plain words for the search: tries, whether it broke off, what a visit of designs has collected. No program. -/
import Derived.Test.YtapocenhmdcfoaaGreatPCand
namespace Go.Proofs.YtapocenhmdcfoaaGreat
open Go.RowKit
structure Srch (τ : Type) where
  tries : Nat
  over : Bool
  vis : τ
section
variable {τ : Type}
/-- the keys in order, until the search ends -/
def goL (m : Mk) (t : List (List Int)) (lim : Nat) (rec : List (List Int) → Srch τ → Bool × Srch τ) (cuts : List (List Int)) : List (List Int) → Srch τ → Bool × Srch τ
  | [], st => (true, st)
  | k :: ks, st =>
    if st.tries = lim then (false, ⟨st.tries, true, st.vis⟩)
    else if openPart m t (cuts ++ [k]) = true then
      (if (rec (cuts ++ [k]) ⟨st.tries + 1, st.over, st.vis⟩).1 = true then goL m t lim rec cuts ks (rec (cuts ++ [k]) ⟨st.tries + 1, st.over, st.vis⟩).2 else (false, (rec (cuts ++ [k]) ⟨st.tries + 1, st.over, st.vis⟩).2))
    else goL m t lim rec cuts ks ⟨st.tries + 1, st.over, st.vis⟩
/-- the search with so many rows to come: whether it goes on -/
def goF (m : Mk) (t : List (List Int)) (lim : Nat) (visD : τ → List (List Int) → Bool × τ) : Nat → List (List Int) → Srch τ → Bool × Srch τ
  | 0, cuts, st => ((visD st.vis cuts).1, ⟨st.tries, st.over, (visD st.vis cuts).2⟩)
  | r + 1, cuts, st => goL m t lim (goF m t lim visD r) cuts (allK m) st
/-- the program's visitor -/
def goVis (m : Mk) (t : List (List Int)) (lim : Nat) (rec : List (List Int) → Srch τ → Bool × Srch τ) (cuts : List (List Int)) (s : Srch τ × Bool) (k : List Int) : Bool × (Srch τ × Bool) :=
  if s.1.tries = lim then (false, (⟨s.1.tries, true, s.1.vis⟩, false))
  else if openPart m t (cuts ++ [k]) = true then ((rec (cuts ++ [k]) ⟨s.1.tries + 1, s.1.over, s.1.vis⟩).1, ((rec (cuts ++ [k]) ⟨s.1.tries + 1, s.1.over, s.1.vis⟩).2, (rec (cuts ++ [k]) ⟨s.1.tries + 1, s.1.over, s.1.vis⟩).1))
  else (s.2, (⟨s.1.tries + 1, s.1.over, s.1.vis⟩, s.2))
variable {m : Mk} {t : List (List Int)} {lim : Nat}
theorem goVis_lim {rec : List (List Int) → Srch τ → Bool × Srch τ} {cuts : List (List Int)} {s : Srch τ × Bool} {k : List Int} (h : s.1.tries = lim) : goVis m t lim rec cuts s k = (false, (⟨s.1.tries, true, s.1.vis⟩, false)) := by unfold goVis; rw [if_pos h]
theorem goVis_open {rec : List (List Int) → Srch τ → Bool × Srch τ} {cuts : List (List Int)} {s : Srch τ × Bool} {k : List Int} (h : s.1.tries ≠ lim) (ho : openPart m t (cuts ++ [k]) = true) {b : Bool} {st : Srch τ} (hr : rec (cuts ++ [k]) ⟨s.1.tries + 1, s.1.over, s.1.vis⟩ = (b, st)) : goVis m t lim rec cuts s k = (b, (st, b)) := by
  unfold goVis; rw [if_neg h, if_pos ho, hr]
theorem goVis_shut {rec : List (List Int) → Srch τ → Bool × Srch τ} {cuts : List (List Int)} {s : Srch τ × Bool} {k : List Int} (h : s.1.tries ≠ lim) (ho : openPart m t (cuts ++ [k]) = false) : goVis m t lim rec cuts s k = (s.2, (⟨s.1.tries + 1, s.1.over, s.1.vis⟩, s.2)) := by
  unfold goVis; rw [if_neg h, if_neg (by rw [ho]; simp)]
theorem goL_lim {rec : List (List Int) → Srch τ → Bool × Srch τ} {cuts ks : List (List Int)} {st : Srch τ} {k : List Int} (h : st.tries = lim) : goL m t lim rec cuts (k :: ks) st = (false, ⟨st.tries, true, st.vis⟩) := by rw [goL, if_pos h]
theorem goL_on {rec : List (List Int) → Srch τ → Bool × Srch τ} {cuts ks : List (List Int)} {st : Srch τ} {k : List Int} (h : st.tries ≠ lim) (ho : openPart m t (cuts ++ [k]) = true) {st' : Srch τ} (hr : rec (cuts ++ [k]) ⟨st.tries + 1, st.over, st.vis⟩ = (true, st')) : goL m t lim rec cuts (k :: ks) st = goL m t lim rec cuts ks st' := by
  rw [goL, if_neg h, if_pos ho, hr, if_pos rfl]
theorem goL_end {rec : List (List Int) → Srch τ → Bool × Srch τ} {cuts ks : List (List Int)} {st : Srch τ} {k : List Int} (h : st.tries ≠ lim) (ho : openPart m t (cuts ++ [k]) = true) {st' : Srch τ} (hr : rec (cuts ++ [k]) ⟨st.tries + 1, st.over, st.vis⟩ = (false, st')) : goL m t lim rec cuts (k :: ks) st = (false, st') := by
  rw [goL, if_neg h, if_pos ho, hr, if_neg (by simp)]
theorem goL_shut {rec : List (List Int) → Srch τ → Bool × Srch τ} {cuts ks : List (List Int)} {st : Srch τ} {k : List Int} (h : st.tries ≠ lim) (ho : openPart m t (cuts ++ [k]) = false) : goL m t lim rec cuts (k :: ks) st = goL m t lim rec cuts ks ⟨st.tries + 1, st.over, st.vis⟩ := by
  rw [goL, if_neg h, if_neg (by rw [ho]; simp)]
theorem runVis_go (rec : List (List Int) → Srch τ → Bool × Srch τ) (cuts : List (List Int)) : ∀ (ks : List (List Int)) (st : Srch τ), runVis (goVis m t lim rec cuts) (st, true) ks = ((goL m t lim rec cuts ks st).1, ((goL m t lim rec cuts ks st).2, (goL m t lim rec cuts ks st).1))
  | [], st => rfl
  | k :: ks, st => by
    rw [runVis]
    by_cases h : st.tries = lim
    · rw [goVis_lim h, goL_lim h, if_neg (by simp)]
    · cases ho : openPart m t (cuts ++ [k]) with
      | true =>
        obtain ⟨b, st', hr⟩ : ∃ b st', rec (cuts ++ [k]) ⟨st.tries + 1, st.over, st.vis⟩ = (b, st') := ⟨_, _, rfl⟩
        rw [goVis_open (s := (st, true)) h ho hr]
        cases b with
        | true => rw [if_pos rfl, goL_on h ho hr]; exact runVis_go rec cuts ks st'
        | false => rw [if_neg (by simp), goL_end h ho hr]
      | false =>
        rw [goVis_shut (s := (st, true)) h ho, goL_shut h ho, if_pos rfl]
        exact runVis_go rec cuts ks _
theorem goL_tries {rec : List (List Int) → Srch τ → Bool × Srch τ} (hrec : ∀ cuts st, st.tries ≤ lim → (rec cuts st).2.tries ≤ lim) (cuts : List (List Int)) : ∀ (ks : List (List Int)) (st : Srch τ), st.tries ≤ lim → (goL m t lim rec cuts ks st).2.tries ≤ lim
  | [], st, h => h
  | k :: ks, st, h => by
    by_cases h1 : st.tries = lim
    · rw [goL_lim h1]; exact h
    · cases ho : openPart m t (cuts ++ [k]) with
      | true =>
        obtain ⟨b, st', hr⟩ : ∃ b st', rec (cuts ++ [k]) ⟨st.tries + 1, st.over, st.vis⟩ = (b, st') := ⟨_, _, rfl⟩
        have h2 := hrec (cuts ++ [k]) ⟨st.tries + 1, st.over, st.vis⟩ (by show st.tries + 1 ≤ lim; omega)
        rw [hr] at h2
        cases b with
        | true => rw [goL_on h1 ho hr]; exact goL_tries hrec cuts ks st' h2
        | false => rw [goL_end h1 ho hr]; exact h2
      | false => rw [goL_shut h1 ho]; exact goL_tries hrec cuts ks _ (by show st.tries + 1 ≤ lim; omega)
theorem goF_tries (visD : τ → List (List Int) → Bool × τ) : ∀ (r : Nat) (cuts : List (List Int)) (st : Srch τ), st.tries ≤ lim → (goF m t lim visD r cuts st).2.tries ≤ lim
  | 0, _, _, h => h
  | r + 1, cuts, st, h => goL_tries (fun cuts st h => goF_tries visD r cuts st h) cuts (allK m) st h
theorem goL_live {LD : τ → Prop} {rec : List (List Int) → Srch τ → Bool × Srch τ} (hrec : ∀ cuts st, LD st.vis → (rec cuts st).1 = true → LD (rec cuts st).2.vis) (cuts : List (List Int)) : ∀ (ks : List (List Int)) (st : Srch τ), LD st.vis → (goL m t lim rec cuts ks st).1 = true → LD (goL m t lim rec cuts ks st).2.vis
  | [], _, h, _ => h
  | k :: ks, st, h, hb => by
    by_cases h1 : st.tries = lim
    · rw [goL_lim h1] at hb; cases hb
    · cases ho : openPart m t (cuts ++ [k]) with
      | true =>
        obtain ⟨b, st', hr⟩ : ∃ b st', rec (cuts ++ [k]) ⟨st.tries + 1, st.over, st.vis⟩ = (b, st') := ⟨_, _, rfl⟩
        have h2 := hrec (cuts ++ [k]) ⟨st.tries + 1, st.over, st.vis⟩ h
        rw [hr] at h2
        cases b with
        | true => rw [goL_on h1 ho hr] at hb ⊢; exact goL_live hrec cuts ks st' (h2 rfl) hb
        | false => rw [goL_end h1 ho hr] at hb; cases hb
      | false => rw [goL_shut h1 ho] at hb ⊢; exact goL_live hrec cuts ks _ h hb
theorem goF_live {LD : τ → Prop} {visD : τ → List (List Int) → Bool × τ} (hv : ∀ s d, LD s → (visD s d).1 = true → LD (visD s d).2) : ∀ (r : Nat) (cuts : List (List Int)) (st : Srch τ), LD st.vis → (goF m t lim visD r cuts st).1 = true → LD (goF m t lim visD r cuts st).2.vis
  | 0, cuts, st, h, hb => hv st.vis cuts h hb
  | r + 1, cuts, st, h, hb => goL_live (fun cuts st h hb => goF_live hv r cuts st h hb) cuts (allK m) st h hb
end
/-! ### what is done with designs -/
/-- collects, until there are most of them -/
def visMost (most : Nat) (s : List (List (List Int))) (d : List (List Int)) : Bool × List (List (List Int)) := (decide (s.length + 1 < most), s ++ [d])
/-- counts -/
def visNum (s : Int) (_ : List (List Int)) : Bool × Int := (true, wrap64 (s + 1))
/-- a search that counts and one that collects -/
structure Alike (a : Srch Int) (b : Srch (List (List (List Int)))) : Prop where
  tr : a.tries = b.tries
  ov : a.over = b.over
  nu : a.vis = (b.vis.length : Int)
  le : b.vis.length ≤ b.tries
theorem wrap_next {n : Nat} (h : n ≤ 1000000000) : wrap64 ((n : Int) + 1) = ((n + 1 : Nat) : Int) := by unfold wrap64; omega
theorem goL_alike {m : Mk} {t : List (List Int)} {lim : Nat} {r1 : List (List Int) → Srch Int → Bool × Srch Int} {r2 : List (List Int) → Srch (List (List (List Int))) → Bool × Srch (List (List (List Int)))}
    (hr : ∀ cuts a b, Alike a b → b.vis.length < b.tries → b.tries ≤ lim → (r1 cuts a).1 = (r2 cuts b).1 ∧ Alike (r1 cuts a).2 (r2 cuts b).2)
    (h2 : ∀ cuts (b : Srch (List (List (List Int)))), b.tries ≤ lim → (r2 cuts b).2.tries ≤ lim) (cuts : List (List Int)) : ∀ (ks : List (List Int)) (a : Srch Int) (b : Srch (List (List (List Int)))), Alike a b → b.tries ≤ lim → (goL m t lim r1 cuts ks a).1 = (goL m t lim r2 cuts ks b).1 ∧ Alike (goL m t lim r1 cuts ks a).2 (goL m t lim r2 cuts ks b).2
  | [], a, b, h, _ => ⟨rfl, h⟩
  | k :: ks, a, b, h, hl => by
    by_cases h1 : b.tries = lim
    · rw [goL_lim (h.tr.trans h1), goL_lim h1]
      exact ⟨rfl, h.tr, rfl, h.nu, h.le⟩
    · have h1' : a.tries ≠ lim := by rw [h.tr]; exact h1
      have hA : Alike ⟨a.tries + 1, a.over, a.vis⟩ ⟨b.tries + 1, b.over, b.vis⟩ := ⟨by show a.tries + 1 = b.tries + 1; rw [h.tr], h.ov, h.nu, by have := h.le; show b.vis.length ≤ b.tries + 1; omega⟩
      cases ho : openPart m t (cuts ++ [k]) with
      | true =>
        obtain ⟨x, a', ha⟩ : ∃ x a', r1 (cuts ++ [k]) ⟨a.tries + 1, a.over, a.vis⟩ = (x, a') := ⟨_, _, rfl⟩
        obtain ⟨y, b', hb⟩ : ∃ y b', r2 (cuts ++ [k]) ⟨b.tries + 1, b.over, b.vis⟩ = (y, b') := ⟨_, _, rfl⟩
        have h3 := hr (cuts ++ [k]) _ _ hA (by have := h.le; show b.vis.length < b.tries + 1; omega) (by show b.tries + 1 ≤ lim; omega)
        have h4 := h2 (cuts ++ [k]) ⟨b.tries + 1, b.over, b.vis⟩ (by show b.tries + 1 ≤ lim; omega)
        rw [ha, hb] at h3
        rw [hb] at h4
        obtain ⟨e, h5⟩ := h3
        simp only at e
        subst e
        cases x with
        | true => rw [goL_on h1' ho ha, goL_on h1 ho hb]; exact goL_alike hr h2 cuts ks a' b' h5 h4
        | false => rw [goL_end h1' ho ha, goL_end h1 ho hb]; exact ⟨rfl, h5⟩
      | false => rw [goL_shut h1' ho, goL_shut h1 ho]; exact goL_alike hr h2 cuts ks _ _ hA (by show b.tries + 1 ≤ lim; omega)
theorem goF_alike {m : Mk} {t : List (List Int)} {lim : Nat} (hlim : lim ≤ 4000) : ∀ (r : Nat) (cuts : List (List Int)) (a : Srch Int) (b : Srch (List (List (List Int)))), Alike a b → b.vis.length + (if r = 0 then 1 else 0) ≤ b.tries → b.tries ≤ lim →
    (goF m t lim visNum r cuts a).1 = (goF m t lim (visMost 1000000) r cuts b).1 ∧ Alike (goF m t lim visNum r cuts a).2 (goF m t lim (visMost 1000000) r cuts b).2
  | 0, cuts, a, b, h, h1, h2 => by
    rw [if_pos rfl] at h1
    refine ⟨?_, h.tr, h.ov, ?_, ?_⟩
    · show true = decide (b.vis.length + 1 < 1000000)
      rw [eq_comm, decide_eq_true_eq]; omega
    · show wrap64 (a.vis + 1) = (((b.vis ++ [cuts]).length : Nat) : Int)
      rw [h.nu, wrap_next (by omega)]; simp
    · show (b.vis ++ [cuts]).length ≤ b.tries
      simp; omega
  | r + 1, cuts, a, b, h, _, h2 => goL_alike (fun cuts a b h h1 h2 => goF_alike hlim r cuts a b h (by split <;> omega) h2) (fun cuts b h => goF_tries (visMost 1000000) r cuts b h) cuts (allK m) a b h h2
end Go.Proofs.YtapocenhmdcfoaaGreat
