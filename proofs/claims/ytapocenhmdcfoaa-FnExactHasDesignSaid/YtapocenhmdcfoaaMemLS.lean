/- Words for memory: lists of locks, read and owned. No dump but the types' numbers. -/
import Derived.Test.YtapocenhmdcfoaaMem3
namespace Go.Proofs.Ytapocenhmdcfoaa
set_option linter.unusedVariables false
open Go.RowKit
/-- A slice of locks. -/
def RLS (w : World) (A : Option Addr) (ls : List (List (List Int))) : Prop :=
  ∃ us, us.length = ls.length ∧ RV w A us ∧ ∀ j (hj : j < ls.length), ∃ A' c, us[j]? = some (.slice A' ls[j].length c) ∧ ls[j].length ≤ c ∧ RII w A' ls[j]
/-- The slice v owns a row of locks; lock j lies in blocks from (f j).1 to (f j).2 - 1. -/
def OLSf (w : World) (B C : Nat) (v : Value) (us : List Value) (f : Nat → Nat × Nat) (ls : List (List (List Int))) : Prop :=
  us.length = ls.length ∧ OR w B C 75 v us ∧ (∀ j (hj : j < ls.length), ∃ u, us[j]? = some u ∧ OII w (f j).1 (f j).2 u ls[j] ∧ B ≤ (f j).1 ∧ (f j).2 ≤ C) ∧
    (∀ i j, i < j → j < ls.length → (f i).2 ≤ (f j).1) ∧ ∀ g, v.ownBlock = some g → ∀ j, j < ls.length → g < (f j).1 ∨ (f j).2 ≤ g
def OLS (w : World) (B C : Nat) (v : Value) (ls : List (List (List Int))) : Prop := ∃ us f, OLSf w B C v us f ls
section
variable {w w' : World} {A : Option Addr} {B C lo hi : Nat} {v : Value} {us : List Value} {f : Nat → Nat × Nat} {ls : List (List (List Int))}
theorem RLS.below (h : RLS w A ls) (hb : Below w.heap.size w w') : RLS w' A ls := by
  obtain ⟨us, h1, h2, h3⟩ := h
  exact ⟨us, h1, h2.below hb, fun j hj => by obtain ⟨A', c, a, b, d⟩ := h3 j hj; exact ⟨A', c, a, b, d.below hb⟩⟩
theorem RLS.le (h : RLS w A ls) : ls.length ≤ 9223372036854775807 := by obtain ⟨us, h1, h2, _⟩ := h; have := h2.1; omega
theorem RLS.at_ (h : RLS w A ls) {k : Nat} (hk : k < ls.length) :
    ∃ b o A' c, A = some ⟨b, o, none⟩ ∧ w.cell? ⟨b, o + k, none⟩ = some (.slice A' ls[k].length c) ∧ ls[k].length ≤ c ∧ RII w A' ls[k] := by
  obtain ⟨us, h1, h2, h3⟩ := h
  obtain ⟨A', c, hu, hc, hr⟩ := h3 k hk
  obtain ⟨b, o, rfl, hcell⟩ := h2.at_ (k := k) (by omega)
  refine ⟨b, o, A', c, rfl, ?_, hc, hr⟩
  rw [hcell, ← hu, List.getElem?_eq_getElem]
theorem RLS.nil : RLS w A [] := ⟨[], rfl, ⟨by simp, fun h => absurd rfl h⟩, fun j hj => by simp at hj⟩
theorem OLSf.keep (h : OLSf w B C v us f ls) (hk : ∀ g, B ≤ g → g < C → w'.heap[g]? = w.heap[g]?) : OLSf w' B C v us f ls := by
  obtain ⟨h1, h2, h3, h4, h5⟩ := h
  exact ⟨h1, h2.keep hk, fun j hj => by obtain ⟨u, a, b, c, d⟩ := h3 j hj; exact ⟨u, a, b.keep fun g hg1 hg2 => hk g (by omega) (by omega), c, d⟩, h4, h5⟩
theorem OLS.keep (h : OLS w B C v ls) (hk : ∀ g, B ≤ g → g < C → w'.heap[g]? = w.heap[g]?) : OLS w' B C v ls := by
  obtain ⟨us, f, h⟩ := h; exact ⟨us, f, h.keep hk⟩
theorem OLS.below (h : OLS w B C v ls) (hb : Below C w w') : OLS w' B C v ls := h.keep fun g _ hg => hb.block g hg
theorem OR.only_lt {e : Nat} (h : OR w B C e v us) (g : Nat) (hg : v.ownBlock = some g) : g < w.heap.size := (h.1.lt g hg).2
theorem OLSf.only (h : OLSf w B C v us f ls) (ho : Only lo hi w w') (hd : C ≤ lo ∨ hi ≤ B) : OLSf w' B C v us f ls := by
  obtain ⟨h1, h2, h3, h4, h5⟩ := h
  exact ⟨h1, h2.only ho hd, fun j hj => by obtain ⟨u, a, b, c, d⟩ := h3 j hj; exact ⟨u, a, b.only ho (by omega), c, d⟩, h4, h5⟩
theorem OLS.only (h : OLS w B C v ls) (ho : Only lo hi w w') (hd : C ≤ lo ∨ hi ≤ B) : OLS w' B C v ls := by
  obtain ⟨us, f, h⟩ := h; exact ⟨us, f, h.only ho hd⟩
theorem OLSf.wide {B' C' : Nat} (h : OLSf w B C v us f ls) (hB : B' ≤ B) (hC : C ≤ C') : OLSf w B' C' v us f ls := by
  obtain ⟨h1, h2, h3, h4, h5⟩ := h
  exact ⟨h1, h2.wide hB hC, fun j hj => by obtain ⟨u, a, b, c, d⟩ := h3 j hj; exact ⟨u, a, b, by omega, by omega⟩, h4, h5⟩
theorem OLS.wide {B' C' : Nat} (h : OLS w B C v ls) (hB : B' ≤ B) (hC : C ≤ C') : OLS w B' C' v ls := by
  obtain ⟨us, f, h⟩ := h; exact ⟨us, f, h.wide hB hC⟩
theorem OLS.reads (h : OLS w B C v ls) : ∃ A c, v = .slice A ls.length c ∧ ls.length ≤ c ∧ RLS w A ls := by
  obtain ⟨us, f, h1, h2, h3, _⟩ := h
  obtain ⟨A, c, rfl, hc, hr⟩ := h2.1.reads
  refine ⟨A, c, by rw [h1], by omega, us, h1, hr, fun j hj => ?_⟩
  obtain ⟨u, hu, ho, _⟩ := h3 j hj
  obtain ⟨A', c', rfl, hc', hr'⟩ := ho.reads
  exact ⟨A', c', hu, hc', hr'⟩
end
theorem OLS.rls {w : World} {B C c n : Nat} {A : Option Addr} {ls : List (List (List Int))} (h : OLS w B C (.slice A n c) ls) : RLS w A ls := by
  obtain ⟨A', c', he, _, hr⟩ := h.reads
  injection he with e1; subst e1; exact hr
theorem OLS.new0 {w : World} {B : Nat} (hB : B ≤ w.heap.size) : OLS (w.alloc (.cells #[] 75)) B (w.heap.size + 1) (.slice (some ⟨w.heap.size, 0, none⟩) 0 0) [] :=
  ⟨[], fun _ => (0, 0), rfl, ⟨OV.new0 hB, fun g h => by simp [Value.ownBlock] at h; omega⟩, fun j hj => by simp at hj, fun i j _ h => by simp at h, fun g _ j h => by simp at h⟩
theorem OLS.nil {w : World} {B C : Nat} : OLS w B C (.slice none 0 0) [] :=
  ⟨[], fun _ => (0, 0), rfl, ⟨OV.nil, fun g h => by simp [Value.ownBlock] at h⟩, fun j hj => by simp at hj, fun i j _ h => by simp at h, fun g _ j h => by simp at h⟩
/-- Behind 'append(v, u)' of one lock, whose one new element lies in a block o of its own. -/
theorem OLSf.push1 {w w' : World} {B C D : Nat} {v v' u : Value} {us : List Value} {f : Nat → Nat × Nat} {ls : List (List (List Int))} {l : List (List Int)} {o : Obj} (h : OLSf w B C v us f ls)
    (hu : OII w C D u l) (hBC : B ≤ C) (hC : C ≤ w.heap.size) (hD : D ≤ w.heap.size) (hCD : C ≤ D) (ho : OV w' B 75 v' (us ++ [u])) (hg : (w.alloc o).grownBy w' v.ownBlock)
    (hat : v'.ownBlock = v.ownBlock ∨ v'.ownBlock = some (w.alloc o).heap.size) : OLS w' B w'.heap.size v' (ls ++ [l]) := by
  obtain ⟨h1, h2, h3, h4, h5⟩ := h
  have hsz := hg.size
  simp only [World.size_alloc] at hsz
  have keep : ∀ g, g < w.heap.size → v.ownBlock ≠ some g → w'.heap[g]? = w.heap[g]? := fun g hl hn =>
    (hg.block g (by simp; omega) (Ne.symm hn)).trans (Below.heap_alloc w o g hl)
  have hvC : ∀ g, v.ownBlock = some g → g < C := h2.2
  refine ⟨us ++ [u], fun j => if j < ls.length then f j else (C, D), by simp [h1], ho.toOR, fun j hj => ?_, fun i j hij hj => ?_, fun g hgv j hj => ?_⟩
  · by_cases hjl : j < ls.length
    · obtain ⟨a, ha, hoa, hb1, hb2⟩ := h3 j hjl
      refine ⟨a, by rw [List.getElem?_append_left (by omega)]; exact ha, ?_⟩
      simp only [if_pos hjl]
      rw [List.getElem_append_left hjl]
      refine ⟨hoa.keep fun g hg1 hg2 => keep g (by omega) fun e => ?_, hb1, by omega⟩
      have := h5 g e j hjl; omega
    · have hje : j = ls.length := by simp at hj; omega
      subst hje
      refine ⟨u, by rw [List.getElem?_append_right (by omega)]; simp [h1], ?_⟩
      simp only [Nat.lt_irrefl, if_false]
      rw [List.getElem_append_right (by omega)]
      simp only [Nat.sub_self, List.getElem_cons_zero]
      exact ⟨hu.keep fun g hg1 hg2 => keep g (by omega) fun e => by have := hvC g e; omega, hBC, by omega⟩
  · simp only [List.length_append, List.length_cons, List.length_nil] at hj
    by_cases hjl : j < ls.length
    · simp only [if_pos hjl, if_pos (show i < ls.length by omega)]; exact h4 i j hij hjl
    · obtain ⟨a, ha, hoa, hb1, hb2⟩ := h3 i (by omega)
      simp only [if_neg hjl, if_pos (show i < ls.length by omega)]; exact hb2
  · simp only [List.length_append, List.length_cons, List.length_nil] at hj
    by_cases hjl : j < ls.length
    · obtain ⟨a, ha, hoa, hb1, hb2⟩ := h3 j hjl
      simp only [if_pos hjl]
      rcases hat with e | e
      · exact h5 g (e.symm.trans hgv) j hjl
      · rw [hgv] at e; injection e with e; simp at e; omega
    · simp only [if_neg hjl]
      rcases hat with e | e
      · have := hvC g (e.symm.trans hgv); omega
      · rw [hgv] at e; injection e with e; simp at e; omega
/-- a list of locks in new memory; one that reads -/
def ResLS (w : World) (ls : List (List (List Int))) (e : Ending) (w' : World) : Prop := ∃ A c, e = .returned (.slice A ls.length c) ∧ ls.length ≤ c ∧ RLS w' A ls ∧ OLS w' w.heap.size w'.heap.size (.slice A ls.length c) ls ∧ Below w.heap.size w w'
def RdLS (w : World) (ls : List (List (List Int))) (e : Ending) (w' : World) : Prop := ∃ A c, e = .returned (.slice A ls.length c) ∧ ls.length ≤ c ∧ RLS w' A ls ∧ Below w.heap.size w w'
/-- rows of slices that read in a world w (a call's first world: so they read on in all that keep it) -/
def RowsW (w : World) (us : List Value) (xss : List (List Int)) : Prop := us.length = xss.length ∧ ∀ j (hj : j < xss.length), ∃ A' c, us[j]? = some (.slice A' xss[j].length c) ∧ xss[j].length ≤ c ∧ RI w A' xss[j]
theorem RowsW.nil {w : World} : RowsW w [] [] := ⟨rfl, fun j hj => by simp at hj⟩
theorem RowsW.snoc {w : World} {us : List Value} {xss : List (List Int)} {A : Option Addr} {c : Nat} {xs : List Int} (h : RowsW w us xss) (hc : xs.length ≤ c) (hr : RI w A xs) : RowsW w (us ++ [.slice A xs.length c]) (xss ++ [xs]) := by
  obtain ⟨h1, h2⟩ := h
  refine ⟨by simp [h1], fun j hj => ?_⟩
  by_cases hjl : j < xss.length
  · obtain ⟨A', c', a, b, d⟩ := h2 j hjl
    refine ⟨A', c', ?_, ?_, ?_⟩
    · rw [List.getElem?_append_left (by omega), List.getElem_append_left hjl]; exact a
    · rw [List.getElem_append_left hjl]; exact b
    · rw [List.getElem_append_left hjl]; exact d
  · have hje : j = xss.length := by simp at hj; omega
    subst hje
    refine ⟨A, c, ?_, ?_, ?_⟩
    · rw [List.getElem?_append_right (by omega), List.getElem_append_right (by omega)]; simp [h1]
    · rw [List.getElem_append_right (by omega)]; simpa using hc
    · rw [List.getElem_append_right (by omega)]; simpa using hr
theorem RowsW.rii {w w' : World} {us : List Value} {xss : List (List Int)} {A : Option Addr} (h : RowsW w us xss) (hb : Below w.heap.size w w') (hv : RV w' A us) : RII w' A xss :=
  ⟨us, h.1, hv, fun j hj => by obtain ⟨A', c, a, b, d⟩ := h.2 j hj; exact ⟨A', c, a, b, d.below hb⟩⟩
theorem info_lock : (Try.prog.info? 75).map (fun i => (i.zero, i.size, i.bytes)) = some (some (.agg #[.slice none 0 0]), 1, 24) := by kernel_rfl
end Go.Proofs.Ytapocenhmdcfoaa
