/- Nests of rows: one more row; results that are nests; calls of a closure that is a letter. -/
import Derived.Test.YtapocenhmdcfoaaGreatMem2
import Derived.Shelf.Abstract
namespace Go.Proofs.YtapocenhmdcfoaaGreat
set_option linter.unusedVariables false
open Go.RowKit
theorem OV.block_ty {w : World} {B e : Nat} {v : Value} {us : List Value} (h : OV w B e v us) {g : Nat} (hg : v.ownBlock = some g) : ∃ cs fr, w.heap[g]? = some (.cells cs e fr) ∧ B ≤ g := by
  rcases h.2 with ⟨rfl, _⟩ | ⟨g', cap, cur, rfl, hB, hh, _⟩
  · simp [Value.ownBlock] at hg
  · simp [Value.ownBlock] at hg
    subst hg
    exact ⟨cur, (0, 0), hh, hB⟩
/-- A row is as it was if its block is as it was. -/
theorem OV.same {w w' : World} {B e : Nat} {v : Value} {us : List Value} (h : OV w B e v us) (hk : ∀ g, v.ownBlock = some g → w'.heap[g]? = w.heap[g]?) : OV w' B e v us := by
  refine ⟨h.1, ?_⟩
  rcases h.2 with hn | ⟨g, cap, cur, rfl, hB, hh, r⟩
  · exact .inl hn
  · exact .inr ⟨g, cap, cur, rfl, hB, (hk g rfl).trans hh, r⟩
/-- One more row: its value has been appended to the row of rows. -/
theorem OII.push {w w' : World} {B C D : Nat} {v v' u : Value} {us : List Value} {xss : List (List Int)} {ys : List Int}
    (h1 : us.length = xss.length) (h2 : OR w B C 47 v us) (h3 : ∀ j (hj : j < xss.length), ∃ u, us[j]? = some u ∧ OR w B C 2 u (ints xss[j]))
    (h4 : ∀ (i j : Nat) (u u' : Value), i ≠ j → us[i]? = some u → us[j]? = some u' → ∀ g, u.ownBlock = some g → u'.ownBlock ≠ some g)
    (hu : OI w C D u ys) (hBC : B ≤ C) (hC : C ≤ w.heap.size) (hD : D ≤ w.heap.size) (ho : OV w' B 47 v' (us ++ [u])) (hg : w.grownBy w' v.ownBlock) : OII w' B w'.heap.size v' (xss ++ [ys]) := by
  have keep : ∀ (B' : Nat) (u0 : Value) (zs : List Value), OV w B' 2 u0 zs → OV w' B' 2 u0 zs := by
    intro B' u0 zs h0
    refine h0.same fun g hg0 => ?_
    obtain ⟨cs, fr, hh, _⟩ := h0.block_ty hg0
    refine hg.block g (Array.getElem?_eq_some_iff.1 hh).1 fun e => ?_
    obtain ⟨cs2, fr2, hh2, _⟩ := h2.1.block_ty e.symm
    rw [hh] at hh2
    injection hh2 with hh2
    injection hh2 with _ ht
    exact absurd ht (by decide)
  have hsz := hg.size
  refine ⟨us ++ [u], by simp [h1], ho.toOR, fun j hj => ?_, fun i j a b hij ha hb g hga hgb => ?_⟩
  · by_cases hjl : j < xss.length
    · obtain ⟨a, ha, hoa⟩ := h3 j hjl
      refine ⟨a, by rw [List.getElem?_append_left (by omega)]; exact ha, ?_⟩
      rw [List.getElem_append_left hjl]
      exact ⟨keep _ _ _ hoa.1, fun g hgg => by have := hoa.2 g hgg; omega⟩
    · have hje : j = xss.length := by simp at hj; omega
      subst hje
      refine ⟨u, by rw [List.getElem?_append_right (by omega)]; simp [h1], ?_⟩
      rw [List.getElem_append_right (by omega)]
      simp only [Nat.sub_self, List.getElem_cons_zero]
      exact ⟨(keep _ _ _ hu.1).mono hBC, fun g hgg => by have := hu.2 g hgg; omega⟩
  · have lt_of : ∀ (k : Nat) (x : Value), (us ++ [u])[k]? = some x → (k < us.length ∧ us[k]? = some x) ∨ (k = us.length ∧ x = u) := by
      intro k x hx
      by_cases hk : k < us.length
      · rw [List.getElem?_append_left hk] at hx; exact .inl ⟨hk, hx⟩
      · rw [List.getElem?_append_right (by omega)] at hx
        by_cases hk0 : k - us.length = 0
        · rw [hk0] at hx; simp at hx; exact .inr ⟨by omega, hx.symm⟩
        · rw [List.getElem?_eq_none (by simp; omega)] at hx; cases hx
    have old : ∀ (k : Nat) (x : Value), k < us.length → us[k]? = some x → ∀ g, x.ownBlock = some g → g < C := by
      intro k x hk hx g hgx
      obtain ⟨y, hy, hoy⟩ := h3 k (by omega)
      rw [hx] at hy; injection hy with hy; subst hy
      exact hoy.2 g hgx
    have new : ∀ g, u.ownBlock = some g → C ≤ g := fun g hgu => (hu.1.lt g hgu).1
    rcases lt_of i a ha with ⟨hi, ha'⟩ | ⟨hi, rfl⟩
    · rcases lt_of j b hb with ⟨hj, hb'⟩ | ⟨hj, rfl⟩
      · exact h4 i j a b hij ha' hb' g hga hgb
      · have := old i a hi ha' g hga; have := new g hgb; omega
    · rcases lt_of j b hb with ⟨hj, hb'⟩ | ⟨hj, rfl⟩
      · have := new g hga; have := old j b hj hb' g hgb; omega
      · omega
/-- The same behind 'append(v, u)', whose one new element lies in a block o of its own. -/
theorem OII.push1 {w w' : World} {B C : Nat} {v v' u : Value} {us : List Value} {xss : List (List Int)} {ys : List Int} {o : Obj}
    (h1 : us.length = xss.length) (h2 : OR w B C 47 v us) (h3 : ∀ j (hj : j < xss.length), ∃ u, us[j]? = some u ∧ OR w B C 2 u (ints xss[j]))
    (h4 : ∀ (i j : Nat) (u u' : Value), i ≠ j → us[i]? = some u → us[j]? = some u' → ∀ g, u.ownBlock = some g → u'.ownBlock ≠ some g)
    (hu : OV w C 2 u (ints ys)) (hBC : B ≤ C) (hC : C ≤ w.heap.size) (ho : OV w' B 47 v' (us ++ [u])) (hg : (w.alloc o).grownBy w' v.ownBlock) : OII w' B w'.heap.size v' (xss ++ [ys]) := by
  have al := (Below.refl C w).alloc hC o
  have al2 := (Below.refl w.heap.size w).alloc (Nat.le_refl _) o
  exact OII.push (C := C) (D := w.heap.size) h1 (h2.below al) (fun j hj => by obtain ⟨u, a, b⟩ := h3 j hj; exact ⟨u, a, b.below al⟩) h4 (hu.toOR.below al2) hBC (by simp; omega) (by simp) ho hg
theorem OII.grown {w w' : World} {B C : Nat} {v : Value} {xss : List (List Int)} {row : Option Nat} (h : OII w B C v xss) (hg : w.grownBy w' row) (hC : C ≤ w.heap.size) (hr : ∀ g, row = some g → g < B ∨ C ≤ g) : OII w' B C v xss :=
  h.keep fun g h1 h2 => hg.block g (by omega) fun e => by have := hr g e.symm; omega
theorem OII.nil {w : World} {B C : Nat} : OII w B C (.slice none 0 0) [] :=
  ⟨[], rfl, ⟨OV.nil, fun g h => by simp [Value.ownBlock] at h⟩, fun j hj => by simp at hj, fun i j u u' _ h => by simp at h⟩
theorem OII.new0 {w : World} {B : Nat} (hB : B ≤ w.heap.size) : OII (w.alloc (.cells #[] 47)) B (w.heap.size + 1) (.slice (some ⟨w.heap.size, 0, none⟩) 0 0) [] :=
  ⟨[], rfl, ⟨OV.new0 hB, fun g h => by simp [Value.ownBlock] at h; omega⟩, fun j hj => by simp at hj, fun i j u u' _ h => by simp at h⟩
theorem OII.one0 {w : World} : OII ((w.alloc (.cells #[] 2)).alloc (.cells #[.slice (some ⟨w.heap.size, 0, none⟩) 0 0] 47)) w.heap.size (w.heap.size + 2) (.slice (some ⟨w.heap.size + 1, 0, none⟩) 1 1) [[]] := by
  have h1 := OV.new (w := w.alloc (.cells #[] 2)) (B := w.heap.size) (e := 47) #[.slice (some ⟨w.heap.size, 0, none⟩) 0 0] (by simp) (by simp [maxLen])
  have h2 := (OV.new0 (w := w) (B := w.heap.size) (e := 2) (Nat.le_refl _)).alloc (.cells #[.slice (some ⟨w.heap.size, 0, none⟩) 0 0] 47)
  refine ⟨[.slice (some ⟨w.heap.size, 0, none⟩) 0 0], rfl, ⟨by simpa using h1, fun g hg => by simp [Value.ownBlock] at hg; omega⟩, fun j hj => ?_, fun i j u u' hij hi hj => ?_⟩
  · have : j = 0 := by simp at hj; omega
    subst this
    exact ⟨_, rfl, by simpa [ints] using h2, fun g hg => by simp [Value.ownBlock] at hg; omega⟩
  · have h1 := (List.getElem?_eq_some_iff.1 hi).1
    have h2 := (List.getElem?_eq_some_iff.1 hj).1
    simp at h1 h2; omega
/-- a list of lists in new memory -/
def ResII (w : World) (xss : List (List Int)) (e : Ending) (w' : World) : Prop := ∃ A c, e = .returned (.slice A xss.length c) ∧ xss.length ≤ c ∧ RII w' A xss ∧ OII w' w.heap.size w'.heap.size (.slice A xss.length c) xss ∧ Below w.heap.size w w'
/-- a list of lists in new memory, and a code -/
def ResIIC (w : World) (r : List (List Int) × Int) (e : Ending) (w' : World) : Prop :=
  ∃ A c, e = .returned (.tuple #[.slice A r.1.length c, .int .i64 r.2]) ∧ r.1.length ≤ c ∧ RII w' A r.1 ∧ OII w' w.heap.size w'.heap.size (.slice A r.1.length c) r.1 ∧ Below w.heap.size w w'
theorem resII_own {w w' : World} {v : Value} {xss : List (List Int)} {B C : Nat} (ho : OII w' B C v xss) (hB : w.heap.size ≤ B) (hC : C ≤ w'.heap.size) (hb : Below w.heap.size w w') : ResII w xss (.returned v) w' := by
  have h := ho.wide hB hC
  obtain ⟨A, c, rfl, hc, hr⟩ := h.reads
  exact ⟨A, c, rfl, hc, hr, h, hb⟩
theorem resIIC_nil {w w' : World} {r : List (List Int) × Int} {c : Int} (h : ([], c) = r) (hb : Below w.heap.size w w') : ResIIC w r (.returned (.tuple #[.slice none 0 0, .int .i64 c])) w' := by
  subst h; exact ⟨none, 0, rfl, Nat.le_refl _, RII.nil, OII.nil, hb⟩
theorem resIIC_own {w w' : World} {r : List (List Int) × Int} {v : Value} {xss : List (List Int)} {B C : Nat} (h : (xss, 0) = r) (ho : OII w' B C v xss) (hB : w.heap.size ≤ B) (hC : C ≤ w'.heap.size) (hb : Below w.heap.size w w') : ResIIC w r (.returned (.tuple #[v, .int .i64 0])) w' := by
  subst h
  have h := ho.wide hB hC
  obtain ⟨A, c, rfl, hc, hr⟩ := h.reads
  exact ⟨A, c, rfl, hc, hr, h, hb⟩
/-- lists of lists that read (of the reference) -/
def RdII (w : World) (xss : List (List Int)) (e : Ending) (w' : World) : Prop := ∃ A c, e = .returned (.slice A xss.length c) ∧ xss.length ≤ c ∧ RII w' A xss ∧ Below w.heap.size w w'
def RdI (w : World) (xs : List Int) (e : Ending) (w' : World) : Prop := ∃ A c, e = .returned (.slice A xs.length c) ∧ xs.length ≤ c ∧ RI w' A xs ∧ Below w.heap.size w w'
def RdIC (w : World) (r : List Int × Int) (e : Ending) (w' : World) : Prop := ∃ A c, e = .returned (.tuple #[.slice A r.1.length c, .int .i64 r.2]) ∧ r.1.length ≤ c ∧ RI w' A r.1 ∧ Below w.heap.size w w'
def RdIIC (w : World) (r : List (List Int) × Int) (e : Ending) (w' : World) : Prop := ∃ A c, e = .returned (.tuple #[.slice A r.1.length c, .int .i64 r.2]) ∧ r.1.length ≤ c ∧ RII w' A r.1 ∧ Below w.heap.size w w'
theorem rdIC_nil {w w' : World} {r : List Int × Int} {c : Int} (h : ([], c) = r) (hb : Below w.heap.size w w') : RdIC w r (.returned (.tuple #[.slice none 0 0, .int .i64 c])) w' := by
  subst h; exact ⟨none, 0, rfl, Nat.le_refl _, RI.nil, hb⟩
theorem rdIC_of {w w' : World} {r : List Int × Int} {xs : List Int} {A : Option Addr} {c : Nat} (h : (xs, 0) = r) (hc : xs.length ≤ c) (hr : RI w' A xs) (hb : Below w.heap.size w w') : RdIC w r (.returned (.tuple #[.slice A xs.length c, .int .i64 0])) w' := by
  subst h; exact ⟨A, c, rfl, hc, hr, hb⟩
theorem rdIIC_nil {w w' : World} {r : List (List Int) × Int} {c : Int} (h : ([], c) = r) (hb : Below w.heap.size w w') : RdIIC w r (.returned (.tuple #[.slice none 0 0, .int .i64 c])) w' := by
  subst h; exact ⟨none, 0, rfl, Nat.le_refl _, RII.nil, hb⟩
theorem rdIIC_of {w w' : World} {r : List (List Int) × Int} {xss : List (List Int)} {A : Option Addr} {c : Nat} (h : (xss, 0) = r) (hc : xss.length ≤ c) (hr : RII w' A xss) (hb : Below w.heap.size w w') : RdIIC w r (.returned (.tuple #[.slice A xss.length c, .int .i64 0])) w' := by
  subst h; exact ⟨A, c, rfl, hc, hr, hb⟩
/-- a table whose address is known: the cell and the row -/
theorem RII.cell {w : World} {b o : Nat} {xss : List (List Int)} (h : RII w (some ⟨b, o, none⟩) xss) {k : Nat} (hk : k < xss.length) : ∃ A' c, w.cell? ⟨b, o + k, none⟩ = some (.slice A' xss[k].length c) ∧ xss[k].length ≤ c ∧ RI w A' xss[k] := by
  obtain ⟨b', o', A', c, e, hc, hcc, hr⟩ := h.at_ hk
  injection e with e
  injection e with e1 e2
  subst e1 e2
  exact ⟨A', c, hc, hcc, hr⟩
theorem RI.cell' {w : World} {b o : Nat} {xs : List Int} (h : RI w (some ⟨b, o, none⟩) xs) {k : Nat} (hk : k < xs.length) : w.cell? ⟨b, o + k, none⟩ = some (.int .i64 xs[k]) := by
  obtain ⟨b', o', e, hc⟩ := h.at_ hk
  injection e with e
  injection e with e1 e2
  subst e1 e2
  exact hc
/-- a call of a function of the program -/
theorem enters {f : FuncId} {fn : Func} {c : Code} (hf : Tryz.prog.funcs[f]? = some fn) (hname : (fn.name == "runtime.NumGoroutine") = false) (hb : fn.body = some c) : Go.Proofs.Enters Tryz.prog f := Go.Proofs.enters_of hf hname hb
end Go.Proofs.YtapocenhmdcfoaaGreat
