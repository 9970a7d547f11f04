/- Contracts of SwapKeys, on both sides (in work): words for its results. -/
import Derived.Test.YtdedajohkdbdkaaGreatFSwap
import Derived.Test.YtdedajohkdbdkaaGreatFStopS
import Derived.Test.YtdedajohkdbdkaaGreatFLockAt
namespace Go.Proofs.YtdedajohkdbdkaaGreat
set_option linter.unusedVariables false
open Go.RowKit
/-- Three results: a variable that lies in memory, two registers. -/
theorem results_cell_tmp2 {fn : Func} {p u v : Tmp} {ty : TypeId} (h : fn.results = #[.cell p ty, .tmp u, .tmp v]) (tmps : Array Value) (P : Program) (w : World) :
    (results fn tmps).run P w =
      ((asAddr (tmps.getD p undef)).run P w).andThen fun a w₁ => ((loadVar ty a).run P w₁).andThen fun x w₂ => .ok (.tuple #[x, tmps.getD u undef, tmps.getD v undef]) w₂ := by
  simp only [results, h]
  simp [Sem.run_bind, Result.andThen]
theorem results_cell_row_tmp2 {P : Program} {fn : Func} {p u v : Tmp} {ty : TypeId} (h : fn.results = #[.cell p ty, .tmp u, .tmp v]) (tmps : Array Value) (w : World) (g : Nat) (t : TypeId) (cs : Array Value) (fr : Nat × Nat) (d : TypeDesc)
    (hp : tmps.getD p undef = .pointer (some ⟨g, 0, none⟩)) (hg : w.heap[g]? = some (.cells cs t fr))
    (hu : P.underlying ty = some d) (hd : (match d with | .struct _ | .array _ _ => true | _ => false) = true) (hi : (P.info? ty).map (·.size) = some cs.size) :
    (results fn tmps).run P w = .ok (.tuple #[.agg cs, tmps.getD u undef, tmps.getD v undef]) w := by
  rw [results_cell_tmp2 h, hp]
  simp [asAddr, Result.andThen, run_loadVar_row w g t ty cs fr d hg hu hd hi]
/-- A system, cuts and a code: the system's table and the cuts in memory of their own, apart from each other. -/
def ResSwap (w : World) (r : Mk × List (List Int) × List (List Int) × Int) (e : Ending) (w' : World) : Prop :=
  ∃ A c B d mid, e = .returned (.tuple #[.agg #[.int .i64 r.1.c, .int .i64 r.1.d, .int .i64 r.1.s, .int .i64 r.1.a, .int .i64 r.1.l, .slice A r.2.1.length c], .slice B r.2.2.1.length d, .int .i64 r.2.2.2]) ∧ r.2.1.length ≤ c ∧ r.2.2.1.length ≤ d ∧
    OII w' w.heap.size mid (.slice A r.2.1.length c) r.2.1 ∧ OII w' mid w'.heap.size (.slice B r.2.2.1.length d) r.2.2.1 ∧ w.heap.size ≤ mid ∧ mid ≤ w'.heap.size ∧ Below w.heap.size w w'
def mk0 : Mk := ⟨0, 0, 0, 0, 0⟩
def swapC (m : Mk) (t cuts : List (List Int)) (a b : Int) : Int := if cutsC m t cuts = 0 then (if (inB a 0 (cuts.length - 1) && inB b 0 (cuts.length - 1)) = true then 0 else 2) else cutsC m t cuts
def swapR (m : Mk) (t cuts : List (List Int)) (a b : Int) : Mk × List (List Int) × List (List Int) × Int :=
  if swapC m t cuts a b = 0 then (m, swapL t a.toNat b.toNat [], swapL cuts a.toNat b.toNat [], 0) else (mk0, [], [], swapC m t cuts a b)
theorem resSwap_nil {w w' : World} {r : Mk × List (List Int) × List (List Int) × Int} {k : Int} (h : (mk0, [], [], k) = r) (hb : Below w.heap.size w w') :
    ResSwap w r (.returned (.tuple #[.agg #[.int .i64 0, .int .i64 0, .int .i64 0, .int .i64 0, .int .i64 0, .slice none 0 0], .slice none 0 0, .int .i64 k])) w' := by
  subst h; exact ⟨none, 0, none, 0, w.heap.size, rfl, Nat.le_refl _, Nat.le_refl _, OII.nil, OII.nil, Nat.le_refl _, hb.size, hb⟩
theorem swap_no {m : Mk} {t cuts : List (List Int)} {a b : Int} (h : cutsC m t cuts ≠ 0) : (mk0, [], [], cutsC m t cuts) = swapR m t cuts a b := by
  have e : swapC m t cuts a b = cutsC m t cuts := by unfold swapC; rw [if_neg h]
  unfold swapR; rw [e, if_neg h]
theorem swap_no2 {m : Mk} {t cuts : List (List Int)} {a b : Int} (h : cutsC m t cuts = 0) (h2 : (inB a 0 (cuts.length - 1) && inB b 0 (cuts.length - 1)) = false) : (mk0, [], [], 2) = swapR m t cuts a b := by
  have e : swapC m t cuts a b = 2 := by unfold swapC; rw [if_pos h, if_neg (by rw [h2]; simp)]
  unfold swapR; rw [e, if_neg (by decide)]
theorem swap_yes {m : Mk} {t cuts : List (List Int)} {a b : Int} (h : cutsC m t cuts = 0) (h2 : (inB a 0 (cuts.length - 1) && inB b 0 (cuts.length - 1)) = true) : (m, swapL t a.toNat b.toNat [], swapL cuts a.toNat b.toNat [], 0) = swapR m t cuts a b := by
  have e : swapC m t cuts a b = 0 := by unfold swapC; rw [if_pos h, if_pos h2]
  unfold swapR; rw [e, if_pos rfl]
theorem below_six {B : Nat} {a w : World} (h : Below B a w) {g : Nat} (hg : B ≤ g) (a0 a1 a2 a3 a4 a5 : Value) :
    Below B a ((((((w.setCell ⟨g, 0, none⟩ a0).setCell ⟨g, 1, none⟩ a1).setCell ⟨g, 2, none⟩ a2).setCell ⟨g, 3, none⟩ a3).setCell ⟨g, 4, none⟩ a4).setCell ⟨g, 5, none⟩ a5) :=
  (((((h.setCell (p := ⟨g, 0, none⟩) hg _).setCell (p := ⟨g, 1, none⟩) hg _).setCell (p := ⟨g, 2, none⟩) hg _).setCell (p := ⟨g, 3, none⟩) hg _).setCell (p := ⟨g, 4, none⟩) hg _).setCell (p := ⟨g, 5, none⟩) hg _
theorem OII.setSix {w : World} {B C : Nat} {v : Value} {xss : List (List Int)} {g : Nat} (hg : g < B) (h : OII w B C v xss) (a0 a1 a2 a3 a4 a5 : Value) :
    OII ((((((w.setCell ⟨g, 0, none⟩ a0).setCell ⟨g, 1, none⟩ a1).setCell ⟨g, 2, none⟩ a2).setCell ⟨g, 3, none⟩ a3).setCell ⟨g, 4, none⟩ a4).setCell ⟨g, 5, none⟩ a5) B C v xss :=
  OII.setLow hg (OII.setLow hg (OII.setLow hg (OII.setLow hg (OII.setLow hg (OII.setLow hg h)))))
theorem resSwap_yes {w w' : World} {m : Mk} {xss yss : List (List Int)} {r : Mk × List (List Int) × List (List Int) × Int} (h : (m, xss, yss, 0) = r) {A B : Option Addr} {c d mid : Nat} (hc : xss.length ≤ c) (hd : yss.length ≤ d)
    (ho : OII w' w.heap.size mid (.slice A xss.length c) xss) (ho2 : OII w' mid w'.heap.size (.slice B yss.length d) yss) (h1 : w.heap.size ≤ mid) (h2 : mid ≤ w'.heap.size) (hb : Below w.heap.size w w') :
    ResSwap w r (.returned (.tuple #[.agg #[.int .i64 m.c, .int .i64 m.d, .int .i64 m.s, .int .i64 m.a, .int .i64 m.l, .slice A xss.length c], .slice B yss.length d, .int .i64 0])) w' := by
  subst h; exact ⟨A, c, B, d, mid, rfl, hc, hd, ho, ho2, h1, h2, hb⟩
set_option maxRecDepth 100000 in
set_option maxHeartbeats 4000000 in
theorem specSwapKeys_any (m : Mk) (A : Option Addr) (c : Nat) (t : List (List Int)) (B : Option Addr) (d : Nat) (cuts : List (List Int)) (a b : Int) (w : World) (h : RII w A t) (g : RII w B cuts)
    (hwk : (Lit.int .i64 a).wf = true) (hwd : (Lit.int .i64 b).wf = true) :
    Calls Tryz.prog 22 #[.agg #[.int .i64 m.c, .int .i64 m.d, .int .i64 m.s, .int .i64 m.a, .int .i64 m.l, .slice A t.length c], .slice B cuts.length d, .int .i64 a, .int .i64 b] w (ResSwap w (swapR m t cuts a b)) := by
  obtain ⟨w0, hw0⟩ : ∃ w0, w0 = (w.alloc (.cells #[.int .i64 m.c, .int .i64 m.d, .int .i64 m.s, .int .i64 m.a, .int .i64 m.l, .slice A t.length c] 45)).alloc (.cells #[.int .i64 0, .int .i64 0, .int .i64 0, .int .i64 0, .int .i64 0, .slice none 0 0] 45) := ⟨_, rfl⟩
  have B0 : Below w.heap.size w w0 := by rw [hw0]; exact ((Below.refl w.heap.size w).alloc (Nat.le_refl _) _).alloc (by simp only [World.size_alloc]; omega) _
  have hz0 : w0.heap.size = w.heap.size + 2 := by rw [hw0]; simp
  have bk : w0.heap[w.heap.size + 1]? = some (.cells #[.int .i64 0, .int .i64 0, .int .i64 0, .int .i64 0, .int .i64 0, .slice none 0 0] 45 (0, 0)) := by
    have := heap_alloc_new (w.alloc (.cells #[.int .i64 m.c, .int .i64 m.d, .int .i64 m.s, .int .i64 m.a, .int .i64 m.l, .slice A t.length c] 45)) (.cells #[.int .i64 0, .int .i64 0, .int .i64 0, .int .i64 0, .int .i64 0, .slice none 0 0] 45)
    rw [hw0]; simpa using this
  have HBK := Lib.hid bk; clear bk
  have HCC := Lib.hid (l15Code_any m A c t B d cuts w0 (h.below B0) (g.below B0))
  by_cases h1 : cutsC m t cuts = 0
  rotate_left
  · have HN := Lib.hid (swap_no (a := a) (b := b) h1)
    have t1 : (cutsC m t cuts != 0) = true := by simpa using h1
    have t2 : (cutsC m t cuts == 0) = false := by simpa using h1
    have H1 := Lib.hid h1; clear h1
    go_enter Tryz.func22, Tryz.ntmps22
    go_wp2_with fail
    rw [← hw0]
    refine HCC.out.mono ?_
    rintro e w1 ⟨rfl, b1⟩
    clear hw0
    have lb := (b1.block (w.heap.size + 1) (by omega)).trans HBK.out
    have l0 : ∀ i, i < 6 → (w1.cell? ⟨w.heap.size + 1, i, none⟩).isSome = true ∧ w1.frozen? ⟨w.heap.size + 1, i, none⟩ = false := by
      intro i hi
      have : i = 0 ∨ i = 1 ∨ i = 2 ∨ i = 3 ∨ i = 4 ∨ i = 5 := by omega
      rcases this with e | e | e | e | e | e <;> subst e <;> simp [World.cell?, World.frozen?, lb]
    have z0 : w1.cell? ⟨w.heap.size + 1, 0, none⟩ = some (.int .i64 0) := by simp [World.cell?, lb]
    have z1 : w1.cell? ⟨w.heap.size + 1, 1, none⟩ = some (.int .i64 0) := by simp [World.cell?, lb]
    have z2 : w1.cell? ⟨w.heap.size + 1, 2, none⟩ = some (.int .i64 0) := by simp [World.cell?, lb]
    have z3 : w1.cell? ⟨w.heap.size + 1, 3, none⟩ = some (.int .i64 0) := by simp [World.cell?, lb]
    have z4 : w1.cell? ⟨w.heap.size + 1, 4, none⟩ = some (.int .i64 0) := by simp [World.cell?, lb]
    have z5 : w1.cell? ⟨w.heap.size + 1, 5, none⟩ = some (.slice none 0 0) := by simp [World.cell?, lb]
    have f0 := (l0 0 (by omega)).2; have f1 := (l0 1 (by omega)).2; have f2 := (l0 2 (by omega)).2; have f3 := (l0 3 (by omega)).2; have f4 := (l0 4 (by omega)).2; have f5 := (l0 5 (by omega)).2
    clear l0
    go_wp2_with fail
    (try simp only [Exit.inBlock, Exit.then])
    refine bodyPost_ret (results_cell_row_tmp2 rfl _ _ (w.heap.size + 1) 45 #[.int .i64 0, .int .i64 0, .int .i64 0, .int .i64 0, .int .i64 0, .slice none 0 0] (0, 0) _ (by rfl) (by simp [World.setCell, Array.getElem?_modify, lb]) Tryz.underlying45 rfl (by kernel_rfl)) rfl ?_
    have HB1 := B0.trans (b1.mono B0.size)
    exact resSwap_nil HN.out ((((((HB1.setCell (by simp only; omega) _).setCell (by simp only; omega) _).setCell (by simp only; omega) _).setCell (by simp only; omega) _).setCell (by simp only; omega) _).setCell (by simp only; omega) _)
  have hok := cutsC_ok h1
  have hlen : cuts.length = t.length := (cutsC_0 h1).2.1
  rw [h1] at HCC
  have t1 := hok.t1
  have t10 := hok.t10
  have h0 : 0 < t.length := by omega
  have hw0' := hok.head h0
  have ht0 : t[0].length ≤ 12 := (hok.row 0 h0).2.2
  have ht1 : 1 ≤ t[0].length := (hok.row 0 h0).2.1
  have hpo : ∀ x : Int, pairOK t x 0 = inB x 0 ((cuts.length : Int) - 1) := fun x => by
    unfold pairOK; rw [hw0', hlen, show inB 0 0 ((t[0].length : Int) - 1) = true from inB_iff.2 (by omega), Bool.and_true]
  have HPA := fun (x : Int) W (hW : Below w.heap.size w W) => l15Pair_any m A c t x 0 W (h.below hW) h0 ht0 t10
  simp only [hpo] at HPA
  have bx : BoxC w0 w.heap.size 0 [.int .i64 m.c, .int .i64 m.d, .int .i64 m.s, .int .i64 m.a, .int .i64 m.l, .slice A t.length c] := by
    have : BoxC (w.alloc (.cells #[.int .i64 m.c, .int .i64 m.d, .int .i64 m.s, .int .i64 m.a, .int .i64 m.l, .slice A t.length c] 45)) w.heap.size 0 [.int .i64 m.c, .int .i64 m.d, .int .i64 m.s, .int .i64 m.a, .int .i64 m.l, .slice A t.length c] := by simp [BoxC, Go.World.cell?_alloc_at]
    rw [hw0]; exact this.below ((Below.refl _ _).alloc (Nat.le_refl _) _)
  have HBX := Lib.hid bx; clear bx
  have HOK := Lib.hid (And.intro h1 (And.intro hok (And.intro hlen hw0')))
  clear hpo hok hw0'
  cases hpa : inB a 0 ((cuts.length : Int) - 1) with
  | false =>
    have HN := Lib.hid (swap_no2 (a := a) (b := b) HOK.out.1 (by rw [hpa]; rfl))
    have HA1 := HPA a
    rw [hpa] at HA1
    have HAA := Lib.hid HA1
    have HK := Lib.hid hpa; clear hpa HPA HA1 hlen
    clear h1
    go_enter Tryz.func22, Tryz.ntmps22
    go_wp2_with fail
    rw [← hw0]
    refine HCC.out.mono ?_
    rintro e w1 ⟨rfl, b1⟩
    clear hw0
    have B1 := B0.trans (b1.mono B0.size)
    have hs1 := b1.size
    obtain ⟨q0, q1, q2, q3, q4, q5, _⟩ := HBX.out.below b1
    go_wp2_with fail
    refine (HAA.out _ B1).mono ?_
    rintro e w2 ⟨rfl, b2⟩
    have b12 := b1.trans (b2.mono hs1)
    clear q0 q1 q2 q3 q4 q5
    have lb := (b12.block (w.heap.size + 1) (by omega)).trans HBK.out
    have l0 : ∀ i, i < 6 → (w2.cell? ⟨w.heap.size + 1, i, none⟩).isSome = true ∧ w2.frozen? ⟨w.heap.size + 1, i, none⟩ = false := by
      intro i hi
      have : i = 0 ∨ i = 1 ∨ i = 2 ∨ i = 3 ∨ i = 4 ∨ i = 5 := by omega
      rcases this with e | e | e | e | e | e <;> subst e <;> simp [World.cell?, World.frozen?, lb]
    have z0 : w2.cell? ⟨w.heap.size + 1, 0, none⟩ = some (.int .i64 0) := by simp [World.cell?, lb]
    have z1 : w2.cell? ⟨w.heap.size + 1, 1, none⟩ = some (.int .i64 0) := by simp [World.cell?, lb]
    have z2 : w2.cell? ⟨w.heap.size + 1, 2, none⟩ = some (.int .i64 0) := by simp [World.cell?, lb]
    have z3 : w2.cell? ⟨w.heap.size + 1, 3, none⟩ = some (.int .i64 0) := by simp [World.cell?, lb]
    have z4 : w2.cell? ⟨w.heap.size + 1, 4, none⟩ = some (.int .i64 0) := by simp [World.cell?, lb]
    have z5 : w2.cell? ⟨w.heap.size + 1, 5, none⟩ = some (.slice none 0 0) := by simp [World.cell?, lb]
    have f0 := (l0 0 (by omega)).2; have f1 := (l0 1 (by omega)).2; have f2 := (l0 2 (by omega)).2; have f3 := (l0 3 (by omega)).2; have f4 := (l0 4 (by omega)).2; have f5 := (l0 5 (by omega)).2
    clear l0
    go_wp2_with fail
    (try simp only [Exit.inBlock, Exit.then])
    refine bodyPost_ret (results_cell_row_tmp2 rfl _ _ (w.heap.size + 1) 45 #[.int .i64 0, .int .i64 0, .int .i64 0, .int .i64 0, .int .i64 0, .slice none 0 0] (0, 0) _ (by rfl) (by simp [World.setCell, Array.getElem?_modify, lb]) Tryz.underlying45 rfl (by kernel_rfl)) rfl ?_
    have HB1 := B0.trans (b12.mono B0.size)
    exact resSwap_nil HN.out ((((((HB1.setCell (by simp only; omega) _).setCell (by simp only; omega) _).setCell (by simp only; omega) _).setCell (by simp only; omega) _).setCell (by simp only; omega) _).setCell (by simp only; omega) _)
  | true =>
    have HA1 := HPA a
    rw [hpa] at HA1
    have HAA := Lib.hid HA1
    clear HA1
    cases hpb : inB b 0 ((cuts.length : Int) - 1) with
    | false =>
      have HN := Lib.hid (swap_no2 (a := a) (b := b) HOK.out.1 (by rw [hpa, hpb]; rfl))
      have HB2 := HPA b
      rw [hpb] at HB2
      have HBB := Lib.hid HB2
      have HK := Lib.hid (And.intro hpa hpb); clear hpa hpb HPA HB2 hlen
      clear h1
      go_enter Tryz.func22, Tryz.ntmps22
      go_wp2_with fail
      rw [← hw0]
      refine HCC.out.mono ?_
      rintro e w1 ⟨rfl, b1⟩
      clear hw0
      have B1 := B0.trans (b1.mono B0.size)
      have hs1 := b1.size
      obtain ⟨q0, q1, q2, q3, q4, q5, _⟩ := HBX.out.below b1
      go_wp2_with fail
      refine (HAA.out _ B1).mono ?_
      rintro e w2 ⟨rfl, b2⟩
      have b12 := b1.trans (b2.mono hs1)
      have B2 := B0.trans (b12.mono B0.size)
      have hs2 := b12.size
      clear q0 q1 q2 q3 q4 q5
      obtain ⟨q0, q1, q2, q3, q4, q5, _⟩ := HBX.out.below b12
      go_wp2_with fail
      refine (HBB.out _ B2).mono ?_
      rintro e w3 ⟨rfl, b3⟩
      have b13 := b12.trans (b3.mono hs2)
      have hs3 := b13.size
      clear q0 q1 q2 q3 q4 q5
      have lb := (b13.block (w.heap.size + 1) (by omega)).trans HBK.out
      have l0 : ∀ i, i < 6 → (w3.cell? ⟨w.heap.size + 1, i, none⟩).isSome = true ∧ w3.frozen? ⟨w.heap.size + 1, i, none⟩ = false := by
        intro i hi
        have : i = 0 ∨ i = 1 ∨ i = 2 ∨ i = 3 ∨ i = 4 ∨ i = 5 := by omega
        rcases this with e | e | e | e | e | e <;> subst e <;> simp [World.cell?, World.frozen?, lb]
      have z0 : w3.cell? ⟨w.heap.size + 1, 0, none⟩ = some (.int .i64 0) := by simp [World.cell?, lb]
      have z1 : w3.cell? ⟨w.heap.size + 1, 1, none⟩ = some (.int .i64 0) := by simp [World.cell?, lb]
      have z2 : w3.cell? ⟨w.heap.size + 1, 2, none⟩ = some (.int .i64 0) := by simp [World.cell?, lb]
      have z3 : w3.cell? ⟨w.heap.size + 1, 3, none⟩ = some (.int .i64 0) := by simp [World.cell?, lb]
      have z4 : w3.cell? ⟨w.heap.size + 1, 4, none⟩ = some (.int .i64 0) := by simp [World.cell?, lb]
      have z5 : w3.cell? ⟨w.heap.size + 1, 5, none⟩ = some (.slice none 0 0) := by simp [World.cell?, lb]
      have f0 := (l0 0 (by omega)).2; have f1 := (l0 1 (by omega)).2; have f2 := (l0 2 (by omega)).2; have f3 := (l0 3 (by omega)).2; have f4 := (l0 4 (by omega)).2; have f5 := (l0 5 (by omega)).2
      clear l0
      go_wp2_with fail
      (try simp only [Exit.inBlock, Exit.then])
      refine bodyPost_ret (results_cell_row_tmp2 rfl _ _ (w.heap.size + 1) 45 #[.int .i64 0, .int .i64 0, .int .i64 0, .int .i64 0, .int .i64 0, .slice none 0 0] (0, 0) _ (by rfl) (by simp [World.setCell, Array.getElem?_modify, lb]) Tryz.underlying45 rfl (by kernel_rfl)) rfl ?_
      have HB1 := B0.trans (b13.mono B0.size)
      exact resSwap_nil HN.out ((((((HB1.setCell (by simp only; omega) _).setCell (by simp only; omega) _).setCell (by simp only; omega) _).setCell (by simp only; omega) _).setCell (by simp only; omega) _).setCell (by simp only; omega) _)
    | true =>
      have HB2 := HPA b
      rw [hpb] at HB2
      have HBB := Lib.hid HB2
      have HN := Lib.hid (swap_yes (a := a) (b := b) HOK.out.1 (by rw [hpa, hpb]; rfl))
      have ha2 := inB_iff.1 hpa
      have hb2 := inB_iff.1 hpb
      obtain ⟨a', rfl⟩ : ∃ a' : Nat, a = (a' : Int) := ⟨a.toNat, by omega⟩
      obtain ⟨b', rfl⟩ : ∃ b' : Nat, b = (b' : Int) := ⟨b.toNat, by omega⟩
      have HK := Lib.hid (And.intro hpa (And.intro hpb (And.intro ha2 hb2))); clear hpa hpb HPA HB2 hlen ha2 hb2
      clear h1
      go_enter Tryz.func22, Tryz.ntmps22
      go_wp2_with fail
      rw [← hw0]
      refine HCC.out.mono ?_
      rintro e w1 ⟨rfl, b1⟩
      clear hw0
      have B1 := B0.trans (b1.mono B0.size)
      have hs1 := b1.size
      obtain ⟨q0, q1, q2, q3, q4, q5, _⟩ := HBX.out.below b1
      go_wp2_with fail
      refine (HAA.out _ B1).mono ?_
      rintro e w2 ⟨rfl, b2⟩
      have b12 := b1.trans (b2.mono hs1)
      have B2 := B0.trans (b12.mono B0.size)
      have hs2 := b12.size
      clear q0 q1 q2 q3 q4 q5
      obtain ⟨q0, q1, q2, q3, q4, q5, _⟩ := HBX.out.below b12
      go_wp2_with fail
      refine (HBB.out _ B2).mono ?_
      rintro e w3 ⟨rfl, b3⟩
      have b13 := b12.trans (b3.mono hs2)
      have hs3 := b13.size
      clear q0 q1 q2 q3 q4 q5
      obtain ⟨q0, q1, q2, q3, q4, q5, _⟩ := HBX.out.below b13
      have HB13 := Lib.hid b13
      have HSZ := Lib.hid (show w.heap.size + 2 ≤ w3.heap.size by omega)
      clear b1 b2 b3 b12 b13 hs1 hs2 hs3 B1 B2
      have HLT := Lib.hid (show t.length ≤ 1000000 by omega)
      have HLC := Lib.hid (show cuts.length ≤ 1000000 by have := HOK.out.2.2.1; omega)
      have HMT := Lib.hid (show ∀ k (hk : k < t.length), t[k].length ≤ 1073741824 from fun k hk => by have := HOK.out.2.1.row k hk; omega)
      have HMC := Lib.hid (show ∀ k (hk : k < cuts.length), cuts[k].length ≤ 1073741824 from fun k hk => by have := HOK.out.2.1.len hk; have := mk_bounds HOK.out.2.1.mak; omega)
      have HAL := Lib.hid (show a' < t.length ∧ b' < t.length ∧ a' < cuts.length ∧ b' < cuts.length by have := HK.out.2.2.1; have := HK.out.2.2.2; have := HOK.out.2.2.1; omega)
      have HSA := Lib.hid (fun W (hW : Below w.heap.size w W) => l15Swap_any A c t a' b' W (h.below hW) HLT.out HMT.out HAL.out.1 HAL.out.2.1)
      have HSB := Lib.hid (fun W (hW : Below w.heap.size w W) => l15Swap_any B d cuts a' b' W (g.below hW) HLC.out HMC.out HAL.out.2.2.1 HAL.out.2.2.2)
      have KS := Lib.hid (show ∀ w' : World, Below (w.heap.size + 1) w0 w' → (w'.cell? ⟨w.heap.size, 0, none⟩ = some (.int .i64 m.c) ∧ w'.cell? ⟨w.heap.size, 1, none⟩ = some (.int .i64 m.d) ∧ w'.cell? ⟨w.heap.size, 2, none⟩ = some (.int .i64 m.s) ∧ w'.cell? ⟨w.heap.size, 3, none⟩ = some (.int .i64 m.a) ∧ w'.cell? ⟨w.heap.size, 4, none⟩ = some (.int .i64 m.l) ∧ w'.cell? ⟨w.heap.size, 5, none⟩ = some (.slice A t.length c) ∧ True) from fun w' hw =>
        HBX.out.keep fun i v hv => cell_in hw (by simp only; omega) hv)
      have K3 := Lib.hid (show Below w0.heap.size w0 w3.drew from HB13.out.trans ((belowDrew0 w3).mono HB13.out.size))
      have hws : w.heap.size < w3.heap.size := by have := HSZ.out; omega
      go_wp2_with fail
      refine wp_region_held_drew (S := (fun w' => (w'.cell? ⟨w.heap.size, 0, none⟩ = some (.int .i64 m.c) ∧ w'.cell? ⟨w.heap.size, 1, none⟩ = some (.int .i64 m.d) ∧ w'.cell? ⟨w.heap.size, 2, none⟩ = some (.int .i64 m.s) ∧ w'.cell? ⟨w.heap.size, 3, none⟩ = some (.int .i64 m.a) ∧ w'.cell? ⟨w.heap.size, 4, none⟩ = some (.int .i64 m.l) ∧ w'.cell? ⟨w.heap.size, 5, none⟩ = some (.slice A t.length c) ∧ True))) (by kernel_rfl) (KS.out _ (K3.out.mono (by omega))) (fun hHeld => ?_)
      refine takeD (i := 0) (some 33) (.pointer (some ⟨w.heap.size, 0, none⟩)) rfl (by kernel_rfl) (by kernel_rfl) (by kernel_rfl) (by kernel_rfl) (fun _ _ _ h => h) (by assumption) (Or.inl ⟨by rfl, fun w hSw => by (try dsimp only at hSw); go_simp⟩) ?_
      simp only [Act.put, List.setIfInBounds_toArray, List.set_cons_zero, List.set_cons_succ]
      refine takeD (i := 1) (some 34) (.agg #[.int .i64 m.c, .int .i64 m.d, .int .i64 m.s, .int .i64 m.a, .int .i64 m.l]) rfl (by kernel_rfl) (by kernel_rfl) (by kernel_rfl) (by kernel_rfl) (fun _ _ _ h => h) (by assumption) (Or.inl ⟨by rfl, fun w hSw => by (try dsimp only at hSw); go_simp⟩) ?_
      simp only [Act.put, List.setIfInBounds_toArray, List.set_cons_zero, List.set_cons_succ]
      refine takeD (i := 2) (some 35) (.pointer (some ⟨w.heap.size, 5, none⟩)) rfl (by kernel_rfl) (by kernel_rfl) (by kernel_rfl) (by kernel_rfl) (fun _ _ _ h => h) (by assumption) (Or.inl ⟨by rfl, fun w hSw => by (try dsimp only at hSw); go_simp⟩) ?_
      simp only [Act.put, List.setIfInBounds_toArray, List.set_cons_zero, List.set_cons_succ]
      refine takeD (i := 3) (some 36) (.slice A t.length c) rfl (by kernel_rfl) (by kernel_rfl) (by kernel_rfl) (by kernel_rfl) (fun _ _ _ h => h) (by assumption) (Or.inl ⟨by rfl, fun w hSw => by (try dsimp only at hSw); go_simp⟩) ?_
      simp only [Act.put, List.setIfInBounds_toArray, List.set_cons_zero, List.set_cons_succ]
      refine takeD (i := 4) (some 37) (.int .i64 (a' : Int)) rfl (by kernel_rfl) (by kernel_rfl) (by kernel_rfl) (by kernel_rfl) (fun _ _ _ h => h) (by assumption) (Or.inl ⟨by rfl, fun w hSw => by (try dsimp only at hSw); go_simp⟩) ?_
      simp only [Act.put, List.setIfInBounds_toArray, List.set_cons_zero, List.set_cons_succ]
      refine takeD (i := 5) (some 38) (.int .i64 (b' : Int)) rfl (by kernel_rfl) (by kernel_rfl) (by kernel_rfl) (by kernel_rfl) (fun _ _ _ h => h) (by assumption) (Or.inl ⟨by rfl, fun w hSw => by (try dsimp only at hSw); go_simp⟩) ?_
      simp only [Act.put, List.setIfInBounds_toArray, List.set_cons_zero, List.set_cons_succ]
      refine takeD (i := 8) (some 41) (.slice B cuts.length d) rfl (by kernel_rfl) (by kernel_rfl) (by kernel_rfl) (by kernel_rfl) (fun _ _ _ h => h) (by assumption) (Or.inl ⟨by rfl, fun w hSw => by (try dsimp only at hSw); go_simp⟩) ?_
      simp only [Act.put, List.setIfInBounds_toArray, List.set_cons_zero, List.set_cons_succ]
      refine takeD (i := 9) (some 42) (.int .i64 (a' : Int)) rfl (by kernel_rfl) (by kernel_rfl) (by kernel_rfl) (by kernel_rfl) (fun _ _ _ h => h) (by assumption) (Or.inl ⟨by rfl, fun w hSw => by (try dsimp only at hSw); go_simp⟩) ?_
      simp only [Act.put, List.setIfInBounds_toArray, List.set_cons_zero, List.set_cons_succ]
      refine takeD (i := 10) (some 43) (.int .i64 (b' : Int)) rfl (by kernel_rfl) (by kernel_rfl) (by kernel_rfl) (by kernel_rfl) (fun _ _ _ h => h) (by assumption) (Or.inl ⟨by rfl, fun w hSw => by (try dsimp only at hSw); go_simp⟩) ?_
      simp only [Act.put, List.setIfInBounds_toArray, List.set_cons_zero, List.set_cons_succ]
      refine wpAnyH_ready (rs := [6]) (by kernel_rfl) (by simp) (AllReadyH.cons rfl (fun K hK => ?_) AllReadyH.nil)
      go_simp
      refine (HSA.out _ (B0.trans (K3.out.mono B0.size))).mono ?_
      rintro e w4 ⟨A4, c4, rfl, hc4, -, o4, b4⟩
      have K4 := Lib.hid (K3.out.trans (b4.mono HB13.out.size))
      have HO4 := Lib.hid o4; have HB4 := Lib.hid b4
      clear o4 b4
      have HHeld := KS.out _ (K4.out.mono (by omega))
      refine hK.out _ _ HHeld (fun _ => ?_)
      clear hK K
      try simp only [Act.put, List.setIfInBounds_toArray, List.set_cons_zero, List.set_cons_succ]
      refine takeD (i := 7) (some 40) (.agg #[.int .i64 m.c, .int .i64 m.d, .int .i64 m.s, .int .i64 m.a, .int .i64 m.l, .slice A4 (swapL t a' b' []).length c4]) rfl (by kernel_rfl) (by kernel_rfl) (by kernel_rfl) (by kernel_rfl) (fun _ _ _ h => h) (by assumption) (Or.inl ⟨by rfl, fun w hSw => by (try dsimp only at hSw); go_simp⟩) ?_
      simp only [Act.put, List.setIfInBounds_toArray, List.set_cons_zero, List.set_cons_succ]
      refine wpAnyH_ready (rs := [11]) (by kernel_rfl) (by simp) (AllReadyH.cons rfl (fun K hK => ?_) AllReadyH.nil)
      go_simp
      refine (HSB.out _ (B0.trans (K4.out.mono B0.size))).mono ?_
      rintro e w5 ⟨A5, c5, rfl, hc5, -, o5, b5⟩
      have K5 := Lib.hid (K4.out.trans (b5.mono K4.out.size))
      have HO5 := Lib.hid o5; have HB5 := Lib.hid b5
      clear o5 b5
      have lb := (K5.out.block (w.heap.size + 1) (by omega)).trans HBK.out
      have l0 : ∀ i, i < 6 → (w5.cell? ⟨w.heap.size + 1, i, none⟩).isSome = true ∧ w5.frozen? ⟨w.heap.size + 1, i, none⟩ = false := by
        intro i hi
        have : i = 0 ∨ i = 1 ∨ i = 2 ∨ i = 3 ∨ i = 4 ∨ i = 5 := by omega
        rcases this with e | e | e | e | e | e <;> subst e <;> simp [World.cell?, World.frozen?, lb]
      have z0 : w5.cell? ⟨w.heap.size + 1, 0, none⟩ = some (.int .i64 0) := by simp [World.cell?, lb]
      have z1 : w5.cell? ⟨w.heap.size + 1, 1, none⟩ = some (.int .i64 0) := by simp [World.cell?, lb]
      have z2 : w5.cell? ⟨w.heap.size + 1, 2, none⟩ = some (.int .i64 0) := by simp [World.cell?, lb]
      have z3 : w5.cell? ⟨w.heap.size + 1, 3, none⟩ = some (.int .i64 0) := by simp [World.cell?, lb]
      have z4 : w5.cell? ⟨w.heap.size + 1, 4, none⟩ = some (.int .i64 0) := by simp [World.cell?, lb]
      have z5 : w5.cell? ⟨w.heap.size + 1, 5, none⟩ = some (.slice none 0 0) := by simp [World.cell?, lb]
      have f0 := (l0 0 (by omega)).2; have f1 := (l0 1 (by omega)).2; have f2 := (l0 2 (by omega)).2; have f3 := (l0 3 (by omega)).2; have f4 := (l0 4 (by omega)).2; have f5 := (l0 5 (by omega)).2
      clear l0
      have HHeld := KS.out _ (K5.out.mono (by omega))
      refine hK.out _ _ HHeld (fun _ => ?_)
      clear hK K
      try simp only [Act.put, List.setIfInBounds_toArray, List.set_cons_zero, List.set_cons_succ]
      refine wpAnyH_ready (rs := [12]) (by kernel_rfl) (by simp) (AllReadyH.cons rfl (fun K hK => ?_) AllReadyH.nil)
      go_simp
      have HHeld := KS.out _ (below_six (K5.out.mono (show w.heap.size + 1 ≤ w0.heap.size by omega)) (g := w.heap.size + 1) (Nat.le_refl _) (.int .i64 m.c) (.int .i64 m.d) (.int .i64 m.s) (.int .i64 m.a) (.int .i64 m.l) (.slice A4 (swapL t a' b' []).length c4))
      refine hK.out _ _ HHeld (fun _ => ?_)
      clear hK K
      try simp only [Act.put, List.setIfInBounds_toArray, List.set_cons_zero, List.set_cons_succ]
      refine takeD (i := 13) (some 9) (.slice A5 (swapL cuts a' b' []).length c5) rfl (by kernel_rfl) (by kernel_rfl) (by kernel_rfl) (by kernel_rfl) (fun _ _ _ h => h) (by assumption) (Or.inl ⟨by rfl, fun w hSw => by (try dsimp only at hSw); go_simp⟩) ?_
      simp only [Act.put, List.setIfInBounds_toArray, List.set_cons_zero, List.set_cons_succ]
      refine takeD (i := 14) (some 10) (.int .i64 0) rfl (by kernel_rfl) (by kernel_rfl) (by kernel_rfl) (by kernel_rfl) (fun _ _ _ h => h) (by assumption) (Or.inl ⟨by rfl, fun w hSw => by (try dsimp only at hSw); go_simp⟩) ?_
      simp only [Act.put, List.setIfInBounds_toArray, List.set_cons_zero, List.set_cons_succ]
      refine wpAnyH_done (by kernel_rfl) ?_ _
      go_wp2_with fail
      (try simp only [Exit.inBlock, Exit.then])
      refine bodyPost_ret (results_cell_row_tmp2 rfl _ _ (w.heap.size + 1) 45 #[.int .i64 m.c, .int .i64 m.d, .int .i64 m.s, .int .i64 m.a, .int .i64 m.l, .slice A4 (swapL t a' b' []).length c4] (0, 0) _ (by rfl) (by simp [World.setCell, Array.getElem?_modify, lb]) Tryz.underlying45 rfl (by kernel_rfl)) rfl ?_
      have HS4 := Lib.hid (show w3.heap.size ≤ w4.heap.size from HB4.out.size)
      have HS5 := Lib.hid (show w4.heap.size ≤ w5.heap.size from HB5.out.size)
      have HWL := Lib.hid (show w.heap.size ≤ w3.heap.size by omega)
      have HN2 := HN.out
      rw [Int.toNat_natCast, Int.toNat_natCast] at HN2
      refine resSwap_yes HN2 (mid := w4.heap.size) hc4 hc5 ?_ ?_ (by have := HS4.out; omega) (by simpa using HS5.out) ?_
      · exact (OII.setSix (g := w.heap.size + 1) (show w.heap.size + 1 < w.heap.size + 2 by omega) ((HO4.out.below HB5.out).wide (B' := w.heap.size + 2) HSZ.out (Nat.le_refl _)) _ _ _ _ _ _).wide (by omega) (Nat.le_refl _)
      · simp only [World.size_setCell]
        exact OII.setSix (g := w.heap.size + 1) (by have := HS4.out; have := HSZ.out; omega) HO5.out _ _ _ _ _ _
      · have HB1 := B0.trans (K5.out.mono B0.size)
        exact below_six HB1 (g := w.heap.size + 1) (by omega) _ _ _ _ _ _
end Go.Proofs.YtdedajohkdbdkaaGreat
