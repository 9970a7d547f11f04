/- Contract of SwapKeys (of the program). -/
import Derived.Test.YtdedajohkdbdkaaGreatFSwapKeys
namespace Go.Proofs.YtdedajohkdbdkaaGreat
set_option linter.unusedVariables false
open Go.RowKit
theorem resSwap_yes' {w w' : World} {m : Mk} {xss yss : List (List Int)} {r : Mk × List (List Int) × List (List Int) × Int} (h : (m, xss, yss, 0) = r) {A B : Option Addr} {c d mid n k : Nat} (hn : n = xss.length) (hk : k = yss.length) (hc : n ≤ c) (hd : k ≤ d)
    (ho : OII w' w.heap.size mid (.slice A n c) xss) (ho2 : OII w' mid w'.heap.size (.slice B k d) yss) (h1 : w.heap.size ≤ mid) (h2 : mid ≤ w'.heap.size) (hb : Below w.heap.size w w') :
    ResSwap w r (.returned (.tuple #[.agg #[.int .i64 m.c, .int .i64 m.d, .int .i64 m.s, .int .i64 m.a, .int .i64 m.l, .slice A n c], .slice B k d, .int .i64 0])) w' := by
  subst hn hk; exact resSwap_yes h hc hd ho ho2 h1 h2 hb
theorem OII.setOut {w : World} {B C : Nat} {v : Value} {xss : List (List Int)} {p : Addr} {u : Value} (hp : p.block < B ∨ C ≤ p.block) (h : OII w B C v xss) : OII (w.setCell p u) B C v xss :=
  h.keep fun x h1 h2 => Below.heap_setCell _ _ _ _ (by omega)
set_option maxRecDepth 100000 in
set_option maxHeartbeats 4000000 in
theorem implSwapKeys_any (m : Mk) (A : Option Addr) (c : Nat) (t : List (List Int)) (B : Option Addr) (d : Nat) (cuts : List (List Int)) (a b : Int) (w : World) (h : RII w A t) (g : RII w B cuts) (hwk : (Lit.int .i64 a).wf = true) (hwd : (Lit.int .i64 b).wf = true) :
    Calls Tryz.prog 21 #[.agg #[.int .i64 m.c, .int .i64 m.d, .int .i64 m.s, .int .i64 m.a, .int .i64 m.l, .slice A t.length c], .slice B cuts.length d, .int .i64 a, .int .i64 b] w (ResSwap w (swapR m t cuts a b)) := by
  obtain ⟨w0, hw0⟩ : ∃ w0, w0 = (w.alloc (.cells #[.int .i64 m.c, .int .i64 m.d, .int .i64 m.s, .int .i64 m.a, .int .i64 m.l, .slice A t.length c] 45)).alloc (.cells #[.int .i64 0, .int .i64 0, .int .i64 0, .int .i64 0, .int .i64 0, .slice none 0 0] 45) := ⟨_, rfl⟩
  have B0 : Below w.heap.size w w0 := by rw [hw0]; exact ((Below.refl w.heap.size w).alloc (Nat.le_refl _) _).alloc (by simp only [World.size_alloc]; omega) _
  have hz0 : w0.heap.size = w.heap.size + 2 := by rw [hw0]; simp
  have bk : w0.heap[w.heap.size + 1]? = some (.cells #[.int .i64 0, .int .i64 0, .int .i64 0, .int .i64 0, .int .i64 0, .slice none 0 0] 45 (0, 0)) := by
    have := heap_alloc_new (w.alloc (.cells #[.int .i64 m.c, .int .i64 m.d, .int .i64 m.s, .int .i64 m.a, .int .i64 m.l, .slice A t.length c] 45)) (.cells #[.int .i64 0, .int .i64 0, .int .i64 0, .int .i64 0, .int .i64 0, .slice none 0 0] 45)
    rw [hw0]; simpa using this
  have HBK := Lib.hid bk; clear bk
  have HCC := Lib.hid (cutsCode_any m A c t B d cuts w0 (h.below B0) (g.below B0))
  have hgle := g.le
  by_cases h1 : cutsC m t cuts = 0
  rotate_left
  · have HN := Lib.hid (swap_no (a := a) (b := b) h1)
    have t1 : (cutsC m t cuts != 0) = true := by simpa using h1
    have H1 := Lib.hid h1; clear h1
    go_enter Tryz.func21, Tryz.ntmps21
    go_wp2_with fail
    rw [← hw0]
    refine HCC.out.mono ?_
    rintro e w1 ⟨rfl, b1⟩
    clear hw0
    have lb := (b1.block (w.heap.size + 1) (by omega)).trans HBK.out
    have l0 : ∀ i, i < 6 → (w1.cell? ⟨w.heap.size + 1, i, none⟩).isSome = true ∧ w1.frozen? ⟨w.heap.size + 1, i, none⟩ = false := by
      intro i hi
      have : i = 0 ∨ i = 1 ∨ i = 2 ∨ i = 3 ∨ i = 4 ∨ i = 5 := by omega
      rcases this with e | e | e | e | e | e <;> subst e <;> simp [World.cell?, World.frozen?, lb]
    have z0 : w1.cell? ⟨w.heap.size + 1, 0, none⟩ = some (.int .i64 0) := by simp [World.cell?, lb]
    have z1 : w1.cell? ⟨w.heap.size + 1, 1, none⟩ = some (.int .i64 0) := by simp [World.cell?, lb]
    have z2 : w1.cell? ⟨w.heap.size + 1, 2, none⟩ = some (.int .i64 0) := by simp [World.cell?, lb]
    have z3 : w1.cell? ⟨w.heap.size + 1, 3, none⟩ = some (.int .i64 0) := by simp [World.cell?, lb]
    have z4 : w1.cell? ⟨w.heap.size + 1, 4, none⟩ = some (.int .i64 0) := by simp [World.cell?, lb]
    have z5 : w1.cell? ⟨w.heap.size + 1, 5, none⟩ = some (.slice none 0 0) := by simp [World.cell?, lb]
    have f0 := (l0 0 (by omega)).2; have f1 := (l0 1 (by omega)).2; have f2 := (l0 2 (by omega)).2; have f3 := (l0 3 (by omega)).2; have f4 := (l0 4 (by omega)).2; have f5 := (l0 5 (by omega)).2
    clear l0
    go_wp2_with fail
    (try simp only [Exit.inBlock, Exit.then])
    refine bodyPost_ret (results_cell_row_tmp2 rfl _ _ (w.heap.size + 1) 45 #[.int .i64 0, .int .i64 0, .int .i64 0, .int .i64 0, .int .i64 0, .slice none 0 0] (0, 0) _ (by rfl) (by simp [World.setCell, Array.getElem?_modify, lb]) Tryz.underlying45 rfl (by kernel_rfl)) rfl ?_
    have HB1 := B0.trans (b1.mono B0.size)
    exact resSwap_nil HN.out (below_six HB1 (g := w.heap.size + 1) (by omega) _ _ _ _ _ _)
  have hok := cutsC_ok h1
  have hlen : cuts.length = t.length := (cutsC_0 h1).2.1
  rw [h1] at HCC
  have t1 := hok.t1
  have t10 := hok.t10
  have h0 : 0 < t.length := by omega
  have hsub : IntKind.wrap .i64 ((cuts.length : Int) - 1) = (cuts.length : Int) - 1 := by rw [IntKind.wrap_i64]; omega
  have bx : BoxC w0 w.heap.size 0 [.int .i64 m.c, .int .i64 m.d, .int .i64 m.s, .int .i64 m.a, .int .i64 m.l, .slice A t.length c] := by
    have : BoxC (w.alloc (.cells #[.int .i64 m.c, .int .i64 m.d, .int .i64 m.s, .int .i64 m.a, .int .i64 m.l, .slice A t.length c] 45)) w.heap.size 0 [.int .i64 m.c, .int .i64 m.d, .int .i64 m.s, .int .i64 m.a, .int .i64 m.l, .slice A t.length c] := by simp [BoxC, Go.World.cell?_alloc_at]
    rw [hw0]; exact this.below ((Below.refl _ _).alloc (Nat.le_refl _) _)
  have HBX := Lib.hid bx; clear bx
  have HOK := Lib.hid (And.intro h1 (And.intro hok hlen))
  clear hok
  cases hpa : inB a 0 ((cuts.length : Int) - 1) with
  | false =>
    have HN := Lib.hid (swap_no2 (a := a) (b := b) HOK.out.1 (by rw [hpa]; rfl))
    have HK := Lib.hid hpa; clear hpa hlen
    clear h1
    go_enter Tryz.func21, Tryz.ntmps21
    go_wp2_with fail
    rw [← hw0]
    refine HCC.out.mono ?_
    rintro e w1 ⟨rfl, b1⟩
    clear hw0
    go_wp2_with fail
    refine (within_any _ _ _ _).mono ?_
    rw [HK.out]
    rintro e w2 ⟨rfl, rfl⟩
    have lb := (b1.block (w.heap.size + 1) (by omega)).trans HBK.out
    have l0 : ∀ i, i < 6 → (w1.cell? ⟨w.heap.size + 1, i, none⟩).isSome = true ∧ w1.frozen? ⟨w.heap.size + 1, i, none⟩ = false := by
      intro i hi
      have : i = 0 ∨ i = 1 ∨ i = 2 ∨ i = 3 ∨ i = 4 ∨ i = 5 := by omega
      rcases this with e | e | e | e | e | e <;> subst e <;> simp [World.cell?, World.frozen?, lb]
    have z0 : w1.cell? ⟨w.heap.size + 1, 0, none⟩ = some (.int .i64 0) := by simp [World.cell?, lb]
    have z1 : w1.cell? ⟨w.heap.size + 1, 1, none⟩ = some (.int .i64 0) := by simp [World.cell?, lb]
    have z2 : w1.cell? ⟨w.heap.size + 1, 2, none⟩ = some (.int .i64 0) := by simp [World.cell?, lb]
    have z3 : w1.cell? ⟨w.heap.size + 1, 3, none⟩ = some (.int .i64 0) := by simp [World.cell?, lb]
    have z4 : w1.cell? ⟨w.heap.size + 1, 4, none⟩ = some (.int .i64 0) := by simp [World.cell?, lb]
    have z5 : w1.cell? ⟨w.heap.size + 1, 5, none⟩ = some (.slice none 0 0) := by simp [World.cell?, lb]
    have f0 := (l0 0 (by omega)).2; have f1 := (l0 1 (by omega)).2; have f2 := (l0 2 (by omega)).2; have f3 := (l0 3 (by omega)).2; have f4 := (l0 4 (by omega)).2; have f5 := (l0 5 (by omega)).2
    clear l0
    go_wp2_with fail
    (try simp only [Exit.inBlock, Exit.then])
    refine bodyPost_ret (results_cell_row_tmp2 rfl _ _ (w.heap.size + 1) 45 #[.int .i64 0, .int .i64 0, .int .i64 0, .int .i64 0, .int .i64 0, .slice none 0 0] (0, 0) _ (by rfl) (by simp [World.setCell, Array.getElem?_modify, lb]) Tryz.underlying45 rfl (by kernel_rfl)) rfl ?_
    have HB1 := B0.trans (b1.mono B0.size)
    exact resSwap_nil HN.out (below_six HB1 (g := w.heap.size + 1) (by omega) _ _ _ _ _ _)
  | true =>
    cases hpb : inB b 0 ((cuts.length : Int) - 1) with
    | false =>
      have HN := Lib.hid (swap_no2 (a := a) (b := b) HOK.out.1 (by rw [hpa, hpb]; rfl))
      have HK := Lib.hid (And.intro hpa hpb); clear hpa hpb hlen
      clear h1
      go_enter Tryz.func21, Tryz.ntmps21
      go_wp2_with fail
      rw [← hw0]
      refine HCC.out.mono ?_
      rintro e w1 ⟨rfl, b1⟩
      clear hw0
      go_wp2_with fail
      refine (within_any _ _ _ _).mono ?_
      rw [HK.out.1]
      rintro e w2 ⟨rfl, rfl⟩
      go_wp2_with fail
      refine (within_any _ _ _ _).mono ?_
      rw [HK.out.2]
      rintro e w2 ⟨rfl, rfl⟩
      have lb := (b1.block (w.heap.size + 1) (by omega)).trans HBK.out
      have l0 : ∀ i, i < 6 → (w1.cell? ⟨w.heap.size + 1, i, none⟩).isSome = true ∧ w1.frozen? ⟨w.heap.size + 1, i, none⟩ = false := by
        intro i hi
        have : i = 0 ∨ i = 1 ∨ i = 2 ∨ i = 3 ∨ i = 4 ∨ i = 5 := by omega
        rcases this with e | e | e | e | e | e <;> subst e <;> simp [World.cell?, World.frozen?, lb]
      have z0 : w1.cell? ⟨w.heap.size + 1, 0, none⟩ = some (.int .i64 0) := by simp [World.cell?, lb]
      have z1 : w1.cell? ⟨w.heap.size + 1, 1, none⟩ = some (.int .i64 0) := by simp [World.cell?, lb]
      have z2 : w1.cell? ⟨w.heap.size + 1, 2, none⟩ = some (.int .i64 0) := by simp [World.cell?, lb]
      have z3 : w1.cell? ⟨w.heap.size + 1, 3, none⟩ = some (.int .i64 0) := by simp [World.cell?, lb]
      have z4 : w1.cell? ⟨w.heap.size + 1, 4, none⟩ = some (.int .i64 0) := by simp [World.cell?, lb]
      have z5 : w1.cell? ⟨w.heap.size + 1, 5, none⟩ = some (.slice none 0 0) := by simp [World.cell?, lb]
      have f0 := (l0 0 (by omega)).2; have f1 := (l0 1 (by omega)).2; have f2 := (l0 2 (by omega)).2; have f3 := (l0 3 (by omega)).2; have f4 := (l0 4 (by omega)).2; have f5 := (l0 5 (by omega)).2
      clear l0
      go_wp2_with fail
      (try simp only [Exit.inBlock, Exit.then])
      refine bodyPost_ret (results_cell_row_tmp2 rfl _ _ (w.heap.size + 1) 45 #[.int .i64 0, .int .i64 0, .int .i64 0, .int .i64 0, .int .i64 0, .slice none 0 0] (0, 0) _ (by rfl) (by simp [World.setCell, Array.getElem?_modify, lb]) Tryz.underlying45 rfl (by kernel_rfl)) rfl ?_
      have HB1 := B0.trans (b1.mono B0.size)
      exact resSwap_nil HN.out (below_six HB1 (g := w.heap.size + 1) (by omega) _ _ _ _ _ _)
    | true =>
      have HN := Lib.hid (swap_yes (a := a) (b := b) HOK.out.1 (by rw [hpa, hpb]; rfl))
      have ha2 := inB_iff.1 hpa
      have hb2 := inB_iff.1 hpb
      obtain ⟨a', rfl⟩ : ∃ a' : Nat, a = (a' : Int) := ⟨a.toNat, by omega⟩
      obtain ⟨b', rfl⟩ : ∃ b' : Nat, b = (b' : Int) := ⟨b.toNat, by omega⟩
      have HK := Lib.hid (And.intro hpa hpb); clear hpa hpb
      have j0 : (0 : Int) ≤ (a' : Int) := by omega
      have j1 : (0 : Int) ≤ (b' : Int) := by omega
      have j2 : (a' : Int) < (t.length : Int) := by omega
      have j3 : (b' : Int) < (t.length : Int) := by omega
      have j4 : (a' : Int) < (cuts.length : Int) := by omega
      have j5 : (b' : Int) < (cuts.length : Int) := by omega
      have HAL := Lib.hid (show a' < t.length ∧ b' < t.length ∧ a' < cuts.length ∧ b' < cuts.length by omega)
      have HMT := Lib.hid (show ∀ k (hk : k < t.length), t[k].length ≤ 1073741824 from fun k hk => by have := HOK.out.2.1.row k hk; omega)
      have HMC := Lib.hid (show ∀ k (hk : k < cuts.length), cuts[k].length ≤ 1073741824 from fun k hk => by have := HOK.out.2.1.len hk; have := mk_bounds HOK.out.2.1.mak; omega)
      have HSA := Lib.hid (fun W (hW : Below w.heap.size w W) => copyLists_any A c t W (h.below hW) (by omega) HMT.out)
      have HSB := Lib.hid (fun W (hW : Below w.heap.size w W) => copyLists_any B d cuts W (g.below hW) (by omega) HMC.out)
      have hct : 0 < cuts.length := by omega
      clear h1 ha2 hb2 hlen
      go_enter Tryz.func21, Tryz.ntmps21
      go_wp2_with fail
      rw [← hw0]
      refine HCC.out.mono ?_
      rintro e w1 ⟨rfl, b1⟩
      clear hw0
      go_wp2_with fail
      refine (within_any _ _ _ _).mono ?_
      rw [HK.out.1]
      rintro e w2 ⟨rfl, rfl⟩
      go_wp2_with fail
      refine (within_any _ _ _ _).mono ?_
      rw [HK.out.2]
      rintro e w2 ⟨rfl, rfl⟩
      have HB1 := Lib.hid b1
      obtain ⟨q0, q1, q2, q3, q4, q5, _⟩ := HBX.out.below b1
      go_wp2_with fail
      refine (HSA.out _ (B0.trans (b1.mono B0.size))).mono ?_
      rintro e w2 ⟨A2, c2, rfl, hc2, -, ⟨us, ho2⟩, b2⟩
      have K2 := Lib.hid (b1.trans (b2.mono b1.size))
      go_wp2_with fail
      refine (HSB.out _ (B0.trans (K2.out.mono B0.size))).mono ?_
      rintro e w3 ⟨A3, c3, rfl, hc3, -, ⟨vs, ho3⟩, b3⟩
      have K3 := Lib.hid (K2.out.trans (b3.mono K2.out.size))
      have HS := Lib.hid (show w0.heap.size ≤ w1.heap.size ∧ w1.heap.size ≤ w2.heap.size ∧ w2.heap.size ≤ w3.heap.size from ⟨b1.size, b2.size, b3.size⟩)
      have ho2' := OIIu.keep' ho2 b3
      obtain ⟨g2, c9, e9, _⟩ := World.ownsRow.form (show World.ownsRow w2 w1.heap.size 33 1 (.slice A2 t.length c2) us.length us from ho2.2.1.1) (by have := ho2.1; omega)
      injection e9 with e91 e92 e93
      subst e91 e93
      clear e92
      obtain ⟨g3, c9', e9, _⟩ := World.ownsRow.form (show World.ownsRow w3 w2.heap.size 33 1 (.slice A3 cuts.length c3) vs.length vs from ho3.2.1.1) (by have := ho3.1; omega)
      injection e9 with e91 e92 e93
      subst e91 e93
      clear e92
      obtain ⟨g2a, g2b, fa2, Aa, ca, ua, za, _, _⟩ := OIIu.row ho2' HAL.out.1
      obtain ⟨_, _, fb2, Ab, cb, ub, zb, _, _⟩ := OIIu.row ho2' HAL.out.2.1
      have ka := HAL.out.1; have kb := HAL.out.2.1
      have P2 := Lib.hid (OIIu.swap ho2' ho2.1.symm HAL.out.1 HAL.out.2.1)
      obtain ⟨ta, hta⟩ : ∃ n, n = (t[a']'ka).length := ⟨_, rfl⟩
      obtain ⟨tb, htb⟩ : ∃ n, n = (t[b']'kb).length := ⟨_, rfl⟩
      rw [← hta] at za ua; rw [← htb] at zb ub
      have HU := Lib.hid (show us.getD a' undef = .slice Aa ta ca ∧ us.getD b' undef = .slice Ab tb cb by
        rw [List.getD_eq_getElem?_getD, ua, List.getD_eq_getElem?_getD, ub]; exact ⟨rfl, rfl⟩)
      rw [HU.out.1, HU.out.2] at P2
      have HO3 := Lib.hid (show OIIu w3 w2.heap.size w3.heap.size (.slice (some ⟨g3, 0, none⟩) cuts.length c3) vs cuts from ho3)
      have HG2 := Lib.hid (And.intro g2a g2b)
      have HT := Lib.hid (And.intro ho2.1 ho3.1)
      clear hta htb ho2 ho3 ho2' ua ub b1 b2 b3 q0 q1 q2 q3 q4 q5 g2a g2b ka kb
      go_wp2_with fail
      refine wp_region_held_drew (S := (fun _ => True)) (by kernel_rfl) (trivial) (fun hHeld => ?_)
      refine takeD (i := 0) (some 41) (.slice (some ⟨g2, 0, none⟩) t.length c2) rfl (by kernel_rfl) (by kernel_rfl) (by kernel_rfl) (by kernel_rfl) (fun _ _ _ h => h) (by assumption) (Or.inl ⟨by rfl, fun w hSw => by (try dsimp only at hSw); go_simp⟩) ?_
      simp only [Act.put, List.setIfInBounds_toArray, List.set_cons_zero, List.set_cons_succ]
      refine takeD (i := 1) (some 42) (.int .i64 (a' : Int)) rfl (by kernel_rfl) (by kernel_rfl) (by kernel_rfl) (by kernel_rfl) (fun _ _ _ h => h) (by assumption) (Or.inl ⟨by rfl, fun w hSw => by (try dsimp only at hSw); go_simp⟩) ?_
      simp only [Act.put, List.setIfInBounds_toArray, List.set_cons_zero, List.set_cons_succ]
      refine takeD (i := 2) (some 43) (.slice (some ⟨g2, 0, none⟩) t.length c2) rfl (by kernel_rfl) (by kernel_rfl) (by kernel_rfl) (by kernel_rfl) (fun _ _ _ h => h) (by assumption) (Or.inl ⟨by rfl, fun w hSw => by (try dsimp only at hSw); go_simp⟩) ?_
      simp only [Act.put, List.setIfInBounds_toArray, List.set_cons_zero, List.set_cons_succ]
      refine takeD (i := 3) (some 44) (.int .i64 (b' : Int)) rfl (by kernel_rfl) (by kernel_rfl) (by kernel_rfl) (by kernel_rfl) (fun _ _ _ h => h) (by assumption) (Or.inl ⟨by rfl, fun w hSw => by (try dsimp only at hSw); go_simp⟩) ?_
      simp only [Act.put, List.setIfInBounds_toArray, List.set_cons_zero, List.set_cons_succ]
      refine takeD (i := 4) (some 45) (.slice (some ⟨g2, 0, none⟩) t.length c2) rfl (by kernel_rfl) (by kernel_rfl) (by kernel_rfl) (by kernel_rfl) (fun _ _ _ h => h) (by assumption) (Or.inl ⟨by rfl, fun w hSw => by (try dsimp only at hSw); go_simp⟩) ?_
      simp only [Act.put, List.setIfInBounds_toArray, List.set_cons_zero, List.set_cons_succ]
      refine takeD (i := 5) (some 46) (.int .i64 (b' : Int)) rfl (by kernel_rfl) (by kernel_rfl) (by kernel_rfl) (by kernel_rfl) (fun _ _ _ h => h) (by assumption) (Or.inl ⟨by rfl, fun w hSw => by (try dsimp only at hSw); go_simp⟩) ?_
      simp only [Act.put, List.setIfInBounds_toArray, List.set_cons_zero, List.set_cons_succ]
      refine takeD (i := 6) (some 47) (.pointer (some ⟨g2, b', none⟩)) rfl (by kernel_rfl) (by kernel_rfl) (by kernel_rfl) (by kernel_rfl) (fun _ _ _ h => h) (by assumption) (Or.inl ⟨by rfl, fun w hSw => by (try dsimp only at hSw); go_simp⟩) ?_
      simp only [Act.put, List.setIfInBounds_toArray, List.set_cons_zero, List.set_cons_succ]
      refine takeD (i := 8) (some 49) (.slice (some ⟨g2, 0, none⟩) t.length c2) rfl (by kernel_rfl) (by kernel_rfl) (by kernel_rfl) (by kernel_rfl) (fun _ _ _ h => h) (by assumption) (Or.inl ⟨by rfl, fun w hSw => by (try dsimp only at hSw); go_simp⟩) ?_
      simp only [Act.put, List.setIfInBounds_toArray, List.set_cons_zero, List.set_cons_succ]
      refine takeD (i := 9) (some 50) (.int .i64 (a' : Int)) rfl (by kernel_rfl) (by kernel_rfl) (by kernel_rfl) (by kernel_rfl) (fun _ _ _ h => h) (by assumption) (Or.inl ⟨by rfl, fun w hSw => by (try dsimp only at hSw); go_simp⟩) ?_
      simp only [Act.put, List.setIfInBounds_toArray, List.set_cons_zero, List.set_cons_succ]
      refine takeD (i := 10) (some 51) (.pointer (some ⟨g2, a', none⟩)) rfl (by kernel_rfl) (by kernel_rfl) (by kernel_rfl) (by kernel_rfl) (fun _ _ _ h => h) (by assumption) (Or.inl ⟨by rfl, fun w hSw => by (try dsimp only at hSw); go_simp⟩) ?_
      simp only [Act.put, List.setIfInBounds_toArray, List.set_cons_zero, List.set_cons_succ]
      refine wpAnyH_ready (rs := [7, 11]) (by kernel_rfl) (by simp) (AllReadyH.cons rfl (fun K hK => ?_) (AllReadyH.cons rfl (fun K hK => ?_) AllReadyH.nil))
      · go_simp
        have HHeld := trivial
        refine hK.out _ _ HHeld (fun _ => ?_)
        clear hK K
        try simp only [Act.put, List.setIfInBounds_toArray, List.set_cons_zero, List.set_cons_succ]
        refine wpAnyH_ready (rs := [11]) (by kernel_rfl) (by simp) (AllReadyH.cons rfl (fun K hK => ?_) AllReadyH.nil)
        go_simp
        have HHeld := trivial
        refine hK.out _ _ HHeld (fun _ => ?_)
        clear hK K
        try simp only [Act.put, List.setIfInBounds_toArray, List.set_cons_zero, List.set_cons_succ]
        refine takeD (i := 12) (some 53) (.pointer (some ⟨g2, a', none⟩)) rfl (by kernel_rfl) (by kernel_rfl) (by kernel_rfl) (by kernel_rfl) (fun _ _ _ h => h) (by assumption) (Or.inl ⟨by rfl, fun w hSw => by (try dsimp only at hSw); go_simp⟩) ?_
        simp only [Act.put, List.setIfInBounds_toArray, List.set_cons_zero, List.set_cons_succ]
        refine wpAnyH_ready (rs := [13]) (by kernel_rfl) (by simp) (AllReadyH.cons rfl (fun K hK => ?_) AllReadyH.nil)
        go_simp
        have HHeld := trivial
        refine hK.out _ _ HHeld (fun _ => ?_)
        clear hK K
        try simp only [Act.put, List.setIfInBounds_toArray, List.set_cons_zero, List.set_cons_succ]
        refine takeD (i := 14) (some 54) (.pointer (some ⟨g2, b', none⟩)) rfl (by kernel_rfl) (by kernel_rfl) (by kernel_rfl) (by kernel_rfl) (fun _ _ _ h => h) (by assumption) (Or.inl ⟨by rfl, fun w hSw => by (try dsimp only at hSw); go_simp⟩) ?_
        simp only [Act.put, List.setIfInBounds_toArray, List.set_cons_zero, List.set_cons_succ]
        have fb2' : (w3.setCell ⟨g2, a', none⟩ (.slice Ab tb cb)).frozen? ⟨g2, b', none⟩ = false := (World.frozen?_setCell _ _ _ _).trans fb2
        obtain ⟨vb2, zb2'⟩ := cell?_setCell_some (w := w3) (p := ⟨g2, a', none⟩) (q := ⟨g2, b', none⟩) (x := .slice Ab tb cb) zb
        refine wpAnyH_ready (rs := [15]) (by kernel_rfl) (by simp) (AllReadyH.cons rfl (fun K hK => ?_) AllReadyH.nil)
        go_simp
        have HHeld := trivial
        refine hK.out _ _ HHeld (fun _ => ?_)
        clear hK K
        try simp only [Act.put, List.setIfInBounds_toArray, List.set_cons_zero, List.set_cons_succ]
        refine wpAnyH_done (by kernel_rfl) ?_ _
        obtain ⟨X, hX⟩ : ∃ X, X = ((w3.setCell ⟨g2, a', none⟩ (.slice Ab tb cb)).setCell ⟨g2, b', none⟩ (.slice Aa ta ca)).drew := ⟨_, rfl⟩
        have PX := Lib.hid (show OIIu X w1.heap.size w2.heap.size (.slice (some ⟨g2, 0, none⟩) t.length c2) (swapL us a' b' undef) (swapL t a' b' []) by rw [hX]; exact P2.out)
        have O3X : OIIu X w2.heap.size w3.heap.size (.slice (some ⟨g3, 0, none⟩) cuts.length c3) vs cuts := by
          rw [hX]
          have hkk : ∀ x, w2.heap.size ≤ x → ((w3.setCell ⟨g2, a', none⟩ (.slice Ab tb cb)).setCell ⟨g2, b', none⟩ (.slice Aa ta ca)).heap[x]? = w3.heap[x]? := fun x hx =>
            (Below.heap_setCell _ _ _ _ (by have := HG2.out; show x ≠ g2; omega)).trans (Below.heap_setCell _ _ _ _ (by have := HG2.out; show x ≠ g2; omega))
          obtain ⟨k1, k2, k3, k4⟩ := HO3.out
          exact ⟨k1, ⟨k2.1.same fun x hx => hkk x (k2.1.lt x hx).1, k2.2⟩, fun j hj => by obtain ⟨u, a, b⟩ := k3 j hj; exact ⟨u, a, b.1.same fun x hx => hkk x (b.1.lt x hx).1, b.2⟩, k4⟩
        have KX := Lib.hid (show Below w0.heap.size w0 X by
          rw [hX]; exact belowD ((K3.out.setCell (p := ⟨g2, a', none⟩) (by have := HS.out; have := HG2.out; show w0.heap.size ≤ g2; omega) _).setCell (p := ⟨g2, b', none⟩) (by have := HS.out; have := HG2.out; show w0.heap.size ≤ g2; omega) _) 1)
        have HXS := Lib.hid (show X.heap.size = w3.heap.size by rw [hX]; simp)
        rw [← hX]
        clear hX fb2' zb2' fa2 fb2 za zb
        obtain ⟨g3a, g3b, fa3, Ba, dua, va, ya, _, _⟩ := OIIu.row O3X HAL.out.2.2.1
        obtain ⟨_, _, fb3, Bb, dub, vb, yb, _, _⟩ := OIIu.row O3X HAL.out.2.2.2
        have P3 := Lib.hid (OIIu.swap O3X HT.out.2.symm HAL.out.2.2.1 HAL.out.2.2.2)
        have kc := HAL.out.2.2.1; have kd := HAL.out.2.2.2
        obtain ⟨ua, hua⟩ : ∃ n, n = (cuts[a']'kc).length := ⟨_, rfl⟩
        obtain ⟨ub, hub⟩ : ∃ n, n = (cuts[b']'kd).length := ⟨_, rfl⟩
        rw [← hua] at ya va; rw [← hub] at yb vb
        have HU3 := Lib.hid (show vs.getD a' undef = .slice Ba ua dua ∧ vs.getD b' undef = .slice Bb ub dub by
          rw [List.getD_eq_getElem?_getD, va, List.getD_eq_getElem?_getD, vb]; exact ⟨rfl, rfl⟩)
        rw [HU3.out.1, HU3.out.2] at P3
        have HG3 := Lib.hid (And.intro g3a g3b)
        clear hua hub va vb kc kd g3a g3b O3X
        go_wp2_with fail
        refine wp_region_held_drew (S := (fun _ => True)) (by kernel_rfl) (trivial) (fun hHeld => ?_)
        refine takeD (i := 0) (some 55) (.slice (some ⟨g3, 0, none⟩) cuts.length c3) rfl (by kernel_rfl) (by kernel_rfl) (by kernel_rfl) (by kernel_rfl) (fun _ _ _ h => h) (by assumption) (Or.inl ⟨by rfl, fun w hSw => by (try dsimp only at hSw); go_simp⟩) ?_
        simp only [Act.put, List.setIfInBounds_toArray, List.set_cons_zero, List.set_cons_succ]
        refine takeD (i := 1) (some 56) (.int .i64 (a' : Int)) rfl (by kernel_rfl) (by kernel_rfl) (by kernel_rfl) (by kernel_rfl) (fun _ _ _ h => h) (by assumption) (Or.inl ⟨by rfl, fun w hSw => by (try dsimp only at hSw); go_simp⟩) ?_
        simp only [Act.put, List.setIfInBounds_toArray, List.set_cons_zero, List.set_cons_succ]
        refine takeD (i := 2) (some 57) (.slice (some ⟨g3, 0, none⟩) cuts.length c3) rfl (by kernel_rfl) (by kernel_rfl) (by kernel_rfl) (by kernel_rfl) (fun _ _ _ h => h) (by assumption) (Or.inl ⟨by rfl, fun w hSw => by (try dsimp only at hSw); go_simp⟩) ?_
        simp only [Act.put, List.setIfInBounds_toArray, List.set_cons_zero, List.set_cons_succ]
        refine takeD (i := 3) (some 58) (.int .i64 (b' : Int)) rfl (by kernel_rfl) (by kernel_rfl) (by kernel_rfl) (by kernel_rfl) (fun _ _ _ h => h) (by assumption) (Or.inl ⟨by rfl, fun w hSw => by (try dsimp only at hSw); go_simp⟩) ?_
        simp only [Act.put, List.setIfInBounds_toArray, List.set_cons_zero, List.set_cons_succ]
        refine takeD (i := 4) (some 59) (.slice (some ⟨g3, 0, none⟩) cuts.length c3) rfl (by kernel_rfl) (by kernel_rfl) (by kernel_rfl) (by kernel_rfl) (fun _ _ _ h => h) (by assumption) (Or.inl ⟨by rfl, fun w hSw => by (try dsimp only at hSw); go_simp⟩) ?_
        simp only [Act.put, List.setIfInBounds_toArray, List.set_cons_zero, List.set_cons_succ]
        refine takeD (i := 5) (some 60) (.int .i64 (b' : Int)) rfl (by kernel_rfl) (by kernel_rfl) (by kernel_rfl) (by kernel_rfl) (fun _ _ _ h => h) (by assumption) (Or.inl ⟨by rfl, fun w hSw => by (try dsimp only at hSw); go_simp⟩) ?_
        simp only [Act.put, List.setIfInBounds_toArray, List.set_cons_zero, List.set_cons_succ]
        refine takeD (i := 6) (some 61) (.pointer (some ⟨g3, b', none⟩)) rfl (by kernel_rfl) (by kernel_rfl) (by kernel_rfl) (by kernel_rfl) (fun _ _ _ h => h) (by assumption) (Or.inl ⟨by rfl, fun w hSw => by (try dsimp only at hSw); go_simp⟩) ?_
        simp only [Act.put, List.setIfInBounds_toArray, List.set_cons_zero, List.set_cons_succ]
        refine takeD (i := 8) (some 63) (.slice (some ⟨g3, 0, none⟩) cuts.length c3) rfl (by kernel_rfl) (by kernel_rfl) (by kernel_rfl) (by kernel_rfl) (fun _ _ _ h => h) (by assumption) (Or.inl ⟨by rfl, fun w hSw => by (try dsimp only at hSw); go_simp⟩) ?_
        simp only [Act.put, List.setIfInBounds_toArray, List.set_cons_zero, List.set_cons_succ]
        refine takeD (i := 9) (some 64) (.int .i64 (a' : Int)) rfl (by kernel_rfl) (by kernel_rfl) (by kernel_rfl) (by kernel_rfl) (fun _ _ _ h => h) (by assumption) (Or.inl ⟨by rfl, fun w hSw => by (try dsimp only at hSw); go_simp⟩) ?_
        simp only [Act.put, List.setIfInBounds_toArray, List.set_cons_zero, List.set_cons_succ]
        refine takeD (i := 10) (some 65) (.pointer (some ⟨g3, a', none⟩)) rfl (by kernel_rfl) (by kernel_rfl) (by kernel_rfl) (by kernel_rfl) (fun _ _ _ h => h) (by assumption) (Or.inl ⟨by rfl, fun w hSw => by (try dsimp only at hSw); go_simp⟩) ?_
        simp only [Act.put, List.setIfInBounds_toArray, List.set_cons_zero, List.set_cons_succ]
        refine wpAnyH_ready (rs := [7, 11]) (by kernel_rfl) (by simp) (AllReadyH.cons rfl (fun K hK => ?_) (AllReadyH.cons rfl (fun K hK => ?_) AllReadyH.nil))
        · go_simp
          have HHeld := trivial
          refine hK.out _ _ HHeld (fun _ => ?_)
          clear hK K
          try simp only [Act.put, List.setIfInBounds_toArray, List.set_cons_zero, List.set_cons_succ]
          refine wpAnyH_ready (rs := [11]) (by kernel_rfl) (by simp) (AllReadyH.cons rfl (fun K hK => ?_) AllReadyH.nil)
          go_simp
          have HHeld := trivial
          refine hK.out _ _ HHeld (fun _ => ?_)
          clear hK K
          try simp only [Act.put, List.setIfInBounds_toArray, List.set_cons_zero, List.set_cons_succ]
          refine takeD (i := 12) (some 67) (.pointer (some ⟨g3, a', none⟩)) rfl (by kernel_rfl) (by kernel_rfl) (by kernel_rfl) (by kernel_rfl) (fun _ _ _ h => h) (by assumption) (Or.inl ⟨by rfl, fun w hSw => by (try dsimp only at hSw); go_simp⟩) ?_
          simp only [Act.put, List.setIfInBounds_toArray, List.set_cons_zero, List.set_cons_succ]
          refine wpAnyH_ready (rs := [13]) (by kernel_rfl) (by simp) (AllReadyH.cons rfl (fun K hK => ?_) AllReadyH.nil)
          go_simp
          have HHeld := trivial
          refine hK.out _ _ HHeld (fun _ => ?_)
          clear hK K
          try simp only [Act.put, List.setIfInBounds_toArray, List.set_cons_zero, List.set_cons_succ]
          refine takeD (i := 14) (some 68) (.pointer (some ⟨g3, b', none⟩)) rfl (by kernel_rfl) (by kernel_rfl) (by kernel_rfl) (by kernel_rfl) (fun _ _ _ h => h) (by assumption) (Or.inl ⟨by rfl, fun w hSw => by (try dsimp only at hSw); go_simp⟩) ?_
          simp only [Act.put, List.setIfInBounds_toArray, List.set_cons_zero, List.set_cons_succ]
          have fb3' : (X.setCell ⟨g3, a', none⟩ (.slice Bb ub dub)).frozen? ⟨g3, b', none⟩ = false := (World.frozen?_setCell _ _ _ _).trans fb3
          obtain ⟨vb3, zb3'⟩ := cell?_setCell_some (w := X) (p := ⟨g3, a', none⟩) (q := ⟨g3, b', none⟩) (x := .slice Bb ub dub) yb
          refine wpAnyH_ready (rs := [15]) (by kernel_rfl) (by simp) (AllReadyH.cons rfl (fun K hK => ?_) AllReadyH.nil)
          go_simp
          have HHeld := trivial
          refine hK.out _ _ HHeld (fun _ => ?_)
          clear hK K
          try simp only [Act.put, List.setIfInBounds_toArray, List.set_cons_zero, List.set_cons_succ]
          refine wpAnyH_done (by kernel_rfl) ?_ _
          obtain ⟨Y, hY⟩ : ∃ Y, Y = ((X.setCell ⟨g3, a', none⟩ (.slice Bb ub dub)).setCell ⟨g3, b', none⟩ (.slice Ba ua dua)).drew := ⟨_, rfl⟩
          have PY := Lib.hid (show OIIu Y w2.heap.size w3.heap.size (.slice (some ⟨g3, 0, none⟩) cuts.length c3) (swapL vs a' b' undef) (swapL cuts a' b' []) by rw [hY]; exact P3.out)
          have TY := Lib.hid (show OII Y w1.heap.size w2.heap.size (.slice (some ⟨g2, 0, none⟩) t.length c2) (swapL t a' b' []) by
            rw [hY]; exact OII.setOut (.inr HG3.out.1) (OII.setOut (w := X) (.inr HG3.out.1) PX.out.ex))
          have KY := Lib.hid (show Below w0.heap.size w0 Y by
            rw [hY]; exact belowD ((KX.out.setCell (p := ⟨g3, a', none⟩) (by have := HS.out; have := HG3.out; show w0.heap.size ≤ g3; omega) _).setCell (p := ⟨g3, b', none⟩) (by have := HS.out; have := HG3.out; show w0.heap.size ≤ g3; omega) _) 1)
          have HYS := Lib.hid (show Y.heap.size = w3.heap.size by rw [hY]; simp; exact HXS.out)
          rw [← hY]
          clear hY fb3' zb3' fa3 fb3 ya yb
          obtain ⟨q0, q1, q2, q3, q4, q5, _⟩ := HBX.out.below KY.out
          have lb := (KY.out.block (w.heap.size + 1) (by omega)).trans HBK.out
          have l0 : ∀ i, i < 6 → (Y.cell? ⟨w.heap.size + 1, i, none⟩).isSome = true ∧ Y.frozen? ⟨w.heap.size + 1, i, none⟩ = false := by
            intro i hi
            have : i = 0 ∨ i = 1 ∨ i = 2 ∨ i = 3 ∨ i = 4 ∨ i = 5 := by omega
            rcases this with e | e | e | e | e | e <;> subst e <;> simp [World.cell?, World.frozen?, lb]
          have z0 : Y.cell? ⟨w.heap.size + 1, 0, none⟩ = some (.int .i64 0) := by simp [World.cell?, lb]
          have z1 : Y.cell? ⟨w.heap.size + 1, 1, none⟩ = some (.int .i64 0) := by simp [World.cell?, lb]
          have z2 : Y.cell? ⟨w.heap.size + 1, 2, none⟩ = some (.int .i64 0) := by simp [World.cell?, lb]
          have z3 : Y.cell? ⟨w.heap.size + 1, 3, none⟩ = some (.int .i64 0) := by simp [World.cell?, lb]
          have z4 : Y.cell? ⟨w.heap.size + 1, 4, none⟩ = some (.int .i64 0) := by simp [World.cell?, lb]
          have z5 : Y.cell? ⟨w.heap.size + 1, 5, none⟩ = some (.slice none 0 0) := by simp [World.cell?, lb]
          have f0 := (l0 0 (by omega)).2; have f1 := (l0 1 (by omega)).2; have f2 := (l0 2 (by omega)).2; have f3 := (l0 3 (by omega)).2; have f4 := (l0 4 (by omega)).2; have f5 := (l0 5 (by omega)).2
          clear l0
          have hyz : w.heap.size < Y.heap.size := by have := KY.out.size; omega
          go_wp2_with fail
          (try simp only [Exit.inBlock, Exit.then])
          refine bodyPost_ret (results_cell_row_tmp2 rfl _ _ (w.heap.size + 1) 45 #[.int .i64 m.c, .int .i64 m.d, .int .i64 m.s, .int .i64 m.a, .int .i64 m.l, .slice (some ⟨g2, 0, none⟩) t.length c2] (0, 0) _ (by rfl) (by simp [World.setCell, Array.getElem?_modify, lb]) Tryz.underlying45 rfl (by kernel_rfl)) rfl ?_
          have HN2 := HN.out
          rw [Int.toNat_natCast, Int.toNat_natCast] at HN2
          have HSS := HS.out
          have HYY := HYS.out
          refine resSwap_yes' HN2 (mid := w2.heap.size) (by rw [swapL_length]) (by rw [swapL_length]) hc2 hc3 ?_ ?_ (by omega) (by simp only [World.size_setCell]; omega) ?_
          · exact (OII.setSix (g := w.heap.size + 1) (by omega) TY.out _ _ _ _ _ _).wide (by omega) (Nat.le_refl _)
          · simp only [World.size_setCell]
            rw [HYY]
            exact OII.setSix (g := w.heap.size + 1) (by omega) PY.out.ex _ _ _ _ _ _
          · exact below_six (B0.trans (KY.out.mono B0.size)) (g := w.heap.size + 1) (by omega) _ _ _ _ _ _
        · go_simp
          have HHeld := trivial
          refine hK.out _ _ HHeld (fun _ => ?_)
          clear hK K
          try simp only [Act.put, List.setIfInBounds_toArray, List.set_cons_zero, List.set_cons_succ]
          refine wpAnyH_ready (rs := [7]) (by kernel_rfl) (by simp) (AllReadyH.cons rfl (fun K hK => ?_) AllReadyH.nil)
          go_simp
          have HHeld := trivial
          refine hK.out _ _ HHeld (fun _ => ?_)
          clear hK K
          try simp only [Act.put, List.setIfInBounds_toArray, List.set_cons_zero, List.set_cons_succ]
          refine takeD (i := 12) (some 67) (.pointer (some ⟨g3, a', none⟩)) rfl (by kernel_rfl) (by kernel_rfl) (by kernel_rfl) (by kernel_rfl) (fun _ _ _ h => h) (by assumption) (Or.inl ⟨by rfl, fun w hSw => by (try dsimp only at hSw); go_simp⟩) ?_
          simp only [Act.put, List.setIfInBounds_toArray, List.set_cons_zero, List.set_cons_succ]
          refine wpAnyH_ready (rs := [13]) (by kernel_rfl) (by simp) (AllReadyH.cons rfl (fun K hK => ?_) AllReadyH.nil)
          go_simp
          have HHeld := trivial
          refine hK.out _ _ HHeld (fun _ => ?_)
          clear hK K
          try simp only [Act.put, List.setIfInBounds_toArray, List.set_cons_zero, List.set_cons_succ]
          refine takeD (i := 14) (some 68) (.pointer (some ⟨g3, b', none⟩)) rfl (by kernel_rfl) (by kernel_rfl) (by kernel_rfl) (by kernel_rfl) (fun _ _ _ h => h) (by assumption) (Or.inl ⟨by rfl, fun w hSw => by (try dsimp only at hSw); go_simp⟩) ?_
          simp only [Act.put, List.setIfInBounds_toArray, List.set_cons_zero, List.set_cons_succ]
          have fb3' : (X.setCell ⟨g3, a', none⟩ (.slice Bb ub dub)).frozen? ⟨g3, b', none⟩ = false := (World.frozen?_setCell _ _ _ _).trans fb3
          obtain ⟨vb3, zb3'⟩ := cell?_setCell_some (w := X) (p := ⟨g3, a', none⟩) (q := ⟨g3, b', none⟩) (x := .slice Bb ub dub) yb
          refine wpAnyH_ready (rs := [15]) (by kernel_rfl) (by simp) (AllReadyH.cons rfl (fun K hK => ?_) AllReadyH.nil)
          go_simp
          have HHeld := trivial
          refine hK.out _ _ HHeld (fun _ => ?_)
          clear hK K
          try simp only [Act.put, List.setIfInBounds_toArray, List.set_cons_zero, List.set_cons_succ]
          refine wpAnyH_done (by kernel_rfl) ?_ _
          obtain ⟨Y, hY⟩ : ∃ Y, Y = ((X.setCell ⟨g3, a', none⟩ (.slice Bb ub dub)).setCell ⟨g3, b', none⟩ (.slice Ba ua dua)).drew := ⟨_, rfl⟩
          have PY := Lib.hid (show OIIu Y w2.heap.size w3.heap.size (.slice (some ⟨g3, 0, none⟩) cuts.length c3) (swapL vs a' b' undef) (swapL cuts a' b' []) by rw [hY]; exact P3.out)
          have TY := Lib.hid (show OII Y w1.heap.size w2.heap.size (.slice (some ⟨g2, 0, none⟩) t.length c2) (swapL t a' b' []) by
            rw [hY]; exact OII.setOut (.inr HG3.out.1) (OII.setOut (w := X) (.inr HG3.out.1) PX.out.ex))
          have KY := Lib.hid (show Below w0.heap.size w0 Y by
            rw [hY]; exact belowD ((KX.out.setCell (p := ⟨g3, a', none⟩) (by have := HS.out; have := HG3.out; show w0.heap.size ≤ g3; omega) _).setCell (p := ⟨g3, b', none⟩) (by have := HS.out; have := HG3.out; show w0.heap.size ≤ g3; omega) _) 1)
          have HYS := Lib.hid (show Y.heap.size = w3.heap.size by rw [hY]; simp; exact HXS.out)
          rw [← hY]
          clear hY fb3' zb3' fa3 fb3 ya yb
          obtain ⟨q0, q1, q2, q3, q4, q5, _⟩ := HBX.out.below KY.out
          have lb := (KY.out.block (w.heap.size + 1) (by omega)).trans HBK.out
          have l0 : ∀ i, i < 6 → (Y.cell? ⟨w.heap.size + 1, i, none⟩).isSome = true ∧ Y.frozen? ⟨w.heap.size + 1, i, none⟩ = false := by
            intro i hi
            have : i = 0 ∨ i = 1 ∨ i = 2 ∨ i = 3 ∨ i = 4 ∨ i = 5 := by omega
            rcases this with e | e | e | e | e | e <;> subst e <;> simp [World.cell?, World.frozen?, lb]
          have z0 : Y.cell? ⟨w.heap.size + 1, 0, none⟩ = some (.int .i64 0) := by simp [World.cell?, lb]
          have z1 : Y.cell? ⟨w.heap.size + 1, 1, none⟩ = some (.int .i64 0) := by simp [World.cell?, lb]
          have z2 : Y.cell? ⟨w.heap.size + 1, 2, none⟩ = some (.int .i64 0) := by simp [World.cell?, lb]
          have z3 : Y.cell? ⟨w.heap.size + 1, 3, none⟩ = some (.int .i64 0) := by simp [World.cell?, lb]
          have z4 : Y.cell? ⟨w.heap.size + 1, 4, none⟩ = some (.int .i64 0) := by simp [World.cell?, lb]
          have z5 : Y.cell? ⟨w.heap.size + 1, 5, none⟩ = some (.slice none 0 0) := by simp [World.cell?, lb]
          have f0 := (l0 0 (by omega)).2; have f1 := (l0 1 (by omega)).2; have f2 := (l0 2 (by omega)).2; have f3 := (l0 3 (by omega)).2; have f4 := (l0 4 (by omega)).2; have f5 := (l0 5 (by omega)).2
          clear l0
          have hyz : w.heap.size < Y.heap.size := by have := KY.out.size; omega
          go_wp2_with fail
          (try simp only [Exit.inBlock, Exit.then])
          refine bodyPost_ret (results_cell_row_tmp2 rfl _ _ (w.heap.size + 1) 45 #[.int .i64 m.c, .int .i64 m.d, .int .i64 m.s, .int .i64 m.a, .int .i64 m.l, .slice (some ⟨g2, 0, none⟩) t.length c2] (0, 0) _ (by rfl) (by simp [World.setCell, Array.getElem?_modify, lb]) Tryz.underlying45 rfl (by kernel_rfl)) rfl ?_
          have HN2 := HN.out
          rw [Int.toNat_natCast, Int.toNat_natCast] at HN2
          have HSS := HS.out
          have HYY := HYS.out
          refine resSwap_yes' HN2 (mid := w2.heap.size) (by rw [swapL_length]) (by rw [swapL_length]) hc2 hc3 ?_ ?_ (by omega) (by simp only [World.size_setCell]; omega) ?_
          · exact (OII.setSix (g := w.heap.size + 1) (by omega) TY.out _ _ _ _ _ _).wide (by omega) (Nat.le_refl _)
          · simp only [World.size_setCell]
            rw [HYY]
            exact OII.setSix (g := w.heap.size + 1) (by omega) PY.out.ex _ _ _ _ _ _
          · exact below_six (B0.trans (KY.out.mono B0.size)) (g := w.heap.size + 1) (by omega) _ _ _ _ _ _
      · go_simp
        have HHeld := trivial
        refine hK.out _ _ HHeld (fun _ => ?_)
        clear hK K
        try simp only [Act.put, List.setIfInBounds_toArray, List.set_cons_zero, List.set_cons_succ]
        refine wpAnyH_ready (rs := [7]) (by kernel_rfl) (by simp) (AllReadyH.cons rfl (fun K hK => ?_) AllReadyH.nil)
        go_simp
        have HHeld := trivial
        refine hK.out _ _ HHeld (fun _ => ?_)
        clear hK K
        try simp only [Act.put, List.setIfInBounds_toArray, List.set_cons_zero, List.set_cons_succ]
        refine takeD (i := 12) (some 53) (.pointer (some ⟨g2, a', none⟩)) rfl (by kernel_rfl) (by kernel_rfl) (by kernel_rfl) (by kernel_rfl) (fun _ _ _ h => h) (by assumption) (Or.inl ⟨by rfl, fun w hSw => by (try dsimp only at hSw); go_simp⟩) ?_
        simp only [Act.put, List.setIfInBounds_toArray, List.set_cons_zero, List.set_cons_succ]
        refine wpAnyH_ready (rs := [13]) (by kernel_rfl) (by simp) (AllReadyH.cons rfl (fun K hK => ?_) AllReadyH.nil)
        go_simp
        have HHeld := trivial
        refine hK.out _ _ HHeld (fun _ => ?_)
        clear hK K
        try simp only [Act.put, List.setIfInBounds_toArray, List.set_cons_zero, List.set_cons_succ]
        refine takeD (i := 14) (some 54) (.pointer (some ⟨g2, b', none⟩)) rfl (by kernel_rfl) (by kernel_rfl) (by kernel_rfl) (by kernel_rfl) (fun _ _ _ h => h) (by assumption) (Or.inl ⟨by rfl, fun w hSw => by (try dsimp only at hSw); go_simp⟩) ?_
        simp only [Act.put, List.setIfInBounds_toArray, List.set_cons_zero, List.set_cons_succ]
        have fb2' : (w3.setCell ⟨g2, a', none⟩ (.slice Ab tb cb)).frozen? ⟨g2, b', none⟩ = false := (World.frozen?_setCell _ _ _ _).trans fb2
        obtain ⟨vb2, zb2'⟩ := cell?_setCell_some (w := w3) (p := ⟨g2, a', none⟩) (q := ⟨g2, b', none⟩) (x := .slice Ab tb cb) zb
        refine wpAnyH_ready (rs := [15]) (by kernel_rfl) (by simp) (AllReadyH.cons rfl (fun K hK => ?_) AllReadyH.nil)
        go_simp
        have HHeld := trivial
        refine hK.out _ _ HHeld (fun _ => ?_)
        clear hK K
        try simp only [Act.put, List.setIfInBounds_toArray, List.set_cons_zero, List.set_cons_succ]
        refine wpAnyH_done (by kernel_rfl) ?_ _
        obtain ⟨X, hX⟩ : ∃ X, X = ((w3.setCell ⟨g2, a', none⟩ (.slice Ab tb cb)).setCell ⟨g2, b', none⟩ (.slice Aa ta ca)).drew := ⟨_, rfl⟩
        have PX := Lib.hid (show OIIu X w1.heap.size w2.heap.size (.slice (some ⟨g2, 0, none⟩) t.length c2) (swapL us a' b' undef) (swapL t a' b' []) by rw [hX]; exact P2.out)
        have O3X : OIIu X w2.heap.size w3.heap.size (.slice (some ⟨g3, 0, none⟩) cuts.length c3) vs cuts := by
          rw [hX]
          have hkk : ∀ x, w2.heap.size ≤ x → ((w3.setCell ⟨g2, a', none⟩ (.slice Ab tb cb)).setCell ⟨g2, b', none⟩ (.slice Aa ta ca)).heap[x]? = w3.heap[x]? := fun x hx =>
            (Below.heap_setCell _ _ _ _ (by have := HG2.out; show x ≠ g2; omega)).trans (Below.heap_setCell _ _ _ _ (by have := HG2.out; show x ≠ g2; omega))
          obtain ⟨k1, k2, k3, k4⟩ := HO3.out
          exact ⟨k1, ⟨k2.1.same fun x hx => hkk x (k2.1.lt x hx).1, k2.2⟩, fun j hj => by obtain ⟨u, a, b⟩ := k3 j hj; exact ⟨u, a, b.1.same fun x hx => hkk x (b.1.lt x hx).1, b.2⟩, k4⟩
        have KX := Lib.hid (show Below w0.heap.size w0 X by
          rw [hX]; exact belowD ((K3.out.setCell (p := ⟨g2, a', none⟩) (by have := HS.out; have := HG2.out; show w0.heap.size ≤ g2; omega) _).setCell (p := ⟨g2, b', none⟩) (by have := HS.out; have := HG2.out; show w0.heap.size ≤ g2; omega) _) 1)
        have HXS := Lib.hid (show X.heap.size = w3.heap.size by rw [hX]; simp)
        rw [← hX]
        clear hX fb2' zb2' fa2 fb2 za zb
        obtain ⟨g3a, g3b, fa3, Ba, dua, va, ya, _, _⟩ := OIIu.row O3X HAL.out.2.2.1
        obtain ⟨_, _, fb3, Bb, dub, vb, yb, _, _⟩ := OIIu.row O3X HAL.out.2.2.2
        have P3 := Lib.hid (OIIu.swap O3X HT.out.2.symm HAL.out.2.2.1 HAL.out.2.2.2)
        have kc := HAL.out.2.2.1; have kd := HAL.out.2.2.2
        obtain ⟨ua, hua⟩ : ∃ n, n = (cuts[a']'kc).length := ⟨_, rfl⟩
        obtain ⟨ub, hub⟩ : ∃ n, n = (cuts[b']'kd).length := ⟨_, rfl⟩
        rw [← hua] at ya va; rw [← hub] at yb vb
        have HU3 := Lib.hid (show vs.getD a' undef = .slice Ba ua dua ∧ vs.getD b' undef = .slice Bb ub dub by
          rw [List.getD_eq_getElem?_getD, va, List.getD_eq_getElem?_getD, vb]; exact ⟨rfl, rfl⟩)
        rw [HU3.out.1, HU3.out.2] at P3
        have HG3 := Lib.hid (And.intro g3a g3b)
        clear hua hub va vb kc kd g3a g3b O3X
        go_wp2_with fail
        refine wp_region_held_drew (S := (fun _ => True)) (by kernel_rfl) (trivial) (fun hHeld => ?_)
        refine takeD (i := 0) (some 55) (.slice (some ⟨g3, 0, none⟩) cuts.length c3) rfl (by kernel_rfl) (by kernel_rfl) (by kernel_rfl) (by kernel_rfl) (fun _ _ _ h => h) (by assumption) (Or.inl ⟨by rfl, fun w hSw => by (try dsimp only at hSw); go_simp⟩) ?_
        simp only [Act.put, List.setIfInBounds_toArray, List.set_cons_zero, List.set_cons_succ]
        refine takeD (i := 1) (some 56) (.int .i64 (a' : Int)) rfl (by kernel_rfl) (by kernel_rfl) (by kernel_rfl) (by kernel_rfl) (fun _ _ _ h => h) (by assumption) (Or.inl ⟨by rfl, fun w hSw => by (try dsimp only at hSw); go_simp⟩) ?_
        simp only [Act.put, List.setIfInBounds_toArray, List.set_cons_zero, List.set_cons_succ]
        refine takeD (i := 2) (some 57) (.slice (some ⟨g3, 0, none⟩) cuts.length c3) rfl (by kernel_rfl) (by kernel_rfl) (by kernel_rfl) (by kernel_rfl) (fun _ _ _ h => h) (by assumption) (Or.inl ⟨by rfl, fun w hSw => by (try dsimp only at hSw); go_simp⟩) ?_
        simp only [Act.put, List.setIfInBounds_toArray, List.set_cons_zero, List.set_cons_succ]
        refine takeD (i := 3) (some 58) (.int .i64 (b' : Int)) rfl (by kernel_rfl) (by kernel_rfl) (by kernel_rfl) (by kernel_rfl) (fun _ _ _ h => h) (by assumption) (Or.inl ⟨by rfl, fun w hSw => by (try dsimp only at hSw); go_simp⟩) ?_
        simp only [Act.put, List.setIfInBounds_toArray, List.set_cons_zero, List.set_cons_succ]
        refine takeD (i := 4) (some 59) (.slice (some ⟨g3, 0, none⟩) cuts.length c3) rfl (by kernel_rfl) (by kernel_rfl) (by kernel_rfl) (by kernel_rfl) (fun _ _ _ h => h) (by assumption) (Or.inl ⟨by rfl, fun w hSw => by (try dsimp only at hSw); go_simp⟩) ?_
        simp only [Act.put, List.setIfInBounds_toArray, List.set_cons_zero, List.set_cons_succ]
        refine takeD (i := 5) (some 60) (.int .i64 (b' : Int)) rfl (by kernel_rfl) (by kernel_rfl) (by kernel_rfl) (by kernel_rfl) (fun _ _ _ h => h) (by assumption) (Or.inl ⟨by rfl, fun w hSw => by (try dsimp only at hSw); go_simp⟩) ?_
        simp only [Act.put, List.setIfInBounds_toArray, List.set_cons_zero, List.set_cons_succ]
        refine takeD (i := 6) (some 61) (.pointer (some ⟨g3, b', none⟩)) rfl (by kernel_rfl) (by kernel_rfl) (by kernel_rfl) (by kernel_rfl) (fun _ _ _ h => h) (by assumption) (Or.inl ⟨by rfl, fun w hSw => by (try dsimp only at hSw); go_simp⟩) ?_
        simp only [Act.put, List.setIfInBounds_toArray, List.set_cons_zero, List.set_cons_succ]
        refine takeD (i := 8) (some 63) (.slice (some ⟨g3, 0, none⟩) cuts.length c3) rfl (by kernel_rfl) (by kernel_rfl) (by kernel_rfl) (by kernel_rfl) (fun _ _ _ h => h) (by assumption) (Or.inl ⟨by rfl, fun w hSw => by (try dsimp only at hSw); go_simp⟩) ?_
        simp only [Act.put, List.setIfInBounds_toArray, List.set_cons_zero, List.set_cons_succ]
        refine takeD (i := 9) (some 64) (.int .i64 (a' : Int)) rfl (by kernel_rfl) (by kernel_rfl) (by kernel_rfl) (by kernel_rfl) (fun _ _ _ h => h) (by assumption) (Or.inl ⟨by rfl, fun w hSw => by (try dsimp only at hSw); go_simp⟩) ?_
        simp only [Act.put, List.setIfInBounds_toArray, List.set_cons_zero, List.set_cons_succ]
        refine takeD (i := 10) (some 65) (.pointer (some ⟨g3, a', none⟩)) rfl (by kernel_rfl) (by kernel_rfl) (by kernel_rfl) (by kernel_rfl) (fun _ _ _ h => h) (by assumption) (Or.inl ⟨by rfl, fun w hSw => by (try dsimp only at hSw); go_simp⟩) ?_
        simp only [Act.put, List.setIfInBounds_toArray, List.set_cons_zero, List.set_cons_succ]
        refine wpAnyH_ready (rs := [7, 11]) (by kernel_rfl) (by simp) (AllReadyH.cons rfl (fun K hK => ?_) (AllReadyH.cons rfl (fun K hK => ?_) AllReadyH.nil))
        · go_simp
          have HHeld := trivial
          refine hK.out _ _ HHeld (fun _ => ?_)
          clear hK K
          try simp only [Act.put, List.setIfInBounds_toArray, List.set_cons_zero, List.set_cons_succ]
          refine wpAnyH_ready (rs := [11]) (by kernel_rfl) (by simp) (AllReadyH.cons rfl (fun K hK => ?_) AllReadyH.nil)
          go_simp
          have HHeld := trivial
          refine hK.out _ _ HHeld (fun _ => ?_)
          clear hK K
          try simp only [Act.put, List.setIfInBounds_toArray, List.set_cons_zero, List.set_cons_succ]
          refine takeD (i := 12) (some 67) (.pointer (some ⟨g3, a', none⟩)) rfl (by kernel_rfl) (by kernel_rfl) (by kernel_rfl) (by kernel_rfl) (fun _ _ _ h => h) (by assumption) (Or.inl ⟨by rfl, fun w hSw => by (try dsimp only at hSw); go_simp⟩) ?_
          simp only [Act.put, List.setIfInBounds_toArray, List.set_cons_zero, List.set_cons_succ]
          refine wpAnyH_ready (rs := [13]) (by kernel_rfl) (by simp) (AllReadyH.cons rfl (fun K hK => ?_) AllReadyH.nil)
          go_simp
          have HHeld := trivial
          refine hK.out _ _ HHeld (fun _ => ?_)
          clear hK K
          try simp only [Act.put, List.setIfInBounds_toArray, List.set_cons_zero, List.set_cons_succ]
          refine takeD (i := 14) (some 68) (.pointer (some ⟨g3, b', none⟩)) rfl (by kernel_rfl) (by kernel_rfl) (by kernel_rfl) (by kernel_rfl) (fun _ _ _ h => h) (by assumption) (Or.inl ⟨by rfl, fun w hSw => by (try dsimp only at hSw); go_simp⟩) ?_
          simp only [Act.put, List.setIfInBounds_toArray, List.set_cons_zero, List.set_cons_succ]
          have fb3' : (X.setCell ⟨g3, a', none⟩ (.slice Bb ub dub)).frozen? ⟨g3, b', none⟩ = false := (World.frozen?_setCell _ _ _ _).trans fb3
          obtain ⟨vb3, zb3'⟩ := cell?_setCell_some (w := X) (p := ⟨g3, a', none⟩) (q := ⟨g3, b', none⟩) (x := .slice Bb ub dub) yb
          refine wpAnyH_ready (rs := [15]) (by kernel_rfl) (by simp) (AllReadyH.cons rfl (fun K hK => ?_) AllReadyH.nil)
          go_simp
          have HHeld := trivial
          refine hK.out _ _ HHeld (fun _ => ?_)
          clear hK K
          try simp only [Act.put, List.setIfInBounds_toArray, List.set_cons_zero, List.set_cons_succ]
          refine wpAnyH_done (by kernel_rfl) ?_ _
          obtain ⟨Y, hY⟩ : ∃ Y, Y = ((X.setCell ⟨g3, a', none⟩ (.slice Bb ub dub)).setCell ⟨g3, b', none⟩ (.slice Ba ua dua)).drew := ⟨_, rfl⟩
          have PY := Lib.hid (show OIIu Y w2.heap.size w3.heap.size (.slice (some ⟨g3, 0, none⟩) cuts.length c3) (swapL vs a' b' undef) (swapL cuts a' b' []) by rw [hY]; exact P3.out)
          have TY := Lib.hid (show OII Y w1.heap.size w2.heap.size (.slice (some ⟨g2, 0, none⟩) t.length c2) (swapL t a' b' []) by
            rw [hY]; exact OII.setOut (.inr HG3.out.1) (OII.setOut (w := X) (.inr HG3.out.1) PX.out.ex))
          have KY := Lib.hid (show Below w0.heap.size w0 Y by
            rw [hY]; exact belowD ((KX.out.setCell (p := ⟨g3, a', none⟩) (by have := HS.out; have := HG3.out; show w0.heap.size ≤ g3; omega) _).setCell (p := ⟨g3, b', none⟩) (by have := HS.out; have := HG3.out; show w0.heap.size ≤ g3; omega) _) 1)
          have HYS := Lib.hid (show Y.heap.size = w3.heap.size by rw [hY]; simp; exact HXS.out)
          rw [← hY]
          clear hY fb3' zb3' fa3 fb3 ya yb
          obtain ⟨q0, q1, q2, q3, q4, q5, _⟩ := HBX.out.below KY.out
          have lb := (KY.out.block (w.heap.size + 1) (by omega)).trans HBK.out
          have l0 : ∀ i, i < 6 → (Y.cell? ⟨w.heap.size + 1, i, none⟩).isSome = true ∧ Y.frozen? ⟨w.heap.size + 1, i, none⟩ = false := by
            intro i hi
            have : i = 0 ∨ i = 1 ∨ i = 2 ∨ i = 3 ∨ i = 4 ∨ i = 5 := by omega
            rcases this with e | e | e | e | e | e <;> subst e <;> simp [World.cell?, World.frozen?, lb]
          have z0 : Y.cell? ⟨w.heap.size + 1, 0, none⟩ = some (.int .i64 0) := by simp [World.cell?, lb]
          have z1 : Y.cell? ⟨w.heap.size + 1, 1, none⟩ = some (.int .i64 0) := by simp [World.cell?, lb]
          have z2 : Y.cell? ⟨w.heap.size + 1, 2, none⟩ = some (.int .i64 0) := by simp [World.cell?, lb]
          have z3 : Y.cell? ⟨w.heap.size + 1, 3, none⟩ = some (.int .i64 0) := by simp [World.cell?, lb]
          have z4 : Y.cell? ⟨w.heap.size + 1, 4, none⟩ = some (.int .i64 0) := by simp [World.cell?, lb]
          have z5 : Y.cell? ⟨w.heap.size + 1, 5, none⟩ = some (.slice none 0 0) := by simp [World.cell?, lb]
          have f0 := (l0 0 (by omega)).2; have f1 := (l0 1 (by omega)).2; have f2 := (l0 2 (by omega)).2; have f3 := (l0 3 (by omega)).2; have f4 := (l0 4 (by omega)).2; have f5 := (l0 5 (by omega)).2
          clear l0
          have hyz : w.heap.size < Y.heap.size := by have := KY.out.size; omega
          go_wp2_with fail
          (try simp only [Exit.inBlock, Exit.then])
          refine bodyPost_ret (results_cell_row_tmp2 rfl _ _ (w.heap.size + 1) 45 #[.int .i64 m.c, .int .i64 m.d, .int .i64 m.s, .int .i64 m.a, .int .i64 m.l, .slice (some ⟨g2, 0, none⟩) t.length c2] (0, 0) _ (by rfl) (by simp [World.setCell, Array.getElem?_modify, lb]) Tryz.underlying45 rfl (by kernel_rfl)) rfl ?_
          have HN2 := HN.out
          rw [Int.toNat_natCast, Int.toNat_natCast] at HN2
          have HSS := HS.out
          have HYY := HYS.out
          refine resSwap_yes' HN2 (mid := w2.heap.size) (by rw [swapL_length]) (by rw [swapL_length]) hc2 hc3 ?_ ?_ (by omega) (by simp only [World.size_setCell]; omega) ?_
          · exact (OII.setSix (g := w.heap.size + 1) (by omega) TY.out _ _ _ _ _ _).wide (by omega) (Nat.le_refl _)
          · simp only [World.size_setCell]
            rw [HYY]
            exact OII.setSix (g := w.heap.size + 1) (by omega) PY.out.ex _ _ _ _ _ _
          · exact below_six (B0.trans (KY.out.mono B0.size)) (g := w.heap.size + 1) (by omega) _ _ _ _ _ _
        · go_simp
          have HHeld := trivial
          refine hK.out _ _ HHeld (fun _ => ?_)
          clear hK K
          try simp only [Act.put, List.setIfInBounds_toArray, List.set_cons_zero, List.set_cons_succ]
          refine wpAnyH_ready (rs := [7]) (by kernel_rfl) (by simp) (AllReadyH.cons rfl (fun K hK => ?_) AllReadyH.nil)
          go_simp
          have HHeld := trivial
          refine hK.out _ _ HHeld (fun _ => ?_)
          clear hK K
          try simp only [Act.put, List.setIfInBounds_toArray, List.set_cons_zero, List.set_cons_succ]
          refine takeD (i := 12) (some 67) (.pointer (some ⟨g3, a', none⟩)) rfl (by kernel_rfl) (by kernel_rfl) (by kernel_rfl) (by kernel_rfl) (fun _ _ _ h => h) (by assumption) (Or.inl ⟨by rfl, fun w hSw => by (try dsimp only at hSw); go_simp⟩) ?_
          simp only [Act.put, List.setIfInBounds_toArray, List.set_cons_zero, List.set_cons_succ]
          refine wpAnyH_ready (rs := [13]) (by kernel_rfl) (by simp) (AllReadyH.cons rfl (fun K hK => ?_) AllReadyH.nil)
          go_simp
          have HHeld := trivial
          refine hK.out _ _ HHeld (fun _ => ?_)
          clear hK K
          try simp only [Act.put, List.setIfInBounds_toArray, List.set_cons_zero, List.set_cons_succ]
          refine takeD (i := 14) (some 68) (.pointer (some ⟨g3, b', none⟩)) rfl (by kernel_rfl) (by kernel_rfl) (by kernel_rfl) (by kernel_rfl) (fun _ _ _ h => h) (by assumption) (Or.inl ⟨by rfl, fun w hSw => by (try dsimp only at hSw); go_simp⟩) ?_
          simp only [Act.put, List.setIfInBounds_toArray, List.set_cons_zero, List.set_cons_succ]
          have fb3' : (X.setCell ⟨g3, a', none⟩ (.slice Bb ub dub)).frozen? ⟨g3, b', none⟩ = false := (World.frozen?_setCell _ _ _ _).trans fb3
          obtain ⟨vb3, zb3'⟩ := cell?_setCell_some (w := X) (p := ⟨g3, a', none⟩) (q := ⟨g3, b', none⟩) (x := .slice Bb ub dub) yb
          refine wpAnyH_ready (rs := [15]) (by kernel_rfl) (by simp) (AllReadyH.cons rfl (fun K hK => ?_) AllReadyH.nil)
          go_simp
          have HHeld := trivial
          refine hK.out _ _ HHeld (fun _ => ?_)
          clear hK K
          try simp only [Act.put, List.setIfInBounds_toArray, List.set_cons_zero, List.set_cons_succ]
          refine wpAnyH_done (by kernel_rfl) ?_ _
          obtain ⟨Y, hY⟩ : ∃ Y, Y = ((X.setCell ⟨g3, a', none⟩ (.slice Bb ub dub)).setCell ⟨g3, b', none⟩ (.slice Ba ua dua)).drew := ⟨_, rfl⟩
          have PY := Lib.hid (show OIIu Y w2.heap.size w3.heap.size (.slice (some ⟨g3, 0, none⟩) cuts.length c3) (swapL vs a' b' undef) (swapL cuts a' b' []) by rw [hY]; exact P3.out)
          have TY := Lib.hid (show OII Y w1.heap.size w2.heap.size (.slice (some ⟨g2, 0, none⟩) t.length c2) (swapL t a' b' []) by
            rw [hY]; exact OII.setOut (.inr HG3.out.1) (OII.setOut (w := X) (.inr HG3.out.1) PX.out.ex))
          have KY := Lib.hid (show Below w0.heap.size w0 Y by
            rw [hY]; exact belowD ((KX.out.setCell (p := ⟨g3, a', none⟩) (by have := HS.out; have := HG3.out; show w0.heap.size ≤ g3; omega) _).setCell (p := ⟨g3, b', none⟩) (by have := HS.out; have := HG3.out; show w0.heap.size ≤ g3; omega) _) 1)
          have HYS := Lib.hid (show Y.heap.size = w3.heap.size by rw [hY]; simp; exact HXS.out)
          rw [← hY]
          clear hY fb3' zb3' fa3 fb3 ya yb
          obtain ⟨q0, q1, q2, q3, q4, q5, _⟩ := HBX.out.below KY.out
          have lb := (KY.out.block (w.heap.size + 1) (by omega)).trans HBK.out
          have l0 : ∀ i, i < 6 → (Y.cell? ⟨w.heap.size + 1, i, none⟩).isSome = true ∧ Y.frozen? ⟨w.heap.size + 1, i, none⟩ = false := by
            intro i hi
            have : i = 0 ∨ i = 1 ∨ i = 2 ∨ i = 3 ∨ i = 4 ∨ i = 5 := by omega
            rcases this with e | e | e | e | e | e <;> subst e <;> simp [World.cell?, World.frozen?, lb]
          have z0 : Y.cell? ⟨w.heap.size + 1, 0, none⟩ = some (.int .i64 0) := by simp [World.cell?, lb]
          have z1 : Y.cell? ⟨w.heap.size + 1, 1, none⟩ = some (.int .i64 0) := by simp [World.cell?, lb]
          have z2 : Y.cell? ⟨w.heap.size + 1, 2, none⟩ = some (.int .i64 0) := by simp [World.cell?, lb]
          have z3 : Y.cell? ⟨w.heap.size + 1, 3, none⟩ = some (.int .i64 0) := by simp [World.cell?, lb]
          have z4 : Y.cell? ⟨w.heap.size + 1, 4, none⟩ = some (.int .i64 0) := by simp [World.cell?, lb]
          have z5 : Y.cell? ⟨w.heap.size + 1, 5, none⟩ = some (.slice none 0 0) := by simp [World.cell?, lb]
          have f0 := (l0 0 (by omega)).2; have f1 := (l0 1 (by omega)).2; have f2 := (l0 2 (by omega)).2; have f3 := (l0 3 (by omega)).2; have f4 := (l0 4 (by omega)).2; have f5 := (l0 5 (by omega)).2
          clear l0
          have hyz : w.heap.size < Y.heap.size := by have := KY.out.size; omega
          go_wp2_with fail
          (try simp only [Exit.inBlock, Exit.then])
          refine bodyPost_ret (results_cell_row_tmp2 rfl _ _ (w.heap.size + 1) 45 #[.int .i64 m.c, .int .i64 m.d, .int .i64 m.s, .int .i64 m.a, .int .i64 m.l, .slice (some ⟨g2, 0, none⟩) t.length c2] (0, 0) _ (by rfl) (by simp [World.setCell, Array.getElem?_modify, lb]) Tryz.underlying45 rfl (by kernel_rfl)) rfl ?_
          have HN2 := HN.out
          rw [Int.toNat_natCast, Int.toNat_natCast] at HN2
          have HSS := HS.out
          have HYY := HYS.out
          refine resSwap_yes' HN2 (mid := w2.heap.size) (by rw [swapL_length]) (by rw [swapL_length]) hc2 hc3 ?_ ?_ (by omega) (by simp only [World.size_setCell]; omega) ?_
          · exact (OII.setSix (g := w.heap.size + 1) (by omega) TY.out _ _ _ _ _ _).wide (by omega) (Nat.le_refl _)
          · simp only [World.size_setCell]
            rw [HYY]
            exact OII.setSix (g := w.heap.size + 1) (by omega) PY.out.ex _ _ _ _ _ _
          · exact below_six (B0.trans (KY.out.mono B0.size)) (g := w.heap.size + 1) (by omega) _ _ _ _ _ _
end Go.Proofs.YtdedajohkdbdkaaGreat
