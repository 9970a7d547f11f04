/- Contract of eachGhost. -/
import Derived.Test.YtdedajohkdbdkaaGreatFFrees
namespace Go.Proofs.YtdedajohkdbdkaaGreat
set_option linter.unusedVariables false
open Go.RowKit
def visNot {σ : Type} (al : List (List Int)) (vis : σ → List Int → Bool × σ) (s : σ) (k : List Int) : Bool × σ := if hasL al k = true then (true, s) else vis s k
theorem runVis_not {σ : Type} (al : List (List Int)) (vis : σ → List Int → Bool × σ) : ∀ (ks : List (List Int)) (s : σ), runVis (visNot al vis) s ks = runVis vis s (ks.filter fun k => !hasL al k)
  | [], s => rfl
  | k :: ks, s => by
    rw [List.filter_cons, runVis]
    cases h : hasL al k with
    | true =>
      have e : visNot al vis s k = (true, s) := by unfold visNot; rw [if_pos h]
      rw [e]
      simp only [Bool.not_true, Bool.false_eq_true, if_false, if_true]
      exact runVis_not al vis ks s
    | false =>
      have e : visNot al vis s k = vis s k := by unfold visNot; rw [if_neg (by rw [h]; simp)]
      rw [e]
      simp only [Bool.not_false, if_true]
      rw [runVis]
      split
      · exact runVis_not al vis ks _
      · rfl
set_option maxRecDepth 100000 in
set_option maxHeartbeats 2000000 in
theorem eachGhostClo_any {σ : Type} (g g2 : Nat) (kv : FuncId) (capV : Array Value) (vis : σ → List Int → Bool × σ) (R : σ → World → (Nat → Prop) → Prop) (L : σ → Prop) (P : List Int → Prop) (w0 : World) (F : Nat → Prop) (hv : VisOK kv capV vis R L P w0 F)
    (A : Option Addr) (c : Nat) (al : List (List Int)) (s : σ) (w : World) (G : Nat → Prop) (K : Option Addr) (d : Nat) (key : List Int) (hL : L s) (hk : KeepF F w0 w) (hR : R s w G) (hG : ∀ x, G x → F x ∨ w0.heap.size ≤ x) (hp : P key) (hc : key.length ≤ d) (hr : RI w K key) (hKG : ∀ b o, K = some ⟨b, o, none⟩ → ¬ G b)
    (hal : RII w A al) (c1 : w.cell? ⟨g, 0, none⟩ = some (.slice A al.length c)) (c2 : w.cell? ⟨g2, 0, none⟩ = some (.func (.func kv) #[] capV)) :
    Calls Tryz.prog 107 #[.slice K key.length d, .pointer (some ⟨g, 0, none⟩), .pointer (some ⟨g2, 0, none⟩)] w (VisPost (visNot al vis) R s key w G) := by
  have hent := hv.ent
  have HC := contains_any A K c d al key w hal hr
  have HV := Lib.hid hv
  have HR := Lib.hid hr
  have HRR := Lib.hid hR
  have HKK := Lib.hid hk; have HGG := Lib.hid hG; have HKG := Lib.hid hKG
  clear hv hr hR hk hG hKG hal
  unfold Enters at hent
  cases hh : hasL al key with
  | true =>
    have HN := Lib.hid (show visNot al vis s key = (true, s) by unfold visNot; rw [if_pos hh])
    rw [hh] at HC
    have HCC := Lib.hid HC; clear HC
    go_enter Tryz.func107, Tryz.ntmps107
    go_wp2_with fail
    refine HCC.out.mono ?_
    rintro e w1 ⟨rfl, b1⟩
    go_wp2_with fail
    go_ret
    unfold VisPost
    rw [HN.out]
    exact ⟨rfl, G, HV.out.fr _ _ _ _ HRR.out (KeepF.ofBelow b1), KeepF.ofBelow b1, fun x hx => .inl hx⟩
  | false =>
    have HN := Lib.hid (show visNot al vis s key = vis s key by unfold visNot; rw [if_neg (by rw [hh]; simp)])
    rw [hh] at HC
    have HCC := Lib.hid HC; clear HC
    go_enter Tryz.func107, Tryz.ntmps107
    go_wp2_with fail
    refine HCC.out.mono ?_
    rintro e w1 ⟨rfl, b1⟩
    have p2 := cell_in b1 (World.block_lt_of_cell? w _ c2) c2
    have HVC := Lib.hid (HV.out.call s w1 G K d key hL (HKK.out.trans (KeepF.ofBelow (F := fun _ => False) b1) (fun _ _ e => e.elim)) (HV.out.fr _ _ _ _ HRR.out (KeepF.ofBelow b1)) HGG.out hp hc (RI.below HR.out b1) HKG.out)
    go_wp2_with fail
    refine HVC.out.mono ?_
    rintro e w2 ⟨rfl, G', h1, h2, h3⟩
    go_wp2_with fail
    go_ret
    unfold VisPost
    rw [HN.out]
    exact ⟨rfl, G', h1, (KeepF.ofBelow (F := G) b1).trans h2 (fun _ _ e => e), fun x hx => by rcases h3 x hx with h | h; exact .inl h; exact .inr (by have := b1.size; omega)⟩
theorem visNot_live {σ : Type} {al : List (List Int)} {vis : σ → List Int → Bool × σ} {L : σ → Prop} {P : List Int → Prop} (h : ∀ s key, L s → P key → (vis s key).1 = true → L (vis s key).2) (s : σ) (key : List Int) (hl : L s) (hp : P key) (e : (visNot al vis s key).1 = true) : L (visNot al vis s key).2 := by
  unfold visNot at *
  split
  · exact hl
  · rename_i hh; rw [if_neg hh] at e; exact h s key hl hp e
set_option maxRecDepth 100000 in
set_option maxHeartbeats 4000000 in
theorem eachGhost_any {σ : Type} (m : Mk) (D : Option Addr) (q : Nat) (l : List (List Int)) (A : Option Addr) (c : Nat) (al : List (List Int)) (kv : FuncId) (capV : Array Value) (vis : σ → List Int → Bool × σ) (R : σ → World → (Nat → Prop) → Prop) (L : σ → Prop) (w : World) (F : Nat → Prop) (s : σ)
    (hl : isLockF m l = true) (hv : VisOK kv capV vis R L (fun k => k ∈ openers m l) w F) (hD : ∀ w', KeepF F w w' → RII w' D l) (hA : ∀ w', KeepF F w w' → RII w' A al) (hs : R s w F) (hL : L s) :
    Calls Tryz.prog 51 #[.agg #[.int .i64 m.c, .int .i64 m.d, .int .i64 m.s, .int .i64 m.a, .int .i64 m.l], .agg #[.slice D l.length q], .slice A al.length c, .func (.func kv) #[] capV] w fun e w' => e = .returned (.tuple #[]) ∧ ∃ G, R (runVis vis s (ghosts m l al)).2 w' G ∧ KeepF F w w' ∧ ∀ g, G g → F g ∨ w.heap.size ≤ g := by
  have hm := isLock_mk hl
  have hlt := hv.lt s w F hs
  obtain ⟨w1, hw1⟩ : ∃ w1, w1 = (((w.alloc (.cells #[.int .i64 m.c, .int .i64 m.d, .int .i64 m.s, .int .i64 m.a, .int .i64 m.l] 25)).alloc (.cells #[.slice D l.length q] 28)).alloc (.cells #[.slice A al.length c] 26)).alloc (.cells #[.func (.func kv) #[] capV] 81) := ⟨_, rfl⟩
  have hz1 : w1.heap.size = w.heap.size + 4 := by rw [hw1]; simp
  have k1 : ∀ F, KeepF F w w1 := fun F => by rw [hw1]; exact ((((KeepF.refl _ _).alloc _).alloc _).alloc _).alloc _
  have c2 : w1.cell? ⟨w.heap.size + 2, 0, none⟩ = some (.slice A al.length c) := by
    rw [hw1, World.cell?_alloc_lt _ _ _ (by simp only [World.size_alloc]; omega), World.cell?_alloc_at (hn := by simp)]; rfl
  have c3 : w1.cell? ⟨w.heap.size + 3, 0, none⟩ = some (.func (.func kv) #[] capV) := by
    rw [hw1, World.cell?_alloc_at (hn := by simp)]; rfl
  have bl : BoxC w1 (w.heap.size + 1) 0 [.slice D l.length q] := by
    have : BoxC ((w.alloc (.cells #[.int .i64 m.c, .int .i64 m.d, .int .i64 m.s, .int .i64 m.a, .int .i64 m.l] 25)).alloc (.cells #[.slice D l.length q] 28)) (w.heap.size + 1) 0 [.slice D l.length q] := by simp [BoxC, Go.World.cell?_alloc_at]
    rw [hw1]
    exact (this.below ((Below.refl _ _).alloc (Nat.le_refl _) _)).below ((Below.refl _ _).alloc (Nat.le_refl _) _)
  have bm : BoxC w1 w.heap.size 0 [.int .i64 m.c, .int .i64 m.d, .int .i64 m.s, .int .i64 m.a, .int .i64 m.l] := by
    have : BoxC (w.alloc (.cells #[.int .i64 m.c, .int .i64 m.d, .int .i64 m.s, .int .i64 m.a, .int .i64 m.l] 25)) w.heap.size 0 [.int .i64 m.c, .int .i64 m.d, .int .i64 m.s, .int .i64 m.a, .int .i64 m.l] := by simp [BoxC, Go.World.cell?_alloc_at]
    rw [hw1]
    exact ((this.below ((Below.refl _ _).alloc (Nat.le_refl _) _)).below ((Below.refl _ _).alloc (Nat.le_refl _) _)).below ((Below.refl _ _).alloc (Nat.le_refl _) _)
  have KS := Lib.hid (show ∀ w' : World, Below w1.heap.size w1 w' → ((w'.cell? ⟨w.heap.size, 0, none⟩ = some (.int .i64 m.c) ∧ w'.cell? ⟨w.heap.size, 1, none⟩ = some (.int .i64 m.d) ∧ w'.cell? ⟨w.heap.size, 2, none⟩ = some (.int .i64 m.s) ∧ w'.cell? ⟨w.heap.size, 3, none⟩ = some (.int .i64 m.a) ∧ w'.cell? ⟨w.heap.size, 4, none⟩ = some (.int .i64 m.l) ∧ True) ∧ (w'.cell? ⟨w.heap.size + 1, 0, none⟩ = some (.slice D l.length q) ∧ True)) from fun w' hw => ⟨bm.below hw, bl.below hw⟩)
  obtain ⟨w2, hw2⟩ : ∃ w2, w2 = w1.drew.alloc (.cells #[.slice D l.length q] 28) := ⟨_, rfl⟩
  have b2 : Below w1.heap.size w1 w2 := by rw [hw2]; exact (belowDrew0 w1).alloc (Nat.le_refl _) _
  have hz2 : w2.heap.size = w.heap.size + 5 := by rw [hw2]; simp; omega
  have k2 : ∀ F, KeepF F w w2 := fun F => (k1 F).trans (KeepF.ofBelow (F := F) b2) (fun _ _ e => e)
  have c4 : w2.cell? ⟨w.heap.size + 4, 0, none⟩ = some (.slice D l.length q) := by rw [hw2, World.cell?_alloc_at (hn := by simp; omega)]; rfl
  have hFn : ∀ j, w.heap.size ≤ j → ¬ F j := fun j hj e => by have := hlt j e; omega
  have hAL : AlOK 114 #[.pointer (some ⟨w.heap.size + 4, 0, none⟩)] (frees l) m w2 F := ⟨enters Tryz.func114 (by kernel_rfl) rfl, fun w' hk ch d h1 _ _ =>
    freesClo_any (w.heap.size + 4) D q l ch d w' (hD w' ((k2 F).trans hk (fun _ _ e => e))) ((hk.cell (p := ⟨w.heap.size + 4, 0, none⟩) (by simp only; omega) (hFn _ (by simp only; omega))).trans c4) (by have := isLock_len hl; omega)⟩
  have hVO : VisOK 107 #[.pointer (some ⟨w.heap.size + 2, 0, none⟩), .pointer (some ⟨w.heap.size + 3, 0, none⟩)] (visNot al vis) R L (fun k => k ∈ keysG m (frees l) [] m.c.toNat [] false) w2 F :=
    ⟨enters Tryz.func107 (by kernel_rfl) rfl, fun s key h1 h2 h3 => visNot_live hv.live s key h1 h2 h3, hv.lt, hv.fr, fun s w' G K d key h1 hk hR hG hp hc hr hKG =>
      eachGhostClo_any (w.heap.size + 2) (w.heap.size + 3) kv capV vis R L _ w F hv A c al s w' G K d key h1 ((k2 F).trans hk (fun _ _ e => e)) hR (fun x hx => by rcases hG x hx with h | h; exact .inl h; exact .inr (by omega)) hp hc hr hKG (hA w' ((k2 F).trans hk (fun _ _ e => e)))
        ((hk.cell (p := ⟨w.heap.size + 2, 0, none⟩) (by simp only; omega) (hFn _ (by simp only; omega))).trans (cell_in b2 (by simp only; omega) c2)) ((hk.cell (p := ⟨w.heap.size + 3, 0, none⟩) (by simp only; omega) (hFn _ (by simp only; omega))).trans (cell_in b2 (by simp only; omega) c3))⟩
  have HK := Lib.hid (eachKey_any m hm 114 107 #[.pointer (some ⟨w.heap.size + 4, 0, none⟩)] #[.pointer (some ⟨w.heap.size + 2, 0, none⟩), .pointer (some ⟨w.heap.size + 3, 0, none⟩)] (visNot al vis) R L w2 F s (frees l) hVO hAL (hv.fr s w w2 F hs (k2 _)) hL)
  have HRN := Lib.hid (runVis_not al vis (keysG m (frees l) [] m.c.toNat [] false) s)
  have KS2 := Lib.hid (show ∀ w' : World, KeepF F w2 w' → ((w'.cell? ⟨w.heap.size, 0, none⟩ = some (.int .i64 m.c) ∧ w'.cell? ⟨w.heap.size, 1, none⟩ = some (.int .i64 m.d) ∧ w'.cell? ⟨w.heap.size, 2, none⟩ = some (.int .i64 m.s) ∧ w'.cell? ⟨w.heap.size, 3, none⟩ = some (.int .i64 m.a) ∧ w'.cell? ⟨w.heap.size, 4, none⟩ = some (.int .i64 m.l) ∧ True) ∧ (w'.cell? ⟨w.heap.size + 1, 0, none⟩ = some (.slice D l.length q) ∧ True)) from fun w' hk => ⟨(bm.below b2).keepF hk (by omega) (hFn _ (by omega)), (bl.below b2).keepF hk (by omega) (hFn _ (by omega))⟩)
  have HB2 := Lib.hid b2; have HK2 := Lib.hid k2
  have HW2 := Lib.hid hw2
  have e4 : w1.heap.size = w.heap.size + 4 := hz1
  clear hv hD hA hs hL hAL hVO b2 k2 k1 c2 c3 c4 hFn bl bm hlt hw2
  go_enter Tryz.func51, Tryz.ntmps51
  go_wp2_with fail
  rw [← hw1]
  clear hw1
  refine wp_region_held_drew (S := (fun w' => (w'.cell? ⟨w.heap.size, 0, none⟩ = some (.int .i64 m.c) ∧ w'.cell? ⟨w.heap.size, 1, none⟩ = some (.int .i64 m.d) ∧ w'.cell? ⟨w.heap.size, 2, none⟩ = some (.int .i64 m.s) ∧ w'.cell? ⟨w.heap.size, 3, none⟩ = some (.int .i64 m.a) ∧ w'.cell? ⟨w.heap.size, 4, none⟩ = some (.int .i64 m.l) ∧ True) ∧ (w'.cell? ⟨w.heap.size + 1, 0, none⟩ = some (.slice D l.length q) ∧ True))) (by kernel_rfl) (KS.out _ (belowDrew0 _)) (fun hHeld => ?_)
  refine takeD (i := 0) (some 8) (.agg #[.int .i64 m.c, .int .i64 m.d, .int .i64 m.s, .int .i64 m.a, .int .i64 m.l]) rfl (by kernel_rfl) (by kernel_rfl) (by kernel_rfl) (by kernel_rfl) (fun _ _ _ h => h) (by assumption) (Or.inl ⟨by rfl, fun w hSw => by (try dsimp only at hSw); go_simp⟩) ?_
  simp only [Act.put, List.setIfInBounds_toArray, List.set_cons_zero, List.set_cons_succ]
  refine takeD (i := 1) (some 9) (.agg #[.slice D l.length q]) rfl (by kernel_rfl) (by kernel_rfl) (by kernel_rfl) (by kernel_rfl) (fun _ _ _ h => h) (by assumption) (Or.inl ⟨by rfl, fun w hSw => by (try dsimp only at hSw); go_simp⟩) ?_
  simp only [Act.put, List.setIfInBounds_toArray, List.set_cons_zero, List.set_cons_succ]
  refine takeD (i := 3) (some 11) (.func (.func 107) #[] #[.pointer (some ⟨w.heap.size + 2, 0, none⟩), .pointer (some ⟨w.heap.size + 3, 0, none⟩)]) rfl (by kernel_rfl) (by kernel_rfl) (by kernel_rfl) (by kernel_rfl) (fun _ _ _ h => h) (by assumption) (Or.inl ⟨by rfl, fun w hSw => by (try dsimp only at hSw); go_simp⟩) ?_
  simp only [Act.put, List.setIfInBounds_toArray, List.set_cons_zero, List.set_cons_succ]
  refine wpAnyH_ready (rs := [2]) (by kernel_rfl) (by simp) (AllReadyH.cons rfl (fun K hK => ?_) AllReadyH.nil)
  go_simp
  refine (frees_any D q l _).mono ?_
  rintro e w3 ⟨rfl, hw3⟩
  rw [← HW2.out] at hw3
  subst hw3
  rw [show (w1.drew.heap.size) = w.heap.size + 4 from e4]
  have HHeld := KS.out _ HB2.out
  refine hK.out _ _ HHeld (fun _ => ?_)
  clear hK K
  try simp only [Act.put, List.setIfInBounds_toArray, List.set_cons_zero, List.set_cons_succ]
  refine wpAnyH_ready (rs := [4]) (by kernel_rfl) (by simp) (AllReadyH.cons rfl (fun K hK => ?_) AllReadyH.nil)
  go_simp
  refine HK.out.mono ?_
  rintro e w4 ⟨rfl, G, h1, h2, h3⟩
  have HH1 := Lib.hid h1; have HH2 := Lib.hid h2; have HH3 := Lib.hid h3
  clear h1 h2 h3
  have HHeld := KS2.out _ HH2.out
  refine hK.out _ _ HHeld (fun _ => ?_)
  clear hK K
  try simp only [Act.put, List.setIfInBounds_toArray, List.set_cons_zero, List.set_cons_succ]
  refine wpAnyH_done (by kernel_rfl) ?_ _
  go_wp2_with fail
  go_end0
  have h1 := HH1.out
  rw [HRN.out] at h1
  exact ⟨rfl, G, h1, (HK2.out F).trans HH2.out (fun _ _ e => e), fun x hx => by rcases HH3.out x hx with h | h; exact .inl h; exact .inr (by omega)⟩
end Go.Proofs.YtdedajohkdbdkaaGreat
