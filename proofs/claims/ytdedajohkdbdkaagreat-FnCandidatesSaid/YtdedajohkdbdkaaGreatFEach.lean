/- Contract of eachKey: all keys whose cuts are allowed are visited, in order. -/
import Derived.Test.YtdedajohkdbdkaaGreatEach
namespace Go.Proofs.YtdedajohkdbdkaaGreat
set_option linter.unusedVariables false
open Go.RowKit
/-- behind the closure of eachKey -/
def EKPost {σ : Type} (m : Mk) (Af : Option Addr) (nf cf : Nat) (va vv vc : Value) (R : σ → World → (Nat → Prop) → Prop) (w : World) (F : Nat → Prop) (key : List Int) (b : Bool) (s : σ) (e : Ending) (w' : World) : Prop :=
  e = .returned (.bool b) ∧ ∃ v G, EK m Af nf cf va vv vc R w F w' key v s G
theorem EK.open {σ : Type} {m : Mk} {Af : Option Addr} {nf cf : Nat} {va vv vc : Value} {R : σ → World → (Nat → Prop) → Prop} {w wr : World} {F : Nat → Prop} {key : List Int} {v : Value} {s : σ} {G : Nat → Prop} (h : EK m Af nf cf va vv vc R w F wr key v s G) :
    ∃ A c, v = .slice A key.length c ∧ key.length ≤ c ∧ RI wr A key ∧ ∀ b o, A = some ⟨b, o, none⟩ → ¬ G b := by
  obtain ⟨A, c, rfl, hc, hr⟩ := h.own.reads
  rw [ints_length] at *
  exact ⟨A, c, rfl, hc, hr, fun b o e => by subst e; exact (h.row b rfl).1⟩
/-- the cells that the closure reads -/
def EKS (m : Mk) (vf va vv vc vk : Value) (N : Nat) (w' : World) : Prop :=
  (w'.cell? ⟨N, 0, none⟩ = some (.int .i64 m.c) ∧ w'.cell? ⟨N, 1, none⟩ = some (.int .i64 m.d) ∧ w'.cell? ⟨N, 2, none⟩ = some (.int .i64 m.s) ∧ w'.cell? ⟨N, 3, none⟩ = some (.int .i64 m.a) ∧ w'.cell? ⟨N, 4, none⟩ = some (.int .i64 m.l) ∧ True) ∧
  w'.cell? ⟨N + 1, 0, none⟩ = some vf ∧ w'.cell? ⟨N + 2, 0, none⟩ = some va ∧ w'.cell? ⟨N + 3, 0, none⟩ = some vv ∧ w'.cell? ⟨N + 5, 0, none⟩ = some vk ∧ w'.cell? ⟨N + 6, 0, none⟩ = some vc
theorem EK.cells {σ : Type} {m : Mk} {Af : Option Addr} {nf cf : Nat} {va vv vc : Value} {R : σ → World → (Nat → Prop) → Prop} {w wr : World} {F : Nat → Prop} {key : List Int} {v : Value} {s : σ} {G : Nat → Prop} (h : EK m Af nf cf va vv vc R w F wr key v s G) :
    EKS m (.slice Af nf cf) va vv vc v w.heap.size wr := ⟨h.cM, h.cF, h.cA, h.cV, h.cK, h.cC⟩
/-- the same, but for the key -/
def EKT (m : Mk) (vf va vv vc : Value) (N : Nat) (w' : World) : Prop :=
  (w'.cell? ⟨N, 0, none⟩ = some (.int .i64 m.c) ∧ w'.cell? ⟨N, 1, none⟩ = some (.int .i64 m.d) ∧ w'.cell? ⟨N, 2, none⟩ = some (.int .i64 m.s) ∧ w'.cell? ⟨N, 3, none⟩ = some (.int .i64 m.a) ∧ w'.cell? ⟨N, 4, none⟩ = some (.int .i64 m.l) ∧ True) ∧
  w'.cell? ⟨N + 1, 0, none⟩ = some vf ∧ w'.cell? ⟨N + 2, 0, none⟩ = some va ∧ w'.cell? ⟨N + 3, 0, none⟩ = some vv ∧ w'.cell? ⟨N + 6, 0, none⟩ = some vc
theorem EK.cellsT {σ : Type} {m : Mk} {Af : Option Addr} {nf cf : Nat} {va vv vc : Value} {R : σ → World → (Nat → Prop) → Prop} {w wr : World} {F : Nat → Prop} {key : List Int} {v : Value} {s : σ} {G : Nat → Prop} (h : EK m Af nf cf va vv vc R w F wr key v s G) :
    EKT m (.slice Af nf cf) va vv vc w.heap.size wr := ⟨h.cM, h.cF, h.cA, h.cV, h.cC⟩
/-- the key's cut at its end, as the closure reads it -/
def EKL (m : Mk) (vf va vv vc vk : Value) (N : Nat) (g i : Nat) (x : Int) (w' : World) : Prop := EKS m vf va vv vc vk N w' ∧ w'.cell? ⟨g, i, none⟩ = some (.int .i64 x)
set_option maxRecDepth 100000 in
set_option maxHeartbeats 4000000 in
theorem eachZero_any {σ : Type} (m : Mk) (Af : Option Addr) (nf cf : Nat) (va vc : Value) (kv : FuncId) (capV : Array Value) (vis : σ → List Int → Bool × σ) (R : σ → World → (Nat → Prop) → Prop) (L : σ → Prop) (P : List Int → Prop) (w : World) (F : Nat → Prop)
    (hv : VisOK kv capV vis R L P w F) (al : Nat → Int → Bool) (fr : List Int) (key : List Int) (tight : Bool) (wr : World) (v : Value) (s : σ) (G : Nat → Prop) (hkey : (key.length : Int) = m.c)
    (hE : EK m Af nf cf va (.func (.func kv) #[] capV) vc R w F wr key v s G) (hL : L s) (hP : ∀ x, x ∈ keysG m al fr 0 key tight → P x) (b : Bool) (s' : σ) (hrun : runVis vis s (keysG m al fr 0 key tight) = (b, s')) :
    Calls Tryz.prog 148 #[.bool tight, .pointer (some ⟨w.heap.size + 5, 0, none⟩), .pointer (some ⟨w.heap.size, 0, none⟩), .pointer (some ⟨w.heap.size + 3, 0, none⟩), .pointer (some ⟨w.heap.size + 1, 0, none⟩), .pointer (some ⟨w.heap.size + 2, 0, none⟩), .pointer (some ⟨w.heap.size + 6, 0, none⟩)] wr
      (EKPost m Af nf cf va (.func (.func kv) #[] capV) vc R w F key b s') := by
  obtain ⟨A, c, rfl, hc, hr, hG⟩ := hE.open
  have hent := hv.ent
  have hle := hr.le
  have HE := Lib.hid hE
  have HV := Lib.hid hv
  have CS := Lib.hid (show ∀ w' G' s', EK m Af nf cf va (.func (.func kv) #[] capV) vc R w F w' key (.slice A key.length c) s' G' → EKS m (.slice Af nf cf) va (.func (.func kv) #[] capV) vc (.slice A key.length c) w.heap.size w' from fun w' G' s' h => h.cells)
  have HC0 := hE.cells
  unfold EKS at HC0
  obtain ⟨⟨q0, q1, q2, q3, q4, _⟩, p1, p2, p3, p5, p6⟩ := HC0
  have HD := Lib.hid (different_any A c key wr.drew hr hc)
  have ED := Lib.hid (hE.below (belowDrew0 wr) hv.fr)
  have HG := Lib.hid hG
  have HCC := Lib.hid hc
  have HRR := Lib.hid hr
  have HPP := Lib.hid hP
  have HRN := Lib.hid hrun
  clear hE hv hG hc hr hP hrun
  unfold Enters at hent
  by_cases hlt : kinds key < m.l
  · have HR := Lib.hid (show b = true ∧ s' = s by
      have := HRN.out; rw [keysG, if_pos hlt, runVis] at this; injection this with h1 h2; exact ⟨h1.symm, h2.symm⟩)
    go_enter Tryz.func148, Tryz.ntmps148
    go_wp2_with fail
    refine wp_region_held_drew (S := EKS m (.slice Af nf cf) va (.func (.func kv) #[] capV) vc (.slice A key.length c) w.heap.size) (by kernel_rfl) (CS.out _ _ _ ED.out) (fun hHeld => ?_)
    refine takeD (i := 0) (some 19) (.slice A key.length c) rfl (by kernel_rfl) (by kernel_rfl) (by kernel_rfl) (by kernel_rfl) (fun _ _ _ h => h) (by assumption) (Or.inl ⟨by rfl, fun w hSw => by (try dsimp only at hSw); unfold EKS at hSw; go_simp⟩) ?_
    simp only [Act.put, List.setIfInBounds_toArray, List.set_cons_zero, List.set_cons_succ]
    refine takeD (i := 2) (some 21) (.pointer (some ⟨w.heap.size, 4, none⟩)) rfl (by kernel_rfl) (by kernel_rfl) (by kernel_rfl) (by kernel_rfl) (fun _ _ _ h => h) (by assumption) (Or.inl ⟨by rfl, fun w hSw => by (try dsimp only at hSw); unfold EKS at hSw; go_simp⟩) ?_
    simp only [Act.put, List.setIfInBounds_toArray, List.set_cons_zero, List.set_cons_succ]
    refine takeD (i := 3) (some 22) (.int .i64 m.l) rfl (by kernel_rfl) (by kernel_rfl) (by kernel_rfl) (by kernel_rfl) (fun _ _ _ h => h) (by assumption) (Or.inl ⟨by rfl, fun w hSw => by (try dsimp only at hSw); unfold EKS at hSw; go_simp⟩) ?_
    simp only [Act.put, List.setIfInBounds_toArray, List.set_cons_zero, List.set_cons_succ]
    refine wpAnyH_ready (rs := [1]) (by kernel_rfl) (by simp) (AllReadyH.cons rfl (fun K hK => ?_) AllReadyH.nil)
    go_simp
    refine HD.out.mono ?_
    rintro e w2 ⟨rfl, rfl⟩
    have HHeld := CS.out _ _ _ ED.out
    refine hK.out _ _ HHeld (fun _ => ?_)
    clear hK K
    try simp only [Act.put, List.setIfInBounds_toArray, List.set_cons_zero, List.set_cons_succ]
    refine takeD (i := 4) (some 23) (.bool true) rfl (by kernel_rfl) (by kernel_rfl) (by kernel_rfl) (by kernel_rfl) (fun _ _ _ h => h) (by assumption) (Or.inl ⟨by rfl, fun w hSw => by (try dsimp only at hSw); unfold EKS at hSw; go_simp⟩) ?_
    simp only [Act.put, List.setIfInBounds_toArray, List.set_cons_zero, List.set_cons_succ]
    refine takeD (i := 5) (some 24) (.bool true) rfl (by kernel_rfl) (by kernel_rfl) (by kernel_rfl) (by kernel_rfl) (fun _ _ _ h => h) (by assumption) (Or.inl ⟨by rfl, fun w hSw => by (try dsimp only at hSw); unfold EKS at hSw; go_simp⟩) ?_
    simp only [Act.put, List.setIfInBounds_toArray, List.set_cons_zero, List.set_cons_succ]
    refine skipD (i := 6) (some 25) rfl (by kernel_rfl) (by kernel_rfl) (by kernel_rfl) (by kernel_rfl) (fun _ _ _ h => h) (by assumption) (by kernel_rfl) ?_
    simp only [Act.put, List.setIfInBounds_toArray, List.set_cons_zero, List.set_cons_succ]
    refine skipD (i := 7) (some 26) rfl (by kernel_rfl) (by kernel_rfl) (by kernel_rfl) (by kernel_rfl) (fun _ _ _ h => h) (by assumption) (by kernel_rfl) ?_
    simp only [Act.put, List.setIfInBounds_toArray, List.set_cons_zero, List.set_cons_succ]
    refine skipD (i := 8) (some 27) rfl (by kernel_rfl) (by kernel_rfl) (by kernel_rfl) (by kernel_rfl) (fun _ _ _ h => h) (by assumption) (by kernel_rfl) ?_
    simp only [Act.put, List.setIfInBounds_toArray, List.set_cons_zero, List.set_cons_succ]
    refine takeD (i := 9) (some 28) (.bool true) rfl (by kernel_rfl) (by kernel_rfl) (by kernel_rfl) (by kernel_rfl) (fun _ _ _ h => h) (by assumption) (Or.inl ⟨by rfl, fun w hSw => by (try dsimp only at hSw); unfold EKS at hSw; go_simp⟩) ?_
    simp only [Act.put, List.setIfInBounds_toArray, List.set_cons_zero, List.set_cons_succ]
    refine takeD (i := 10) (some 8) (.bool true) rfl (by kernel_rfl) (by kernel_rfl) (by kernel_rfl) (by kernel_rfl) (fun _ _ _ h => h) (by assumption) (Or.inl ⟨by rfl, fun w hSw => by (try dsimp only at hSw); unfold EKS at hSw; go_simp⟩) ?_
    simp only [Act.put, List.setIfInBounds_toArray, List.set_cons_zero, List.set_cons_succ]
    refine wpAnyH_done (by kernel_rfl) ?_ _
    go_wp2_with fail
    go_ret
    obtain ⟨h1, h2⟩ := HR.out
    subst h1 h2
    exact ⟨rfl, _, _, ED.out⟩
  · obtain ⟨b1, s1, hvs⟩ : ∃ b1 s1, vis s key = (b1, s1) := ⟨_, _, rfl⟩
    have HR := Lib.hid (show b = b1 ∧ s' = s1 by
      have := HRN.out; rw [keysG, if_neg hlt, runVis, hvs] at this
      cases b1
      · rw [if_neg (by simp)] at this; injection this with h1 h2; exact ⟨h1.symm, h2.symm⟩
      · rw [if_pos rfl, runVis] at this; injection this with h1 h2; exact ⟨h1.symm, h2.symm⟩)
    have HVV := HV.out.call s wr.drew G A c key hL ED.out.keep ED.out.rep (fun g hg => by rcases ED.out.sub g hg with h | h; exact .inl h; exact .inr (by omega)) (HPP.out key (by rw [keysG, if_neg hlt]; simp)) HCC.out HRR.out HG.out
    unfold VisPost at HVV
    rw [hvs] at HVV
    have HVC := Lib.hid HVV
    have hlt' : decide (kinds key < m.l) = false := decide_eq_false hlt
    clear HVV
    go_enter Tryz.func148, Tryz.ntmps148
    go_wp2_with fail
    refine wp_region_held_drew (S := EKS m (.slice Af nf cf) va (.func (.func kv) #[] capV) vc (.slice A key.length c) w.heap.size) (by kernel_rfl) (CS.out _ _ _ ED.out) (fun hHeld => ?_)
    refine takeD (i := 0) (some 19) (.slice A key.length c) rfl (by kernel_rfl) (by kernel_rfl) (by kernel_rfl) (by kernel_rfl) (fun _ _ _ h => h) (by assumption) (Or.inl ⟨by rfl, fun w hSw => by (try dsimp only at hSw); unfold EKS at hSw; go_simp⟩) ?_
    simp only [Act.put, List.setIfInBounds_toArray, List.set_cons_zero, List.set_cons_succ]
    refine takeD (i := 2) (some 21) (.pointer (some ⟨w.heap.size, 4, none⟩)) rfl (by kernel_rfl) (by kernel_rfl) (by kernel_rfl) (by kernel_rfl) (fun _ _ _ h => h) (by assumption) (Or.inl ⟨by rfl, fun w hSw => by (try dsimp only at hSw); unfold EKS at hSw; go_simp⟩) ?_
    simp only [Act.put, List.setIfInBounds_toArray, List.set_cons_zero, List.set_cons_succ]
    refine takeD (i := 3) (some 22) (.int .i64 m.l) rfl (by kernel_rfl) (by kernel_rfl) (by kernel_rfl) (by kernel_rfl) (fun _ _ _ h => h) (by assumption) (Or.inl ⟨by rfl, fun w hSw => by (try dsimp only at hSw); unfold EKS at hSw; go_simp⟩) ?_
    simp only [Act.put, List.setIfInBounds_toArray, List.set_cons_zero, List.set_cons_succ]
    refine wpAnyH_ready (rs := [1]) (by kernel_rfl) (by simp) (AllReadyH.cons rfl (fun K hK => ?_) AllReadyH.nil)
    go_simp
    refine HD.out.mono ?_
    rintro e w2 ⟨rfl, rfl⟩
    have HHeld := CS.out _ _ _ ED.out
    refine hK.out _ _ HHeld (fun _ => ?_)
    clear hK K
    try simp only [Act.put, List.setIfInBounds_toArray, List.set_cons_zero, List.set_cons_succ]
    refine takeD (i := 4) (some 23) (.bool false) rfl (by kernel_rfl) (by kernel_rfl) (by kernel_rfl) (by kernel_rfl) (fun _ _ _ h => h) (by assumption) (Or.inl ⟨by rfl, fun w hSw => by (try dsimp only at hSw); unfold EKS at hSw; go_simp⟩) ?_
    simp only [Act.put, List.setIfInBounds_toArray, List.set_cons_zero, List.set_cons_succ]
    refine takeD (i := 5) (some 24) (.bool false) rfl (by kernel_rfl) (by kernel_rfl) (by kernel_rfl) (by kernel_rfl) (fun _ _ _ h => h) (by assumption) (Or.inl ⟨by rfl, fun w hSw => by (try dsimp only at hSw); unfold EKS at hSw; go_simp⟩) ?_
    simp only [Act.put, List.setIfInBounds_toArray, List.set_cons_zero, List.set_cons_succ]
    refine takeD (i := 6) (some 25) (.func (.func kv) #[] capV) rfl (by kernel_rfl) (by kernel_rfl) (by kernel_rfl) (by kernel_rfl) (fun _ _ _ h => h) (by assumption) (Or.inl ⟨by rfl, fun w hSw => by (try dsimp only at hSw); unfold EKS at hSw; go_simp⟩) ?_
    simp only [Act.put, List.setIfInBounds_toArray, List.set_cons_zero, List.set_cons_succ]
    refine takeD (i := 7) (some 26) (.slice A key.length c) rfl (by kernel_rfl) (by kernel_rfl) (by kernel_rfl) (by kernel_rfl) (fun _ _ _ h => h) (by assumption) (Or.inl ⟨by rfl, fun w hSw => by (try dsimp only at hSw); unfold EKS at hSw; go_simp⟩) ?_
    simp only [Act.put, List.setIfInBounds_toArray, List.set_cons_zero, List.set_cons_succ]
    refine wpAnyH_ready (rs := [8]) (by kernel_rfl) (by simp) (AllReadyH.cons rfl (fun K hK => ?_) AllReadyH.nil)
    go_simp
    refine HVC.out.mono ?_
    rintro e w2 ⟨rfl, G', hR2, hk2, hs2⟩
    have ED2 := Lib.hid (ED.out.visited hR2 hk2 hs2)
    have HHeld := CS.out _ _ _ ED2.out
    refine hK.out _ _ HHeld (fun _ => ?_)
    clear hK K
    try simp only [Act.put, List.setIfInBounds_toArray, List.set_cons_zero, List.set_cons_succ]
    refine takeD (i := 9) (some 28) (.bool b1) rfl (by kernel_rfl) (by kernel_rfl) (by kernel_rfl) (by kernel_rfl) (fun _ _ _ h => h) (by assumption) (Or.inl ⟨by rfl, fun w hSw => by (try dsimp only at hSw); unfold EKS at hSw; go_simp⟩) ?_
    simp only [Act.put, List.setIfInBounds_toArray, List.set_cons_zero, List.set_cons_succ]
    refine takeD (i := 10) (some 8) (.bool b1) rfl (by kernel_rfl) (by kernel_rfl) (by kernel_rfl) (by kernel_rfl) (fun _ _ _ h => h) (by assumption) (Or.inl ⟨by rfl, fun w hSw => by (try dsimp only at hSw); unfold EKS at hSw; go_simp⟩) ?_
    simp only [Act.put, List.setIfInBounds_toArray, List.set_cons_zero, List.set_cons_succ]
    refine wpAnyH_done (by kernel_rfl) ?_ _
    go_wp2_with fail
    go_ret
    obtain ⟨h1, h2⟩ := HR.out
    subst h1 h2
    exact ⟨rfl, _, _, ED2.out⟩

theorem may_no {m : Mk} {al : Nat → Int → Bool} {key : List Int} {d : Int} (h : al key.length d = false) : (mayAt m al key d && mayRun m key d) = false := by simp [mayAt, h]
theorem may_step {m : Mk} {al : Nat → Int → Bool} {key : List Int} {d : Int} (h0 : 0 < key.length) (h : m.s < absI (d - key.getD (key.length - 1) 0)) : (mayAt m al key d && mayRun m key d) = false := by
  have h1 : decide (key.length = 0) = false := decide_eq_false (by omega)
  have h2 : decide (absI (d - key.getD (key.length - 1) 0) ≤ m.s) = false := decide_eq_false (by omega)
  unfold mayAt; rw [h1, h2]; simp
theorem may_run {m : Mk} {al : Nat → Int → Bool} {key : List Int} {d : Int} (h : m.a < (endRun (key ++ [d]) : Int)) : (mayAt m al key d && mayRun m key d) = false := by
  have h2 : decide ((endRun (key ++ [d]) : Int) ≤ m.a) = false := decide_eq_false (by omega)
  unfold mayRun; rw [h2, Bool.and_false]
theorem may_yes {m : Mk} {al : Nat → Int → Bool} {key : List Int} {d : Int} (h : al key.length d = true) (hs : key.length = 0 ∨ absI (d - key.getD (key.length - 1) 0) ≤ m.s) (hr : ¬ m.a < (endRun (key ++ [d]) : Int)) : (mayAt m al key d && mayRun m key d) = true := by
  have h2 : decide ((endRun (key ++ [d]) : Int) ≤ m.a) = true := decide_eq_true (by omega)
  unfold mayAt mayRun; rw [h2, h, Bool.and_true, Bool.true_and]
  rcases hs with h | h
  · rw [decide_eq_true h]; rfl
  · rw [decide_eq_true h, Bool.or_true]
theorem run_live {σ : Type} {vis : σ → List Int → Bool × σ} {L : σ → Prop} {P : List Int → Prop} (h : ∀ s key, L s → P key → (vis s key).1 = true → L (vis s key).2) : ∀ {ks : List (List Int)} {s s' : σ}, (∀ x, x ∈ ks → P x) → L s → runVis vis s ks = (true, s') → L s'
  | [], s, s', hp, hl, e => by rw [runVis] at e; injection e with _ e; subst e; exact hl
  | k :: ks, s, s', hp, hl, e => by
    rw [runVis] at e
    by_cases hc : (vis s k).1 = true
    · rw [if_pos hc] at e
      exact run_live h (fun x hx => hp x (by simp [hx])) (h s k hl (hp k (by simp)) hc) e
    · rw [if_neg hc] at e; injection e with e _; cases e
theorem run_split {σ : Type} {vis : σ → List Int → Bool × σ} {s1 s' : σ} {b : Bool} {xs ys : List (List Int)} (h : runVis vis s1 (xs ++ ys) = (b, s')) : ∃ b2 s2, runVis vis s1 xs = (b2, s2) ∧ (b2 = true → runVis vis s2 ys = (b, s')) ∧ (b2 = false → b = false ∧ s' = s2) := by
  rw [runVis_append] at h
  refine ⟨(runVis vis s1 xs).1, (runVis vis s1 xs).2, rfl, fun e => ?_, fun e => ?_⟩
  · rw [if_pos e] at h; exact h
  · rw [if_neg (by rw [e]; simp)] at h; injection h with h1 h2; exact ⟨h1.symm, h2.symm⟩
end Go.Proofs.YtdedajohkdbdkaaGreat
