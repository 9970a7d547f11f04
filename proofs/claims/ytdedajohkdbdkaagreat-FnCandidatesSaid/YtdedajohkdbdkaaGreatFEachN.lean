/- Contract of eachKey with nothing allowed or barred: all keys are visited, in order. Printed by gen_eachn.py. -/
import Derived.Test.YtdedajohkdbdkaaGreatFEach2
import Derived.Test.YtdedajohkdbdkaaGreatFGhost
namespace Go.Proofs.YtdedajohkdbdkaaGreat
set_option linter.unusedVariables false
open Go.RowKit

set_option maxRecDepth 100000 in
set_option maxHeartbeats 8000000 in
theorem eachStep_n {σ : Type} (m : Mk) (hm : isMaker m = true) (Af : Option Addr) (nf cf : Nat) (kv : FuncId) (capV : Array Value) (vis : σ → List Int → Bool × σ) (R : σ → World → (Nat → Prop) → Prop) (L : σ → Prop) (P : List Int → Prop) (w : World) (F : Nat → Prop)
    (hv : VisOK kv capV vis R L P w F) (fr : List Int) (r : Nat)
    (IH : ∀ (key : List Int) (wr : World) (v : Value) (s : σ) (G : Nat → Prop), (key.length : Int) + r = m.c → (∀ i (h : i < key.length), 0 ≤ key[i] ∧ key[i] < m.d) →
      EK m Af nf cf .nilFunc (.func (.func kv) #[] capV) (.func (.func 148) #[] #[.pointer (some ⟨w.heap.size + 5, 0, none⟩), .pointer (some ⟨w.heap.size, 0, none⟩), .pointer (some ⟨w.heap.size + 3, 0, none⟩), .pointer (some ⟨w.heap.size + 1, 0, none⟩), .pointer (some ⟨w.heap.size + 2, 0, none⟩), .pointer (some ⟨w.heap.size + 6, 0, none⟩)]) R w F wr key v s G → L s → (∀ x, x ∈ keysG m allA fr r key false → P x) → ∀ (b : Bool) (s' : σ), runVis vis s (keysG m allA fr r key false) = (b, s') →
      Calls Tryz.prog 148 #[.bool false, .pointer (some ⟨w.heap.size + 5, 0, none⟩), .pointer (some ⟨w.heap.size, 0, none⟩), .pointer (some ⟨w.heap.size + 3, 0, none⟩), .pointer (some ⟨w.heap.size + 1, 0, none⟩), .pointer (some ⟨w.heap.size + 2, 0, none⟩), .pointer (some ⟨w.heap.size + 6, 0, none⟩)] wr (EKPost m Af nf cf .nilFunc (.func (.func kv) #[] capV) (.func (.func 148) #[] #[.pointer (some ⟨w.heap.size + 5, 0, none⟩), .pointer (some ⟨w.heap.size, 0, none⟩), .pointer (some ⟨w.heap.size + 3, 0, none⟩), .pointer (some ⟨w.heap.size + 1, 0, none⟩), .pointer (some ⟨w.heap.size + 2, 0, none⟩), .pointer (some ⟨w.heap.size + 6, 0, none⟩)]) R w F key b s'))
    (key : List Int) (wr : World) (v : Value) (s : σ) (G : Nat → Prop) (hkey : (key.length : Int) + ((r : Int) + 1) = m.c) (hbd : ∀ i (h : i < key.length), 0 ≤ key[i] ∧ key[i] < m.d)
    (hE : EK m Af nf cf .nilFunc (.func (.func kv) #[] capV) (.func (.func 148) #[] #[.pointer (some ⟨w.heap.size + 5, 0, none⟩), .pointer (some ⟨w.heap.size, 0, none⟩), .pointer (some ⟨w.heap.size + 3, 0, none⟩), .pointer (some ⟨w.heap.size + 1, 0, none⟩), .pointer (some ⟨w.heap.size + 2, 0, none⟩), .pointer (some ⟨w.heap.size + 6, 0, none⟩)]) R w F wr key v s G) (hL : L s) (hP : ∀ x, x ∈ keysG m allA fr (r + 1) key false → P x) (b : Bool) (s' : σ) (hrun : runVis vis s (keysG m allA fr (r + 1) key false) = (b, s')) :
    Calls Tryz.prog 148 #[.bool false, .pointer (some ⟨w.heap.size + 5, 0, none⟩), .pointer (some ⟨w.heap.size, 0, none⟩), .pointer (some ⟨w.heap.size + 3, 0, none⟩), .pointer (some ⟨w.heap.size + 1, 0, none⟩), .pointer (some ⟨w.heap.size + 2, 0, none⟩), .pointer (some ⟨w.heap.size + 6, 0, none⟩)] wr
      (EKPost m Af nf cf .nilFunc (.func (.func kv) #[] capV) (.func (.func 148) #[] #[.pointer (some ⟨w.heap.size + 5, 0, none⟩), .pointer (some ⟨w.heap.size, 0, none⟩), .pointer (some ⟨w.heap.size + 3, 0, none⟩), .pointer (some ⟨w.heap.size + 1, 0, none⟩), .pointer (some ⟨w.heap.size + 2, 0, none⟩), .pointer (some ⟨w.heap.size + 6, 0, none⟩)]) R w F key b s') := by
  have hmb := mk_bounds hm
  have d2 : 2 ≤ m.d := hmb.2.2.1
  have d8 : m.d ≤ 8 := hmb.2.2.2.1
  have a1 : 1 ≤ m.a := hmb.2.2.2.2.2.2.1
  have c6 : m.c ≤ 6 := hmb.2.1
  clear hmb
  have hl6 : key.length ≤ 6 := by omega
  have HIH := Lib.hid IH
  have HV := Lib.hid hv
  have hentC : Enters Tryz.prog 148 := enters Tryz.func148 (by kernel_rfl) rfl
  have HBD := Lib.hid hbd
  have HK1 := Lib.hid (show ((key.length : Int) == m.c) = false by simp; omega)
  have hk1 := HK1.out
  have HCh := Lib.hid (show (key.length : Int) < m.c by omega)
  have HKR := Lib.hid hkey
  have HP0 := Lib.hid hP
  have HR0 := Lib.hid hrun
  have HEE := Lib.hid hE
  have HLL := Lib.hid hL
  obtain ⟨A0, c0, rfl, hc0, hr0, hG0⟩ := hE.open
  have HC0 := hE.cells
  unfold EKS at HC0
  obtain ⟨⟨q0, q1, q2, q3, q4, _⟩, p1, p2, p3, p5, p6⟩ := HC0
  have hle0 := hr0.le
  clear IH hv hbd hP hrun hL hG0 hE hc0 hr0 hkey
  unfold Enters at hentC
  have hnf := fun w : World => run_neq_nil_nil (P := Tryz.prog) w (t := 86) Tryz.underlying86
  go_enter Tryz.func148, Tryz.ntmps148
  go_wp2_with fail
  clear q0 q1 q2 q3 q4 p1 p2 p3 p5 p6
  go_loopw [11, 12] (fun i _ wr => ∃ (d : Int) (v : Value) (s1 : σ) (G : Nat → Prop), i = .int .i64 d ∧ 0 ≤ d ∧ d ≤ m.d ∧ Hid (EK m Af nf cf .nilFunc (.func (.func kv) #[] capV) (.func (.func 148) #[] #[.pointer (some ⟨w.heap.size + 5, 0, none⟩), .pointer (some ⟨w.heap.size, 0, none⟩), .pointer (some ⟨w.heap.size + 3, 0, none⟩), .pointer (some ⟨w.heap.size + 1, 0, none⟩), .pointer (some ⟨w.heap.size + 2, 0, none⟩), .pointer (some ⟨w.heap.size + 6, 0, none⟩)]) R w F wr key v s1 G) ∧ Hid (L s1) ∧ Hid (∀ x, x ∈ keysFrom m allA fr r key false d → P x) ∧ Hid (runVis vis s1 (keysFrom m allA fr r key false d) = (b, s'))) (fun i _ _ => (m.d - intOf i).toNat)
  case atStart => exact ⟨0, _, s, G, rfl, by omega, by omega, HEE.out, HLL, HP0.out, HR0.out⟩
  case round =>
    obtain ⟨d, v, s1, G, rfl, hd0, hd8, hE, hLL, hPP, hRR⟩ := hrel
    obtain ⟨A, c, rfl, hc, hr, hGA⟩ := hE.out.open
    have HC0 := hE.out.cells
    unfold EKS at HC0
    obtain ⟨⟨q0, q1, q2, q3, q4, _⟩, p1, p2, p3, p5, p6⟩ := HC0
    by_cases hlt : d < m.d
    · have ED := Lib.hid (hE.out.below (belowDrew0 wr) HV.out.fr)
      · have hal : allA key.length d = true := rfl
        by_cases hk0 : key.length = 0
        · have hk00 : decide ((0 : Int) < (key.length : Int)) = false := by rw [hk0]; rfl
          have HK0 := Lib.hid hk0; clear hk0
          go_wp2_with fail
          refine wp_region_held_drew (S := EKS m (.slice Af nf cf) .nilFunc (.func (.func kv) #[] capV) (.func (.func 148) #[] #[.pointer (some ⟨w.heap.size + 5, 0, none⟩), .pointer (some ⟨w.heap.size, 0, none⟩), .pointer (some ⟨w.heap.size + 3, 0, none⟩), .pointer (some ⟨w.heap.size + 1, 0, none⟩), .pointer (some ⟨w.heap.size + 2, 0, none⟩), .pointer (some ⟨w.heap.size + 6, 0, none⟩)]) (.slice A key.length c) w.heap.size) (by kernel_rfl) (ED.out.cells) (fun hHeld => ?_)
          refine takeD (i := 0) (some 41) (.nilFunc) rfl (by kernel_rfl) (by kernel_rfl) (by kernel_rfl) (by kernel_rfl) (fun _ _ _ h => h) (by assumption) (Or.inl ⟨by rfl, fun w hSw => by (try dsimp only at hSw); unfold EKS at hSw; go_simp⟩) ?_
          simp only [Act.put, List.setIfInBounds_toArray, List.set_cons_zero, List.set_cons_succ]
          refine takeD (i := 1) (some 42) (.bool false) rfl (by kernel_rfl) (by kernel_rfl) (by kernel_rfl) (by kernel_rfl) (fun _ _ _ h => h) (by assumption) (Or.inl ⟨by rfl, fun w hSw => by (try dsimp only at hSw); unfold EKS at hSw; go_simp⟩) ?_
          simp only [Act.put, List.setIfInBounds_toArray, List.set_cons_zero, List.set_cons_succ]
          refine takeD (i := 2) (some 43) (.bool false) rfl (by kernel_rfl) (by kernel_rfl) (by kernel_rfl) (by kernel_rfl) (fun _ _ _ h => h) (by assumption) (Or.inl ⟨by rfl, fun w hSw => by (try dsimp only at hSw); unfold EKS at hSw; go_simp⟩) ?_
          simp only [Act.put, List.setIfInBounds_toArray, List.set_cons_zero, List.set_cons_succ]
          refine skipD (i := 3) (some 44) rfl (by kernel_rfl) (by kernel_rfl) (by kernel_rfl) (by kernel_rfl) (fun _ _ _ h => h) (by assumption) (by kernel_rfl) ?_
          simp only [Act.put, List.setIfInBounds_toArray, List.set_cons_zero, List.set_cons_succ]
          refine skipD (i := 4) (some 45) rfl (by kernel_rfl) (by kernel_rfl) (by kernel_rfl) (by kernel_rfl) (fun _ _ _ h => h) (by assumption) (by kernel_rfl) ?_
          simp only [Act.put, List.setIfInBounds_toArray, List.set_cons_zero, List.set_cons_succ]
          refine skipD (i := 5) (some 46) rfl (by kernel_rfl) (by kernel_rfl) (by kernel_rfl) (by kernel_rfl) (fun _ _ _ h => h) (by assumption) (by kernel_rfl) ?_
          simp only [Act.put, List.setIfInBounds_toArray, List.set_cons_zero, List.set_cons_succ]
          refine skipD (i := 6) (some 47) rfl (by kernel_rfl) (by kernel_rfl) (by kernel_rfl) (by kernel_rfl) (fun _ _ _ h => h) (by assumption) (by kernel_rfl) ?_
          simp only [Act.put, List.setIfInBounds_toArray, List.set_cons_zero, List.set_cons_succ]
          refine skipD (i := 7) (some 48) rfl (by kernel_rfl) (by kernel_rfl) (by kernel_rfl) (by kernel_rfl) (fun _ _ _ h => h) (by assumption) (by kernel_rfl) ?_
          simp only [Act.put, List.setIfInBounds_toArray, List.set_cons_zero, List.set_cons_succ]
          refine takeD (i := 8) (some 49) (.bool false) rfl (by kernel_rfl) (by kernel_rfl) (by kernel_rfl) (by kernel_rfl) (fun _ _ _ h => h) (by assumption) (Or.inl ⟨by rfl, fun w hSw => by (try dsimp only at hSw); unfold EKS at hSw; go_simp⟩) ?_
          simp only [Act.put, List.setIfInBounds_toArray, List.set_cons_zero, List.set_cons_succ]
          refine takeD (i := 9) (some 50) (.bool false) rfl (by kernel_rfl) (by kernel_rfl) (by kernel_rfl) (by kernel_rfl) (fun _ _ _ h => h) (by assumption) (Or.inl ⟨by rfl, fun w hSw => by (try dsimp only at hSw); unfold EKS at hSw; go_simp⟩) ?_
          simp only [Act.put, List.setIfInBounds_toArray, List.set_cons_zero, List.set_cons_succ]
          refine takeD (i := 10) (some 51) (.int .i64 (key.length : Int)) rfl (by kernel_rfl) (by kernel_rfl) (by kernel_rfl) (by kernel_rfl) (fun _ _ _ h => h) (by assumption) (Or.inl ⟨by rfl, fun w hSw => by (try dsimp only at hSw); unfold EKS at hSw; go_simp⟩) ?_
          simp only [Act.put, List.setIfInBounds_toArray, List.set_cons_zero, List.set_cons_succ]
          refine takeD (i := 11) (some 52) (.bool false) rfl (by kernel_rfl) (by kernel_rfl) (by kernel_rfl) (by kernel_rfl) (fun _ _ _ h => h) (by assumption) (Or.inl ⟨by rfl, fun w hSw => by (try dsimp only at hSw); unfold EKS at hSw; go_simp; exact List.length_eq_zero_iff.1 HK0.out⟩) ?_
          simp only [Act.put, List.setIfInBounds_toArray, List.set_cons_zero, List.set_cons_succ]
          refine takeD (i := 12) (some 53) (.bool false) rfl (by kernel_rfl) (by kernel_rfl) (by kernel_rfl) (by kernel_rfl) (fun _ _ _ h => h) (by assumption) (Or.inl ⟨by rfl, fun w hSw => by (try dsimp only at hSw); unfold EKS at hSw; go_simp⟩) ?_
          simp only [Act.put, List.setIfInBounds_toArray, List.set_cons_zero, List.set_cons_succ]
          refine skipD (i := 13) (some 54) rfl (by kernel_rfl) (by kernel_rfl) (by kernel_rfl) (by kernel_rfl) (fun _ _ _ h => h) (by assumption) (by kernel_rfl) ?_
          simp only [Act.put, List.setIfInBounds_toArray, List.set_cons_zero, List.set_cons_succ]
          refine skipD (i := 14) (some 55) rfl (by kernel_rfl) (by kernel_rfl) (by kernel_rfl) (by kernel_rfl) (fun _ _ _ h => h) (by assumption) (by kernel_rfl) ?_
          simp only [Act.put, List.setIfInBounds_toArray, List.set_cons_zero, List.set_cons_succ]
          refine skipD (i := 15) (some 56) rfl (by kernel_rfl) (by kernel_rfl) (by kernel_rfl) (by kernel_rfl) (fun _ _ _ h => h) (by assumption) (by kernel_rfl) ?_
          simp only [Act.put, List.setIfInBounds_toArray, List.set_cons_zero, List.set_cons_succ]
          refine skipD (i := 16) (some 57) rfl (by kernel_rfl) (by kernel_rfl) (by kernel_rfl) (by kernel_rfl) (fun _ _ _ h => h) (by assumption) (by kernel_rfl) ?_
          simp only [Act.put, List.setIfInBounds_toArray, List.set_cons_zero, List.set_cons_succ]
          refine skipD (i := 17) (some 58) rfl (by kernel_rfl) (by kernel_rfl) (by kernel_rfl) (by kernel_rfl) (fun _ _ _ h => h) (by assumption) (by kernel_rfl) ?_
          simp only [Act.put, List.setIfInBounds_toArray, List.set_cons_zero, List.set_cons_succ]
          refine skipD (i := 18) (some 59) rfl (by kernel_rfl) (by kernel_rfl) (by kernel_rfl) (by kernel_rfl) (fun _ _ _ h => h) (by assumption) (by kernel_rfl) ?_
          simp only [Act.put, List.setIfInBounds_toArray, List.set_cons_zero, List.set_cons_succ]
          refine skipD (i := 19) (some 60) rfl (by kernel_rfl) (by kernel_rfl) (by kernel_rfl) (by kernel_rfl) (fun _ _ _ h => h) (by assumption) (by kernel_rfl) ?_
          simp only [Act.put, List.setIfInBounds_toArray, List.set_cons_zero, List.set_cons_succ]
          refine skipD (i := 20) (some 61) rfl (by kernel_rfl) (by kernel_rfl) (by kernel_rfl) (by kernel_rfl) (fun _ _ _ h => h) (by assumption) (by kernel_rfl) ?_
          simp only [Act.put, List.setIfInBounds_toArray, List.set_cons_zero, List.set_cons_succ]
          refine skipD (i := 21) (some 62) rfl (by kernel_rfl) (by kernel_rfl) (by kernel_rfl) (by kernel_rfl) (fun _ _ _ h => h) (by assumption) (by kernel_rfl) ?_
          simp only [Act.put, List.setIfInBounds_toArray, List.set_cons_zero, List.set_cons_succ]
          refine skipD (i := 22) (some 63) rfl (by kernel_rfl) (by kernel_rfl) (by kernel_rfl) (by kernel_rfl) (fun _ _ _ h => h) (by assumption) (by kernel_rfl) ?_
          simp only [Act.put, List.setIfInBounds_toArray, List.set_cons_zero, List.set_cons_succ]
          refine skipD (i := 23) (some 64) rfl (by kernel_rfl) (by kernel_rfl) (by kernel_rfl) (by kernel_rfl) (fun _ _ _ h => h) (by assumption) (by kernel_rfl) ?_
          simp only [Act.put, List.setIfInBounds_toArray, List.set_cons_zero, List.set_cons_succ]
          refine takeD (i := 24) (some 65) (.bool false) rfl (by kernel_rfl) (by kernel_rfl) (by kernel_rfl) (by kernel_rfl) (fun _ _ _ h => h) (by assumption) (Or.inl ⟨by rfl, fun w hSw => by (try dsimp only at hSw); unfold EKS at hSw; go_simp⟩) ?_
          simp only [Act.put, List.setIfInBounds_toArray, List.set_cons_zero, List.set_cons_succ]
          refine takeD (i := 25) (some 66) (.bool false) rfl (by kernel_rfl) (by kernel_rfl) (by kernel_rfl) (by kernel_rfl) (fun _ _ _ h => h) (by assumption) (Or.inl ⟨by rfl, fun w hSw => by (try dsimp only at hSw); unfold EKS at hSw; go_simp⟩) ?_
          simp only [Act.put, List.setIfInBounds_toArray, List.set_cons_zero, List.set_cons_succ]
          refine wpAnyH_done (by kernel_rfl) ?_ _
          generalize hwd : wr.drew = wd at *
          clear hwd
          have HE2 := ED
          have hz2 := HE2.out.size
          have ho2 := HE2.out.own
          have p5' := HE2.out.cK
          obtain ⟨k2, hk2⟩ : ∃ k2, k2 = key ++ [d] := ⟨_, rfl⟩
          have HK2 := Lib.hid hk2
          have HL2 := Lib.hid (show k2.length = key.length + 1 by rw [hk2]; simp)
          have HBD2 := Lib.hid (show ∀ i (h : i < k2.length), 0 ≤ k2[i] ∧ k2[i] < m.d by
            subst hk2
            intro i h
            by_cases hi : i < key.length
            · rw [List.getElem_append_left hi]; exact HBD.out i hi
            · rw [List.getElem_append_right (by omega)]; simp; exact ⟨hd0, hlt⟩)
          have HIN := Lib.hid (show ints key ++ [.int .i64 d] = ints k2 by rw [hk2, ints_append]; rfl)
          clear hk2
          go_wp2_with (at_builtin; refine wpList_app1 _ rfl _ _ _ rfl (w.heap.size + 4) 2 _ 8 Tryz.underlying33 info_int rfl (by omega) _ _ rfl (ho2.alloc _) _ _ rfl (one_cell _ _ _) rfl (by rw [ints_length]; omega) (by simp; omega) ?_; intro v' w4 ho4 hg4 hn4 hat4; rw [HIN.out] at ho4; obtain ⟨h5c, h5f, _⟩ := HE2.out.grow hg4; have E5 := Lib.hid (HE2.out.push HV.out.lt HV.out.fr hg4 hat4 ho4); obtain ⟨g5, c5, rfl, _, _, hcc5, _, _⟩ := ho4.open1 (by have := HL2.out; omega); clear ho4 hg4 hn4 hat4)
          obtain ⟨w5, hw5⟩ : ∃ w5, w5 = w4.setCell ⟨w.heap.size + 5, 0, none⟩ (.slice (some ⟨g5, 0, none⟩) k2.length c5) := ⟨_, rfl⟩
          rw [← hw5] at E5
          rw [← hw5]
          clear hw5 h5c h5f
          have hr5 : RI w5.drew (some ⟨g5, 0, none⟩) k2 := by
            obtain ⟨A, c, e, _, h, _⟩ := E5.out.open
            injection e with e1 e2 e3
            subst e1; exact h
          have ED5 := Lib.hid (E5.out.below (belowDrew0 w5) HV.out.fr)
          have pd5 := ED5.out.cK
          have hcap5 : key.length ≤ c5 := by have := HL2.out; omega
          have HSR := Lib.hid (sameRun_any (some ⟨g5, 0, none⟩) c5 k2 w5.drew hr5 (by have := HL2.out; omega))
          by_cases hrx : m.a < (endRun k2 : Int)
          · have HMY := Lib.hid (show (mayAt m allA key d && mayRun m key d) = false from may_run (by rw [← HK2.out]; exact hrx))
            refine wp_region_held_drew (S := EKT m (.slice Af nf cf) .nilFunc (.func (.func kv) #[] capV) (.func (.func 148) #[] #[.pointer (some ⟨w.heap.size + 5, 0, none⟩), .pointer (some ⟨w.heap.size, 0, none⟩), .pointer (some ⟨w.heap.size + 3, 0, none⟩), .pointer (some ⟨w.heap.size + 1, 0, none⟩), .pointer (some ⟨w.heap.size + 2, 0, none⟩), .pointer (some ⟨w.heap.size + 6, 0, none⟩)]) w.heap.size) (by kernel_rfl) (ED5.out.cellsT) (fun hHeld => ?_)
            refine takeD (i := 2) (some 73) (.pointer (some ⟨w.heap.size, 3, none⟩)) rfl (by kernel_rfl) (by kernel_rfl) (by kernel_rfl) (by kernel_rfl) (fun _ _ _ h => h) (by assumption) (Or.inl ⟨by rfl, fun w hSw => by (try dsimp only at hSw); unfold EKT at hSw; go_simp⟩) ?_
            simp only [Act.put, List.setIfInBounds_toArray, List.set_cons_zero, List.set_cons_succ]
            refine takeD (i := 3) (some 74) (.int .i64 m.a) rfl (by kernel_rfl) (by kernel_rfl) (by kernel_rfl) (by kernel_rfl) (fun _ _ _ h => h) (by assumption) (Or.inl ⟨by rfl, fun w hSw => by (try dsimp only at hSw); unfold EKT at hSw; go_simp⟩) ?_
            simp only [Act.put, List.setIfInBounds_toArray, List.set_cons_zero, List.set_cons_succ]
            refine wpAnyH_ready (rs := [0]) (by kernel_rfl) (by simp) (AllReadyH.cons rfl (fun K hK => ?_) AllReadyH.nil)
            go_simp
            have HHeld := ED5.out.cellsT
            refine hK.out _ _ HHeld (fun _ => ?_)
            clear hK K
            try simp only [Act.put, List.setIfInBounds_toArray, List.set_cons_zero, List.set_cons_succ]
            refine wpAnyH_ready (rs := [1]) (by kernel_rfl) (by simp) (AllReadyH.cons rfl (fun K hK => ?_) AllReadyH.nil)
            go_simp
            refine HSR.out.mono ?_
            rintro e w6 ⟨rfl, n6, hw6⟩
            have E6 := Lib.hid (ED5.out.below (belowD (Below.refl _ _) n6) HV.out.fr)
            rw [← hw6] at E6
            clear hw6
            have HHeld := E6.out.cellsT
            refine hK.out _ _ HHeld (fun _ => ?_)
            clear hK K
            try simp only [Act.put, List.setIfInBounds_toArray, List.set_cons_zero, List.set_cons_succ]
            refine takeD (i := 4) (some 75) (.bool true) rfl (by kernel_rfl) (by kernel_rfl) (by kernel_rfl) (by kernel_rfl) (fun _ _ _ h => h) (by assumption) (Or.inl ⟨by rfl, fun w hSw => by (try dsimp only at hSw); unfold EKT at hSw; go_simp⟩) ?_
            simp only [Act.put, List.setIfInBounds_toArray, List.set_cons_zero, List.set_cons_succ]
            refine takeD (i := 5) (some 76) (.bool true) rfl (by kernel_rfl) (by kernel_rfl) (by kernel_rfl) (by kernel_rfl) (fun _ _ _ h => h) (by assumption) (Or.inl ⟨by rfl, fun w hSw => by (try dsimp only at hSw); unfold EKT at hSw; go_simp⟩) ?_
            simp only [Act.put, List.setIfInBounds_toArray, List.set_cons_zero, List.set_cons_succ]
            refine skipD (i := 6) (some 77) rfl (by kernel_rfl) (by kernel_rfl) (by kernel_rfl) (by kernel_rfl) (fun _ _ _ h => h) (by assumption) (by kernel_rfl) ?_
            simp only [Act.put, List.setIfInBounds_toArray, List.set_cons_zero, List.set_cons_succ]
            refine skipD (i := 7) (some 78) rfl (by kernel_rfl) (by kernel_rfl) (by kernel_rfl) (by kernel_rfl) (fun _ _ _ h => h) (by assumption) (by kernel_rfl) ?_
            simp only [Act.put, List.setIfInBounds_toArray, List.set_cons_zero, List.set_cons_succ]
            refine skipD (i := 8) (some 79) rfl (by kernel_rfl) (by kernel_rfl) (by kernel_rfl) (by kernel_rfl) (fun _ _ _ h => h) (by assumption) (by kernel_rfl) ?_
            simp only [Act.put, List.setIfInBounds_toArray, List.set_cons_zero, List.set_cons_succ]
            refine skipD (i := 9) (some 80) rfl (by kernel_rfl) (by kernel_rfl) (by kernel_rfl) (by kernel_rfl) (fun _ _ _ h => h) (by assumption) (by kernel_rfl) ?_
            simp only [Act.put, List.setIfInBounds_toArray, List.set_cons_zero, List.set_cons_succ]
            refine skipD (i := 10) (some 81) rfl (by kernel_rfl) (by kernel_rfl) (by kernel_rfl) (by kernel_rfl) (fun _ _ _ h => h) (by assumption) (by kernel_rfl) ?_
            simp only [Act.put, List.setIfInBounds_toArray, List.set_cons_zero, List.set_cons_succ]
            refine skipD (i := 11) (some 82) rfl (by kernel_rfl) (by kernel_rfl) (by kernel_rfl) (by kernel_rfl) (fun _ _ _ h => h) (by assumption) (by kernel_rfl) ?_
            simp only [Act.put, List.setIfInBounds_toArray, List.set_cons_zero, List.set_cons_succ]
            refine skipD (i := 12) (some 83) rfl (by kernel_rfl) (by kernel_rfl) (by kernel_rfl) (by kernel_rfl) (fun _ _ _ h => h) (by assumption) (by kernel_rfl) ?_
            simp only [Act.put, List.setIfInBounds_toArray, List.set_cons_zero, List.set_cons_succ]
            refine skipD (i := 13) (some 84) rfl (by kernel_rfl) (by kernel_rfl) (by kernel_rfl) (by kernel_rfl) (fun _ _ _ h => h) (by assumption) (by kernel_rfl) ?_
            simp only [Act.put, List.setIfInBounds_toArray, List.set_cons_zero, List.set_cons_succ]
            refine takeD (i := 14) (some 85) (.bool true) rfl (by kernel_rfl) (by kernel_rfl) (by kernel_rfl) (by kernel_rfl) (fun _ _ _ h => h) (by assumption) (Or.inl ⟨by rfl, fun w hSw => by (try dsimp only at hSw); unfold EKT at hSw; go_simp⟩) ?_
            simp only [Act.put, List.setIfInBounds_toArray, List.set_cons_zero, List.set_cons_succ]
            refine takeD (i := 15) (some 12) (.bool true) rfl (by kernel_rfl) (by kernel_rfl) (by kernel_rfl) (by kernel_rfl) (fun _ _ _ h => h) (by assumption) (Or.inl ⟨by rfl, fun w hSw => by (try dsimp only at hSw); unfold EKT at hSw; go_simp⟩) ?_
            simp only [Act.put, List.setIfInBounds_toArray, List.set_cons_zero, List.set_cons_succ]
            refine wpAnyH_done (by kernel_rfl) ?_ _
            have p6 := E6.out.cK
            have f6 := E6.out.fz
            go_wp2_with fail
            go_roundw
            case rel => exact ⟨d + 1, _, s1, G, by go_num, by omega, by omega, Lib.hid (E6.out.pop HV.out.fr HK2.out rfl), hLL, Lib.hid (by rw [← keysFrom_skip hlt HMY.out]; exact hPP.out), Lib.hid (by rw [← keysFrom_skip hlt HMY.out]; exact hRR.out)⟩
            case measure => simp [intOf]; omega
          · have HMY := Lib.hid (show (mayAt m allA key d && mayRun m key d) = true from may_yes hal (.inl HK0.out) (by rw [← HK2.out]; exact hrx))
            have HSP := Lib.hid (run_split (show runVis vis s1 (keysG m allA fr r k2 false ++ keysFrom m allA fr r key false (d + 1)) = (b, s') by rw [HK2.out, ← hRR.out, keysFrom_take hlt HMY.out]; rfl))
            obtain ⟨b2, s2, hr2, hyes, hno⟩ := HSP.out
            have HYES := Lib.hid hyes; have HNO := Lib.hid hno; have HR2 := Lib.hid hr2
            clear hyes hno hr2 HSP
            have hrx' : decide (m.a < (endRun k2 : Int)) = false := decide_eq_false hrx
            refine wp_region_held_drew (S := EKT m (.slice Af nf cf) .nilFunc (.func (.func kv) #[] capV) (.func (.func 148) #[] #[.pointer (some ⟨w.heap.size + 5, 0, none⟩), .pointer (some ⟨w.heap.size, 0, none⟩), .pointer (some ⟨w.heap.size + 3, 0, none⟩), .pointer (some ⟨w.heap.size + 1, 0, none⟩), .pointer (some ⟨w.heap.size + 2, 0, none⟩), .pointer (some ⟨w.heap.size + 6, 0, none⟩)]) w.heap.size) (by kernel_rfl) (ED5.out.cellsT) (fun hHeld => ?_)
            refine takeD (i := 2) (some 73) (.pointer (some ⟨w.heap.size, 3, none⟩)) rfl (by kernel_rfl) (by kernel_rfl) (by kernel_rfl) (by kernel_rfl) (fun _ _ _ h => h) (by assumption) (Or.inl ⟨by rfl, fun w hSw => by (try dsimp only at hSw); unfold EKT at hSw; go_simp⟩) ?_
            simp only [Act.put, List.setIfInBounds_toArray, List.set_cons_zero, List.set_cons_succ]
            refine takeD (i := 3) (some 74) (.int .i64 m.a) rfl (by kernel_rfl) (by kernel_rfl) (by kernel_rfl) (by kernel_rfl) (fun _ _ _ h => h) (by assumption) (Or.inl ⟨by rfl, fun w hSw => by (try dsimp only at hSw); unfold EKT at hSw; go_simp⟩) ?_
            simp only [Act.put, List.setIfInBounds_toArray, List.set_cons_zero, List.set_cons_succ]
            refine wpAnyH_ready (rs := [0]) (by kernel_rfl) (by simp) (AllReadyH.cons rfl (fun K hK => ?_) AllReadyH.nil)
            go_simp
            have HHeld := ED5.out.cellsT
            refine hK.out _ _ HHeld (fun _ => ?_)
            clear hK K
            try simp only [Act.put, List.setIfInBounds_toArray, List.set_cons_zero, List.set_cons_succ]
            refine wpAnyH_ready (rs := [1]) (by kernel_rfl) (by simp) (AllReadyH.cons rfl (fun K hK => ?_) AllReadyH.nil)
            go_simp
            refine HSR.out.mono ?_
            rintro e w6 ⟨rfl, n6, hw6⟩
            have E6 := Lib.hid (ED5.out.below (belowD (Below.refl _ _) n6) HV.out.fr)
            rw [← hw6] at E6
            clear hw6
            have HHeld := E6.out.cellsT
            refine hK.out _ _ HHeld (fun _ => ?_)
            clear hK K
            try simp only [Act.put, List.setIfInBounds_toArray, List.set_cons_zero, List.set_cons_succ]
            refine takeD (i := 4) (some 75) (.bool false) rfl (by kernel_rfl) (by kernel_rfl) (by kernel_rfl) (by kernel_rfl) (fun _ _ _ h => h) (by assumption) (Or.inl ⟨by rfl, fun w hSw => by (try dsimp only at hSw); unfold EKT at hSw; go_simp⟩) ?_
            simp only [Act.put, List.setIfInBounds_toArray, List.set_cons_zero, List.set_cons_succ]
            refine takeD (i := 5) (some 76) (.bool false) rfl (by kernel_rfl) (by kernel_rfl) (by kernel_rfl) (by kernel_rfl) (fun _ _ _ h => h) (by assumption) (Or.inl ⟨by rfl, fun w hSw => by (try dsimp only at hSw); unfold EKT at hSw; go_simp⟩) ?_
            simp only [Act.put, List.setIfInBounds_toArray, List.set_cons_zero, List.set_cons_succ]
            refine takeD (i := 6) (some 77) ((.func (.func 148) #[] #[.pointer (some ⟨w.heap.size + 5, 0, none⟩), .pointer (some ⟨w.heap.size, 0, none⟩), .pointer (some ⟨w.heap.size + 3, 0, none⟩), .pointer (some ⟨w.heap.size + 1, 0, none⟩), .pointer (some ⟨w.heap.size + 2, 0, none⟩), .pointer (some ⟨w.heap.size + 6, 0, none⟩)])) rfl (by kernel_rfl) (by kernel_rfl) (by kernel_rfl) (by kernel_rfl) (fun _ _ _ h => h) (by assumption) (Or.inl ⟨by rfl, fun w hSw => by (try dsimp only at hSw); unfold EKT at hSw; go_simp⟩) ?_
            simp only [Act.put, List.setIfInBounds_toArray, List.set_cons_zero, List.set_cons_succ]
            refine takeD (i := 7) (some 78) (.bool false) rfl (by kernel_rfl) (by kernel_rfl) (by kernel_rfl) (by kernel_rfl) (fun _ _ _ h => h) (by assumption) (Or.inl ⟨by rfl, fun w hSw => by (try dsimp only at hSw); unfold EKT at hSw; go_simp⟩) ?_
            simp only [Act.put, List.setIfInBounds_toArray, List.set_cons_zero, List.set_cons_succ]
            refine takeD (i := 8) (some 79) (.bool false) rfl (by kernel_rfl) (by kernel_rfl) (by kernel_rfl) (by kernel_rfl) (fun _ _ _ h => h) (by assumption) (Or.inl ⟨by rfl, fun w hSw => by (try dsimp only at hSw); unfold EKT at hSw; go_simp⟩) ?_
            simp only [Act.put, List.setIfInBounds_toArray, List.set_cons_zero, List.set_cons_succ]
            refine skipD (i := 9) (some 80) rfl (by kernel_rfl) (by kernel_rfl) (by kernel_rfl) (by kernel_rfl) (fun _ _ _ h => h) (by assumption) (by kernel_rfl) ?_
            simp only [Act.put, List.setIfInBounds_toArray, List.set_cons_zero, List.set_cons_succ]
            refine skipD (i := 10) (some 81) rfl (by kernel_rfl) (by kernel_rfl) (by kernel_rfl) (by kernel_rfl) (fun _ _ _ h => h) (by assumption) (by kernel_rfl) ?_
            simp only [Act.put, List.setIfInBounds_toArray, List.set_cons_zero, List.set_cons_succ]
            refine skipD (i := 11) (some 82) rfl (by kernel_rfl) (by kernel_rfl) (by kernel_rfl) (by kernel_rfl) (fun _ _ _ h => h) (by assumption) (by kernel_rfl) ?_
            simp only [Act.put, List.setIfInBounds_toArray, List.set_cons_zero, List.set_cons_succ]
            refine takeD (i := 12) (some 83) (.bool false) rfl (by kernel_rfl) (by kernel_rfl) (by kernel_rfl) (by kernel_rfl) (fun _ _ _ h => h) (by assumption) (Or.inl ⟨by rfl, fun w hSw => by (try dsimp only at hSw); unfold EKT at hSw; go_simp⟩) ?_
            simp only [Act.put, List.setIfInBounds_toArray, List.set_cons_zero, List.set_cons_succ]
            have HI := Lib.hid (HIH.out k2 _ _ s1 G (by have := HL2.out; have := HKR.out; omega) HBD2.out E6.out hLL.out (fun x hx => hPP.out x (by rw [keysFrom_take hlt HMY.out]; rw [HK2.out] at hx; exact List.mem_append_left _ hx)) b2 s2 HR2.out)
            refine wpAnyH_ready (rs := [13]) (by kernel_rfl) (by simp) (AllReadyH.cons rfl (fun K hK => ?_) AllReadyH.nil)
            go_simp
            refine HI.out.mono ?_
            rintro e w7 ⟨rfl, v7, G7, E7⟩
            have HE7 := Lib.hid E7; clear E7
            obtain ⟨g7, c7, rfl, _, _, hcc7, _, _⟩ := HE7.out.own.open1 (by have := HL2.out; omega)
            have hcap7 : key.length ≤ c7 := by have := HL2.out; omega
            have HHeld := HE7.out.cellsT
            refine hK.out _ _ HHeld (fun _ => ?_)
            clear hK K
            try simp only [Act.put, List.setIfInBounds_toArray, List.set_cons_zero, List.set_cons_succ]
            refine takeD (i := 14) (some 85) (.bool b2) rfl (by kernel_rfl) (by kernel_rfl) (by kernel_rfl) (by kernel_rfl) (fun _ _ _ h => h) (by assumption) (Or.inl ⟨by rfl, fun w hSw => by (try dsimp only at hSw); unfold EKT at hSw; go_simp⟩) ?_
            simp only [Act.put, List.setIfInBounds_toArray, List.set_cons_zero, List.set_cons_succ]
            refine takeD (i := 15) (some 12) (.bool b2) rfl (by kernel_rfl) (by kernel_rfl) (by kernel_rfl) (by kernel_rfl) (fun _ _ _ h => h) (by assumption) (Or.inl ⟨by rfl, fun w hSw => by (try dsimp only at hSw); unfold EKT at hSw; go_simp⟩) ?_
            simp only [Act.put, List.setIfInBounds_toArray, List.set_cons_zero, List.set_cons_succ]
            refine wpAnyH_done (by kernel_rfl) ?_ _
            have p7 := HE7.out.cK
            have f7 := HE7.out.fz
            have HPOP := Lib.hid (HE7.out.pop HV.out.fr HK2.out rfl)
            cases b2 with
            | true =>
              go_wp2_with fail
              go_roundw
              case rel => exact ⟨d + 1, _, s2, G7, by go_num, by omega, by omega, HPOP, Lib.hid (run_live HV.out.live (fun x hx => hPP.out x (by rw [keysFrom_take hlt HMY.out]; rw [HK2.out] at hx; exact List.mem_append_left _ hx)) hLL.out HR2.out), Lib.hid (fun x hx => hPP.out x (by rw [keysFrom_take hlt HMY.out]; exact List.mem_append_right _ hx)), Lib.hid (HYES.out (by first | exact rfl | exact trivial))⟩
              case measure => simp [intOf]; omega
            | false =>
              go_wp2_with fail
              go_ret
              obtain ⟨h1, h2⟩ := HNO.out (by first | exact rfl | exact trivial)
              subst h1 h2
              exact ⟨rfl, _, _, HPOP.out⟩
        · have hk00 : (0 : Int) < (key.length : Int) := by omega
          have hk01 : 0 < key.length := by omega
          have hk1' : key.length - 1 < key.length := by omega
          obtain ⟨gA, cA, eA, _, _, _, hcells, _⟩ := hE.out.own.open1 (by omega)
          injection eA with eA _ eC
          subst eA eC
          have hlc := hcells (key.length - 1) hk1'
          have hb1 := HBD.out (key.length - 1) hk1'
          have HKG := Lib.hid (show key.getD (key.length - 1) 0 = key[key.length - 1] by simp [List.getD, List.getElem?_eq_getElem hk1'])
          obtain ⟨x, hx⟩ : ∃ x, x = key[key.length - 1] := ⟨_, rfl⟩
          rw [← hx] at hlc hb1
          have HX := Lib.hid hx; clear hx
          have KL := Lib.hid (show ∀ w' (v1 : σ) G1, EK m Af nf cf .nilFunc (.func (.func kv) #[] capV) (.func (.func 148) #[] #[.pointer (some ⟨w.heap.size + 5, 0, none⟩), .pointer (some ⟨w.heap.size, 0, none⟩), .pointer (some ⟨w.heap.size + 3, 0, none⟩), .pointer (some ⟨w.heap.size + 1, 0, none⟩), .pointer (some ⟨w.heap.size + 2, 0, none⟩), .pointer (some ⟨w.heap.size + 6, 0, none⟩)]) R w F w' key (.slice (some ⟨gA, 0, none⟩) key.length c) v1 G1 → EKL m (.slice Af nf cf) .nilFunc (.func (.func kv) #[] capV) (.func (.func 148) #[] #[.pointer (some ⟨w.heap.size + 5, 0, none⟩), .pointer (some ⟨w.heap.size, 0, none⟩), .pointer (some ⟨w.heap.size + 3, 0, none⟩), .pointer (some ⟨w.heap.size + 1, 0, none⟩), .pointer (some ⟨w.heap.size + 2, 0, none⟩), .pointer (some ⟨w.heap.size + 6, 0, none⟩)]) (.slice (some ⟨gA, 0, none⟩) key.length c) w.heap.size gA (key.length - 1) x w' from fun w' v1 G1 h => by
            obtain ⟨g', c', e', _, _, _, hcs, _⟩ := h.own.open1 (by omega)
            injection e' with e' _ _
            injection e' with e'
            injection e' with e' _ _
            subst e'
            exact ⟨h.cells, by rw [HX.out]; exact hcs _ hk1'⟩)
          have HABS := Lib.hid (fun W => absolute_any (d - x) W (by omega) (by omega))
          have HK0 := Lib.hid hk0; clear hk0 hcells
          by_cases hst : m.s < absI (d - x)
          · have HMN := Lib.hid (show (mayAt m allA key d && mayRun m key d) = false from may_step (by omega) (by rw [HKG.out, ← HX.out]; exact hst))
            go_wp2_with fail
            refine wp_region_held_drew (S := EKL m (.slice Af nf cf) .nilFunc (.func (.func kv) #[] capV) (.func (.func 148) #[] #[.pointer (some ⟨w.heap.size + 5, 0, none⟩), .pointer (some ⟨w.heap.size, 0, none⟩), .pointer (some ⟨w.heap.size + 3, 0, none⟩), .pointer (some ⟨w.heap.size + 1, 0, none⟩), .pointer (some ⟨w.heap.size + 2, 0, none⟩), .pointer (some ⟨w.heap.size + 6, 0, none⟩)]) (.slice (some ⟨gA, 0, none⟩) key.length c) w.heap.size gA (key.length - 1) x) (by kernel_rfl) (KL.out _ _ _ ED.out) (fun hHeld => ?_)
            refine takeD (i := 0) (some 41) (.nilFunc) rfl (by kernel_rfl) (by kernel_rfl) (by kernel_rfl) (by kernel_rfl) (fun _ _ _ h => h) (by assumption) (Or.inl ⟨by rfl, fun w hSw => by (try dsimp only at hSw); unfold EKL at hSw; unfold EKS at hSw; go_simp⟩) ?_
            simp only [Act.put, List.setIfInBounds_toArray, List.set_cons_zero, List.set_cons_succ]
            refine takeD (i := 1) (some 42) (.bool false) rfl (by kernel_rfl) (by kernel_rfl) (by kernel_rfl) (by kernel_rfl) (fun _ _ _ h => h) (by assumption) (Or.inl ⟨by rfl, fun w hSw => by (try dsimp only at hSw); unfold EKL at hSw; unfold EKS at hSw; go_simp⟩) ?_
            simp only [Act.put, List.setIfInBounds_toArray, List.set_cons_zero, List.set_cons_succ]
            refine takeD (i := 2) (some 43) (.bool false) rfl (by kernel_rfl) (by kernel_rfl) (by kernel_rfl) (by kernel_rfl) (fun _ _ _ h => h) (by assumption) (Or.inl ⟨by rfl, fun w hSw => by (try dsimp only at hSw); unfold EKL at hSw; unfold EKS at hSw; go_simp⟩) ?_
            simp only [Act.put, List.setIfInBounds_toArray, List.set_cons_zero, List.set_cons_succ]
            refine skipD (i := 3) (some 44) rfl (by kernel_rfl) (by kernel_rfl) (by kernel_rfl) (by kernel_rfl) (fun _ _ _ h => h) (by assumption) (by kernel_rfl) ?_
            simp only [Act.put, List.setIfInBounds_toArray, List.set_cons_zero, List.set_cons_succ]
            refine skipD (i := 4) (some 45) rfl (by kernel_rfl) (by kernel_rfl) (by kernel_rfl) (by kernel_rfl) (fun _ _ _ h => h) (by assumption) (by kernel_rfl) ?_
            simp only [Act.put, List.setIfInBounds_toArray, List.set_cons_zero, List.set_cons_succ]
            refine skipD (i := 5) (some 46) rfl (by kernel_rfl) (by kernel_rfl) (by kernel_rfl) (by kernel_rfl) (fun _ _ _ h => h) (by assumption) (by kernel_rfl) ?_
            simp only [Act.put, List.setIfInBounds_toArray, List.set_cons_zero, List.set_cons_succ]
            refine skipD (i := 6) (some 47) rfl (by kernel_rfl) (by kernel_rfl) (by kernel_rfl) (by kernel_rfl) (fun _ _ _ h => h) (by assumption) (by kernel_rfl) ?_
            simp only [Act.put, List.setIfInBounds_toArray, List.set_cons_zero, List.set_cons_succ]
            refine skipD (i := 7) (some 48) rfl (by kernel_rfl) (by kernel_rfl) (by kernel_rfl) (by kernel_rfl) (fun _ _ _ h => h) (by assumption) (by kernel_rfl) ?_
            simp only [Act.put, List.setIfInBounds_toArray, List.set_cons_zero, List.set_cons_succ]
            refine takeD (i := 8) (some 49) (.bool false) rfl (by kernel_rfl) (by kernel_rfl) (by kernel_rfl) (by kernel_rfl) (fun _ _ _ h => h) (by assumption) (Or.inl ⟨by rfl, fun w hSw => by (try dsimp only at hSw); unfold EKL at hSw; unfold EKS at hSw; go_simp⟩) ?_
            simp only [Act.put, List.setIfInBounds_toArray, List.set_cons_zero, List.set_cons_succ]
            refine takeD (i := 9) (some 50) (.bool false) rfl (by kernel_rfl) (by kernel_rfl) (by kernel_rfl) (by kernel_rfl) (fun _ _ _ h => h) (by assumption) (Or.inl ⟨by rfl, fun w hSw => by (try dsimp only at hSw); unfold EKL at hSw; unfold EKS at hSw; go_simp⟩) ?_
            simp only [Act.put, List.setIfInBounds_toArray, List.set_cons_zero, List.set_cons_succ]
            refine takeD (i := 10) (some 51) (.int .i64 (key.length : Int)) rfl (by kernel_rfl) (by kernel_rfl) (by kernel_rfl) (by kernel_rfl) (fun _ _ _ h => h) (by assumption) (Or.inl ⟨by rfl, fun w hSw => by (try dsimp only at hSw); unfold EKL at hSw; unfold EKS at hSw; go_simp⟩) ?_
            simp only [Act.put, List.setIfInBounds_toArray, List.set_cons_zero, List.set_cons_succ]
            refine takeD (i := 11) (some 52) (.bool true) rfl (by kernel_rfl) (by kernel_rfl) (by kernel_rfl) (by kernel_rfl) (fun _ _ _ h => h) (by assumption) (Or.inl ⟨by rfl, fun w hSw => by (try dsimp only at hSw); unfold EKL at hSw; unfold EKS at hSw; go_simp⟩) ?_
            simp only [Act.put, List.setIfInBounds_toArray, List.set_cons_zero, List.set_cons_succ]
            refine takeD (i := 12) (some 53) (.bool true) rfl (by kernel_rfl) (by kernel_rfl) (by kernel_rfl) (by kernel_rfl) (fun _ _ _ h => h) (by assumption) (Or.inl ⟨by rfl, fun w hSw => by (try dsimp only at hSw); unfold EKL at hSw; unfold EKS at hSw; go_simp⟩) ?_
            simp only [Act.put, List.setIfInBounds_toArray, List.set_cons_zero, List.set_cons_succ]
            refine takeD (i := 13) (some 54) (.int .i64 d) rfl (by kernel_rfl) (by kernel_rfl) (by kernel_rfl) (by kernel_rfl) (fun _ _ _ h => h) (by assumption) (Or.inl ⟨by rfl, fun w hSw => by (try dsimp only at hSw); unfold EKL at hSw; unfold EKS at hSw; go_simp⟩) ?_
            simp only [Act.put, List.setIfInBounds_toArray, List.set_cons_zero, List.set_cons_succ]
            refine takeD (i := 14) (some 55) (.slice (some ⟨gA, 0, none⟩) key.length c) rfl (by kernel_rfl) (by kernel_rfl) (by kernel_rfl) (by kernel_rfl) (fun _ _ _ h => h) (by assumption) (Or.inl ⟨by rfl, fun w hSw => by (try dsimp only at hSw); unfold EKL at hSw; unfold EKS at hSw; go_simp⟩) ?_
            simp only [Act.put, List.setIfInBounds_toArray, List.set_cons_zero, List.set_cons_succ]
            refine takeD (i := 15) (some 56) (.int .i64 (key.length : Int)) rfl (by kernel_rfl) (by kernel_rfl) (by kernel_rfl) (by kernel_rfl) (fun _ _ _ h => h) (by assumption) (Or.inl ⟨by rfl, fun w hSw => by (try dsimp only at hSw); unfold EKL at hSw; unfold EKS at hSw; go_simp⟩) ?_
            simp only [Act.put, List.setIfInBounds_toArray, List.set_cons_zero, List.set_cons_succ]
            refine takeD (i := 16) (some 57) (.int .i64 ((key.length : Int) - 1)) rfl (by kernel_rfl) (by kernel_rfl) (by kernel_rfl) (by kernel_rfl) (fun _ _ _ h => h) (by assumption) (Or.inl ⟨by rfl, fun w hSw => by (try dsimp only at hSw); unfold EKL at hSw; unfold EKS at hSw; go_simp; (rw [IntKind.wrap_i64]; omega)⟩) ?_
            simp only [Act.put, List.setIfInBounds_toArray, List.set_cons_zero, List.set_cons_succ]
            refine takeD (i := 17) (some 58) (.pointer (some ⟨gA, key.length - 1, none⟩)) rfl (by kernel_rfl) (by kernel_rfl) (by kernel_rfl) (by kernel_rfl) (fun _ _ _ h => h) (by assumption) (Or.inl ⟨by rfl, fun w hSw => by (try dsimp only at hSw); unfold EKL at hSw; unfold EKS at hSw; go_simp; exact fun hcon => absurd (hcon (by omega)) (by omega)⟩) ?_
            simp only [Act.put, List.setIfInBounds_toArray, List.set_cons_zero, List.set_cons_succ]
            refine takeD (i := 18) (some 59) (.int .i64 x) rfl (by kernel_rfl) (by kernel_rfl) (by kernel_rfl) (by kernel_rfl) (fun _ _ _ h => h) (by assumption) (Or.inl ⟨by rfl, fun w hSw => by (try dsimp only at hSw); unfold EKL at hSw; unfold EKS at hSw; go_simp⟩) ?_
            simp only [Act.put, List.setIfInBounds_toArray, List.set_cons_zero, List.set_cons_succ]
            refine takeD (i := 19) (some 60) (.int .i64 (d - x)) rfl (by kernel_rfl) (by kernel_rfl) (by kernel_rfl) (by kernel_rfl) (fun _ _ _ h => h) (by assumption) (Or.inl ⟨by rfl, fun w hSw => by (try dsimp only at hSw); unfold EKL at hSw; unfold EKS at hSw; go_simp; (rw [IntKind.wrap_i64]; omega)⟩) ?_
            simp only [Act.put, List.setIfInBounds_toArray, List.set_cons_zero, List.set_cons_succ]
            refine takeD (i := 21) (some 62) (.pointer (some ⟨w.heap.size, 2, none⟩)) rfl (by kernel_rfl) (by kernel_rfl) (by kernel_rfl) (by kernel_rfl) (fun _ _ _ h => h) (by assumption) (Or.inl ⟨by rfl, fun w hSw => by (try dsimp only at hSw); unfold EKL at hSw; unfold EKS at hSw; go_simp⟩) ?_
            simp only [Act.put, List.setIfInBounds_toArray, List.set_cons_zero, List.set_cons_succ]
            refine takeD (i := 22) (some 63) (.int .i64 m.s) rfl (by kernel_rfl) (by kernel_rfl) (by kernel_rfl) (by kernel_rfl) (fun _ _ _ h => h) (by assumption) (Or.inl ⟨by rfl, fun w hSw => by (try dsimp only at hSw); unfold EKL at hSw; unfold EKS at hSw; go_simp⟩) ?_
            simp only [Act.put, List.setIfInBounds_toArray, List.set_cons_zero, List.set_cons_succ]
            refine wpAnyH_ready (rs := [20]) (by kernel_rfl) (by simp) (AllReadyH.cons rfl (fun K hK => ?_) AllReadyH.nil)
            go_simp
            refine (HABS.out _).mono ?_
            rintro e w3 ⟨rfl, rfl⟩
            have HHeld := KL.out _ _ _ ED.out
            refine hK.out _ _ HHeld (fun _ => ?_)
            clear hK K
            try simp only [Act.put, List.setIfInBounds_toArray, List.set_cons_zero, List.set_cons_succ]
            refine takeD (i := 23) (some 64) (.bool true) rfl (by kernel_rfl) (by kernel_rfl) (by kernel_rfl) (by kernel_rfl) (fun _ _ _ h => h) (by assumption) (Or.inl ⟨by rfl, fun w hSw => by (try dsimp only at hSw); unfold EKL at hSw; unfold EKS at hSw; go_simp⟩) ?_
            simp only [Act.put, List.setIfInBounds_toArray, List.set_cons_zero, List.set_cons_succ]
            refine takeD (i := 24) (some 65) (.bool true) rfl (by kernel_rfl) (by kernel_rfl) (by kernel_rfl) (by kernel_rfl) (fun _ _ _ h => h) (by assumption) (Or.inl ⟨by rfl, fun w hSw => by (try dsimp only at hSw); unfold EKL at hSw; unfold EKS at hSw; go_simp⟩) ?_
            simp only [Act.put, List.setIfInBounds_toArray, List.set_cons_zero, List.set_cons_succ]
            refine takeD (i := 25) (some 66) (.bool true) rfl (by kernel_rfl) (by kernel_rfl) (by kernel_rfl) (by kernel_rfl) (fun _ _ _ h => h) (by assumption) (Or.inl ⟨by rfl, fun w hSw => by (try dsimp only at hSw); unfold EKL at hSw; unfold EKS at hSw; go_simp⟩) ?_
            simp only [Act.put, List.setIfInBounds_toArray, List.set_cons_zero, List.set_cons_succ]
            refine wpAnyH_done (by kernel_rfl) ?_ _
            go_wp2_with fail
            go_roundw
            case rel => exact ⟨d + 1, _, s1, G, by go_num, by omega, by omega, ED, hLL, Lib.hid (by rw [← keysFrom_skip hlt HMN.out]; exact hPP.out), Lib.hid (by rw [← keysFrom_skip hlt HMN.out]; exact hRR.out)⟩
            case measure => simp [intOf]; omega
          · have HST := Lib.hid (show absI (d - key.getD (key.length - 1) 0) ≤ m.s by rw [HKG.out, ← HX.out]; omega)
            have hst' : decide (m.s < absI (d - x)) = false := decide_eq_false hst
            go_wp2_with fail
            refine wp_region_held_drew (S := EKL m (.slice Af nf cf) .nilFunc (.func (.func kv) #[] capV) (.func (.func 148) #[] #[.pointer (some ⟨w.heap.size + 5, 0, none⟩), .pointer (some ⟨w.heap.size, 0, none⟩), .pointer (some ⟨w.heap.size + 3, 0, none⟩), .pointer (some ⟨w.heap.size + 1, 0, none⟩), .pointer (some ⟨w.heap.size + 2, 0, none⟩), .pointer (some ⟨w.heap.size + 6, 0, none⟩)]) (.slice (some ⟨gA, 0, none⟩) key.length c) w.heap.size gA (key.length - 1) x) (by kernel_rfl) (KL.out _ _ _ ED.out) (fun hHeld => ?_)
            refine takeD (i := 0) (some 41) (.nilFunc) rfl (by kernel_rfl) (by kernel_rfl) (by kernel_rfl) (by kernel_rfl) (fun _ _ _ h => h) (by assumption) (Or.inl ⟨by rfl, fun w hSw => by (try dsimp only at hSw); unfold EKL at hSw; unfold EKS at hSw; go_simp⟩) ?_
            simp only [Act.put, List.setIfInBounds_toArray, List.set_cons_zero, List.set_cons_succ]
            refine takeD (i := 1) (some 42) (.bool false) rfl (by kernel_rfl) (by kernel_rfl) (by kernel_rfl) (by kernel_rfl) (fun _ _ _ h => h) (by assumption) (Or.inl ⟨by rfl, fun w hSw => by (try dsimp only at hSw); unfold EKL at hSw; unfold EKS at hSw; go_simp⟩) ?_
            simp only [Act.put, List.setIfInBounds_toArray, List.set_cons_zero, List.set_cons_succ]
            refine takeD (i := 2) (some 43) (.bool false) rfl (by kernel_rfl) (by kernel_rfl) (by kernel_rfl) (by kernel_rfl) (fun _ _ _ h => h) (by assumption) (Or.inl ⟨by rfl, fun w hSw => by (try dsimp only at hSw); unfold EKL at hSw; unfold EKS at hSw; go_simp⟩) ?_
            simp only [Act.put, List.setIfInBounds_toArray, List.set_cons_zero, List.set_cons_succ]
            refine skipD (i := 3) (some 44) rfl (by kernel_rfl) (by kernel_rfl) (by kernel_rfl) (by kernel_rfl) (fun _ _ _ h => h) (by assumption) (by kernel_rfl) ?_
            simp only [Act.put, List.setIfInBounds_toArray, List.set_cons_zero, List.set_cons_succ]
            refine skipD (i := 4) (some 45) rfl (by kernel_rfl) (by kernel_rfl) (by kernel_rfl) (by kernel_rfl) (fun _ _ _ h => h) (by assumption) (by kernel_rfl) ?_
            simp only [Act.put, List.setIfInBounds_toArray, List.set_cons_zero, List.set_cons_succ]
            refine skipD (i := 5) (some 46) rfl (by kernel_rfl) (by kernel_rfl) (by kernel_rfl) (by kernel_rfl) (fun _ _ _ h => h) (by assumption) (by kernel_rfl) ?_
            simp only [Act.put, List.setIfInBounds_toArray, List.set_cons_zero, List.set_cons_succ]
            refine skipD (i := 6) (some 47) rfl (by kernel_rfl) (by kernel_rfl) (by kernel_rfl) (by kernel_rfl) (fun _ _ _ h => h) (by assumption) (by kernel_rfl) ?_
            simp only [Act.put, List.setIfInBounds_toArray, List.set_cons_zero, List.set_cons_succ]
            refine skipD (i := 7) (some 48) rfl (by kernel_rfl) (by kernel_rfl) (by kernel_rfl) (by kernel_rfl) (fun _ _ _ h => h) (by assumption) (by kernel_rfl) ?_
            simp only [Act.put, List.setIfInBounds_toArray, List.set_cons_zero, List.set_cons_succ]
            refine takeD (i := 8) (some 49) (.bool false) rfl (by kernel_rfl) (by kernel_rfl) (by kernel_rfl) (by kernel_rfl) (fun _ _ _ h => h) (by assumption) (Or.inl ⟨by rfl, fun w hSw => by (try dsimp only at hSw); unfold EKL at hSw; unfold EKS at hSw; go_simp⟩) ?_
            simp only [Act.put, List.setIfInBounds_toArray, List.set_cons_zero, List.set_cons_succ]
            refine takeD (i := 9) (some 50) (.bool false) rfl (by kernel_rfl) (by kernel_rfl) (by kernel_rfl) (by kernel_rfl) (fun _ _ _ h => h) (by assumption) (Or.inl ⟨by rfl, fun w hSw => by (try dsimp only at hSw); unfold EKL at hSw; unfold EKS at hSw; go_simp⟩) ?_
            simp only [Act.put, List.setIfInBounds_toArray, List.set_cons_zero, List.set_cons_succ]
            refine takeD (i := 10) (some 51) (.int .i64 (key.length : Int)) rfl (by kernel_rfl) (by kernel_rfl) (by kernel_rfl) (by kernel_rfl) (fun _ _ _ h => h) (by assumption) (Or.inl ⟨by rfl, fun w hSw => by (try dsimp only at hSw); unfold EKL at hSw; unfold EKS at hSw; go_simp⟩) ?_
            simp only [Act.put, List.setIfInBounds_toArray, List.set_cons_zero, List.set_cons_succ]
            refine takeD (i := 11) (some 52) (.bool true) rfl (by kernel_rfl) (by kernel_rfl) (by kernel_rfl) (by kernel_rfl) (fun _ _ _ h => h) (by assumption) (Or.inl ⟨by rfl, fun w hSw => by (try dsimp only at hSw); unfold EKL at hSw; unfold EKS at hSw; go_simp⟩) ?_
            simp only [Act.put, List.setIfInBounds_toArray, List.set_cons_zero, List.set_cons_succ]
            refine takeD (i := 12) (some 53) (.bool true) rfl (by kernel_rfl) (by kernel_rfl) (by kernel_rfl) (by kernel_rfl) (fun _ _ _ h => h) (by assumption) (Or.inl ⟨by rfl, fun w hSw => by (try dsimp only at hSw); unfold EKL at hSw; unfold EKS at hSw; go_simp⟩) ?_
            simp only [Act.put, List.setIfInBounds_toArray, List.set_cons_zero, List.set_cons_succ]
            refine takeD (i := 13) (some 54) (.int .i64 d) rfl (by kernel_rfl) (by kernel_rfl) (by kernel_rfl) (by kernel_rfl) (fun _ _ _ h => h) (by assumption) (Or.inl ⟨by rfl, fun w hSw => by (try dsimp only at hSw); unfold EKL at hSw; unfold EKS at hSw; go_simp⟩) ?_
            simp only [Act.put, List.setIfInBounds_toArray, List.set_cons_zero, List.set_cons_succ]
            refine takeD (i := 14) (some 55) (.slice (some ⟨gA, 0, none⟩) key.length c) rfl (by kernel_rfl) (by kernel_rfl) (by kernel_rfl) (by kernel_rfl) (fun _ _ _ h => h) (by assumption) (Or.inl ⟨by rfl, fun w hSw => by (try dsimp only at hSw); unfold EKL at hSw; unfold EKS at hSw; go_simp⟩) ?_
            simp only [Act.put, List.setIfInBounds_toArray, List.set_cons_zero, List.set_cons_succ]
            refine takeD (i := 15) (some 56) (.int .i64 (key.length : Int)) rfl (by kernel_rfl) (by kernel_rfl) (by kernel_rfl) (by kernel_rfl) (fun _ _ _ h => h) (by assumption) (Or.inl ⟨by rfl, fun w hSw => by (try dsimp only at hSw); unfold EKL at hSw; unfold EKS at hSw; go_simp⟩) ?_
            simp only [Act.put, List.setIfInBounds_toArray, List.set_cons_zero, List.set_cons_succ]
            refine takeD (i := 16) (some 57) (.int .i64 ((key.length : Int) - 1)) rfl (by kernel_rfl) (by kernel_rfl) (by kernel_rfl) (by kernel_rfl) (fun _ _ _ h => h) (by assumption) (Or.inl ⟨by rfl, fun w hSw => by (try dsimp only at hSw); unfold EKL at hSw; unfold EKS at hSw; go_simp; (rw [IntKind.wrap_i64]; omega)⟩) ?_
            simp only [Act.put, List.setIfInBounds_toArray, List.set_cons_zero, List.set_cons_succ]
            refine takeD (i := 17) (some 58) (.pointer (some ⟨gA, key.length - 1, none⟩)) rfl (by kernel_rfl) (by kernel_rfl) (by kernel_rfl) (by kernel_rfl) (fun _ _ _ h => h) (by assumption) (Or.inl ⟨by rfl, fun w hSw => by (try dsimp only at hSw); unfold EKL at hSw; unfold EKS at hSw; go_simp; exact fun hcon => absurd (hcon (by omega)) (by omega)⟩) ?_
            simp only [Act.put, List.setIfInBounds_toArray, List.set_cons_zero, List.set_cons_succ]
            refine takeD (i := 18) (some 59) (.int .i64 x) rfl (by kernel_rfl) (by kernel_rfl) (by kernel_rfl) (by kernel_rfl) (fun _ _ _ h => h) (by assumption) (Or.inl ⟨by rfl, fun w hSw => by (try dsimp only at hSw); unfold EKL at hSw; unfold EKS at hSw; go_simp⟩) ?_
            simp only [Act.put, List.setIfInBounds_toArray, List.set_cons_zero, List.set_cons_succ]
            refine takeD (i := 19) (some 60) (.int .i64 (d - x)) rfl (by kernel_rfl) (by kernel_rfl) (by kernel_rfl) (by kernel_rfl) (fun _ _ _ h => h) (by assumption) (Or.inl ⟨by rfl, fun w hSw => by (try dsimp only at hSw); unfold EKL at hSw; unfold EKS at hSw; go_simp; (rw [IntKind.wrap_i64]; omega)⟩) ?_
            simp only [Act.put, List.setIfInBounds_toArray, List.set_cons_zero, List.set_cons_succ]
            refine takeD (i := 21) (some 62) (.pointer (some ⟨w.heap.size, 2, none⟩)) rfl (by kernel_rfl) (by kernel_rfl) (by kernel_rfl) (by kernel_rfl) (fun _ _ _ h => h) (by assumption) (Or.inl ⟨by rfl, fun w hSw => by (try dsimp only at hSw); unfold EKL at hSw; unfold EKS at hSw; go_simp⟩) ?_
            simp only [Act.put, List.setIfInBounds_toArray, List.set_cons_zero, List.set_cons_succ]
            refine takeD (i := 22) (some 63) (.int .i64 m.s) rfl (by kernel_rfl) (by kernel_rfl) (by kernel_rfl) (by kernel_rfl) (fun _ _ _ h => h) (by assumption) (Or.inl ⟨by rfl, fun w hSw => by (try dsimp only at hSw); unfold EKL at hSw; unfold EKS at hSw; go_simp⟩) ?_
            simp only [Act.put, List.setIfInBounds_toArray, List.set_cons_zero, List.set_cons_succ]
            refine wpAnyH_ready (rs := [20]) (by kernel_rfl) (by simp) (AllReadyH.cons rfl (fun K hK => ?_) AllReadyH.nil)
            go_simp
            refine (HABS.out _).mono ?_
            rintro e w3 ⟨rfl, rfl⟩
            have HHeld := KL.out _ _ _ ED.out
            refine hK.out _ _ HHeld (fun _ => ?_)
            clear hK K
            try simp only [Act.put, List.setIfInBounds_toArray, List.set_cons_zero, List.set_cons_succ]
            refine takeD (i := 23) (some 64) (.bool false) rfl (by kernel_rfl) (by kernel_rfl) (by kernel_rfl) (by kernel_rfl) (fun _ _ _ h => h) (by assumption) (Or.inl ⟨by rfl, fun w hSw => by (try dsimp only at hSw); unfold EKL at hSw; unfold EKS at hSw; go_simp⟩) ?_
            simp only [Act.put, List.setIfInBounds_toArray, List.set_cons_zero, List.set_cons_succ]
            refine takeD (i := 24) (some 65) (.bool false) rfl (by kernel_rfl) (by kernel_rfl) (by kernel_rfl) (by kernel_rfl) (fun _ _ _ h => h) (by assumption) (Or.inl ⟨by rfl, fun w hSw => by (try dsimp only at hSw); unfold EKL at hSw; unfold EKS at hSw; go_simp⟩) ?_
            simp only [Act.put, List.setIfInBounds_toArray, List.set_cons_zero, List.set_cons_succ]
            refine takeD (i := 25) (some 66) (.bool false) rfl (by kernel_rfl) (by kernel_rfl) (by kernel_rfl) (by kernel_rfl) (fun _ _ _ h => h) (by assumption) (Or.inl ⟨by rfl, fun w hSw => by (try dsimp only at hSw); unfold EKL at hSw; unfold EKS at hSw; go_simp⟩) ?_
            simp only [Act.put, List.setIfInBounds_toArray, List.set_cons_zero, List.set_cons_succ]
            refine wpAnyH_done (by kernel_rfl) ?_ _
            generalize hwd : wr.drew = wd at *
            clear hwd
            have HE2 := ED
            have hz2 := HE2.out.size
            have ho2 := HE2.out.own
            have p5' := HE2.out.cK
            obtain ⟨k2, hk2⟩ : ∃ k2, k2 = key ++ [d] := ⟨_, rfl⟩
            have HK2 := Lib.hid hk2
            have HL2 := Lib.hid (show k2.length = key.length + 1 by rw [hk2]; simp)
            have HBD2 := Lib.hid (show ∀ i (h : i < k2.length), 0 ≤ k2[i] ∧ k2[i] < m.d by
              subst hk2
              intro i h
              by_cases hi : i < key.length
              · rw [List.getElem_append_left hi]; exact HBD.out i hi
              · rw [List.getElem_append_right (by omega)]; simp; exact ⟨hd0, hlt⟩)
            have HIN := Lib.hid (show ints key ++ [.int .i64 d] = ints k2 by rw [hk2, ints_append]; rfl)
            clear hk2
            go_wp2_with (at_builtin; refine wpList_app1 _ rfl _ _ _ rfl (w.heap.size + 4) 2 _ 8 Tryz.underlying33 info_int rfl (by omega) _ _ rfl (ho2.alloc _) _ _ rfl (one_cell _ _ _) rfl (by rw [ints_length]; omega) (by simp; omega) ?_; intro v' w4 ho4 hg4 hn4 hat4; rw [HIN.out] at ho4; obtain ⟨h5c, h5f, _⟩ := HE2.out.grow hg4; have E5 := Lib.hid (HE2.out.push HV.out.lt HV.out.fr hg4 hat4 ho4); obtain ⟨g5, c5, rfl, _, _, hcc5, _, _⟩ := ho4.open1 (by have := HL2.out; omega); clear ho4 hg4 hn4 hat4)
            obtain ⟨w5, hw5⟩ : ∃ w5, w5 = w4.setCell ⟨w.heap.size + 5, 0, none⟩ (.slice (some ⟨g5, 0, none⟩) k2.length c5) := ⟨_, rfl⟩
            rw [← hw5] at E5
            rw [← hw5]
            clear hw5 h5c h5f
            have hr5 : RI w5.drew (some ⟨g5, 0, none⟩) k2 := by
              obtain ⟨A, c, e, _, h, _⟩ := E5.out.open
              injection e with e1 e2 e3
              subst e1; exact h
            have ED5 := Lib.hid (E5.out.below (belowDrew0 w5) HV.out.fr)
            have pd5 := ED5.out.cK
            have hcap5 : key.length ≤ c5 := by have := HL2.out; omega
            have HSR := Lib.hid (sameRun_any (some ⟨g5, 0, none⟩) c5 k2 w5.drew hr5 (by have := HL2.out; omega))
            by_cases hrx : m.a < (endRun k2 : Int)
            · have HMY := Lib.hid (show (mayAt m allA key d && mayRun m key d) = false from may_run (by rw [← HK2.out]; exact hrx))
              refine wp_region_held_drew (S := EKT m (.slice Af nf cf) .nilFunc (.func (.func kv) #[] capV) (.func (.func 148) #[] #[.pointer (some ⟨w.heap.size + 5, 0, none⟩), .pointer (some ⟨w.heap.size, 0, none⟩), .pointer (some ⟨w.heap.size + 3, 0, none⟩), .pointer (some ⟨w.heap.size + 1, 0, none⟩), .pointer (some ⟨w.heap.size + 2, 0, none⟩), .pointer (some ⟨w.heap.size + 6, 0, none⟩)]) w.heap.size) (by kernel_rfl) (ED5.out.cellsT) (fun hHeld => ?_)
              refine takeD (i := 2) (some 73) (.pointer (some ⟨w.heap.size, 3, none⟩)) rfl (by kernel_rfl) (by kernel_rfl) (by kernel_rfl) (by kernel_rfl) (fun _ _ _ h => h) (by assumption) (Or.inl ⟨by rfl, fun w hSw => by (try dsimp only at hSw); unfold EKT at hSw; go_simp⟩) ?_
              simp only [Act.put, List.setIfInBounds_toArray, List.set_cons_zero, List.set_cons_succ]
              refine takeD (i := 3) (some 74) (.int .i64 m.a) rfl (by kernel_rfl) (by kernel_rfl) (by kernel_rfl) (by kernel_rfl) (fun _ _ _ h => h) (by assumption) (Or.inl ⟨by rfl, fun w hSw => by (try dsimp only at hSw); unfold EKT at hSw; go_simp⟩) ?_
              simp only [Act.put, List.setIfInBounds_toArray, List.set_cons_zero, List.set_cons_succ]
              refine wpAnyH_ready (rs := [0]) (by kernel_rfl) (by simp) (AllReadyH.cons rfl (fun K hK => ?_) AllReadyH.nil)
              go_simp
              have HHeld := ED5.out.cellsT
              refine hK.out _ _ HHeld (fun _ => ?_)
              clear hK K
              try simp only [Act.put, List.setIfInBounds_toArray, List.set_cons_zero, List.set_cons_succ]
              refine wpAnyH_ready (rs := [1]) (by kernel_rfl) (by simp) (AllReadyH.cons rfl (fun K hK => ?_) AllReadyH.nil)
              go_simp
              refine HSR.out.mono ?_
              rintro e w6 ⟨rfl, n6, hw6⟩
              have E6 := Lib.hid (ED5.out.below (belowD (Below.refl _ _) n6) HV.out.fr)
              rw [← hw6] at E6
              clear hw6
              have HHeld := E6.out.cellsT
              refine hK.out _ _ HHeld (fun _ => ?_)
              clear hK K
              try simp only [Act.put, List.setIfInBounds_toArray, List.set_cons_zero, List.set_cons_succ]
              refine takeD (i := 4) (some 75) (.bool true) rfl (by kernel_rfl) (by kernel_rfl) (by kernel_rfl) (by kernel_rfl) (fun _ _ _ h => h) (by assumption) (Or.inl ⟨by rfl, fun w hSw => by (try dsimp only at hSw); unfold EKT at hSw; go_simp⟩) ?_
              simp only [Act.put, List.setIfInBounds_toArray, List.set_cons_zero, List.set_cons_succ]
              refine takeD (i := 5) (some 76) (.bool true) rfl (by kernel_rfl) (by kernel_rfl) (by kernel_rfl) (by kernel_rfl) (fun _ _ _ h => h) (by assumption) (Or.inl ⟨by rfl, fun w hSw => by (try dsimp only at hSw); unfold EKT at hSw; go_simp⟩) ?_
              simp only [Act.put, List.setIfInBounds_toArray, List.set_cons_zero, List.set_cons_succ]
              refine skipD (i := 6) (some 77) rfl (by kernel_rfl) (by kernel_rfl) (by kernel_rfl) (by kernel_rfl) (fun _ _ _ h => h) (by assumption) (by kernel_rfl) ?_
              simp only [Act.put, List.setIfInBounds_toArray, List.set_cons_zero, List.set_cons_succ]
              refine skipD (i := 7) (some 78) rfl (by kernel_rfl) (by kernel_rfl) (by kernel_rfl) (by kernel_rfl) (fun _ _ _ h => h) (by assumption) (by kernel_rfl) ?_
              simp only [Act.put, List.setIfInBounds_toArray, List.set_cons_zero, List.set_cons_succ]
              refine skipD (i := 8) (some 79) rfl (by kernel_rfl) (by kernel_rfl) (by kernel_rfl) (by kernel_rfl) (fun _ _ _ h => h) (by assumption) (by kernel_rfl) ?_
              simp only [Act.put, List.setIfInBounds_toArray, List.set_cons_zero, List.set_cons_succ]
              refine skipD (i := 9) (some 80) rfl (by kernel_rfl) (by kernel_rfl) (by kernel_rfl) (by kernel_rfl) (fun _ _ _ h => h) (by assumption) (by kernel_rfl) ?_
              simp only [Act.put, List.setIfInBounds_toArray, List.set_cons_zero, List.set_cons_succ]
              refine skipD (i := 10) (some 81) rfl (by kernel_rfl) (by kernel_rfl) (by kernel_rfl) (by kernel_rfl) (fun _ _ _ h => h) (by assumption) (by kernel_rfl) ?_
              simp only [Act.put, List.setIfInBounds_toArray, List.set_cons_zero, List.set_cons_succ]
              refine skipD (i := 11) (some 82) rfl (by kernel_rfl) (by kernel_rfl) (by kernel_rfl) (by kernel_rfl) (fun _ _ _ h => h) (by assumption) (by kernel_rfl) ?_
              simp only [Act.put, List.setIfInBounds_toArray, List.set_cons_zero, List.set_cons_succ]
              refine skipD (i := 12) (some 83) rfl (by kernel_rfl) (by kernel_rfl) (by kernel_rfl) (by kernel_rfl) (fun _ _ _ h => h) (by assumption) (by kernel_rfl) ?_
              simp only [Act.put, List.setIfInBounds_toArray, List.set_cons_zero, List.set_cons_succ]
              refine skipD (i := 13) (some 84) rfl (by kernel_rfl) (by kernel_rfl) (by kernel_rfl) (by kernel_rfl) (fun _ _ _ h => h) (by assumption) (by kernel_rfl) ?_
              simp only [Act.put, List.setIfInBounds_toArray, List.set_cons_zero, List.set_cons_succ]
              refine takeD (i := 14) (some 85) (.bool true) rfl (by kernel_rfl) (by kernel_rfl) (by kernel_rfl) (by kernel_rfl) (fun _ _ _ h => h) (by assumption) (Or.inl ⟨by rfl, fun w hSw => by (try dsimp only at hSw); unfold EKT at hSw; go_simp⟩) ?_
              simp only [Act.put, List.setIfInBounds_toArray, List.set_cons_zero, List.set_cons_succ]
              refine takeD (i := 15) (some 12) (.bool true) rfl (by kernel_rfl) (by kernel_rfl) (by kernel_rfl) (by kernel_rfl) (fun _ _ _ h => h) (by assumption) (Or.inl ⟨by rfl, fun w hSw => by (try dsimp only at hSw); unfold EKT at hSw; go_simp⟩) ?_
              simp only [Act.put, List.setIfInBounds_toArray, List.set_cons_zero, List.set_cons_succ]
              refine wpAnyH_done (by kernel_rfl) ?_ _
              have p6 := E6.out.cK
              have f6 := E6.out.fz
              go_wp2_with fail
              go_roundw
              case rel => exact ⟨d + 1, _, s1, G, by go_num, by omega, by omega, Lib.hid (E6.out.pop HV.out.fr HK2.out rfl), hLL, Lib.hid (by rw [← keysFrom_skip hlt HMY.out]; exact hPP.out), Lib.hid (by rw [← keysFrom_skip hlt HMY.out]; exact hRR.out)⟩
              case measure => simp [intOf]; omega
            · have HMY := Lib.hid (show (mayAt m allA key d && mayRun m key d) = true from may_yes hal (.inr HST.out) (by rw [← HK2.out]; exact hrx))
              have HSP := Lib.hid (run_split (show runVis vis s1 (keysG m allA fr r k2 false ++ keysFrom m allA fr r key false (d + 1)) = (b, s') by rw [HK2.out, ← hRR.out, keysFrom_take hlt HMY.out]; rfl))
              obtain ⟨b2, s2, hr2, hyes, hno⟩ := HSP.out
              have HYES := Lib.hid hyes; have HNO := Lib.hid hno; have HR2 := Lib.hid hr2
              clear hyes hno hr2 HSP
              have hrx' : decide (m.a < (endRun k2 : Int)) = false := decide_eq_false hrx
              refine wp_region_held_drew (S := EKT m (.slice Af nf cf) .nilFunc (.func (.func kv) #[] capV) (.func (.func 148) #[] #[.pointer (some ⟨w.heap.size + 5, 0, none⟩), .pointer (some ⟨w.heap.size, 0, none⟩), .pointer (some ⟨w.heap.size + 3, 0, none⟩), .pointer (some ⟨w.heap.size + 1, 0, none⟩), .pointer (some ⟨w.heap.size + 2, 0, none⟩), .pointer (some ⟨w.heap.size + 6, 0, none⟩)]) w.heap.size) (by kernel_rfl) (ED5.out.cellsT) (fun hHeld => ?_)
              refine takeD (i := 2) (some 73) (.pointer (some ⟨w.heap.size, 3, none⟩)) rfl (by kernel_rfl) (by kernel_rfl) (by kernel_rfl) (by kernel_rfl) (fun _ _ _ h => h) (by assumption) (Or.inl ⟨by rfl, fun w hSw => by (try dsimp only at hSw); unfold EKT at hSw; go_simp⟩) ?_
              simp only [Act.put, List.setIfInBounds_toArray, List.set_cons_zero, List.set_cons_succ]
              refine takeD (i := 3) (some 74) (.int .i64 m.a) rfl (by kernel_rfl) (by kernel_rfl) (by kernel_rfl) (by kernel_rfl) (fun _ _ _ h => h) (by assumption) (Or.inl ⟨by rfl, fun w hSw => by (try dsimp only at hSw); unfold EKT at hSw; go_simp⟩) ?_
              simp only [Act.put, List.setIfInBounds_toArray, List.set_cons_zero, List.set_cons_succ]
              refine wpAnyH_ready (rs := [0]) (by kernel_rfl) (by simp) (AllReadyH.cons rfl (fun K hK => ?_) AllReadyH.nil)
              go_simp
              have HHeld := ED5.out.cellsT
              refine hK.out _ _ HHeld (fun _ => ?_)
              clear hK K
              try simp only [Act.put, List.setIfInBounds_toArray, List.set_cons_zero, List.set_cons_succ]
              refine wpAnyH_ready (rs := [1]) (by kernel_rfl) (by simp) (AllReadyH.cons rfl (fun K hK => ?_) AllReadyH.nil)
              go_simp
              refine HSR.out.mono ?_
              rintro e w6 ⟨rfl, n6, hw6⟩
              have E6 := Lib.hid (ED5.out.below (belowD (Below.refl _ _) n6) HV.out.fr)
              rw [← hw6] at E6
              clear hw6
              have HHeld := E6.out.cellsT
              refine hK.out _ _ HHeld (fun _ => ?_)
              clear hK K
              try simp only [Act.put, List.setIfInBounds_toArray, List.set_cons_zero, List.set_cons_succ]
              refine takeD (i := 4) (some 75) (.bool false) rfl (by kernel_rfl) (by kernel_rfl) (by kernel_rfl) (by kernel_rfl) (fun _ _ _ h => h) (by assumption) (Or.inl ⟨by rfl, fun w hSw => by (try dsimp only at hSw); unfold EKT at hSw; go_simp⟩) ?_
              simp only [Act.put, List.setIfInBounds_toArray, List.set_cons_zero, List.set_cons_succ]
              refine takeD (i := 5) (some 76) (.bool false) rfl (by kernel_rfl) (by kernel_rfl) (by kernel_rfl) (by kernel_rfl) (fun _ _ _ h => h) (by assumption) (Or.inl ⟨by rfl, fun w hSw => by (try dsimp only at hSw); unfold EKT at hSw; go_simp⟩) ?_
              simp only [Act.put, List.setIfInBounds_toArray, List.set_cons_zero, List.set_cons_succ]
              refine takeD (i := 6) (some 77) ((.func (.func 148) #[] #[.pointer (some ⟨w.heap.size + 5, 0, none⟩), .pointer (some ⟨w.heap.size, 0, none⟩), .pointer (some ⟨w.heap.size + 3, 0, none⟩), .pointer (some ⟨w.heap.size + 1, 0, none⟩), .pointer (some ⟨w.heap.size + 2, 0, none⟩), .pointer (some ⟨w.heap.size + 6, 0, none⟩)])) rfl (by kernel_rfl) (by kernel_rfl) (by kernel_rfl) (by kernel_rfl) (fun _ _ _ h => h) (by assumption) (Or.inl ⟨by rfl, fun w hSw => by (try dsimp only at hSw); unfold EKT at hSw; go_simp⟩) ?_
              simp only [Act.put, List.setIfInBounds_toArray, List.set_cons_zero, List.set_cons_succ]
              refine takeD (i := 7) (some 78) (.bool false) rfl (by kernel_rfl) (by kernel_rfl) (by kernel_rfl) (by kernel_rfl) (fun _ _ _ h => h) (by assumption) (Or.inl ⟨by rfl, fun w hSw => by (try dsimp only at hSw); unfold EKT at hSw; go_simp⟩) ?_
              simp only [Act.put, List.setIfInBounds_toArray, List.set_cons_zero, List.set_cons_succ]
              refine takeD (i := 8) (some 79) (.bool false) rfl (by kernel_rfl) (by kernel_rfl) (by kernel_rfl) (by kernel_rfl) (fun _ _ _ h => h) (by assumption) (Or.inl ⟨by rfl, fun w hSw => by (try dsimp only at hSw); unfold EKT at hSw; go_simp⟩) ?_
              simp only [Act.put, List.setIfInBounds_toArray, List.set_cons_zero, List.set_cons_succ]
              refine skipD (i := 9) (some 80) rfl (by kernel_rfl) (by kernel_rfl) (by kernel_rfl) (by kernel_rfl) (fun _ _ _ h => h) (by assumption) (by kernel_rfl) ?_
              simp only [Act.put, List.setIfInBounds_toArray, List.set_cons_zero, List.set_cons_succ]
              refine skipD (i := 10) (some 81) rfl (by kernel_rfl) (by kernel_rfl) (by kernel_rfl) (by kernel_rfl) (fun _ _ _ h => h) (by assumption) (by kernel_rfl) ?_
              simp only [Act.put, List.setIfInBounds_toArray, List.set_cons_zero, List.set_cons_succ]
              refine skipD (i := 11) (some 82) rfl (by kernel_rfl) (by kernel_rfl) (by kernel_rfl) (by kernel_rfl) (fun _ _ _ h => h) (by assumption) (by kernel_rfl) ?_
              simp only [Act.put, List.setIfInBounds_toArray, List.set_cons_zero, List.set_cons_succ]
              refine takeD (i := 12) (some 83) (.bool false) rfl (by kernel_rfl) (by kernel_rfl) (by kernel_rfl) (by kernel_rfl) (fun _ _ _ h => h) (by assumption) (Or.inl ⟨by rfl, fun w hSw => by (try dsimp only at hSw); unfold EKT at hSw; go_simp⟩) ?_
              simp only [Act.put, List.setIfInBounds_toArray, List.set_cons_zero, List.set_cons_succ]
              have HI := Lib.hid (HIH.out k2 _ _ s1 G (by have := HL2.out; have := HKR.out; omega) HBD2.out E6.out hLL.out (fun x hx => hPP.out x (by rw [keysFrom_take hlt HMY.out]; rw [HK2.out] at hx; exact List.mem_append_left _ hx)) b2 s2 HR2.out)
              refine wpAnyH_ready (rs := [13]) (by kernel_rfl) (by simp) (AllReadyH.cons rfl (fun K hK => ?_) AllReadyH.nil)
              go_simp
              refine HI.out.mono ?_
              rintro e w7 ⟨rfl, v7, G7, E7⟩
              have HE7 := Lib.hid E7; clear E7
              obtain ⟨g7, c7, rfl, _, _, hcc7, _, _⟩ := HE7.out.own.open1 (by have := HL2.out; omega)
              have hcap7 : key.length ≤ c7 := by have := HL2.out; omega
              have HHeld := HE7.out.cellsT
              refine hK.out _ _ HHeld (fun _ => ?_)
              clear hK K
              try simp only [Act.put, List.setIfInBounds_toArray, List.set_cons_zero, List.set_cons_succ]
              refine takeD (i := 14) (some 85) (.bool b2) rfl (by kernel_rfl) (by kernel_rfl) (by kernel_rfl) (by kernel_rfl) (fun _ _ _ h => h) (by assumption) (Or.inl ⟨by rfl, fun w hSw => by (try dsimp only at hSw); unfold EKT at hSw; go_simp⟩) ?_
              simp only [Act.put, List.setIfInBounds_toArray, List.set_cons_zero, List.set_cons_succ]
              refine takeD (i := 15) (some 12) (.bool b2) rfl (by kernel_rfl) (by kernel_rfl) (by kernel_rfl) (by kernel_rfl) (fun _ _ _ h => h) (by assumption) (Or.inl ⟨by rfl, fun w hSw => by (try dsimp only at hSw); unfold EKT at hSw; go_simp⟩) ?_
              simp only [Act.put, List.setIfInBounds_toArray, List.set_cons_zero, List.set_cons_succ]
              refine wpAnyH_done (by kernel_rfl) ?_ _
              have p7 := HE7.out.cK
              have f7 := HE7.out.fz
              have HPOP := Lib.hid (HE7.out.pop HV.out.fr HK2.out rfl)
              cases b2 with
              | true =>
                go_wp2_with fail
                go_roundw
                case rel => exact ⟨d + 1, _, s2, G7, by go_num, by omega, by omega, HPOP, Lib.hid (run_live HV.out.live (fun x hx => hPP.out x (by rw [keysFrom_take hlt HMY.out]; rw [HK2.out] at hx; exact List.mem_append_left _ hx)) hLL.out HR2.out), Lib.hid (fun x hx => hPP.out x (by rw [keysFrom_take hlt HMY.out]; exact List.mem_append_right _ hx)), Lib.hid (HYES.out (by first | exact rfl | exact trivial))⟩
                case measure => simp [intOf]; omega
              | false =>
                go_wp2_with fail
                go_ret
                obtain ⟨h1, h2⟩ := HNO.out (by first | exact rfl | exact trivial)
                subst h1 h2
                exact ⟨rfl, _, _, HPOP.out⟩
    · obtain rfl : d = m.d := by omega
      have HF := Lib.hid (show b = true ∧ s' = s1 by
        have := hRR.out; rw [keysFrom_end _ _ _ _ _ _ (Int.le_refl _), runVis] at this; injection this with h1 h2; exact ⟨h1.symm, h2.symm⟩)
      go_wp2_with fail
      go_ret
      obtain ⟨h1, h2⟩ := HF.out
      subst h1 h2
      exact ⟨rfl, _, _, hE.out⟩

theorem eachClo_n {σ : Type} (m : Mk) (hm : isMaker m = true) (Af : Option Addr) (nf cf : Nat) (kv : FuncId) (capV : Array Value) (vis : σ → List Int → Bool × σ) (R : σ → World → (Nat → Prop) → Prop) (L : σ → Prop) (P : List Int → Prop) (w : World) (F : Nat → Prop)
    (hv : VisOK kv capV vis R L P w F) (fr : List Int) : ∀ (r : Nat)
    (key : List Int) (wr : World) (v : Value) (s : σ) (G : Nat → Prop), (key.length : Int) + r = m.c → (∀ i (h : i < key.length), 0 ≤ key[i] ∧ key[i] < m.d) →
      EK m Af nf cf .nilFunc (.func (.func kv) #[] capV) (.func (.func 148) #[] #[.pointer (some ⟨w.heap.size + 5, 0, none⟩), .pointer (some ⟨w.heap.size, 0, none⟩), .pointer (some ⟨w.heap.size + 3, 0, none⟩), .pointer (some ⟨w.heap.size + 1, 0, none⟩), .pointer (some ⟨w.heap.size + 2, 0, none⟩), .pointer (some ⟨w.heap.size + 6, 0, none⟩)]) R w F wr key v s G → L s → (∀ x, x ∈ keysG m allA fr r key false → P x) → ∀ (b : Bool) (s' : σ), runVis vis s (keysG m allA fr r key false) = (b, s') →
      Calls Tryz.prog 148 #[.bool false, .pointer (some ⟨w.heap.size + 5, 0, none⟩), .pointer (some ⟨w.heap.size, 0, none⟩), .pointer (some ⟨w.heap.size + 3, 0, none⟩), .pointer (some ⟨w.heap.size + 1, 0, none⟩), .pointer (some ⟨w.heap.size + 2, 0, none⟩), .pointer (some ⟨w.heap.size + 6, 0, none⟩)] wr (EKPost m Af nf cf .nilFunc (.func (.func kv) #[] capV) (.func (.func 148) #[] #[.pointer (some ⟨w.heap.size + 5, 0, none⟩), .pointer (some ⟨w.heap.size, 0, none⟩), .pointer (some ⟨w.heap.size + 3, 0, none⟩), .pointer (some ⟨w.heap.size + 1, 0, none⟩), .pointer (some ⟨w.heap.size + 2, 0, none⟩), .pointer (some ⟨w.heap.size + 6, 0, none⟩)]) R w F key b s')
  | 0, key, wr, v, s, G, hkey, hbd, hE, hL, hP, b, s', hrun => eachZero_any m Af nf cf _ _ kv capV vis R L P w F hv allA fr key false wr v s G (by omega) hE hL hP b s' hrun
  | r + 1, key, wr, v, s, G, hkey, hbd, hE, hL, hP, b, s', hrun => eachStep_n m hm Af nf cf kv capV vis R L P w F hv fr r (eachClo_n m hm Af nf cf kv capV vis R L P w F hv fr r) key wr v s G (by omega) hbd hE hL hP b s' hrun

set_option maxRecDepth 100000 in
set_option maxHeartbeats 4000000 in
theorem eachKey_n {σ : Type} (m : Mk) (hm : isMaker m = true) (kv : FuncId) (capV : Array Value) (vis : σ → List Int → Bool × σ) (R : σ → World → (Nat → Prop) → Prop) (L : σ → Prop) (w : World) (F : Nat → Prop) (s : σ)
    (hv : VisOK kv capV vis R L (fun k => k ∈ keysG m allA [] m.c.toNat [] false) w F) (hs : R s w F) (hL : L s) :
    Calls Tryz.prog 106 #[.agg #[.int .i64 m.c, .int .i64 m.d, .int .i64 m.s, .int .i64 m.a, .int .i64 m.l], .slice none 0 0, .nilFunc, .func (.func kv) #[] capV] w fun e w' => e = .returned (.tuple #[]) ∧ ∃ G, R (runVis vis s (keysG m allA [] m.c.toNat [] false)).2 w' G ∧ KeepF F w w' ∧ ∀ g, G g → F g ∨ w.heap.size ≤ g := by
  have hq := fun w : World => run_neq_slice_nil' (P := Tryz.prog) w (t := 33) (e := 2) none 0 0 Tryz.underlying33
  simp only [Option.isNone_none, Bool.not_true] at hq
  have hentC : Enters Tryz.prog 148 := enters Tryz.func148 (by kernel_rfl) rfl
  have HV := Lib.hid hv
  have HS := Lib.hid hs
  have HLL := Lib.hid hL
  clear hv hs hL
  unfold Enters at hentC
  go_enter Tryz.func106, Tryz.ntmps106
  go_wp2_with fail
  have hE := EK.start m .nilFunc (.func (.func kv) #[] capV) (.func (.func 148) #[] #[.pointer (some ⟨w.heap.size + 5, 0, none⟩), .pointer (some ⟨w.heap.size, 0, none⟩), .pointer (some ⟨w.heap.size + 3, 0, none⟩), .pointer (some ⟨w.heap.size + 1, 0, none⟩), .pointer (some ⟨w.heap.size + 2, 0, none⟩), .pointer (some ⟨w.heap.size + 6, 0, none⟩)]) R w F s 25 33 86 81 33 141 HV.out.lt HV.out.fr HS.out
  have HC := eachClo_n m hm none 0 0 kv capV vis R L _ w F HV.out [] m.c.toNat [] _ _ s F (by have := (mk_bounds hm).1; simp; omega) (fun i h => by simp at h) hE HLL.out (fun x hx => hx) _ _ rfl
  refine HC.mono ?_
  rintro e w1 ⟨rfl, v1, G1, hE1⟩
  go_wp2_with fail
  go_end0
  exact ⟨rfl, G1, hE1.rep, hE1.keep, fun g hg => by rcases hE1.sub g hg with h | h; exact .inl h; exact .inr (by omega)⟩

end Go.Proofs.YtdedajohkdbdkaaGreat
