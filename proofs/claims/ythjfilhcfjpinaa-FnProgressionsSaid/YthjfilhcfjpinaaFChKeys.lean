/- Contracts of ChangeKeys. -/
import Derived.Test.YthjfilhcfjpinaaFChanges
import Derived.Test.YthjfilhcfjpinaaFFirst
namespace Go.Proofs.Ythjfilhcfjpinaa
set_option linter.unusedVariables false
open Go.RowKit
def chKeysR (m : Mk) (xs ys : List Int) (s : Int) (most : Int) : List (List Int) × Int := if isProgF m xs ys s = true then (if inB most 0 300 = true then ((changeKeys m xs ys s).take most.toNat, 0) else ([], 2)) else ([], 1)
theorem chk_1 {m : Mk} {xs ys : List Int} {s most : Int} (h : isProgF m xs ys s = false) : ([], 1) = chKeysR m xs ys s most := by unfold chKeysR; rw [if_neg (by rw [h]; simp)]
theorem chk_2 {m : Mk} {xs ys : List Int} {s most : Int} (h : isProgF m xs ys s = true) (h2 : inB most 0 300 = false) : ([], 2) = chKeysR m xs ys s most := by unfold chKeysR; rw [if_pos h, if_neg (by rw [h2]; simp)]
theorem chk_0 {m : Mk} {xs ys : List Int} {s most : Int} (h : isProgF m xs ys s = true) (h2 : inB most 0 300 = true) : ((changeKeys m xs ys s).take most.toNat, 0) = chKeysR m xs ys s most := by unfold chKeysR; rw [if_pos h, if_pos h2]
/-- keys are few and short -/
theorem keys_lens (m : Mk) (hm : isMaker m = true) (al : Nat → Int → Bool) (n : Nat) (hn : n ≤ 300) : ((keysG m al [] m.c.toNat [] false).take n).length ≤ 4194304 ∧ sumLen ((keysG m al [] m.c.toNat [] false).take n) ≤ 1048576 := by
  have c6 : m.c ≤ 6 := (mk_bounds hm).2.1
  have h1 : ∀ x, x ∈ (keysG m al [] m.c.toNat [] false).take n → x.length ≤ 6 := fun x hx => by
    have := (keysG_pref m al [] _ _ _ x (List.mem_of_mem_take hx)).1; simp at this; omega
  have h2 : ((keysG m al [] m.c.toNat [] false).take n).length ≤ 300 := by rw [List.length_take]; omega
  have h3 : ∀ ls : List (List Int), (∀ x, x ∈ ls → x.length ≤ 6) → sumLen ls ≤ 6 * ls.length := by
    intro ls
    induction ls with
    | nil => intro _; simp [sumLen]
    | cons x r ih =>
      intro h
      have := ih (fun y hy => h y (by simp [hy])); have := h x (by simp)
      unfold sumLen at *; rw [List.map_cons, List.sum_cons, List.length_cons]; omega
  have := h3 _ h1
  omega
set_option maxRecDepth 100000 in
set_option maxHeartbeats 4000000 in
theorem specChangeKeys_any (m : Mk) (A : Option Addr) (c : Nat) (xs : List Int) (B : Option Addr) (d : Nat) (ys : List Int) (s most : Int) (w : World) (h : RI w A xs) (g : RI w B ys) (hcap : xs.length ≤ c) (_ : (Lit.int .i64 most).wf = true) :
    Calls Try.prog 31 #[.agg #[.int .i64 m.c, .int .i64 m.d, .int .i64 m.s, .int .i64 m.a, .int .i64 m.l], .agg #[.slice A xs.length c, .slice B ys.length d, .int .i64 s], .int .i64 most] w (RdIIC w (chKeysR m xs ys s most)) := by
  have B0 := ((Below.refl w.heap.size w).alloc (Nat.le_refl _) (.cells #[.int .i64 m.c, .int .i64 m.d, .int .i64 m.s, .int .i64 m.a, .int .i64 m.l] 25)).alloc (by simp only [World.size_alloc]; omega) (.cells #[.slice A xs.length c, .slice B ys.length d, .int .i64 s] 52)
  have bx : BoxC ((w.alloc (.cells #[.int .i64 m.c, .int .i64 m.d, .int .i64 m.s, .int .i64 m.a, .int .i64 m.l] 25)).alloc (.cells #[.slice A xs.length c, .slice B ys.length d, .int .i64 s] 52)) (w.heap.size + 1) 0 [.slice A xs.length c, .slice B ys.length d, .int .i64 s] := by simp [BoxC, Go.World.cell?_alloc_at]
  have bm : BoxC (w.alloc (.cells #[.int .i64 m.c, .int .i64 m.d, .int .i64 m.s, .int .i64 m.a, .int .i64 m.l] 25)) w.heap.size 0 [.int .i64 m.c, .int .i64 m.d, .int .i64 m.s, .int .i64 m.a, .int .i64 m.l] := by simp [BoxC, Go.World.cell?_alloc_at]
  have HP := specIsProgression_any m A c xs B d ys s ((w.alloc (.cells #[.int .i64 m.c, .int .i64 m.d, .int .i64 m.s, .int .i64 m.a, .int .i64 m.l] 25)).alloc (.cells #[.slice A xs.length c, .slice B ys.length d, .int .i64 s] 52)) (h.below B0) (g.below B0) hcap
  cases h1 : isProgF m xs ys s with
  | false =>
    have HR := Lib.hid (chk_1 (most := most) h1)
    rw [h1] at HP
    have HPP := Lib.hid HP; clear HP
    go_enter Try.func31, Try.ntmps31
    go_wp2_with fail
    refine HPP.out.mono ?_
    rintro e w1 ⟨rfl, b1⟩
    go_wp2_with fail
    go_ret2
    exact rdIIC_nil HR.out (B0.trans (b1.mono B0.size))
  | true =>
  rw [h1] at HP
  have HPP := Lib.hid HP; clear HP
  have HIN := l01In_any most 0 300
  cases h2 : inB most 0 300 with
  | false =>
    have HR := Lib.hid (chk_2 h1 h2)
    rw [h2] at HIN
    have HI := Lib.hid HIN; clear HIN
    have H1 := Lib.hid h1; have H2 := Lib.hid h2; clear h1 h2
    go_enter Try.func31, Try.ntmps31
    go_wp2_with fail
    refine HPP.out.mono ?_
    rintro e w1 ⟨rfl, b1⟩
    go_wp2_with fail
    refine (HI.out _).mono ?_
    rintro e w2 ⟨rfl, rfl⟩
    go_wp2_with fail
    go_ret2
    exact rdIIC_nil HR.out (B0.trans (b1.mono B0.size))
  | true =>
    have HR := Lib.hid (chk_0 h1 h2)
    have HF := Lib.hid (prog_facts h1)
    have hmost : 0 ≤ most ∧ most ≤ 300 := by simpa [inB] using h2
    rw [h2] at HIN
    have HI := Lib.hid HIN; clear HIN
    have H1 := Lib.hid h1; have H2 := Lib.hid h2; clear h1 h2
    go_enter Try.func31, Try.ntmps31
    go_wp2_with fail
    refine HPP.out.mono ?_
    rintro e w1 ⟨rfl, b1⟩
    go_wp2_with fail
    refine (HI.out _).mono ?_
    rintro e w2 ⟨rfl, rfl⟩
    have B1 := B0.trans (b1.mono B0.size)
    have bM : Below (w.alloc (.cells #[.int .i64 m.c, .int .i64 m.d, .int .i64 m.s, .int .i64 m.a, .int .i64 m.l] 25)).heap.size (w.alloc (.cells #[.int .i64 m.c, .int .i64 m.d, .int .i64 m.s, .int .i64 m.a, .int .i64 m.l] 25)) w1 := ((Below.refl _ _).alloc (Nat.le_refl _) (.cells #[.slice A xs.length c, .slice B ys.length d, .int .i64 s] 52)).trans (b1.mono (by simp only [World.size_alloc]; omega))
    obtain ⟨q0, q1, q2, _⟩ := bx.below b1
    obtain ⟨p0, p1, p2, p3, p4, _⟩ := bm.below bM
    have HKK := l13Keys_any m A c xs B d ys s most w1 (h.below B1) (g.below B1) HF.out.1 HF.out.2.2.1 HF.out.2.1 HF.out.2.2.2.1 HF.out.2.2.2.2 hmost.1 (by omega)
    obtain ⟨zz, hzz⟩ : ∃ zz, zz = (changeKeys m xs ys s).take most.toNat := ⟨_, rfl⟩
    rw [← hzz] at HKK
    have HZ := Lib.hid (show (zz, 0) = chKeysR m xs ys s most by rw [← HR.out, hzz])
    have HK := Lib.hid HKK; clear HKK hzz
    go_wp2_with fail
    refine HK.out.mono ?_
    rintro e w3 ⟨A3, c3, rfl, hc3, r3, b3⟩
    go_wp2_with fail
    go_ret2
    exact rdIIC_of HZ.out hc3 r3 (B1.trans (b3.mono B1.size))
set_option maxRecDepth 100000 in
set_option maxHeartbeats 4000000 in
theorem implChangeKeys_any (m : Mk) (A : Option Addr) (c : Nat) (xs : List Int) (B : Option Addr) (d : Nat) (ys : List Int) (s most : Int) (w : World) (h : RI w A xs) (g : RI w B ys) (hcap : xs.length ≤ c) (_ : (Lit.int .i64 most).wf = true) :
    Calls Try.prog 30 #[.agg #[.int .i64 m.c, .int .i64 m.d, .int .i64 m.s, .int .i64 m.a, .int .i64 m.l], .agg #[.slice A xs.length c, .slice B ys.length d, .int .i64 s], .int .i64 most] w (ResIIC w (chKeysR m xs ys s most)) := by
  have B0 := ((Below.refl w.heap.size w).alloc (Nat.le_refl _) (.cells #[.int .i64 m.c, .int .i64 m.d, .int .i64 m.s, .int .i64 m.a, .int .i64 m.l] 25)).alloc (by simp only [World.size_alloc]; omega) (.cells #[.slice A xs.length c, .slice B ys.length d, .int .i64 s] 52)
  have bx : BoxC ((w.alloc (.cells #[.int .i64 m.c, .int .i64 m.d, .int .i64 m.s, .int .i64 m.a, .int .i64 m.l] 25)).alloc (.cells #[.slice A xs.length c, .slice B ys.length d, .int .i64 s] 52)) (w.heap.size + 1) 0 [.slice A xs.length c, .slice B ys.length d, .int .i64 s] := by simp [BoxC, Go.World.cell?_alloc_at]
  have bm : BoxC (w.alloc (.cells #[.int .i64 m.c, .int .i64 m.d, .int .i64 m.s, .int .i64 m.a, .int .i64 m.l] 25)) w.heap.size 0 [.int .i64 m.c, .int .i64 m.d, .int .i64 m.s, .int .i64 m.a, .int .i64 m.l] := by simp [BoxC, Go.World.cell?_alloc_at]
  have HP := implIsProgression_any m A c xs B d ys s ((w.alloc (.cells #[.int .i64 m.c, .int .i64 m.d, .int .i64 m.s, .int .i64 m.a, .int .i64 m.l] 25)).alloc (.cells #[.slice A xs.length c, .slice B ys.length d, .int .i64 s] 52)) (h.below B0) (g.below B0) hcap
  cases h1 : isProgF m xs ys s with
  | false =>
    have HR := Lib.hid (chk_1 (most := most) h1)
    rw [h1] at HP
    have HPP := Lib.hid HP; clear HP
    go_enter Try.func30, Try.ntmps30
    go_wp2_with fail
    refine HPP.out.mono ?_
    rintro e w1 ⟨rfl, b1⟩
    go_wp2_with fail
    go_ret2
    exact resIIC_nil HR.out (B0.trans (b1.mono B0.size))
  | true =>
  rw [h1] at HP
  have HPP := Lib.hid HP; clear HP
  have HIN := within_any most 0 300
  cases h2 : inB most 0 300 with
  | false =>
    have HR := Lib.hid (chk_2 h1 h2)
    rw [h2] at HIN
    have HI := Lib.hid HIN; clear HIN
    have H1 := Lib.hid h1; have H2 := Lib.hid h2; clear h1 h2
    go_enter Try.func30, Try.ntmps30
    go_wp2_with fail
    refine HPP.out.mono ?_
    rintro e w1 ⟨rfl, b1⟩
    go_wp2_with fail
    refine (HI.out _).mono ?_
    rintro e w2 ⟨rfl, rfl⟩
    go_wp2_with fail
    go_ret2
    exact resIIC_nil HR.out (B0.trans (b1.mono B0.size))
  | true =>
    have HR := Lib.hid (chk_0 h1 h2)
    have HF := Lib.hid (prog_facts h1)
    have hmost : 0 ≤ most ∧ most ≤ 300 := by simpa [inB] using h2
    rw [h2] at HIN
    have HI := Lib.hid HIN; clear HIN
    have H1 := Lib.hid h1; have H2 := Lib.hid h2; clear h1 h2
    go_enter Try.func30, Try.ntmps30
    go_wp2_with fail
    refine HPP.out.mono ?_
    rintro e w1 ⟨rfl, b1⟩
    go_wp2_with fail
    refine (HI.out _).mono ?_
    rintro e w2 ⟨rfl, rfl⟩
    have B1 := B0.trans (b1.mono B0.size)
    have bM : Below (w.alloc (.cells #[.int .i64 m.c, .int .i64 m.d, .int .i64 m.s, .int .i64 m.a, .int .i64 m.l] 25)).heap.size (w.alloc (.cells #[.int .i64 m.c, .int .i64 m.d, .int .i64 m.s, .int .i64 m.a, .int .i64 m.l] 25)) w1 := ((Below.refl _ _).alloc (Nat.le_refl _) (.cells #[.slice A xs.length c, .slice B ys.length d, .int .i64 s] 52)).trans (b1.mono (by simp only [World.size_alloc]; omega))
    have KS := Lib.hid (show ∀ w' : World, Below w1.heap.size w1 w' → ((w'.cell? ⟨w.heap.size, 0, none⟩ = some (.int .i64 m.c) ∧ w'.cell? ⟨w.heap.size, 1, none⟩ = some (.int .i64 m.d) ∧ w'.cell? ⟨w.heap.size, 2, none⟩ = some (.int .i64 m.s) ∧ w'.cell? ⟨w.heap.size, 3, none⟩ = some (.int .i64 m.a) ∧ w'.cell? ⟨w.heap.size, 4, none⟩ = some (.int .i64 m.l) ∧ True) ∧ (w'.cell? ⟨w.heap.size + 1, 0, none⟩ = some (.slice A xs.length c) ∧ w'.cell? ⟨w.heap.size + 1, 1, none⟩ = some (.slice B ys.length d) ∧ w'.cell? ⟨w.heap.size + 1, 2, none⟩ = some (.int .i64 s) ∧ True)) from fun w' hw => ⟨(bm.below bM).below hw, (bx.below b1).below hw⟩)
    have hW := belowDrew0 w1
    have b2 := hW.alloc hW.size (.cells #[.slice A xs.length c, .slice B ys.length d, .int .i64 s] 52)
    have HAL := changesAl m w1.heap.size A c xs B d ys s (w1.drew.alloc (.cells #[.slice A xs.length c, .slice B ys.length d, .int .i64 s] 52)) (h.below (B1.trans (b2.mono B1.size))) (g.below (B1.trans (b2.mono B1.size))) (BoxC.new [.slice A xs.length c, .slice B ys.length d, .int .i64 s] rfl) (mk_bounds HF.out.1).2.2.2.1 HF.out.2.2.1 HF.out.2.1 HF.out.2.2.2.1 HF.out.2.2.2.2
    obtain ⟨n, hn⟩ : ∃ n : Nat, most = (n : Int) := ⟨most.toNat, by omega⟩
    have HC := firstKeys_any m HF.out.1 149 #[.pointer (some ⟨w1.heap.size, 0, none⟩)] (fits xs ys s) n (by omega) _ HAL
    rw [← hn] at HC
    obtain ⟨zz, hzz⟩ : ∃ zz, zz = (keysG m (fits xs ys s) [] m.c.toNat [] false).take n := ⟨_, rfl⟩
    rw [← hzz] at HC
    have HZ := Lib.hid (show (zz, 0) = chKeysR m xs ys s most by rw [← HR.out, hzz, hn]; rfl)
    have HCC := Lib.hid HC
    have Hb2 := Lib.hid b2
    clear hn hzz HC HAL hW b2
    go_wp2_with fail
    refine wp_region_held_drew (S := (fun w' => (w'.cell? ⟨w.heap.size, 0, none⟩ = some (.int .i64 m.c) ∧ w'.cell? ⟨w.heap.size, 1, none⟩ = some (.int .i64 m.d) ∧ w'.cell? ⟨w.heap.size, 2, none⟩ = some (.int .i64 m.s) ∧ w'.cell? ⟨w.heap.size, 3, none⟩ = some (.int .i64 m.a) ∧ w'.cell? ⟨w.heap.size, 4, none⟩ = some (.int .i64 m.l) ∧ True) ∧ (w'.cell? ⟨w.heap.size + 1, 0, none⟩ = some (.slice A xs.length c) ∧ w'.cell? ⟨w.heap.size + 1, 1, none⟩ = some (.slice B ys.length d) ∧ w'.cell? ⟨w.heap.size + 1, 2, none⟩ = some (.int .i64 s) ∧ True))) (by kernel_rfl) (KS.out _ (belowDrew0 _)) (fun hHeld => ?_)
    refine takeD (i := 0) (some 15) (.agg #[.int .i64 m.c, .int .i64 m.d, .int .i64 m.s, .int .i64 m.a, .int .i64 m.l]) rfl (by kernel_rfl) (by kernel_rfl) (by kernel_rfl) (by kernel_rfl) (fun _ _ _ h => h) (by assumption) (Or.inl ⟨by rfl, fun w hSw => by (try dsimp only at hSw); go_simp⟩) ?_
    simp only [Act.put, List.setIfInBounds_toArray, List.set_cons_zero, List.set_cons_succ]
    refine takeD (i := 1) (some 16) (.agg #[.slice A xs.length c, .slice B ys.length d, .int .i64 s]) rfl (by kernel_rfl) (by kernel_rfl) (by kernel_rfl) (by kernel_rfl) (fun _ _ _ h => h) (by assumption) (Or.inl ⟨by rfl, fun w hSw => by (try dsimp only at hSw); go_simp⟩) ?_
    simp only [Act.put, List.setIfInBounds_toArray, List.set_cons_zero, List.set_cons_succ]
    refine takeD (i := 3) (some 18) (.int .i64 most) rfl (by kernel_rfl) (by kernel_rfl) (by kernel_rfl) (by kernel_rfl) (fun _ _ _ h => h) (by assumption) (Or.inl ⟨by rfl, fun w hSw => by (try dsimp only at hSw); go_simp⟩) ?_
    simp only [Act.put, List.setIfInBounds_toArray, List.set_cons_zero, List.set_cons_succ]
    refine wpAnyH_ready (rs := [2]) (by kernel_rfl) (by simp) (AllReadyH.cons rfl (fun K hK => ?_) AllReadyH.nil)
    go_simp
    refine (changes_any A c xs B d ys s _).mono ?_
    rintro e w2 ⟨rfl, rfl⟩
    have HHeld := KS.out _ Hb2.out
    refine hK.out _ _ HHeld (fun _ => ?_)
    clear hK K
    try simp only [Act.put, List.setIfInBounds_toArray, List.set_cons_zero, List.set_cons_succ]
    refine wpAnyH_ready (rs := [4]) (by kernel_rfl) (by simp) (AllReadyH.cons rfl (fun K hK => ?_) AllReadyH.nil)
    go_simp
    refine HCC.out.mono ?_
    rintro e w3 ⟨A3, c3, rfl, hc3, r3, o3, b3⟩
    have Hb3 := Lib.hid (Hb2.out.trans (b3.mono Hb2.out.size))
    have HO3 := Lib.hid o3; clear o3
    have HHeld := KS.out _ Hb3.out
    refine hK.out _ _ HHeld (fun _ => ?_)
    clear hK K
    try simp only [Act.put, List.setIfInBounds_toArray, List.set_cons_zero, List.set_cons_succ]
    refine takeD (i := 5) (some 6) (.slice A3 zz.length c3) rfl (by kernel_rfl) (by kernel_rfl) (by kernel_rfl) (by kernel_rfl) (fun _ _ _ h => h) (by assumption) (Or.inl ⟨by rfl, fun w hSw => by (try dsimp only at hSw); go_simp⟩) ?_
    simp only [Act.put, List.setIfInBounds_toArray, List.set_cons_zero, List.set_cons_succ]
    refine takeD (i := 6) (some 7) (.int .i64 0) rfl (by kernel_rfl) (by kernel_rfl) (by kernel_rfl) (by kernel_rfl) (fun _ _ _ h => h) (by assumption) (Or.inl ⟨by rfl, fun w hSw => by (try dsimp only at hSw); go_simp⟩) ?_
    simp only [Act.put, List.setIfInBounds_toArray, List.set_cons_zero, List.set_cons_succ]
    refine wpAnyH_done (by kernel_rfl) ?_ _
    go_wp2_with fail
    go_ret2
    exact resIIC_own HZ.out HO3.out (by have := Hb2.out.size; have := B1.size; omega) (Nat.le_refl _) (B1.trans (Hb3.out.mono B1.size))
end Go.Proofs.Ythjfilhcfjpinaa
