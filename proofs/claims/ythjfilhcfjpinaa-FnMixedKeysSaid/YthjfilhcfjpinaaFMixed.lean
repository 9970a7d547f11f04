/- Contracts of MixedKeys. -/
import Derived.Test.YthjfilhcfjpinaaFChLock
import Derived.Test.YthjfilhcfjpinaaFFrees
namespace Go.Proofs.Ythjfilhcfjpinaa
set_option linter.unusedVariables false
open Go.RowKit
def mixedR (m : Mk) (xs ys : List Int) (s : Int) (key : List Int) : Int × Int := if changeC m xs ys s key = 0 then (((openers m (hullF m.c.toNat m.d.toNat [xs, key])).length : Int) - 2, 0) else (0, changeC m xs ys s key)
theorem changeC_0 {m : Mk} {xs ys : List Int} {s : Int} {key : List Int} (h0 : changeC m xs ys s key = 0) : isMaker m = true ∧ allCuts m [xs, key] := by
  have hcx : isProgF m xs ys s = true ∧ (isKey m key && isChange xs ys s key) = true := by
    unfold changeC at h0
    by_cases h1 : isProgF m xs ys s = true
    · rw [if_pos h1] at h0
      by_cases h2 : (isKey m key && isChange xs ys s key) = true
      · exact ⟨h1, h2⟩
      · rw [if_neg h2] at h0; cases h0
    · rw [if_neg h1] at h0; cases h0
  have hpk := prog_key hcx.1
  exact ⟨hpk.1, two_cuts hpk.2.2 (by have := hcx.2; rw [Bool.and_eq_true] at this; exact this.1)⟩
set_option maxRecDepth 100000 in
set_option maxHeartbeats 4000000 in
theorem implMixedKeys_any (m : Mk) (A : Option Addr) (c : Nat) (xs : List Int) (B : Option Addr) (d : Nat) (ys : List Int) (s : Int) (K : Option Addr) (e : Nat) (key : List Int) (w : World) (h : RI w A xs) (g : RI w B ys) (hk : RI w K key) (hcap : xs.length ≤ c) (hcap2 : key.length ≤ e) :
    Calls Try.prog 43 #[.agg #[.int .i64 m.c, .int .i64 m.d, .int .i64 m.s, .int .i64 m.a, .int .i64 m.l], .agg #[.slice A xs.length c, .slice B ys.length d, .int .i64 s], .slice K key.length e] w (ResNC w (mixedR m xs ys s key)) := by
  have B0 := ((Below.refl w.heap.size w).alloc (Nat.le_refl _) (.cells #[.int .i64 m.c, .int .i64 m.d, .int .i64 m.s, .int .i64 m.a, .int .i64 m.l] 25)).alloc (by simp only [World.size_alloc]; omega) (.cells #[.slice A xs.length c, .slice B ys.length d, .int .i64 s] 52)
  have bm : BoxC ((w.alloc (.cells #[.int .i64 m.c, .int .i64 m.d, .int .i64 m.s, .int .i64 m.a, .int .i64 m.l] 25)).alloc (.cells #[.slice A xs.length c, .slice B ys.length d, .int .i64 s] 52)) w.heap.size 0 [.int .i64 m.c, .int .i64 m.d, .int .i64 m.s, .int .i64 m.a, .int .i64 m.l] := by
    have : BoxC (w.alloc (.cells #[.int .i64 m.c, .int .i64 m.d, .int .i64 m.s, .int .i64 m.a, .int .i64 m.l] 25)) w.heap.size 0 [.int .i64 m.c, .int .i64 m.d, .int .i64 m.s, .int .i64 m.a, .int .i64 m.l] := by simp [BoxC, Go.World.cell?_alloc_at]
    exact this.below ((Below.refl _ _).alloc (Nat.le_refl _) _)
  have HCL := implChangeLock_any m A c xs B d ys s K e key ((w.alloc (.cells #[.int .i64 m.c, .int .i64 m.d, .int .i64 m.s, .int .i64 m.a, .int .i64 m.l] 25)).alloc (.cells #[.slice A xs.length c, .slice B ys.length d, .int .i64 s] 52)) (h.below B0) (g.below B0) (hk.below B0) hcap hcap2
  by_cases h0 : changeC m xs ys s key = 0
  rotate_left
  · have HR := Lib.hid (show (0, changeC m xs ys s key) = mixedR m xs ys s key by unfold mixedR; rw [if_neg h0])
    have t1 : (changeC m xs ys s key != 0) = true := by simpa using h0
    rw [show changeLockR m xs ys s key = ([], changeC m xs ys s key) by unfold changeLockR; rw [if_neg h0]] at HCL
    have HCC := Lib.hid HCL
    have H0 := Lib.hid h0; clear h0 HCL
    go_enter Try.func43, Try.ntmps43
    go_wp2_with fail
    refine HCC.out.mono ?_
    rintro e w1 ⟨A1, c1, rfl, hc1, r1, o1, b1⟩
    have HB1 := Lib.hid (B0.trans (b1.mono B0.size))
    clear r1 o1 b1
    go_wp2_with fail
    go_ret2
    exact resNC_of HR.out ((HB1.out).alloc HB1.out.size _)
  have hcx := changeC_0 h0
  have HM := Lib.hid hcx.1
  obtain ⟨l, hl⟩ : ∃ l, l = hullF m.c.toNat m.d.toNat [xs, key] := ⟨_, rfl⟩
  have hlk : isLockF m l = true := by rw [hl]; exact hull_lock hcx.1 hcx.2 (by simp)
  have HLL := Lib.hid (show (l.length : Int) = m.c from isLock_len hlk)
  have HFEW := Lib.hid (keys_few m hcx.1 (frees l))
  obtain ⟨nk, hnk⟩ : ∃ nk : Nat, nk = (keysG m (frees l) [] m.c.toNat [] false).length := ⟨_, rfl⟩
  have HNK := Lib.hid hnk
  have e1 : nk ≤ 262144 := by rw [hnk]; exact HFEW.out
  have HR := Lib.hid (show ((nk : Int) - 2, 0) = mixedR m xs ys s key by unfold mixedR; rw [if_pos h0, ← hl, hnk]; rfl)
  rw [show changeLockR m xs ys s key = (l, 0) by unfold changeLockR; rw [if_pos h0, hl]] at HCL
  have HCC := Lib.hid HCL
  have H0 := Lib.hid h0
  have HBM := Lib.hid bm
  clear h0 HCL hl hcx hlk hnk bm
  go_enter Try.func43, Try.ntmps43
  go_wp2_with fail
  refine HCC.out.mono ?_
  rintro e w1 ⟨A1, c1, rfl, hc1, r1, o1, b1⟩
  have B1 := B0.trans (b1.mono B0.size)
  have HR1 := Lib.hid r1
  have hbl : Below w1.heap.size w1 (w1.alloc (.cells #[.slice A1 l.length c1] 28)) := (Below.refl _ _).alloc (Nat.le_refl _) _
  have bl : BoxC (w1.alloc (.cells #[.slice A1 l.length c1] 28)) w1.heap.size 0 [.slice A1 l.length c1] := by simp [BoxC, Go.World.cell?_alloc_at]
  have KS := Lib.hid (show ∀ w' : World, Below (w1.alloc (.cells #[.slice A1 l.length c1] 28)).heap.size (w1.alloc (.cells #[.slice A1 l.length c1] 28)) w' → ((w'.cell? ⟨w.heap.size, 0, none⟩ = some (.int .i64 m.c) ∧ w'.cell? ⟨w.heap.size, 1, none⟩ = some (.int .i64 m.d) ∧ w'.cell? ⟨w.heap.size, 2, none⟩ = some (.int .i64 m.s) ∧ w'.cell? ⟨w.heap.size, 3, none⟩ = some (.int .i64 m.a) ∧ w'.cell? ⟨w.heap.size, 4, none⟩ = some (.int .i64 m.l) ∧ True) ∧ (w'.cell? ⟨w1.heap.size, 0, none⟩ = some (.slice A1 l.length c1) ∧ True)) from fun w' h2 => ⟨((HBM.out.below b1).below hbl).below h2, bl.below h2⟩)
  have HB1 := Lib.hid B1
  have FAL := Lib.hid (fun (W : World) (hW : Below w1.heap.size w1 W) => freesAl m W.heap.size A1 c1 l (W.alloc (.cells #[.slice A1 l.length c1] 28)) ((HR1.out.below hW).alloc _) (by simp) HLL.out)
  have CNT := Lib.hid (fun (W : World) (b : Nat) (hW : AlB 135 #[.pointer (some ⟨b, 0, none⟩)] (frees l) m W) => countKeys_any m HM.out 135 #[.pointer (some ⟨b, 0, none⟩)] (frees l) W hW)
  clear r1 o1 b1 bl
  go_wp2_with fail
  generalize w1.alloc (.cells #[.slice A1 l.length c1] 28) = w2 at *
  refine wp_region_held_drew (S := (fun w' => ((w'.cell? ⟨w.heap.size, 0, none⟩ = some (.int .i64 m.c) ∧ w'.cell? ⟨w.heap.size, 1, none⟩ = some (.int .i64 m.d) ∧ w'.cell? ⟨w.heap.size, 2, none⟩ = some (.int .i64 m.s) ∧ w'.cell? ⟨w.heap.size, 3, none⟩ = some (.int .i64 m.a) ∧ w'.cell? ⟨w.heap.size, 4, none⟩ = some (.int .i64 m.l) ∧ True) ∧ (w'.cell? ⟨w1.heap.size, 0, none⟩ = some (.slice A1 l.length c1) ∧ True)))) (by kernel_rfl) (KS.out _ (belowDrew0 _)) (fun hHeld => ?_)
  refine takeD (i := 0) (some 20) (.agg #[.int .i64 m.c, .int .i64 m.d, .int .i64 m.s, .int .i64 m.a, .int .i64 m.l]) rfl (by kernel_rfl) (by kernel_rfl) (by kernel_rfl) (by kernel_rfl) (fun _ _ _ h => h) (by assumption) (Or.inl ⟨by rfl, fun w hSw => by (try dsimp only at hSw); go_simp⟩) ?_
  simp only [Act.put, List.setIfInBounds_toArray, List.set_cons_zero, List.set_cons_succ]
  refine takeD (i := 1) (some 21) (.agg #[.slice A1 l.length c1]) rfl (by kernel_rfl) (by kernel_rfl) (by kernel_rfl) (by kernel_rfl) (fun _ _ _ h => h) (by assumption) (Or.inl ⟨by rfl, fun w hSw => by (try dsimp only at hSw); go_simp⟩) ?_
  simp only [Act.put, List.setIfInBounds_toArray, List.set_cons_zero, List.set_cons_succ]
  have bC := belowDrew0 w2
  refine wpAnyH_ready (rs := [2]) (by kernel_rfl) (by simp) (AllReadyH.cons rfl (fun K hK => ?_) AllReadyH.nil)
  go_simp
  refine (frees_any A1 c1 l _).mono ?_
  rintro e w3 ⟨rfl, rfl⟩
  have bD := hbl.trans (bC.mono hbl.size)
  have HAL := Lib.hid (FAL.out _ bD)
  have bC2 := bC.alloc bC.size (.cells #[.slice A1 l.length c1] 28)
  generalize w2.drew.alloc (.cells #[.slice A1 l.length c1] 28) = w3 at *
  have HHeld := KS.out _ bC2
  refine hK.out _ _ HHeld (fun _ => ?_)
  clear hK K
  try simp only [Act.put, List.setIfInBounds_toArray, List.set_cons_zero, List.set_cons_succ]
  have HC := CNT.out _ _ HAL.out
  rw [← HNK.out] at HC
  have HCC2 := Lib.hid HC; clear HC
  refine wpAnyH_ready (rs := [3]) (by kernel_rfl) (by simp) (AllReadyH.cons rfl (fun K hK => ?_) AllReadyH.nil)
  go_simp
  refine HCC2.out.mono ?_
  rintro e w4 ⟨rfl, b4⟩
  have bC3 := bC2.trans (b4.mono bC2.size)
  have HHeld := KS.out _ bC3
  refine hK.out _ _ HHeld (fun _ => ?_)
  clear hK K
  try simp only [Act.put, List.setIfInBounds_toArray, List.set_cons_zero, List.set_cons_succ]
  refine takeD (i := 4) (some 24) (.int .i64 ((nk : Int) - 2)) rfl (by kernel_rfl) (by kernel_rfl) (by kernel_rfl) (by kernel_rfl) (fun _ _ _ h => h) (by assumption) (Or.inl ⟨by rfl, fun w hSw => by (try dsimp only at hSw); go_simp; (rw [IntKind.wrap_i64]; omega)⟩) ?_
  simp only [Act.put, List.setIfInBounds_toArray, List.set_cons_zero, List.set_cons_succ]
  refine takeD (i := 5) (some 6) (.int .i64 ((nk : Int) - 2)) rfl (by kernel_rfl) (by kernel_rfl) (by kernel_rfl) (by kernel_rfl) (fun _ _ _ h => h) (by assumption) (Or.inl ⟨by rfl, fun w hSw => by (try dsimp only at hSw); go_simp⟩) ?_
  simp only [Act.put, List.setIfInBounds_toArray, List.set_cons_zero, List.set_cons_succ]
  refine takeD (i := 6) (some 7) (.int .i64 0) rfl (by kernel_rfl) (by kernel_rfl) (by kernel_rfl) (by kernel_rfl) (fun _ _ _ h => h) (by assumption) (Or.inl ⟨by rfl, fun w hSw => by (try dsimp only at hSw); go_simp⟩) ?_
  simp only [Act.put, List.setIfInBounds_toArray, List.set_cons_zero, List.set_cons_succ]
  refine wpAnyH_done (by kernel_rfl) ?_ _
  go_wp2_with fail
  go_ret2
  exact resNC_of HR.out (HB1.out.trans ((hbl.trans (bC3.mono hbl.size)).mono HB1.out.size))
set_option maxRecDepth 100000 in
set_option maxHeartbeats 4000000 in
theorem specMixedKeys_any (m : Mk) (A : Option Addr) (c : Nat) (xs : List Int) (B : Option Addr) (d : Nat) (ys : List Int) (s : Int) (KA : Option Addr) (e : Nat) (key : List Int) (w : World) (h : RI w A xs) (g : RI w B ys) (hk : RI w KA key) (hcap : xs.length ≤ c) (hcap2 : key.length ≤ e) :
    Calls Try.prog 44 #[.agg #[.int .i64 m.c, .int .i64 m.d, .int .i64 m.s, .int .i64 m.a, .int .i64 m.l], .agg #[.slice A xs.length c, .slice B ys.length d, .int .i64 s], .slice KA key.length e] w (ResNC w (mixedR m xs ys s key)) := by
  have B0 := ((Below.refl w.heap.size w).alloc (Nat.le_refl _) (.cells #[.int .i64 m.c, .int .i64 m.d, .int .i64 m.s, .int .i64 m.a, .int .i64 m.l] 25)).alloc (by simp only [World.size_alloc]; omega) (.cells #[.slice A xs.length c, .slice B ys.length d, .int .i64 s] 52)
  have bp : BoxC ((w.alloc (.cells #[.int .i64 m.c, .int .i64 m.d, .int .i64 m.s, .int .i64 m.a, .int .i64 m.l] 25)).alloc (.cells #[.slice A xs.length c, .slice B ys.length d, .int .i64 s] 52)) (w.heap.size + 1) 0 [.slice A xs.length c, .slice B ys.length d, .int .i64 s] := by simp [BoxC, Go.World.cell?_alloc_at]
  have bm : BoxC ((w.alloc (.cells #[.int .i64 m.c, .int .i64 m.d, .int .i64 m.s, .int .i64 m.a, .int .i64 m.l] 25)).alloc (.cells #[.slice A xs.length c, .slice B ys.length d, .int .i64 s] 52)) w.heap.size 0 [.int .i64 m.c, .int .i64 m.d, .int .i64 m.s, .int .i64 m.a, .int .i64 m.l] := by
    have : BoxC (w.alloc (.cells #[.int .i64 m.c, .int .i64 m.d, .int .i64 m.s, .int .i64 m.a, .int .i64 m.l] 25)) w.heap.size 0 [.int .i64 m.c, .int .i64 m.d, .int .i64 m.s, .int .i64 m.a, .int .i64 m.l] := by simp [BoxC, Go.World.cell?_alloc_at]
    exact this.below ((Below.refl _ _).alloc (Nat.le_refl _) _)
  have HCL := l13Code_any m A c xs B d ys s KA e key ((w.alloc (.cells #[.int .i64 m.c, .int .i64 m.d, .int .i64 m.s, .int .i64 m.a, .int .i64 m.l] 25)).alloc (.cells #[.slice A xs.length c, .slice B ys.length d, .int .i64 s] 52)) (h.below B0) (g.below B0) (hk.below B0) hcap hcap2
  by_cases h0 : changeC m xs ys s key = 0
  rotate_left
  · have HR := Lib.hid (show (0, changeC m xs ys s key) = mixedR m xs ys s key by unfold mixedR; rw [if_neg h0])
    have t1 : (changeC m xs ys s key != 0) = true := by simpa using h0
    have HCC := Lib.hid HCL
    have H0 := Lib.hid h0; clear h0 HCL
    go_enter Try.func44, Try.ntmps44
    go_wp2_with fail
    refine HCC.out.mono ?_
    rintro e w1 ⟨rfl, b1⟩
    go_wp2_with fail
    go_ret2
    exact resNC_of HR.out (B0.trans (b1.mono B0.size))
  have hcx := changeC_0 h0
  rw [h0] at HCL
  have HCC := Lib.hid HCL
  obtain ⟨l, hl⟩ : ∃ l, l = hullF m.c.toNat m.d.toNat [xs, key] := ⟨_, rfl⟩
  have hlk : isLockF m l = true := by rw [hl]; exact hull_lock hcx.1 hcx.2 (by simp)
  have HLL := Lib.hid (show (l.length : Int) = m.c from isLock_len hlk)
  have HHU := Lib.hid (fun (W : World) (X : Option Addr) (hX : RII W X [xs, key]) => (show Calls Try.prog 102 _ W (ResL W l) by rw [hl]; exact l04Hull_any m X 2 [xs, key] W hX hcx.1 hcx.2 (by simp)))
  have HO := Lib.hid (fun (W : World) D q (hD : RII W D l) => l04Openers_go m hcx.1 l HLL.out (lock_inc hlk) m.c.toNat [] 1000000 D q none 0 W hD RI.nil (Nat.le_refl _) (by have := HLL.out; simp; omega) rfl (by omega) (by omega))
  have HEQ := Lib.hid (openers_eq m hcx.1 l hlk)
  have HFEW := Lib.hid (keys_few m hcx.1 (frees l))
  obtain ⟨zz, hzz⟩ : ∃ zz, zz = openF m l m.c.toNat [] 1000000 := ⟨_, rfl⟩
  rw [← hzz] at HO HEQ
  have e1 : zz.length ≤ 262144 := by rw [HEQ.out]; exact HFEW.out
  have HR := Lib.hid (show ((zz.length : Int) - 2, 0) = mixedR m xs ys s key by unfold mixedR; rw [if_pos h0, ← hl, ← HEQ.out])
  have HM := Lib.hid hcx.1
  have HBM := Lib.hid (And.intro bm bp)
  have H0 := Lib.hid h0
  clear h0 HCL hl hcx hlk hzz bm bp
  go_enter Try.func44, Try.ntmps44
  go_wp2_with fail
  refine HCC.out.mono ?_
  rintro e w1 ⟨rfl, b1⟩
  have B1 := B0.trans (b1.mono B0.size)
  have KS := Lib.hid (show ∀ w' : World, Below w1.heap.size w1 w' → ((w'.cell? ⟨w.heap.size, 0, none⟩ = some (.int .i64 m.c) ∧ w'.cell? ⟨w.heap.size, 1, none⟩ = some (.int .i64 m.d) ∧ w'.cell? ⟨w.heap.size, 2, none⟩ = some (.int .i64 m.s) ∧ w'.cell? ⟨w.heap.size, 3, none⟩ = some (.int .i64 m.a) ∧ w'.cell? ⟨w.heap.size, 4, none⟩ = some (.int .i64 m.l) ∧ True) ∧ (w'.cell? ⟨w.heap.size + 1, 0, none⟩ = some (.slice A xs.length c) ∧ w'.cell? ⟨w.heap.size + 1, 1, none⟩ = some (.slice B ys.length d) ∧ w'.cell? ⟨w.heap.size + 1, 2, none⟩ = some (.int .i64 s) ∧ True)) from fun w' h2 => ⟨(HBM.out.1.below b1).below h2, (HBM.out.2.below b1).below h2⟩)
  have HB1 := Lib.hid B1
  clear b1
  go_wp2_with fail
  refine wp_region_held_drew (S := (fun w' => ((w'.cell? ⟨w.heap.size, 0, none⟩ = some (.int .i64 m.c) ∧ w'.cell? ⟨w.heap.size, 1, none⟩ = some (.int .i64 m.d) ∧ w'.cell? ⟨w.heap.size, 2, none⟩ = some (.int .i64 m.s) ∧ w'.cell? ⟨w.heap.size, 3, none⟩ = some (.int .i64 m.a) ∧ w'.cell? ⟨w.heap.size, 4, none⟩ = some (.int .i64 m.l) ∧ True) ∧ (w'.cell? ⟨w.heap.size + 1, 0, none⟩ = some (.slice A xs.length c) ∧ w'.cell? ⟨w.heap.size + 1, 1, none⟩ = some (.slice B ys.length d) ∧ w'.cell? ⟨w.heap.size + 1, 2, none⟩ = some (.int .i64 s) ∧ True)))) (by kernel_rfl) (KS.out _ (belowDrew0 _)) (fun hHeld => ?_)
  refine takeD (i := 0) (some 16) (.agg #[.int .i64 m.c, .int .i64 m.d, .int .i64 m.s, .int .i64 m.a, .int .i64 m.l]) rfl (by kernel_rfl) (by kernel_rfl) (by kernel_rfl) (by kernel_rfl) (fun _ _ _ h => h) (by assumption) (Or.inl ⟨by rfl, fun w hSw => by (try dsimp only at hSw); go_simp⟩) ?_
  simp only [Act.put, List.setIfInBounds_toArray, List.set_cons_zero, List.set_cons_succ]
  refine takeD (i := 1) (some 17) (.agg #[.int .i64 m.c, .int .i64 m.d, .int .i64 m.s, .int .i64 m.a, .int .i64 m.l]) rfl (by kernel_rfl) (by kernel_rfl) (by kernel_rfl) (by kernel_rfl) (fun _ _ _ h => h) (by assumption) (Or.inl ⟨by rfl, fun w hSw => by (try dsimp only at hSw); go_simp⟩) ?_
  simp only [Act.put, List.setIfInBounds_toArray, List.set_cons_zero, List.set_cons_succ]
  refine takeD (i := 2) (some 18) (.pointer (some ⟨w.heap.size + 1, 0, none⟩)) rfl (by kernel_rfl) (by kernel_rfl) (by kernel_rfl) (by kernel_rfl) (fun _ _ _ h => h) (by assumption) (Or.inl ⟨by rfl, fun w hSw => by (try dsimp only at hSw); go_simp⟩) ?_
  simp only [Act.put, List.setIfInBounds_toArray, List.set_cons_zero, List.set_cons_succ]
  refine takeD (i := 3) (some 19) (.slice A xs.length c) rfl (by kernel_rfl) (by kernel_rfl) (by kernel_rfl) (by kernel_rfl) (fun _ _ _ h => h) (by assumption) (Or.inl ⟨by rfl, fun w hSw => by (try dsimp only at hSw); go_simp⟩) ?_
  simp only [Act.put, List.setIfInBounds_toArray, List.set_cons_zero, List.set_cons_succ]
  refine takeD (i := 4) (some 20) (.slice KA key.length e) rfl (by kernel_rfl) (by kernel_rfl) (by kernel_rfl) (by kernel_rfl) (fun _ _ _ h => h) (by assumption) (Or.inl ⟨by rfl, fun w hSw => by (try dsimp only at hSw); go_simp⟩) ?_
  simp only [Act.put, List.setIfInBounds_toArray, List.set_cons_zero, List.set_cons_succ]
  have bC := belowDrew0 w1
  refine wpAnyH_ready (rs := [5]) (by kernel_rfl) (by simp) (AllReadyH.cons rfl (fun K hK => ?_) AllReadyH.nil)
  go_simp
  have bC2 := bC.alloc bC.size (.cells #[.slice A xs.length c, .slice KA key.length e] 38)
  have B2 := B1.trans (bC2.mono B1.size)
  have HH := Lib.hid (HHU.out (w1.drew.alloc (.cells #[.slice A xs.length c, .slice KA key.length e] 38)) (some ⟨w1.heap.size, 0, none⟩)
    (RII.two hcap hcap2 (h.below B2) (hk.below B2) ((World.cell?_alloc_at (w := w1.drew) _ _ w1.heap.size 0 rfl).trans rfl) ((World.cell?_alloc_at (w := w1.drew) _ _ w1.heap.size 1 rfl).trans rfl)))
  have HHeld := KS.out _ bC2
  refine hK.out _ _ HHeld (fun _ => ?_)
  clear hK K
  try simp only [Act.put, List.setIfInBounds_toArray, List.set_cons_zero, List.set_cons_succ]
  refine wpAnyH_ready (rs := [6]) (by kernel_rfl) (by simp) (AllReadyH.cons rfl (fun K hK => ?_) AllReadyH.nil)
  go_simp
  refine HH.out.mono ?_
  rintro e w3 ⟨A3, c3, rfl, hc3, r3, o3, b3⟩
  have bC3 := bC2.trans (b3.mono bC2.size)
  have HO2 := Lib.hid (HO.out w3 A3 c3 r3)
  clear r3 o3 b3
  have HHeld := KS.out _ bC3
  refine hK.out _ _ HHeld (fun _ => ?_)
  clear hK K
  try simp only [Act.put, List.setIfInBounds_toArray, List.set_cons_zero, List.set_cons_succ]
  refine wpAnyH_ready (rs := [7]) (by kernel_rfl) (by simp) (AllReadyH.cons rfl (fun K hK => ?_) AllReadyH.nil)
  go_simp
  refine HO2.out.mono ?_
  rintro e w4 ⟨A4, c4, us4, rfl, hc4, hr4, hk4, b4, _⟩
  have bC4 := bC3.trans (b4.mono bC3.size)
  clear hr4 hk4 b4
  have HHeld := KS.out _ bC4
  refine hK.out _ _ HHeld (fun _ => ?_)
  clear hK K
  try simp only [Act.put, List.setIfInBounds_toArray, List.set_cons_zero, List.set_cons_succ]
  refine takeD (i := 8) (some 24) (.int .i64 (zz.length : Int)) rfl (by kernel_rfl) (by kernel_rfl) (by kernel_rfl) (by kernel_rfl) (fun _ _ _ h => h) (by assumption) (Or.inl ⟨by rfl, fun w hSw => by (try dsimp only at hSw); go_simp⟩) ?_
  simp only [Act.put, List.setIfInBounds_toArray, List.set_cons_zero, List.set_cons_succ]
  refine takeD (i := 9) (some 25) (.int .i64 ((zz.length : Int) - 2)) rfl (by kernel_rfl) (by kernel_rfl) (by kernel_rfl) (by kernel_rfl) (fun _ _ _ h => h) (by assumption) (Or.inl ⟨by rfl, fun w hSw => by (try dsimp only at hSw); go_simp; (rw [IntKind.wrap_i64]; omega)⟩) ?_
  simp only [Act.put, List.setIfInBounds_toArray, List.set_cons_zero, List.set_cons_succ]
  refine takeD (i := 10) (some 6) (.int .i64 ((zz.length : Int) - 2)) rfl (by kernel_rfl) (by kernel_rfl) (by kernel_rfl) (by kernel_rfl) (fun _ _ _ h => h) (by assumption) (Or.inl ⟨by rfl, fun w hSw => by (try dsimp only at hSw); go_simp⟩) ?_
  simp only [Act.put, List.setIfInBounds_toArray, List.set_cons_zero, List.set_cons_succ]
  refine takeD (i := 11) (some 7) (.int .i64 0) rfl (by kernel_rfl) (by kernel_rfl) (by kernel_rfl) (by kernel_rfl) (fun _ _ _ h => h) (by assumption) (Or.inl ⟨by rfl, fun w hSw => by (try dsimp only at hSw); go_simp⟩) ?_
  simp only [Act.put, List.setIfInBounds_toArray, List.set_cons_zero, List.set_cons_succ]
  refine wpAnyH_done (by kernel_rfl) ?_ _
  go_wp2_with fail
  go_ret2
  exact resNC_of HR.out (HB1.out.trans (bC4.mono HB1.out.size))
end Go.Proofs.Ythjfilhcfjpinaa
