/- Contracts of the program's Opens and CountOpeners. -/
import Derived.Test.YthjfilhcfjpinaaFFrees
namespace Go.Proofs.Ythjfilhcfjpinaa
set_option linter.unusedVariables false
open Go.RowKit
def opensR (m : Mk) (l : List (List Int)) (key : List Int) : Bool × Int := if isLockF m l = true then (if isKey m key = true then (opensL l key, 0) else (false, 2)) else (false, 1)
def cOpenersR (m : Mk) (l : List (List Int)) : Int × Int := if isLockF m l = true then (((openers m l).length : Int), 0) else (0, 1)
set_option maxRecDepth 100000 in
set_option maxHeartbeats 4000000 in
theorem implOpens_any (m : Mk) (D : Option Addr) (q : Nat) (l : List (List Int)) (K : Option Addr) (d : Nat) (key : List Int) (w : World) (h : RII w D l) (k : RI w K key) (hcap : key.length ≤ d) :
    Calls Try.prog 41 #[.agg #[.int .i64 m.c, .int .i64 m.d, .int .i64 m.s, .int .i64 m.a, .int .i64 m.l], .agg #[.slice D l.length q], .slice K key.length d] w (ResBC w (opensR m l key)) := by
  have Ba := ((Below.refl w.heap.size w).alloc (Nat.le_refl _) (.cells #[.int .i64 m.c, .int .i64 m.d, .int .i64 m.s, .int .i64 m.a, .int .i64 m.l] 25)).alloc (by simp only [World.size_alloc]; omega) (.cells #[.slice D l.length q] 28)
  have B0 := Ba.alloc (by simp only [World.size_alloc]; omega) (.cells #[.slice D l.length q] 28)
  have bx : BoxC ((w.alloc (.cells #[.int .i64 m.c, .int .i64 m.d, .int .i64 m.s, .int .i64 m.a, .int .i64 m.l] 25)).alloc (.cells #[.slice D l.length q] 28)) (w.heap.size + 1) 0 [.slice D l.length q] := by simp [BoxC, Go.World.cell?_alloc_at]
  have bm : BoxC ((w.alloc (.cells #[.int .i64 m.c, .int .i64 m.d, .int .i64 m.s, .int .i64 m.a, .int .i64 m.l] 25)).alloc (.cells #[.slice D l.length q] 28)) w.heap.size 0 [.int .i64 m.c, .int .i64 m.d, .int .i64 m.s, .int .i64 m.a, .int .i64 m.l] := by
    have : BoxC (w.alloc (.cells #[.int .i64 m.c, .int .i64 m.d, .int .i64 m.s, .int .i64 m.a, .int .i64 m.l] 25)) w.heap.size 0 [.int .i64 m.c, .int .i64 m.d, .int .i64 m.s, .int .i64 m.a, .int .i64 m.l] := by simp [BoxC, Go.World.cell?_alloc_at]
    exact this.below ((Below.refl _ _).alloc (Nat.le_refl _) _)
  have HL := locksCode1_any m (w.heap.size + 1 + 1) D q l (((w.alloc (.cells #[.int .i64 m.c, .int .i64 m.d, .int .i64 m.s, .int .i64 m.a, .int .i64 m.l] 25)).alloc (.cells #[.slice D l.length q] 28)).alloc (.cells #[.slice D l.length q] 28)) (h.below B0) (by simp [Go.World.cell?_alloc_at])
  cases h1 : isLockF m l with
  | false =>
    have HR := Lib.hid (show (false, 1) = opensR m l key by simp [opensR, h1])
    rw [lockC_1 h1] at HL
    have HLL := Lib.hid HL; clear HL
    go_enter Try.func41, Try.ntmps41
    go_wp2_with fail
    refine HLL.out.mono ?_
    rintro e w1 ⟨rfl, b1⟩
    go_wp2_with fail
    go_ret2
    exact resBC_of HR.out (B0.trans (b1.mono B0.size))
  | true =>
    have hmk := isLock_mk h1
    rw [lockC_0 h1] at HL
    have HLL := Lib.hid HL; clear HL
    have HLN := Lib.hid (isLock_len h1)
    go_enter Try.func41, Try.ntmps41
    go_wp2_with fail
    refine HLL.out.mono ?_
    rintro e w1 ⟨rfl, b1⟩
    have HB1 := Lib.hid (B0.trans (b1.mono B0.size))
    have bM : Below ((w.alloc (.cells #[.int .i64 m.c, .int .i64 m.d, .int .i64 m.s, .int .i64 m.a, .int .i64 m.l] 25)).alloc (.cells #[.slice D l.length q] 28)).heap.size ((w.alloc (.cells #[.int .i64 m.c, .int .i64 m.d, .int .i64 m.s, .int .i64 m.a, .int .i64 m.l] 25)).alloc (.cells #[.slice D l.length q] 28)) w1 := ((Below.refl _ _).alloc (Nat.le_refl _) (.cells #[.slice D l.length q] 28)).trans (b1.mono (by simp only [World.size_alloc]; omega))
    obtain ⟨q0, q1, q2, q3, q4, _⟩ := bm.below bM
    simp only [Nat.zero_add] at q1 q2 q3 q4
    have HX1 := Lib.hid (bx.below bM)
    have HK := Lib.hid (isKey_any m K d key w1 (k.below HB1.out) hcap hmk)
    clear b1 bM
    go_wp2_with fail
    clear q0 q1 q2 q3 q4
    refine HK.out.mono ?_
    rintro e w2 ⟨rfl, b2⟩
    have HB2 := Lib.hid (HB1.out.trans (b2.mono HB1.out.size))
    obtain ⟨y0, _⟩ := HX1.out.below b2
    clear b2
    cases hk : isKey m key with
    | false =>
      have HR := Lib.hid (show (false, 2) = opensR m l key by simp [opensR, h1, hk])
      go_wp2_with fail
      go_ret2
      exact resBC_of HR.out HB2.out
    | true =>
      have HR := Lib.hid (show (opensL l key, 0) = opensR m l key by simp [opensR, h1, hk])
      have HO := Lib.hid (opens_any D q l K d key w2 (h.below HB2.out) (k.below HB2.out) (by have := isKey_len hk; have := HLN.out; omega))
      go_wp2_with fail
      clear y0
      refine HO.out.mono ?_
      rintro e w3 ⟨rfl, b3⟩
      go_wp2_with fail
      go_ret2
      exact resBC_of HR.out (HB2.out.trans (b3.mono HB2.out.size))
set_option maxRecDepth 100000 in
set_option maxHeartbeats 4000000 in
theorem implCountOpeners_any (m : Mk) (D : Option Addr) (q : Nat) (l : List (List Int)) (w : World) (h : RII w D l) :
    Calls Try.prog 28 #[.agg #[.int .i64 m.c, .int .i64 m.d, .int .i64 m.s, .int .i64 m.a, .int .i64 m.l], .agg #[.slice D l.length q]] w (ResNC w (cOpenersR m l)) := by
  have Ba := ((Below.refl w.heap.size w).alloc (Nat.le_refl _) (.cells #[.int .i64 m.c, .int .i64 m.d, .int .i64 m.s, .int .i64 m.a, .int .i64 m.l] 25)).alloc (by simp only [World.size_alloc]; omega) (.cells #[.slice D l.length q] 28)
  have B0 := Ba.alloc (by simp only [World.size_alloc]; omega) (.cells #[.slice D l.length q] 28)
  have bx : BoxC ((w.alloc (.cells #[.int .i64 m.c, .int .i64 m.d, .int .i64 m.s, .int .i64 m.a, .int .i64 m.l] 25)).alloc (.cells #[.slice D l.length q] 28)) (w.heap.size + 1) 0 [.slice D l.length q] := by simp [BoxC, Go.World.cell?_alloc_at]
  have bm : BoxC ((w.alloc (.cells #[.int .i64 m.c, .int .i64 m.d, .int .i64 m.s, .int .i64 m.a, .int .i64 m.l] 25)).alloc (.cells #[.slice D l.length q] 28)) w.heap.size 0 [.int .i64 m.c, .int .i64 m.d, .int .i64 m.s, .int .i64 m.a, .int .i64 m.l] := by
    have : BoxC (w.alloc (.cells #[.int .i64 m.c, .int .i64 m.d, .int .i64 m.s, .int .i64 m.a, .int .i64 m.l] 25)) w.heap.size 0 [.int .i64 m.c, .int .i64 m.d, .int .i64 m.s, .int .i64 m.a, .int .i64 m.l] := by simp [BoxC, Go.World.cell?_alloc_at]
    exact this.below ((Below.refl _ _).alloc (Nat.le_refl _) _)
  have HL := locksCode1_any m (w.heap.size + 1 + 1) D q l (((w.alloc (.cells #[.int .i64 m.c, .int .i64 m.d, .int .i64 m.s, .int .i64 m.a, .int .i64 m.l] 25)).alloc (.cells #[.slice D l.length q] 28)).alloc (.cells #[.slice D l.length q] 28)) (h.below B0) (by simp [Go.World.cell?_alloc_at])
  cases h1 : isLockF m l with
  | false =>
    have HR := Lib.hid (show (0, 1) = cOpenersR m l by simp [cOpenersR, h1])
    rw [lockC_1 h1] at HL
    have HLL := Lib.hid HL; clear HL
    go_enter Try.func28, Try.ntmps28
    go_wp2_with fail
    refine HLL.out.mono ?_
    rintro e w1 ⟨rfl, b1⟩
    go_wp2_with fail
    go_ret2
    exact resNC_of HR.out (B0.trans (b1.mono B0.size))
  | true =>
    have HR := Lib.hid (show (((openers m l).length : Int), 0) = cOpenersR m l by simp [cOpenersR, h1])
    have HMK := Lib.hid (isLock_mk h1)
    have HLN := Lib.hid (isLock_len h1)
    rw [lockC_0 h1] at HL
    have HLL := Lib.hid HL; clear HL
    clear h1
    go_enter Try.func28, Try.ntmps28
    go_wp2_with fail
    refine HLL.out.mono ?_
    rintro e w1 ⟨rfl, b1⟩
    have HB1 := Lib.hid (B0.trans (b1.mono B0.size))
    have bM : Below ((w.alloc (.cells #[.int .i64 m.c, .int .i64 m.d, .int .i64 m.s, .int .i64 m.a, .int .i64 m.l] 25)).alloc (.cells #[.slice D l.length q] 28)).heap.size ((w.alloc (.cells #[.int .i64 m.c, .int .i64 m.d, .int .i64 m.s, .int .i64 m.a, .int .i64 m.l] 25)).alloc (.cells #[.slice D l.length q] 28)) w1 := ((Below.refl _ _).alloc (Nat.le_refl _) (.cells #[.slice D l.length q] 28)).trans (b1.mono (by simp only [World.size_alloc]; omega))
    have HM1 := Lib.hid (bm.below bM)
    have HX1 := Lib.hid (bx.below bM)
    have KS := Lib.hid (show ∀ w' : World, Below w1.heap.size w1 w' → ((w'.cell? ⟨w.heap.size, 0, none⟩ = some (.int .i64 m.c) ∧ w'.cell? ⟨w.heap.size, 1, none⟩ = some (.int .i64 m.d) ∧ w'.cell? ⟨w.heap.size, 2, none⟩ = some (.int .i64 m.s) ∧ w'.cell? ⟨w.heap.size, 3, none⟩ = some (.int .i64 m.a) ∧ w'.cell? ⟨w.heap.size, 4, none⟩ = some (.int .i64 m.l)) ∧ w'.cell? ⟨w.heap.size + 1, 0, none⟩ = some (.slice D l.length q)) from fun w' hw => by
      obtain ⟨a0, a1, a2, a3, a4, _⟩ := HM1.out.below hw
      exact ⟨⟨a0, a1, a2, a3, a4⟩, (HX1.out.below hw).1⟩)
    have FAL := Lib.hid (fun (W : World) (hW : Below w1.heap.size w1 W) => freesAl m W.heap.size D q l (W.alloc (.cells #[.slice D l.length q] 28)) ((h.below (HB1.out.trans (hW.mono HB1.out.size))).alloc _) (by simp) HLN.out)
    have CNT := Lib.hid (fun (W : World) (b : Nat) (hW : AlB 135 #[.pointer (some ⟨b, 0, none⟩)] (frees l) m W) => countKeys_any m HMK.out 135 #[.pointer (some ⟨b, 0, none⟩)] (frees l) W hW)
    clear b1 bM
    go_wp2_with fail
    refine wp_region_held_drew (S := (fun w' => ((w'.cell? ⟨w.heap.size, 0, none⟩ = some (.int .i64 m.c) ∧ w'.cell? ⟨w.heap.size, 1, none⟩ = some (.int .i64 m.d) ∧ w'.cell? ⟨w.heap.size, 2, none⟩ = some (.int .i64 m.s) ∧ w'.cell? ⟨w.heap.size, 3, none⟩ = some (.int .i64 m.a) ∧ w'.cell? ⟨w.heap.size, 4, none⟩ = some (.int .i64 m.l)) ∧ w'.cell? ⟨w.heap.size + 1, 0, none⟩ = some (.slice D l.length q)))) (by kernel_rfl) (KS.out _ (belowDrew0 _)) (fun hHeld => ?_)
    refine takeD (i := 0) (some 14) (.agg #[.int .i64 m.c, .int .i64 m.d, .int .i64 m.s, .int .i64 m.a, .int .i64 m.l]) rfl (by kernel_rfl) (by kernel_rfl) (by kernel_rfl) (by kernel_rfl) (fun _ _ _ h => h) (by assumption) (Or.inl ⟨by rfl, fun w hSw => by (try dsimp only at hSw); go_simp⟩) ?_
    simp only [Act.put, List.setIfInBounds_toArray, List.set_cons_zero, List.set_cons_succ]
    refine takeD (i := 1) (some 15) (.agg #[.slice D l.length q]) rfl (by kernel_rfl) (by kernel_rfl) (by kernel_rfl) (by kernel_rfl) (fun _ _ _ h => h) (by assumption) (Or.inl ⟨by rfl, fun w hSw => by (try dsimp only at hSw); go_simp⟩) ?_
    simp only [Act.put, List.setIfInBounds_toArray, List.set_cons_zero, List.set_cons_succ]
    have bC := belowDrew0 w1
    refine wpAnyH_ready (rs := [2]) (by kernel_rfl) (by simp) (AllReadyH.cons rfl (fun K hK => ?_) AllReadyH.nil)
    go_simp
    refine (frees_any D q l _).mono ?_
    rintro e w2 ⟨rfl, rfl⟩
    have HAL := Lib.hid (FAL.out _ bC)
    have bC2 := bC.alloc bC.size (.cells #[.slice D l.length q] 28)
    have HHeld := KS.out _ bC2
    refine hK.out _ _ HHeld (fun _ => ?_)
    clear hK K
    try simp only [Act.put, List.setIfInBounds_toArray, List.set_cons_zero, List.set_cons_succ]
    refine wpAnyH_ready (rs := [3]) (by kernel_rfl) (by simp) (AllReadyH.cons rfl (fun K hK => ?_) AllReadyH.nil)
    go_simp
    refine (CNT.out _ _ HAL.out).mono ?_
    rintro e w3 ⟨rfl, hb3⟩
    have HB3 := Lib.hid (bC2.trans (hb3.mono bC2.size))
    clear hb3
    have HHeld := KS.out _ HB3.out
    refine hK.out _ _ HHeld (fun _ => ?_)
    clear hK K
    try simp only [Act.put, List.setIfInBounds_toArray, List.set_cons_zero, List.set_cons_succ]
    refine takeD (i := 4) (some 4) (.int .i64 ((keysG m (frees l) [] m.c.toNat [] false).length : Int)) rfl (by kernel_rfl) (by kernel_rfl) (by kernel_rfl) (by kernel_rfl) (fun _ _ _ h => h) (by assumption) (Or.inl ⟨by rfl, fun w hSw => by (try dsimp only at hSw); go_simp⟩) ?_
    simp only [Act.put, List.setIfInBounds_toArray, List.set_cons_zero, List.set_cons_succ]
    refine takeD (i := 5) (some 5) (.int .i64 0) rfl (by kernel_rfl) (by kernel_rfl) (by kernel_rfl) (by kernel_rfl) (fun _ _ _ h => h) (by assumption) (Or.inl ⟨by rfl, fun w hSw => by (try dsimp only at hSw); go_simp⟩) ?_
    simp only [Act.put, List.setIfInBounds_toArray, List.set_cons_zero, List.set_cons_succ]
    refine wpAnyH_done (by kernel_rfl) ?_ _
    go_wp2_with fail
    go_ret2
    exact resNC_of HR.out (HB1.out.trans (HB3.out.mono HB1.out.size))
end Go.Proofs.Ythjfilhcfjpinaa
