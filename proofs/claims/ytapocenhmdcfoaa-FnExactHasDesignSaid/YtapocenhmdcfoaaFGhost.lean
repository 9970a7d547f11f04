/- Contracts of allowedCode, l14Code, l14Key, IsGhost. -/
import Derived.Test.YtapocenhmdcfoaaFCodes
import Derived.StillTailTactics
namespace Go.Proofs.Ytapocenhmdcfoaa
set_option linter.unusedVariables false
open Go.RowKit
theorem alloc_at {w : World} {vs : Array Value} {T b j : Nat} {v : Value} (h : b = w.heap.size) (hv : vs[j]? = some v) : (w.alloc (.cells vs T)).cell? ⟨b, j, none⟩ = some v := by
  subst h; rw [World.cell?_alloc_at (hn := rfl)]; exact hv
theorem allowedC_1 {m : Mk} {l al ks : List (List Int)} (h : isLockF m l = false) : allowedC m l al ks = 1 := by simp [allowedC, h]
theorem allowedC_2 {m : Mk} {l al ks : List (List Int)} (h : isLockF m l = true) (h2 : 300 < al.length) : allowedC m l al ks = 2 := by simp [allowedC, h]; omega
theorem allowedC_k {m : Mk} {l al ks : List (List Int)} (h : isLockF m l = true) (h2 : al.length ≤ 300) : keysC m (al ++ ks) = allowedC m l al ks := by
  simp [allowedC, keysC, h, h2, isLock_mk h]
theorem lockC_1 {m : Mk} {l : List (List Int)} (h : isLockF m l = false) : lockC m l = 1 := by simp [lockC, h]
theorem lockC_0 {m : Mk} {l : List (List Int)} (h : isLockF m l = true) : lockC m l = 0 := by simp [lockC, h]
theorem concat2_any (g : Nat) (A B : Option Addr) (c d : Nat) (al ks : List (List Int)) (w : World) (h : RII w A al) (k : RII w B ks) (hl : al.length ≤ 300) (hk : ks.length ≤ 300)
    (h0 : w.cell? ⟨g, 0, none⟩ = some (.slice A al.length c)) (h1 : w.cell? ⟨g, 1, none⟩ = some (.slice B ks.length d)) :
    Calls Try.prog 190 #[.slice (some ⟨g, 0, none⟩) 2 2] w (RdII w (al ++ ks)) := by
  have := concatL_any g 2 [al, ks] w (by simp) (by simp; omega) (fun j hj => by
    match j, hj with
    | 0, _ => exact ⟨A, c, h0, h⟩
    | 1, _ => exact ⟨B, d, h1, k⟩)
  simpa using this
set_option maxRecDepth 100000 in
set_option maxHeartbeats 4000000 in
theorem allowedCode_any (m : Mk) (D : Option Addr) (q : Nat) (l : List (List Int)) (A : Option Addr) (c : Nat) (al : List (List Int)) (B : Option Addr) (d : Nat) (ks : List (List Int)) (w : World) (h : RII w D l) (g : RII w A al) (k : RII w B ks) (hk : ks.length ≤ 300) :
    Calls Try.prog 144 #[.agg #[.int .i64 m.c, .int .i64 m.d, .int .i64 m.s, .int .i64 m.a, .int .i64 m.l], .agg #[.slice D l.length q], .slice A al.length c, .slice B ks.length d] w fun e w' => e = .returned (.int .i64 (allowedC m l al ks)) ∧ Below w.heap.size w w' := by
  have B0 := (((Below.refl w.heap.size w).alloc (Nat.le_refl _) (.cells #[.int .i64 m.c, .int .i64 m.d, .int .i64 m.s, .int .i64 m.a, .int .i64 m.l] 29)).alloc (by simp only [World.size_alloc]; omega) (.cells #[.slice D l.length q] 75)).alloc (by simp only [World.size_alloc]; omega) (.cells #[.slice D l.length q] 75)
  have HL := locksCode1_any m (w.heap.size + 1 + 1) D q l (((w.alloc (.cells #[.int .i64 m.c, .int .i64 m.d, .int .i64 m.s, .int .i64 m.a, .int .i64 m.l] 29)).alloc (.cells #[.slice D l.length q] 75)).alloc (.cells #[.slice D l.length q] 75)) (h.below B0) (by simp [Go.World.cell?_alloc_at])
  cases h1 : isLockF m l with
  | false =>
    have HR := Lib.hid (allowedC_1 (al := al) (ks := ks) h1)
    rw [lockC_1 h1] at HL
    have HLL := Lib.hid HL; clear HL
    go_enter Try.func144, Try.ntmps144
    go_wp2_with fail
    refine HLL.out.mono ?_
    rintro e w1 ⟨rfl, b1⟩
    go_wp2_with fail
    go_ret
    exact ⟨retI HR.out.symm, B0.trans (b1.mono B0.size)⟩
  | true =>
  rw [lockC_0 h1] at HL
  have HLL := Lib.hid HL; clear HL
  have hge := g.le
  by_cases h2 : 300 < al.length
  · have HR := Lib.hid (allowedC_2 (ks := ks) h1 h2)
    have t1 : (300 : Int) < (al.length : Int) := by omega
    go_enter Try.func144, Try.ntmps144
    go_wp2_with fail
    refine HLL.out.mono ?_
    rintro e w1 ⟨rfl, b1⟩
    go_wp2_with fail
    go_ret
    exact ⟨retI HR.out.symm, B0.trans (b1.mono B0.size)⟩
  · obtain ⟨zs, hz⟩ : ∃ zs, al ++ ks = zs := ⟨_, rfl⟩
    have bx : BoxC (w.alloc (.cells #[.int .i64 m.c, .int .i64 m.d, .int .i64 m.s, .int .i64 m.a, .int .i64 m.l] 29)) w.heap.size 0 [.int .i64 m.c, .int .i64 m.d, .int .i64 m.s, .int .i64 m.a, .int .i64 m.l] := by simp [BoxC, Go.World.cell?_alloc_at]
    have HR := Lib.hid (show keysC m zs = allowedC m l al ks by rw [← hz]; exact allowedC_k (ks := ks) h1 (by omega : al.length ≤ 300))
    have t1 : decide ((300 : Int) < (al.length : Int)) = false := by simp; omega
    have hal : al.length ≤ 300 := by omega
    have H2 := Lib.hid h2; clear h2
    go_enter Try.func144, Try.ntmps144
    go_wp2_with fail
    refine HLL.out.mono ?_
    rintro e w1 ⟨rfl, b1⟩
    have C := (bcell b1).1
    have B1 := B0.trans (b1.mono B0.size)
    have s1 : w.heap.size + 1 + 1 < w1.heap.size := by have := b1.size; simp only [World.size_alloc] at this; omega
    have s0 : w.heap.size < w1.heap.size := by omega
    have bM : Below (w.alloc (.cells #[.int .i64 m.c, .int .i64 m.d, .int .i64 m.s, .int .i64 m.a, .int .i64 m.l] 29)).heap.size (w.alloc (.cells #[.int .i64 m.c, .int .i64 m.d, .int .i64 m.s, .int .i64 m.a, .int .i64 m.l] 29)) w1 := (((Below.refl _ _).alloc (Nat.le_refl _) (.cells #[.slice D l.length q] 75)).alloc (by simp only [World.size_alloc]; omega) (.cells #[.slice D l.length q] 75)).trans (b1.mono (by simp only [World.size_alloc]; omega))
    have KS := Lib.hid (show ∀ w' : World, Below w1.heap.size w1 w' → (w'.cell? ⟨w.heap.size, 0, none⟩ = some (.int .i64 m.c) ∧ w'.cell? ⟨w.heap.size, 1, none⟩ = some (.int .i64 m.d) ∧ w'.cell? ⟨w.heap.size, 2, none⟩ = some (.int .i64 m.s) ∧ w'.cell? ⟨w.heap.size, 3, none⟩ = some (.int .i64 m.a) ∧ w'.cell? ⟨w.heap.size, 4, none⟩ = some (.int .i64 m.l) ∧ True) from fun w' hb' => (bx.below bM).below hb')
    clear C
    have b3 : Below w1.heap.size w1 (w1.alloc (.cells #[.slice A al.length c, .slice B ks.length d] 24)).drew := belowD ((Below.refl w1.heap.size w1).alloc (Nat.le_refl _) _) 1
    have B3 := B1.trans (b3.mono B1.size)
    have HC0 := (concat2_any w1.heap.size A B c d al ks (w1.alloc (.cells #[.slice A al.length c, .slice B ks.length d] 24)).drew (g.below B3) (k.below B3) hal hk (show (w1.alloc (.cells #[.slice A al.length c, .slice B ks.length d] 24)).cell? _ = _ from alloc_at rfl rfl) (show (w1.alloc (.cells #[.slice A al.length c, .slice B ks.length d] 24)).cell? _ = _ from alloc_at rfl rfl))
    rw [hz] at HC0
    have HC := Lib.hid HC0
    clear HC0
    have HZ := Lib.hid hz
    clear hz
    go_wp2_with fail
    go_region_held3 (fun w' => w'.cell? ⟨w.heap.size, 0, none⟩ = some (.int .i64 m.c) ∧ w'.cell? ⟨w.heap.size, 1, none⟩ = some (.int .i64 m.d) ∧ w'.cell? ⟨w.heap.size, 2, none⟩ = some (.int .i64 m.s) ∧ w'.cell? ⟨w.heap.size, 3, none⟩ = some (.int .i64 m.a) ∧ w'.cell? ⟨w.heap.size, 4, none⟩ = some (.int .i64 m.l) ∧ True) (first | (refine KS.out _ ?_; first | assumption | exact belowDrew0 _))
      (first | (go_at_call 190; refine HC.out.mono ?_; rintro e w4 ⟨A4, c4, rfl, hc4, r4, b4⟩; have B4 := b3.trans (b4.mono b3.size); have HK := Lib.hid (keysCode_any m A4 c4 zs w4 r4)) | (go_at_call 189; refine HK.out.mono ?_; rintro e w5 ⟨rfl, b5⟩; have B5 := B4.trans (b5.mono B4.size)))
    go_wp2_with fail
    go_ret
    exact ⟨retI HR.out, B1.trans (B5.mono B1.size)⟩
theorem RII.one {w : World} {g c : Nat} {A : Option Addr} {xs : List Int} (hc : xs.length ≤ c) (h : RI w A xs) (hcell : w.cell? ⟨g, 0, none⟩ = some (.slice A xs.length c)) : RII w (some ⟨g, 0, none⟩) [xs] := by
  refine ⟨[.slice A xs.length c], rfl, ⟨by simp, fun _ => ⟨g, 0, rfl, fun j u hu => ?_⟩⟩, fun j hj => ?_⟩
  · match j, hu with
    | 0, hu => simp at hu; subst hu; exact hcell
  · match j, hj with
    | 0, _ => exact ⟨A, c, rfl, hc, h⟩
theorem allowedC_0 {m : Mk} {l al ks : List (List Int)} (h : allowedC m l al ks = 0) : isLockF m l = true ∧ al.length ≤ 300 ∧ areKeysF m (al ++ ks) = true := by
  unfold allowedC at h
  split at h
  · rename_i h1
    split at h
    · rename_i h2
      rw [Bool.and_eq_true, decide_eq_true_eq] at h2
      exact ⟨h1, h2.1, h2.2⟩
    · cases h
  · cases h
theorem keys_app {m : Mk} {al ks : List (List Int)} : areKeysF m (al ++ ks) = (areKeysF m al && areKeysF m ks) := List.all_append
theorem ghost_len {m : Mk} {l al : List (List Int)} {key : List Int} (h : allowedC m l al [key] = 0) : key.length ≤ l.length := by
  obtain ⟨h1, h2, h3⟩ := allowedC_0 h
  rw [keys_app, Bool.and_eq_true] at h3
  have h4 : isKey m key = true := by have := h3.2; simpa [areKeysF] using this
  have := isLock_len h1; have := isKey_len h4; omega
set_option maxRecDepth 100000 in
set_option maxHeartbeats 2000000 in
theorem l14Code_any (m : Mk) (D : Option Addr) (q : Nat) (l : List (List Int)) (A : Option Addr) (c : Nat) (al : List (List Int)) (w : World) (h : RII w D l) (g : RII w A al) :
    Calls Try.prog 148 #[.agg #[.int .i64 m.c, .int .i64 m.d, .int .i64 m.s, .int .i64 m.a, .int .i64 m.l], .agg #[.slice D l.length q], .slice A al.length c] w fun e w' => e = .returned (.int .i64 (allowedC m l al [])) ∧ Below w.heap.size w w' := by
  have B0 := ((Below.refl w.heap.size w).alloc (Nat.le_refl _) (.cells #[.int .i64 m.c, .int .i64 m.d, .int .i64 m.s, .int .i64 m.a, .int .i64 m.l] 29)).alloc (by simp only [World.size_alloc]; omega) (.cells #[.slice D l.length q] 75)
  have bx : BoxC (w.alloc (.cells #[.int .i64 m.c, .int .i64 m.d, .int .i64 m.s, .int .i64 m.a, .int .i64 m.l] 29)) w.heap.size 0 [.int .i64 m.c, .int .i64 m.d, .int .i64 m.s, .int .i64 m.a, .int .i64 m.l] := by simp [BoxC, Go.World.cell?_alloc_at]
  have HL := specIsLock_any m D q l ((w.alloc (.cells #[.int .i64 m.c, .int .i64 m.d, .int .i64 m.s, .int .i64 m.a, .int .i64 m.l] 29)).alloc (.cells #[.slice D l.length q] 75)) (h.below B0)
  cases h1 : isLockF m l with
  | false =>
    have HR := Lib.hid (allowedC_1 (al := al) (ks := []) h1)
    rw [h1] at HL
    have HLL := Lib.hid HL; clear HL
    go_enter Try.func148, Try.ntmps148
    go_wp2_with fail
    refine HLL.out.mono ?_
    rintro e w1 ⟨rfl, b1⟩
    go_wp2_with fail
    go_ret
    exact ⟨retI HR.out.symm, B0.trans (b1.mono B0.size)⟩
  | true =>
  rw [h1] at HL
  have HLL := Lib.hid HL; clear HL
  have hm := isLock_mk h1
  cases h2 : (areKeysF m al && decide (al.length ≤ 300)) with
  | false =>
    have HR := Lib.hid (show allowedC m l al [] = 2 by unfold allowedC; rw [if_pos h1, List.append_nil, Bool.and_comm, h2]; rfl)
    go_enter Try.func148, Try.ntmps148
    go_wp2_with fail
    refine HLL.out.mono ?_
    rintro e w1 ⟨rfl, b1⟩
    have B1 := B0.trans (b1.mono B0.size)
    have bM : Below (w.alloc (.cells #[.int .i64 m.c, .int .i64 m.d, .int .i64 m.s, .int .i64 m.a, .int .i64 m.l] 29)).heap.size (w.alloc (.cells #[.int .i64 m.c, .int .i64 m.d, .int .i64 m.s, .int .i64 m.a, .int .i64 m.l] 29)) w1 := ((Below.refl _ _).alloc (Nat.le_refl _) (.cells #[.slice D l.length q] 75)).trans (b1.mono (by simp only [World.size_alloc]; omega))
    obtain ⟨q0, q1, q2, q3, q4, _⟩ := bx.below bM
    have HK := l04Keys_any m A c al w1 (g.below B1) hm
    rw [h2] at HK
    have HKK := Lib.hid HK; clear HK
    go_wp2_with fail
    refine HKK.out.mono ?_
    rintro e w2 ⟨rfl, b2⟩
    go_wp2_with fail
    go_ret
    exact ⟨retI HR.out.symm, B1.trans (b2.mono B1.size)⟩
  | true =>
    have HR := Lib.hid (show allowedC m l al [] = 0 by unfold allowedC; rw [if_pos h1, List.append_nil, Bool.and_comm, h2]; rfl)
    go_enter Try.func148, Try.ntmps148
    go_wp2_with fail
    refine HLL.out.mono ?_
    rintro e w1 ⟨rfl, b1⟩
    have B1 := B0.trans (b1.mono B0.size)
    have bM : Below (w.alloc (.cells #[.int .i64 m.c, .int .i64 m.d, .int .i64 m.s, .int .i64 m.a, .int .i64 m.l] 29)).heap.size (w.alloc (.cells #[.int .i64 m.c, .int .i64 m.d, .int .i64 m.s, .int .i64 m.a, .int .i64 m.l] 29)) w1 := ((Below.refl _ _).alloc (Nat.le_refl _) (.cells #[.slice D l.length q] 75)).trans (b1.mono (by simp only [World.size_alloc]; omega))
    obtain ⟨q0, q1, q2, q3, q4, _⟩ := bx.below bM
    have HK := l04Keys_any m A c al w1 (g.below B1) hm
    rw [h2] at HK
    have HKK := Lib.hid HK; clear HK
    go_wp2_with fail
    refine HKK.out.mono ?_
    rintro e w2 ⟨rfl, b2⟩
    go_wp2_with fail
    go_ret
    exact ⟨retI HR.out.symm, B1.trans (b2.mono B1.size)⟩
end Go.Proofs.Ytapocenhmdcfoaa
