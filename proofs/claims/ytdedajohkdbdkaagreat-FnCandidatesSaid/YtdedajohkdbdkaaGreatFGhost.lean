/- Contracts of allowedCode, l14Code, l14Key, IsGhost. -/
import Derived.Test.YtdedajohkdbdkaaGreatFCodes
import Derived.StillTailTactics
import Derived.Test.YtdedajohkdbdkaaGreatFHull
import Derived.Test.YtdedajohkdbdkaaGreatEach
namespace Go.Proofs.YtdedajohkdbdkaaGreat
set_option linter.unusedVariables false
open Go.RowKit
theorem alloc_at {w : World} {vs : Array Value} {T b j : Nat} {v : Value} (h : b = w.heap.size) (hv : vs[j]? = some v) : (w.alloc (.cells vs T)).cell? ⟨b, j, none⟩ = some v := by
  subst h; rw [World.cell?_alloc_at (hn := rfl)]; exact hv
theorem allowedC_1 {m : Mk} {l al ks : List (List Int)} (h : isLockF m l = false) : allowedC m l al ks = 1 := by simp [allowedC, h]
theorem allowedC_2 {m : Mk} {l al ks : List (List Int)} (h : isLockF m l = true) (h2 : 300 < al.length) : allowedC m l al ks = 2 := by simp [allowedC, h]; omega
theorem allowedC_k {m : Mk} {l al ks : List (List Int)} (h : isLockF m l = true) (h2 : al.length ≤ 300) : keysC m (al ++ ks) = allowedC m l al ks := by
  simp [allowedC, keysC, h, h2, isLock_mk h]
theorem lockC_1 {m : Mk} {l : List (List Int)} (h : isLockF m l = false) : lockC m l = 1 := by simp [lockC, h]
theorem lockC_0 {m : Mk} {l : List (List Int)} (h : isLockF m l = true) : lockC m l = 0 := by simp [lockC, h]
theorem concat2_any (g : Nat) (A B : Option Addr) (c d : Nat) (al ks : List (List Int)) (w : World) (h : RII w A al) (k : RII w B ks) (hl : al.length ≤ 300) (hk : ks.length ≤ 300)
    (h0 : w.cell? ⟨g, 0, none⟩ = some (.slice A al.length c)) (h1 : w.cell? ⟨g, 1, none⟩ = some (.slice B ks.length d)) :
    Calls Tryz.prog 100 #[.slice (some ⟨g, 0, none⟩) 2 2] w (RdII w (al ++ ks)) := by
  have := concatL_any g 2 [al, ks] w (by simp) (by simp; omega) (fun j hj => by
    match j, hj with
    | 0, _ => exact ⟨A, c, h0, h⟩
    | 1, _ => exact ⟨B, d, h1, k⟩)
  simpa using this
set_option maxRecDepth 100000 in
set_option maxHeartbeats 4000000 in
theorem allowedCode_any (m : Mk) (D : Option Addr) (q : Nat) (l : List (List Int)) (A : Option Addr) (c : Nat) (al : List (List Int)) (B : Option Addr) (d : Nat) (ks : List (List Int)) (w : World) (h : RII w D l) (g : RII w A al) (k : RII w B ks) (hk : ks.length ≤ 300) :
    Calls Tryz.prog 44 #[.agg #[.int .i64 m.c, .int .i64 m.d, .int .i64 m.s, .int .i64 m.a, .int .i64 m.l], .agg #[.slice D l.length q], .slice A al.length c, .slice B ks.length d] w fun e w' => e = .returned (.int .i64 (allowedC m l al ks)) ∧ Below w.heap.size w w' := by
  have B0 := (((Below.refl w.heap.size w).alloc (Nat.le_refl _) (.cells #[.int .i64 m.c, .int .i64 m.d, .int .i64 m.s, .int .i64 m.a, .int .i64 m.l] 25)).alloc (by simp only [World.size_alloc]; omega) (.cells #[.slice D l.length q] 28)).alloc (by simp only [World.size_alloc]; omega) (.cells #[.slice D l.length q] 28)
  have HL := locksCode1_any m (w.heap.size + 1 + 1) D q l (((w.alloc (.cells #[.int .i64 m.c, .int .i64 m.d, .int .i64 m.s, .int .i64 m.a, .int .i64 m.l] 25)).alloc (.cells #[.slice D l.length q] 28)).alloc (.cells #[.slice D l.length q] 28)) (h.below B0) (by simp [Go.World.cell?_alloc_at])
  cases h1 : isLockF m l with
  | false =>
    have HR := Lib.hid (allowedC_1 (al := al) (ks := ks) h1)
    rw [lockC_1 h1] at HL
    have HLL := Lib.hid HL; clear HL
    go_enter Tryz.func44, Tryz.ntmps44
    go_wp2_with fail
    refine HLL.out.mono ?_
    rintro e w1 ⟨rfl, b1⟩
    go_wp2_with fail
    go_ret
    exact ⟨retI HR.out.symm, B0.trans (b1.mono B0.size)⟩
  | true =>
  rw [lockC_0 h1] at HL
  have HLL := Lib.hid HL; clear HL
  have hge := g.le
  by_cases h2 : 300 < al.length
  · have HR := Lib.hid (allowedC_2 (ks := ks) h1 h2)
    have t1 : (300 : Int) < (al.length : Int) := by omega
    go_enter Tryz.func44, Tryz.ntmps44
    go_wp2_with fail
    refine HLL.out.mono ?_
    rintro e w1 ⟨rfl, b1⟩
    go_wp2_with fail
    go_ret
    exact ⟨retI HR.out.symm, B0.trans (b1.mono B0.size)⟩
  · obtain ⟨zs, hz⟩ : ∃ zs, al ++ ks = zs := ⟨_, rfl⟩
    have bx : BoxC (w.alloc (.cells #[.int .i64 m.c, .int .i64 m.d, .int .i64 m.s, .int .i64 m.a, .int .i64 m.l] 25)) w.heap.size 0 [.int .i64 m.c, .int .i64 m.d, .int .i64 m.s, .int .i64 m.a, .int .i64 m.l] := by simp [BoxC, Go.World.cell?_alloc_at]
    have HR := Lib.hid (show keysC m zs = allowedC m l al ks by rw [← hz]; exact allowedC_k (ks := ks) h1 (by omega : al.length ≤ 300))
    have t1 : decide ((300 : Int) < (al.length : Int)) = false := by simp; omega
    have hal : al.length ≤ 300 := by omega
    have H2 := Lib.hid h2; clear h2
    go_enter Tryz.func44, Tryz.ntmps44
    go_wp2_with fail
    refine HLL.out.mono ?_
    rintro e w1 ⟨rfl, b1⟩
    have C := (bcell b1).1
    have B1 := B0.trans (b1.mono B0.size)
    have s1 : w.heap.size + 1 + 1 < w1.heap.size := by have := b1.size; simp only [World.size_alloc] at this; omega
    have s0 : w.heap.size < w1.heap.size := by omega
    have bM : Below (w.alloc (.cells #[.int .i64 m.c, .int .i64 m.d, .int .i64 m.s, .int .i64 m.a, .int .i64 m.l] 25)).heap.size (w.alloc (.cells #[.int .i64 m.c, .int .i64 m.d, .int .i64 m.s, .int .i64 m.a, .int .i64 m.l] 25)) w1 := (((Below.refl _ _).alloc (Nat.le_refl _) (.cells #[.slice D l.length q] 28)).alloc (by simp only [World.size_alloc]; omega) (.cells #[.slice D l.length q] 28)).trans (b1.mono (by simp only [World.size_alloc]; omega))
    have KS := Lib.hid (show ∀ w' : World, Below w1.heap.size w1 w' → (w'.cell? ⟨w.heap.size, 0, none⟩ = some (.int .i64 m.c) ∧ w'.cell? ⟨w.heap.size, 1, none⟩ = some (.int .i64 m.d) ∧ w'.cell? ⟨w.heap.size, 2, none⟩ = some (.int .i64 m.s) ∧ w'.cell? ⟨w.heap.size, 3, none⟩ = some (.int .i64 m.a) ∧ w'.cell? ⟨w.heap.size, 4, none⟩ = some (.int .i64 m.l) ∧ True) from fun w' hb' => (bx.below bM).below hb')
    clear C
    have b3 : Below w1.heap.size w1 (w1.alloc (.cells #[.slice A al.length c, .slice B ks.length d] 26)).drew := belowD ((Below.refl w1.heap.size w1).alloc (Nat.le_refl _) _) 1
    have B3 := B1.trans (b3.mono B1.size)
    have HC0 := (concat2_any w1.heap.size A B c d al ks (w1.alloc (.cells #[.slice A al.length c, .slice B ks.length d] 26)).drew (g.below B3) (k.below B3) hal hk (show (w1.alloc (.cells #[.slice A al.length c, .slice B ks.length d] 26)).cell? _ = _ from alloc_at rfl rfl) (show (w1.alloc (.cells #[.slice A al.length c, .slice B ks.length d] 26)).cell? _ = _ from alloc_at rfl rfl))
    rw [hz] at HC0
    have HC := Lib.hid HC0
    clear HC0
    have HZ := Lib.hid hz
    clear hz
    go_wp2_with fail
    go_region_held3 (fun w' => w'.cell? ⟨w.heap.size, 0, none⟩ = some (.int .i64 m.c) ∧ w'.cell? ⟨w.heap.size, 1, none⟩ = some (.int .i64 m.d) ∧ w'.cell? ⟨w.heap.size, 2, none⟩ = some (.int .i64 m.s) ∧ w'.cell? ⟨w.heap.size, 3, none⟩ = some (.int .i64 m.a) ∧ w'.cell? ⟨w.heap.size, 4, none⟩ = some (.int .i64 m.l) ∧ True) (first | (refine KS.out _ ?_; first | assumption | exact belowDrew0 _))
      (first | (go_at_call 100; refine HC.out.mono ?_; rintro e w4 ⟨A4, c4, rfl, hc4, r4, b4⟩; have B4 := b3.trans (b4.mono b3.size); have HK := Lib.hid (keysCode_any m A4 c4 zs w4 r4)) | (go_at_call 99; refine HK.out.mono ?_; rintro e w5 ⟨rfl, b5⟩; have B5 := B4.trans (b5.mono B4.size)))
    go_wp2_with fail
    go_ret
    exact ⟨retI HR.out, B1.trans (B5.mono B1.size)⟩
theorem RII.one {w : World} {g c : Nat} {A : Option Addr} {xs : List Int} (hc : xs.length ≤ c) (h : RI w A xs) (hcell : w.cell? ⟨g, 0, none⟩ = some (.slice A xs.length c)) : RII w (some ⟨g, 0, none⟩) [xs] := by
  refine ⟨[.slice A xs.length c], rfl, ⟨by simp, fun _ => ⟨g, 0, rfl, fun j u hu => ?_⟩⟩, fun j hj => ?_⟩
  · match j, hu with
    | 0, hu => simp at hu; subst hu; exact hcell
  · match j, hj with
    | 0, _ => exact ⟨A, c, rfl, hc, h⟩
theorem allowedC_0 {m : Mk} {l al ks : List (List Int)} (h : allowedC m l al ks = 0) : isLockF m l = true ∧ al.length ≤ 300 ∧ areKeysF m (al ++ ks) = true := by
  unfold allowedC at h
  split at h
  · rename_i h1
    split at h
    · rename_i h2
      rw [Bool.and_eq_true, decide_eq_true_eq] at h2
      exact ⟨h1, h2.1, h2.2⟩
    · cases h
  · cases h
theorem keys_app {m : Mk} {al ks : List (List Int)} : areKeysF m (al ++ ks) = (areKeysF m al && areKeysF m ks) := List.all_append
theorem ghost_len {m : Mk} {l al : List (List Int)} {key : List Int} (h : allowedC m l al [key] = 0) : key.length ≤ l.length := by
  obtain ⟨h1, h2, h3⟩ := allowedC_0 h
  rw [keys_app, Bool.and_eq_true] at h3
  have h4 : isKey m key = true := by have := h3.2; simpa [areKeysF] using this
  have := isLock_len h1; have := isKey_len h4; omega
set_option maxRecDepth 100000 in
set_option maxHeartbeats 2000000 in
theorem l14Code_any (m : Mk) (D : Option Addr) (q : Nat) (l : List (List Int)) (A : Option Addr) (c : Nat) (al : List (List Int)) (w : World) (h : RII w D l) (g : RII w A al) :
    Calls Tryz.prog 47 #[.agg #[.int .i64 m.c, .int .i64 m.d, .int .i64 m.s, .int .i64 m.a, .int .i64 m.l], .agg #[.slice D l.length q], .slice A al.length c] w fun e w' => e = .returned (.int .i64 (allowedC m l al [])) ∧ Below w.heap.size w w' := by
  have B0 := ((Below.refl w.heap.size w).alloc (Nat.le_refl _) (.cells #[.int .i64 m.c, .int .i64 m.d, .int .i64 m.s, .int .i64 m.a, .int .i64 m.l] 25)).alloc (by simp only [World.size_alloc]; omega) (.cells #[.slice D l.length q] 28)
  have bx : BoxC (w.alloc (.cells #[.int .i64 m.c, .int .i64 m.d, .int .i64 m.s, .int .i64 m.a, .int .i64 m.l] 25)) w.heap.size 0 [.int .i64 m.c, .int .i64 m.d, .int .i64 m.s, .int .i64 m.a, .int .i64 m.l] := by simp [BoxC, Go.World.cell?_alloc_at]
  have HL := specIsLock_any m D q l ((w.alloc (.cells #[.int .i64 m.c, .int .i64 m.d, .int .i64 m.s, .int .i64 m.a, .int .i64 m.l] 25)).alloc (.cells #[.slice D l.length q] 28)) (h.below B0)
  cases h1 : isLockF m l with
  | false =>
    have HR := Lib.hid (allowedC_1 (al := al) (ks := []) h1)
    rw [h1] at HL
    have HLL := Lib.hid HL; clear HL
    go_enter Tryz.func47, Tryz.ntmps47
    go_wp2_with fail
    refine HLL.out.mono ?_
    rintro e w1 ⟨rfl, b1⟩
    go_wp2_with fail
    go_ret
    exact ⟨retI HR.out.symm, B0.trans (b1.mono B0.size)⟩
  | true =>
  rw [h1] at HL
  have HLL := Lib.hid HL; clear HL
  have hm := isLock_mk h1
  cases h2 : (areKeysF m al && decide (al.length ≤ 300)) with
  | false =>
    have HR := Lib.hid (show allowedC m l al [] = 2 by unfold allowedC; rw [if_pos h1, List.append_nil, Bool.and_comm, h2]; rfl)
    go_enter Tryz.func47, Tryz.ntmps47
    go_wp2_with fail
    refine HLL.out.mono ?_
    rintro e w1 ⟨rfl, b1⟩
    have B1 := B0.trans (b1.mono B0.size)
    have bM : Below (w.alloc (.cells #[.int .i64 m.c, .int .i64 m.d, .int .i64 m.s, .int .i64 m.a, .int .i64 m.l] 25)).heap.size (w.alloc (.cells #[.int .i64 m.c, .int .i64 m.d, .int .i64 m.s, .int .i64 m.a, .int .i64 m.l] 25)) w1 := ((Below.refl _ _).alloc (Nat.le_refl _) (.cells #[.slice D l.length q] 28)).trans (b1.mono (by simp only [World.size_alloc]; omega))
    obtain ⟨q0, q1, q2, q3, q4, _⟩ := bx.below bM
    have HK := l04Keys_any m A c al w1 (g.below B1) hm
    rw [h2] at HK
    have HKK := Lib.hid HK; clear HK
    go_wp2_with fail
    refine HKK.out.mono ?_
    rintro e w2 ⟨rfl, b2⟩
    go_wp2_with fail
    go_ret
    exact ⟨retI HR.out.symm, B1.trans (b2.mono B1.size)⟩
  | true =>
    have HR := Lib.hid (show allowedC m l al [] = 0 by unfold allowedC; rw [if_pos h1, List.append_nil, Bool.and_comm, h2]; rfl)
    go_enter Tryz.func47, Tryz.ntmps47
    go_wp2_with fail
    refine HLL.out.mono ?_
    rintro e w1 ⟨rfl, b1⟩
    have B1 := B0.trans (b1.mono B0.size)
    have bM : Below (w.alloc (.cells #[.int .i64 m.c, .int .i64 m.d, .int .i64 m.s, .int .i64 m.a, .int .i64 m.l] 25)).heap.size (w.alloc (.cells #[.int .i64 m.c, .int .i64 m.d, .int .i64 m.s, .int .i64 m.a, .int .i64 m.l] 25)) w1 := ((Below.refl _ _).alloc (Nat.le_refl _) (.cells #[.slice D l.length q] 28)).trans (b1.mono (by simp only [World.size_alloc]; omega))
    obtain ⟨q0, q1, q2, q3, q4, _⟩ := bx.below bM
    have HK := l04Keys_any m A c al w1 (g.below B1) hm
    rw [h2] at HK
    have HKK := Lib.hid HK; clear HK
    go_wp2_with fail
    refine HKK.out.mono ?_
    rintro e w2 ⟨rfl, b2⟩
    go_wp2_with fail
    go_ret
    exact ⟨retI HR.out.symm, B1.trans (b2.mono B1.size)⟩
end Go.Proofs.YtdedajohkdbdkaaGreat

/- Contracts of l14Key, IsGhost. -/
namespace Go.Proofs.YtdedajohkdbdkaaGreat
set_option linter.unusedVariables false
open Go.RowKit
def isGhostR (m : Mk) (l al : List (List Int)) (key : List Int) : Bool × Int := if allowedC m l al [key] = 0 then (opensL l key && !hasL al key, 0) else (false, allowedC m l al [key])
theorem isGhost_no {m : Mk} {l al : List (List Int)} {key : List Int} (h : allowedC m l al [key] ≠ 0) : (false, allowedC m l al [key]) = isGhostR m l al key := by unfold isGhostR; rw [if_neg h]
theorem isGhost_yes {m : Mk} {l al : List (List Int)} {key : List Int} (h : allowedC m l al [key] = 0) : (opensL l key && !hasL al key, 0) = isGhostR m l al key := by unfold isGhostR; rw [if_pos h]
/-- a truth and a code -/
def ResBC (w : World) (r : Bool × Int) (e : Ending) (w' : World) : Prop := e = .returned (.tuple #[.bool r.1, .int .i64 r.2]) ∧ Below w.heap.size w w'
theorem resBC_of {w w' : World} {r : Bool × Int} {b : Bool} {c : Int} (h : (b, c) = r) (hb : Below w.heap.size w w') : ResBC w r (.returned (.tuple #[.bool b, .int .i64 c])) w' := by subst h; exact ⟨rfl, hb⟩
/-- two numbers -/
def ResNC (w : World) (r : Int × Int) (e : Ending) (w' : World) : Prop := e = .returned (.tuple #[.int .i64 r.1, .int .i64 r.2]) ∧ Below w.heap.size w w'
theorem resNC_of {w w' : World} {r : Int × Int} {b c : Int} (h : (b, c) = r) (hb : Below w.heap.size w w') : ResNC w r (.returned (.tuple #[.int .i64 b, .int .i64 c])) w' := by subst h; exact ⟨rfl, hb⟩
theorem allowedC_key {m : Mk} {l al : List (List Int)} {key : List Int} (h : allowedC m l al [] = 0) : allowedC m l al [key] = if isKey m key = true then 0 else 2 := by
  obtain ⟨h1, h2, h3⟩ := allowedC_0 h
  rw [List.append_nil] at h3
  unfold allowedC
  rw [if_pos h1, keys_app, h3]
  simp [h2, areKeysF]
theorem allowedC_keyn {m : Mk} {l al : List (List Int)} {key : List Int} (h : allowedC m l al [] ≠ 0) : allowedC m l al [key] = allowedC m l al [] := by
  unfold allowedC at *
  by_cases h1 : isLockF m l = true
  · rw [if_pos h1] at *
    rw [if_pos h1]
    rw [List.append_nil] at *
    by_cases h2 : (decide (al.length ≤ 300) && areKeysF m al) = true
    · rw [if_pos h2] at h; exact absurd rfl h
    · rw [if_neg h2, if_neg]
      intro h3
      apply h2
      rw [keys_app, ← Bool.and_assoc, Bool.and_eq_true] at h3
      exact h3.1
  · rw [if_neg h1, if_neg h1]
theorem isKey_fault {m : Mk} {xs : List Int} : (fault m xs != 0) = !isKey m xs := rfl
set_option maxRecDepth 100000 in
set_option maxHeartbeats 2000000 in
theorem l14Key_any (m : Mk) (D : Option Addr) (q : Nat) (l : List (List Int)) (A : Option Addr) (c : Nat) (al : List (List Int)) (K : Option Addr) (d : Nat) (key : List Int) (w : World) (h : RII w D l) (g : RII w A al) (k : RI w K key) (hcap : key.length ≤ d) :
    Calls Tryz.prog 55 #[.agg #[.int .i64 m.c, .int .i64 m.d, .int .i64 m.s, .int .i64 m.a, .int .i64 m.l], .agg #[.slice D l.length q], .slice A al.length c, .slice K key.length d] w fun e w' => e = .returned (.int .i64 (allowedC m l al [key])) ∧ Below w.heap.size w w' := by
  have B0 := ((Below.refl w.heap.size w).alloc (Nat.le_refl _) (.cells #[.int .i64 m.c, .int .i64 m.d, .int .i64 m.s, .int .i64 m.a, .int .i64 m.l] 25)).alloc (by simp only [World.size_alloc]; omega) (.cells #[.slice D l.length q] 28)
  have bx : BoxC (w.alloc (.cells #[.int .i64 m.c, .int .i64 m.d, .int .i64 m.s, .int .i64 m.a, .int .i64 m.l] 25)) w.heap.size 0 [.int .i64 m.c, .int .i64 m.d, .int .i64 m.s, .int .i64 m.a, .int .i64 m.l] := by simp [BoxC, Go.World.cell?_alloc_at]
  have HLL := Lib.hid (l14Code_any m D q l A c al ((w.alloc (.cells #[.int .i64 m.c, .int .i64 m.d, .int .i64 m.s, .int .i64 m.a, .int .i64 m.l] 25)).alloc (.cells #[.slice D l.length q] 28)) (h.below B0) (g.below B0))
  by_cases h1 : allowedC m l al [] = 0
  · have hm := isLock_mk (allowedC_0 h1).1
    have HK := Lib.hid (allowedC_key (key := key) h1)
    rw [h1] at HLL
    have H1 := Lib.hid h1; clear h1
    go_enter Tryz.func55, Tryz.ntmps55
    go_wp2_with fail
    refine HLL.out.mono ?_
    rintro e w1 ⟨rfl, b1⟩
    have B1 := B0.trans (b1.mono B0.size)
    have bM : Below (w.alloc (.cells #[.int .i64 m.c, .int .i64 m.d, .int .i64 m.s, .int .i64 m.a, .int .i64 m.l] 25)).heap.size (w.alloc (.cells #[.int .i64 m.c, .int .i64 m.d, .int .i64 m.s, .int .i64 m.a, .int .i64 m.l] 25)) w1 := ((Below.refl _ _).alloc (Nat.le_refl _) (.cells #[.slice D l.length q] 28)).trans (b1.mono (by simp only [World.size_alloc]; omega))
    obtain ⟨q0, q1, q2, q3, q4, _⟩ := bx.below bM
    have HF := Lib.hid (l02Fault_any m K d key w1 (k.below B1) hcap hm)
    cases hp : isKey m key with
    | true =>
      have hz : (fault m key != 0) = false := by rw [isKey_fault, hp]; rfl
      have HR := Lib.hid (show allowedC m l al [key] = 0 by rw [HK.out, hp]; rfl)
      have HP := Lib.hid hp; clear hp
      go_wp2_with fail
      refine HF.out.mono ?_
      rintro e w2 ⟨rfl, b2⟩
      go_wp2_with fail
      go_ret
      exact ⟨retI HR.out.symm, B1.trans (b2.mono B1.size)⟩
    | false =>
      have hz : (fault m key != 0) = true := by rw [isKey_fault, hp]; rfl
      have HR := Lib.hid (show allowedC m l al [key] = 2 by rw [HK.out, hp]; rfl)
      have HP := Lib.hid hp; clear hp
      go_wp2_with fail
      refine HF.out.mono ?_
      rintro e w2 ⟨rfl, b2⟩
      go_wp2_with fail
      go_ret
      exact ⟨retI HR.out.symm, B1.trans (b2.mono B1.size)⟩
  · have HR := Lib.hid (allowedC_keyn (key := key) h1)
    have t1 : (allowedC m l al [] == 0) = false := by simpa using h1
    have H1 := Lib.hid h1; clear h1
    go_enter Tryz.func55, Tryz.ntmps55
    go_wp2_with fail
    refine HLL.out.mono ?_
    rintro e w1 ⟨rfl, b1⟩
    go_wp2_with fail
    go_ret
    exact ⟨retI HR.out.symm, B0.trans (b1.mono B0.size)⟩
set_option maxRecDepth 100000 in
set_option maxHeartbeats 2000000 in
theorem implIsGhost_any (m : Mk) (D : Option Addr) (q : Nat) (l : List (List Int)) (A : Option Addr) (c : Nat) (al : List (List Int)) (K : Option Addr) (d : Nat) (key : List Int) (w : World) (h : RII w D l) (g : RII w A al) (k : RI w K key) (hcap : key.length ≤ d) :
    Calls Tryz.prog 15 #[.agg #[.int .i64 m.c, .int .i64 m.d, .int .i64 m.s, .int .i64 m.a, .int .i64 m.l], .agg #[.slice D l.length q], .slice A al.length c, .slice K key.length d] w (ResBC w (isGhostR m l al key)) := by
  have Ba := ((Below.refl w.heap.size w).alloc (Nat.le_refl _) (.cells #[.int .i64 m.c, .int .i64 m.d, .int .i64 m.s, .int .i64 m.a, .int .i64 m.l] 25)).alloc (by simp only [World.size_alloc]; omega) (.cells #[.slice D l.length q] 28)
  have B0 := Ba.alloc (by simp only [World.size_alloc]; omega) (.cells #[.slice K key.length d] 33)
  have bx : BoxC ((w.alloc (.cells #[.int .i64 m.c, .int .i64 m.d, .int .i64 m.s, .int .i64 m.a, .int .i64 m.l] 25)).alloc (.cells #[.slice D l.length q] 28)) (w.heap.size + 1) 0 [.slice D l.length q] := by simp [BoxC, Go.World.cell?_alloc_at]
  have hOne : RII (((w.alloc (.cells #[.int .i64 m.c, .int .i64 m.d, .int .i64 m.s, .int .i64 m.a, .int .i64 m.l] 25)).alloc (.cells #[.slice D l.length q] 28)).alloc (.cells #[.slice K key.length d] 33)) (some ⟨w.heap.size + 1 + 1, 0, none⟩) [key] := RII.one hcap (k.below B0) (by simp [Go.World.cell?_alloc_at])
  have HLL := Lib.hid (allowedCode_any m D q l A c al (some ⟨w.heap.size + 1 + 1, 0, none⟩) 1 [key] (((w.alloc (.cells #[.int .i64 m.c, .int .i64 m.d, .int .i64 m.s, .int .i64 m.a, .int .i64 m.l] 25)).alloc (.cells #[.slice D l.length q] 28)).alloc (.cells #[.slice K key.length d] 33)) (h.below B0) (g.below B0) hOne (by simp))
  by_cases h1 : allowedC m l al [key] = 0
  · have hl := ghost_len h1
    have HY := Lib.hid (isGhost_yes h1)
    rw [h1] at HLL
    have H1 := Lib.hid h1; clear h1
    go_enter Tryz.func15, Tryz.ntmps15
    go_wp2_with fail
    refine HLL.out.mono ?_
    rintro e w1 ⟨rfl, b1⟩
    have B1 := B0.trans (b1.mono B0.size)
    have bM : Below ((w.alloc (.cells #[.int .i64 m.c, .int .i64 m.d, .int .i64 m.s, .int .i64 m.a, .int .i64 m.l] 25)).alloc (.cells #[.slice D l.length q] 28)).heap.size ((w.alloc (.cells #[.int .i64 m.c, .int .i64 m.d, .int .i64 m.s, .int .i64 m.a, .int .i64 m.l] 25)).alloc (.cells #[.slice D l.length q] 28)) w1 := ((Below.refl _ _).alloc (Nat.le_refl _) (.cells #[.slice K key.length d] 33)).trans (b1.mono (by simp only [World.size_alloc]; omega))
    obtain ⟨q0, _⟩ := bx.below bM
    have HO := opens_any D q l K d key w1 (h.below B1) (k.below B1) hl
    cases hp : opensL l key with
    | false =>
      rw [hp] at HO
      have HOO := Lib.hid HO; clear HO
      have HR := Lib.hid (show (false, 0) = isGhostR m l al key by rw [← HY.out, hp]; rfl)
      go_wp2_with fail
      refine HOO.out.mono ?_
      rintro e w2 ⟨rfl, b2⟩
      go_wp2_with fail
      go_ret2
      exact resBC_of HR.out (B1.trans (b2.mono B1.size))
    | true =>
      rw [hp] at HO
      have HOO := Lib.hid HO; clear HO
      have HR := Lib.hid (show (!hasL al key, 0) = isGhostR m l al key by rw [← HY.out, hp]; rfl)
      go_wp2_with fail
      refine HOO.out.mono ?_
      rintro e w2 ⟨rfl, b2⟩
      have B2 := B1.trans (b2.mono B1.size)
      have HH := Lib.hid (contains_any A K c d al key w2 (g.below B2) (k.below B2))
      go_wp2_with fail
      refine HH.out.mono ?_
      rintro e w3 ⟨rfl, b3⟩
      go_wp2_with fail
      go_ret2
      exact resBC_of HR.out (B2.trans (b3.mono B2.size))
  · have HN := Lib.hid (isGhost_no h1)
    have t1 : (allowedC m l al [key] != 0) = true := by simpa using h1
    have H1 := Lib.hid h1; clear h1
    go_enter Tryz.func15, Tryz.ntmps15
    go_wp2_with fail
    refine HLL.out.mono ?_
    rintro e w1 ⟨rfl, b1⟩
    go_wp2_with fail
    go_ret2
    exact resBC_of HN.out (B0.trans (b1.mono B0.size))
end Go.Proofs.YtdedajohkdbdkaaGreat

/- Contracts of partCode and l16Code; isOpenPart, l16Open; the laws' functions that read false openings. -/
namespace Go.Proofs.YtdedajohkdbdkaaGreat
set_option linter.unusedVariables false
open Go.RowKit
def partC (m : Mk) (t cuts : List (List Int)) : Int := if isSystem m t = true then (if (decide (cuts.length ≤ t.length) && areKeysF m cuts) = true then 0 else 2) else 1
theorem sys_ok {m : Mk} {t cuts : List (List Int)} (h : isSystem m t = true) (hl : cuts.length ≤ t.length) (hk : areKeysF m cuts = true) : PartOK m t cuts := by
  unfold isSystem at h; rw [Bool.and_eq_true, Bool.and_eq_true] at h
  have h2 := isTable_get h.1.2
  exact ⟨h.1.1, h2.1, h2.2.1, fun k hk => ⟨(h2.2.2 k hk).1, (h2.2.2 k hk).2.1, (h2.2.2 k hk).2.2.1⟩, hl, fun k hk2 => by unfold areKeysF at hk; rw [List.all_eq_true] at hk; exact hk _ (List.getElem_mem hk2)⟩
theorem partC_0 {m : Mk} {t cuts : List (List Int)} (h : partC m t cuts = 0) : PartOK m t cuts := by
  unfold partC at h
  by_cases h1 : isSystem m t = true
  · rw [if_pos h1] at h
    by_cases h2 : (decide (cuts.length ≤ t.length) && areKeysF m cuts) = true
    · rw [Bool.and_eq_true, decide_eq_true_eq] at h2
      exact sys_ok h1 h2.1 h2.2
    · rw [if_neg h2] at h; cases h
  · rw [if_neg h1] at h; cases h
theorem cutsC_ok {m : Mk} {t cuts : List (List Int)} (h : cutsC m t cuts = 0) : PartOK m t cuts := by
  obtain ⟨h1, h2, h3⟩ := cutsC_0 h
  exact sys_ok h1 (by omega) h3
set_option maxRecDepth 100000 in
set_option maxHeartbeats 2000000 in
theorem partCode_any (m : Mk) (A : Option Addr) (c : Nat) (t : List (List Int)) (B : Option Addr) (d : Nat) (cuts : List (List Int)) (w : World) (h : RII w A t) (g : RII w B cuts) :
    Calls Tryz.prog 85 #[.agg #[.int .i64 m.c, .int .i64 m.d, .int .i64 m.s, .int .i64 m.a, .int .i64 m.l, .slice A t.length c], .slice B cuts.length d] w fun e w' => e = .returned (.int .i64 (partC m t cuts)) ∧ Below w.heap.size w w' := by
  have B0 := (Below.refl w.heap.size w).alloc (Nat.le_refl _) (.cells #[.int .i64 m.c, .int .i64 m.d, .int .i64 m.s, .int .i64 m.a, .int .i64 m.l, .slice A t.length c] 45)
  have bx : BoxC (w.alloc (.cells #[.int .i64 m.c, .int .i64 m.d, .int .i64 m.s, .int .i64 m.a, .int .i64 m.l, .slice A t.length c] 45)) w.heap.size 0 [.int .i64 m.c, .int .i64 m.d, .int .i64 m.s, .int .i64 m.a, .int .i64 m.l, .slice A t.length c] := by simp [BoxC, Go.World.cell?_alloc_at]
  have HS := implIsSystem_any m A c t (w.alloc (.cells #[.int .i64 m.c, .int .i64 m.d, .int .i64 m.s, .int .i64 m.a, .int .i64 m.l, .slice A t.length c] 45)) (h.below B0)
  have hle := g.le
  have hle2 := h.le
  cases h1 : isSystem m t with
  | false =>
    have HR := Lib.hid (show partC m t cuts = 1 by simp [partC, h1])
    rw [h1] at HS
    have HSS := Lib.hid HS; clear HS
    go_enter Tryz.func85, Tryz.ntmps85
    go_wp2_with fail
    refine HSS.out.mono ?_
    rintro e w1 ⟨rfl, b1⟩
    go_wp2_with fail
    go_ret
    exact ⟨retI HR.out.symm, B0.trans (b1.mono B0.size)⟩
  | true =>
  rw [h1] at HS
  have HSS := Lib.hid HS; clear HS
  have HF := Lib.hid (sys_facts h1)
  have H1 := Lib.hid h1; clear h1
  by_cases h2 : t.length < cuts.length
  · have HR := Lib.hid (show partC m t cuts = 2 by unfold partC; rw [if_pos H1.out, if_neg (by simp; omega)])
    go_enter Tryz.func85, Tryz.ntmps85
    go_wp2_with fail
    refine HSS.out.mono ?_
    rintro e w1 ⟨rfl, b1⟩
    obtain ⟨q0, q1, q2, q3, q4, q5, _⟩ := bx.below b1
    go_wp2_with fail
    go_ret
    exact ⟨retI HR.out.symm, B0.trans (b1.mono B0.size)⟩
  · have hnd : decide (t.length < cuts.length) = false := decide_eq_false h2
    have HL := Lib.hid (show cuts.length ≤ t.length by omega)
    clear h2
    have HAK := fun W hW => areKeys_any m B d cuts W (g.below hW) HF.out.1
    cases h3 : areKeysF m cuts with
    | true =>
      have HR := Lib.hid (show partC m t cuts = 0 by unfold partC; rw [if_pos H1.out, if_pos (by rw [h3]; simpa using HL.out)])
      rw [h3] at HAK
      have HA := Lib.hid HAK; clear HAK h3
      go_enter Tryz.func85, Tryz.ntmps85
      go_wp2_with fail
      refine HSS.out.mono ?_
      rintro e w1 ⟨rfl, b1⟩
      have B1 := B0.trans (b1.mono B0.size)
      obtain ⟨q0, q1, q2, q3, q4, q5, _⟩ := bx.below b1
      go_wp2_with fail
      refine (HA.out _ B1).mono ?_
      rintro e w2 ⟨rfl, b2⟩
      go_wp2_with fail
      go_ret
      exact ⟨retI HR.out.symm, B1.trans (b2.mono B1.size)⟩
    | false =>
      have HR := Lib.hid (show partC m t cuts = 2 by unfold partC; rw [if_pos H1.out, if_neg (by rw [h3]; simp)])
      rw [h3] at HAK
      have HA := Lib.hid HAK; clear HAK h3
      go_enter Tryz.func85, Tryz.ntmps85
      go_wp2_with fail
      refine HSS.out.mono ?_
      rintro e w1 ⟨rfl, b1⟩
      have B1 := B0.trans (b1.mono B0.size)
      obtain ⟨q0, q1, q2, q3, q4, q5, _⟩ := bx.below b1
      go_wp2_with fail
      refine (HA.out _ B1).mono ?_
      rintro e w2 ⟨rfl, b2⟩
      go_wp2_with fail
      go_ret
      exact ⟨retI HR.out.symm, B1.trans (b2.mono B1.size)⟩
set_option maxRecDepth 100000 in
set_option maxHeartbeats 2000000 in
theorem l16Code_any (m : Mk) (A : Option Addr) (c : Nat) (t : List (List Int)) (B : Option Addr) (d : Nat) (cuts : List (List Int)) (w : World) (h : RII w A t) (g : RII w B cuts) :
    Calls Tryz.prog 80 #[.agg #[.int .i64 m.c, .int .i64 m.d, .int .i64 m.s, .int .i64 m.a, .int .i64 m.l, .slice A t.length c], .slice B cuts.length d] w fun e w' => e = .returned (.int .i64 (partC m t cuts)) ∧ Below w.heap.size w w' := by
  have B0 := (Below.refl w.heap.size w).alloc (Nat.le_refl _) (.cells #[.int .i64 m.c, .int .i64 m.d, .int .i64 m.s, .int .i64 m.a, .int .i64 m.l, .slice A t.length c] 45)
  have bx : BoxC (w.alloc (.cells #[.int .i64 m.c, .int .i64 m.d, .int .i64 m.s, .int .i64 m.a, .int .i64 m.l, .slice A t.length c] 45)) w.heap.size 0 [.int .i64 m.c, .int .i64 m.d, .int .i64 m.s, .int .i64 m.a, .int .i64 m.l, .slice A t.length c] := by simp [BoxC, Go.World.cell?_alloc_at]
  have HS := specIsSystem_any m A c t (w.alloc (.cells #[.int .i64 m.c, .int .i64 m.d, .int .i64 m.s, .int .i64 m.a, .int .i64 m.l, .slice A t.length c] 45)) (h.below B0)
  have hle := g.le
  have hle2 := h.le
  cases h1 : isSystem m t with
  | false =>
    have HR := Lib.hid (show partC m t cuts = 1 by simp [partC, h1])
    rw [h1] at HS
    have HSS := Lib.hid HS; clear HS
    go_enter Tryz.func80, Tryz.ntmps80
    go_wp2_with fail
    refine HSS.out.mono ?_
    rintro e w1 ⟨rfl, b1⟩
    go_wp2_with fail
    go_ret
    exact ⟨retI HR.out.symm, B0.trans (b1.mono B0.size)⟩
  | true =>
  rw [h1] at HS
  have HSS := Lib.hid HS; clear HS
  have HF := Lib.hid (sys_facts h1)
  have H1 := Lib.hid h1; clear h1
  by_cases h2 : t.length < cuts.length
  · have HR := Lib.hid (show partC m t cuts = 2 by unfold partC; rw [if_pos H1.out, if_neg (by simp; omega)])
    go_enter Tryz.func80, Tryz.ntmps80
    go_wp2_with fail
    refine HSS.out.mono ?_
    rintro e w1 ⟨rfl, b1⟩
    obtain ⟨q0, q1, q2, q3, q4, q5, _⟩ := bx.below b1
    go_wp2_with fail
    go_ret
    exact ⟨retI HR.out.symm, B0.trans (b1.mono B0.size)⟩
  · have hnd : decide (t.length < cuts.length) = false := decide_eq_false h2
    have HL := Lib.hid (show cuts.length ≤ t.length by omega)
    have hl300 : cuts.length ≤ 300 := by have := HF.out.2.2; omega
    clear h2
    have HAK := fun W hW => l04Keys_any m B d cuts W (g.below hW) HF.out.1
    cases h3 : areKeysF m cuts with
    | true =>
      have HR := Lib.hid (show partC m t cuts = 0 by unfold partC; rw [if_pos H1.out, if_pos (by rw [h3]; simpa using HL.out)])
      rw [h3, decide_eq_true hl300, Bool.and_true] at HAK
      have HA := Lib.hid HAK; clear HAK h3
      go_enter Tryz.func80, Tryz.ntmps80
      go_wp2_with fail
      refine HSS.out.mono ?_
      rintro e w1 ⟨rfl, b1⟩
      have B1 := B0.trans (b1.mono B0.size)
      obtain ⟨q0, q1, q2, q3, q4, q5, _⟩ := bx.below b1
      go_wp2_with fail
      refine (HA.out _ B1).mono ?_
      rintro e w2 ⟨rfl, b2⟩
      go_wp2_with fail
      go_ret
      exact ⟨retI HR.out.symm, B1.trans (b2.mono B1.size)⟩
    | false =>
      have HR := Lib.hid (show partC m t cuts = 2 by unfold partC; rw [if_pos H1.out, if_neg (by rw [h3]; simp)])
      rw [h3, Bool.false_and] at HAK
      have HA := Lib.hid HAK; clear HAK h3
      go_enter Tryz.func80, Tryz.ntmps80
      go_wp2_with fail
      refine HSS.out.mono ?_
      rintro e w1 ⟨rfl, b1⟩
      have B1 := B0.trans (b1.mono B0.size)
      obtain ⟨q0, q1, q2, q3, q4, q5, _⟩ := bx.below b1
      go_wp2_with fail
      refine (HA.out _ B1).mono ?_
      rintro e w2 ⟨rfl, b2⟩
      go_wp2_with fail
      go_ret
      exact ⟨retI HR.out.symm, B1.trans (b2.mono B1.size)⟩
/-! ### open parts -/
def openPart (m : Mk) (t cuts : List (List Int)) : Bool := (((faultsF m t cuts).length : Int) == 0)
set_option maxRecDepth 100000 in
set_option maxHeartbeats 2000000 in
theorem isOpenPart_any (m : Mk) (A : Option Addr) (c : Nat) (t : List (List Int)) (B : Option Addr) (d : Nat) (cuts : List (List Int)) (w : World) (h : RII w A t) (g : RII w B cuts) (hp : PartOK m t cuts) :
    Calls Tryz.prog 93 #[.agg #[.int .i64 m.c, .int .i64 m.d, .int .i64 m.s, .int .i64 m.a, .int .i64 m.l, .slice A t.length c], .slice B cuts.length d] w fun e w' => e = .returned (.bool (openPart m t cuts)) ∧ Below w.heap.size w w' := by
  have B0 := (Below.refl w.heap.size w).alloc (Nat.le_refl _) (.cells #[.int .i64 m.c, .int .i64 m.d, .int .i64 m.s, .int .i64 m.a, .int .i64 m.l, .slice A t.length c] 45)
  have HH := partFaults_any m A c t B d cuts (w.alloc (.cells #[.int .i64 m.c, .int .i64 m.d, .int .i64 m.s, .int .i64 m.a, .int .i64 m.l, .slice A t.length c] 45)) (h.below B0) (g.below B0) hp
  obtain ⟨fs, hfs⟩ : ∃ fs, fs = faultsF m t cuts := ⟨_, rfl⟩
  have HR := Lib.hid (show ((fs.length : Int) == 0) = openPart m t cuts by rw [hfs]; rfl)
  rw [← hfs] at HH
  have HHH := Lib.hid HH
  clear HH hfs
  go_enter Tryz.func93, Tryz.ntmps93
  go_wp2_with fail
  refine HHH.out.mono ?_
  rintro e w1 ⟨A1, c1, rfl, _, hr1, _, b1⟩
  have hl1 := hr1.le
  clear hr1
  cases hq : ((fs.length : Int) == 0) with
  | true =>
    go_wp2_with fail
    go_ret
    exact ⟨retB (by rw [← HR.out, hq]), B0.trans (b1.mono B0.size)⟩
  | false =>
    go_wp2_with fail
    go_ret
    exact ⟨retB (by rw [← HR.out, hq]), B0.trans (b1.mono B0.size)⟩
set_option maxRecDepth 100000 in
set_option maxHeartbeats 2000000 in
theorem l16Open_any (m : Mk) (A : Option Addr) (c : Nat) (t : List (List Int)) (B : Option Addr) (d : Nat) (cuts : List (List Int)) (w : World) (h : RII w A t) (g : RII w B cuts) (hp : PartOK m t cuts) :
    Calls Tryz.prog 129 #[.agg #[.int .i64 m.c, .int .i64 m.d, .int .i64 m.s, .int .i64 m.a, .int .i64 m.l, .slice A t.length c], .slice B cuts.length d] w fun e w' => e = .returned (.bool (openPart m t cuts)) ∧ Below w.heap.size w w' := by
  have B0 := (Below.refl w.heap.size w).alloc (Nat.le_refl _) (.cells #[.int .i64 m.c, .int .i64 m.d, .int .i64 m.s, .int .i64 m.a, .int .i64 m.l, .slice A t.length c] 45)
  have HH := l15False_any m A c t B d cuts (w.alloc (.cells #[.int .i64 m.c, .int .i64 m.d, .int .i64 m.s, .int .i64 m.a, .int .i64 m.l, .slice A t.length c] 45)) (h.below B0) (g.below B0) hp
  obtain ⟨fs, hfs⟩ : ∃ fs, fs = faultsF m t cuts := ⟨_, rfl⟩
  have HR := Lib.hid (show ((fs.length : Int) == 0) = openPart m t cuts by rw [hfs]; rfl)
  rw [← hfs] at HH
  have HHH := Lib.hid HH
  clear HH hfs
  go_enter Tryz.func129, Tryz.ntmps129
  go_wp2_with fail
  refine HHH.out.mono ?_
  rintro e w1 ⟨A1, c1, rfl, _, hr1, _, b1⟩
  have hl1 := hr1.le
  clear hr1
  cases hq : ((fs.length : Int) == 0) with
  | true =>
    go_wp2_with fail
    go_ret
    exact ⟨retB (by rw [← HR.out, hq]), B0.trans (b1.mono B0.size)⟩
  | false =>
    go_wp2_with fail
    go_ret
    exact ⟨retB (by rw [← HR.out, hq]), B0.trans (b1.mono B0.size)⟩
end Go.Proofs.YtdedajohkdbdkaaGreat

/- Plain laws: beginnings of open parts are open; the longest one. No program. -/
namespace Go.Proofs.YtdedajohkdbdkaaGreat
open Go.RowKit
theorem opensL_sub {c n : Nat} {ks ks' : List (List Int)} {x : List Int} (hs : ∀ k ∈ ks, k ∈ ks') (h : opensL (hullF c n ks) x = true) : opensL (hullF c n ks') x = true := by
  unfold opensL at h ⊢
  rw [List.all_eq_true] at h ⊢
  intro i hi
  have h1 := h i hi
  unfold opensAt frees at h1 ⊢
  by_cases hc : i < c
  · rw [getD_row (by rw [hullF_length]; exact hc), hullF_at hc, hasI_iff, mem_hullSet] at h1 ⊢
    refine ⟨h1.1, ?_⟩
    unfold colI at h1 ⊢
    obtain ⟨k, hk, e⟩ := List.mem_map.1 h1.2
    exact List.mem_map.2 ⟨k, hs k hk, e⟩
  · have e : (hullF c n ks).getD i [] = [] := by
      simp [List.getD, List.getElem?_eq_none (show (hullF c n ks).length ≤ i by rw [hullF_length]; omega)]
    rw [e] at h1
    simp [hasI] at h1
theorem keysFor_take {t cuts : List (List Int)} {d k : Nat} {x : List Int} (h : x ∈ keysFor t (cuts.take k) d) : x ∈ keysFor t cuts d := by
  unfold keysFor keysForN at h ⊢
  obtain ⟨i, hi, rfl⟩ := List.mem_map.1 h
  obtain ⟨hi1, hi2⟩ := List.mem_filter.1 hi
  have hi3 := List.mem_range.1 hi1
  rw [List.length_take] at hi3
  refine List.mem_map.2 ⟨i, List.mem_filter.2 ⟨List.mem_range.2 (by omega), hi2⟩, ?_⟩
  simp only [List.getD, List.getElem?_take]
  rw [if_pos (by omega)]
theorem mem_faultsF {m : Mk} {t cuts : List (List Int)} {x : List Int} : x ∈ faultsF m t cuts ↔ ∃ k d : Nat, k < cuts.length ∧ d < (t.headD []).length ∧ isFault t cuts (locksF m t cuts) k d = true ∧ x = [(k : Int), (d : Int)] := by
  unfold faultsF faultsN faultRow
  simp only [List.mem_flatMap, List.mem_range, List.mem_map, List.mem_filter, locksF_len]
  constructor
  · rintro ⟨k, hk, d, ⟨hd, hf⟩, rfl⟩; exact ⟨k, d, hk, hd, hf, rfl⟩
  · rintro ⟨k, d, hk, hd, hf, rfl⟩; exact ⟨k, hk, d, ⟨hd, hf⟩, rfl⟩
theorem getD_lock {ls : List (List (List Int))} {d : Nat} (h : d < ls.length) : ls.getD d [] = ls[d] := by simp [List.getD, List.getElem?_eq_getElem h]
theorem faultsF_take {m : Mk} {t cuts : List (List Int)} {k : Nat} {x : List Int} (h : x ∈ faultsF m t (cuts.take k)) : x ∈ faultsF m t cuts := by
  obtain ⟨i, d, hi, hd, hf, rfl⟩ := mem_faultsF.1 h
  rw [List.length_take] at hi
  refine mem_faultsF.2 ⟨i, d, by omega, hd, ?_, rfl⟩
  have hd1 : d < (locksF m t (cuts.take k)).length := by rw [locksF_len]; exact hd
  have hd2 : d < (locksF m t cuts).length := by rw [locksF_len]; exact hd
  unfold isFault at hf ⊢
  rw [Bool.and_eq_true] at hf ⊢
  refine ⟨hf.1, ?_⟩
  have e : (cuts.take k).getD i [] = cuts.getD i [] := by simp only [List.getD, List.getElem?_take]; rw [if_pos (by omega)]
  have h2 := hf.2
  rw [e, getD_lock hd1, locksF_at hd1] at h2
  rw [getD_lock hd2, locksF_at hd2]
  exact opensL_sub (fun x hx => keysFor_take hx) h2
theorem openPart_iff {m : Mk} {t cuts : List (List Int)} : openPart m t cuts = true ↔ ∀ x, x ∉ faultsF m t cuts := by
  unfold openPart
  rw [beq_iff_eq, ← List.eq_nil_iff_forall_not_mem, ← List.length_eq_zero_iff]
  omega
theorem openPart_down {m : Mk} {t cuts : List (List Int)} {k : Nat} (h : openPart m t cuts = true) : openPart m t (cuts.take k) = true := by
  rw [openPart_iff] at h ⊢
  exact fun x hx => h x (faultsF_take hx)
theorem openPart_nil {m : Mk} {t cuts : List (List Int)} : openPart m t (cuts.take 0) = true := by
  rw [openPart_iff]; intro x hx
  obtain ⟨i, d, hi, _⟩ := mem_faultsF.1 hx
  simp at hi
/-- the greatest number that is not above n at which p holds -/
def longDown (p : Nat → Bool) : Nat → Nat
  | 0 => 0
  | n + 1 => if p (n + 1) = true then n + 1 else longDown p n
theorem longDown_at {p : Nat → Bool} : ∀ {n : Nat}, p n = true → longDown p n = n
  | 0, _ => rfl
  | n + 1, h => by rw [longDown, if_pos h]
theorem longDown_pred {p : Nat → Bool} (h0 : p 0 = true) : ∀ {n : Nat}, p n = false → 0 < n ∧ longDown p n = longDown p (n - 1)
  | 0, h => by rw [h0] at h; cases h
  | n + 1, h => ⟨by omega, by rw [longDown, if_neg (by rw [h]; simp)]; rfl⟩
theorem longDown_stop {p : Nat → Bool} {n : Nat} (hn : p n = true) : ∀ {k : Nat}, n ≤ k → (∀ j, n < j → j ≤ k → p j = false) → longDown p k = n
  | 0, hk, _ => by have : n = 0 := by omega
                   subst this; rfl
  | k + 1, hk, h => by
    by_cases e : n = k + 1
    · subst e; exact longDown_at hn
    · rw [longDown, if_neg (by rw [h (k + 1) (by omega) (Nat.le_refl _)]; simp)]
      exact longDown_stop hn (by omega) fun j a b => h j a (by omega)
def longF (m : Mk) (t cuts : List (List Int)) : Nat := longDown (fun k => openPart m t (cuts.take k)) cuts.length
def longR (m : Mk) (t cuts : List (List Int)) : Int × Int := if partC m t cuts = 0 then ((longF m t cuts : Int), 0) else (0, partC m t cuts)
theorem long_no {m : Mk} {t cuts : List (List Int)} (h : partC m t cuts ≠ 0) : (0, partC m t cuts) = longR m t cuts := by unfold longR; rw [if_neg h]
theorem long_yes {m : Mk} {t cuts : List (List Int)} (h : partC m t cuts = 0) : ((longF m t cuts : Int), 0) = longR m t cuts := by unfold longR; rw [if_pos h]
theorem longF_up {m : Mk} {t cuts : List (List Int)} {n : Nat} (hn : n ≤ cuts.length) (h : openPart m t (cuts.take n) = true) (he : n = cuts.length ∨ openPart m t (cuts.take (n + 1)) = false) : n = longF m t cuts := by
  unfold longF
  refine (longDown_stop (p := fun k => openPart m t (cuts.take k)) h hn fun j hj hjl => ?_).symm
  rcases he with e | e
  · omega
  · cases hq : openPart m t (cuts.take j) with
    | false => rfl
    | true =>
      have := openPart_down (k := n + 1) hq
      rw [List.take_take, Nat.min_eq_left (by omega), e] at this
      cases this
theorem PartOK.take {m : Mk} {t cuts : List (List Int)} (h : PartOK m t cuts) (k : Nat) : PartOK m t (cuts.take k) :=
  ⟨h.mak, h.t1, h.t10, h.row, by have := h.le; rw [List.length_take]; omega, fun j hj => by rw [List.getElem_take]; exact h.keys j (by rw [List.length_take] at hj; omega)⟩
end Go.Proofs.YtdedajohkdbdkaaGreat

/- Plain laws: the keys in order, the next key behind one; with which keys open partial cuts stay open. No program. -/
namespace Go.Proofs.YtdedajohkdbdkaaGreat
open Go.RowKit
/-- all keys of a maker, in order -/
def allA : Nat → Int → Bool := fun _ _ => true
def allK (m : Mk) : List (List Int) := keysG m allA [] m.c.toNat [] false
/-- the first key with r more cuts -/
def firstK (m : Mk) (r : Nat) (cuts : List Int) : Option (List Int) := if begins m cuts = true then (keysG m allA [] r cuts false).head? else none
/-- the keys of keysFrom's begin with the first one of a depth -/
theorem keysFrom_all {m : Mk} {key : List Int} (hb : begins m key = true) (r : Nat) (d : Int) : keysFrom m allA [] r key false d = (depths d m.d).flatMap fun d => if begins m (key ++ [d]) = true then keysG m allA [] r (key ++ [d]) false else [] := by
  unfold keysFrom
  apply flatMap_same
  intro d _
  rw [keysG_may, begins_snoc, hb, Bool.false_and]
  rfl
theorem keysFrom_none {m : Mk} {key : List Int} (hb : begins m key = true) {r : Nat} {d : Int} (hd : d < m.d) (h : firstK m r (key ++ [d]) = none) : keysFrom m allA [] r key false d = keysFrom m allA [] r key false (d + 1) := by
  rw [keysFrom_all hb, keysFrom_all hb, depths_cons hd, List.flatMap_cons]
  unfold firstK at h
  split at h
  · rw [if_pos ‹_›, List.head?_eq_none_iff.1 h]; rfl
  · rw [if_neg ‹_›]; rfl
theorem keysFrom_some {m : Mk} {key : List Int} (hb : begins m key = true) {r : Nat} {d : Int} (hd : d < m.d) {x : List Int} (h : firstK m r (key ++ [d]) = some x) : (keysFrom m allA [] r key false d).head? = some x := by
  rw [keysFrom_all hb, depths_cons hd, List.flatMap_cons]
  unfold firstK at h
  split at h
  · rw [if_pos ‹_›, List.head?_append, h]; rfl
  · cases h
theorem firstK_zero {m : Mk} {key : List Int} (hb : begins m key = true) : firstK m 0 key = if kinds key < m.l then none else some key := by
  unfold firstK; rw [if_pos hb, keysG]; split <;> rfl
theorem firstK_succ {m : Mk} {key : List Int} (hb : begins m key = true) (r : Nat) : firstK m (r + 1) key = (keysFrom m allA [] r key false 0).head? := by
  unfold firstK; rw [if_pos hb, keysG_succ, least_f]
theorem firstK_no {m : Mk} {key : List Int} (hb : begins m key = false) (r : Nat) : firstK m r key = none := by
  unfold firstK; rw [if_neg (by rw [hb]; simp)]
theorem firstK_mem {m : Mk} {r : Nat} {key x : List Int} (h : firstK m r key = some x) : x ∈ keysG m allA [] r key false ∧ begins m key = true := by
  unfold firstK at h
  split at h
  · exact ⟨List.mem_of_head? h, ‹_›⟩
  · cases h
/-- the keys behind pre ++ rest that begin with pre -/
def behindK (m : Mk) : List Int → List Int → List (List Int)
  | _, [] => []
  | pre, d :: rest => behindK m (pre ++ [d]) rest ++ keysFrom m allA [] rest.length pre false (d + 1)
theorem depths_split {lo d hi : Int} (h1 : lo ≤ d) (h2 : d < hi) : depths lo hi = depths lo d ++ d :: depths (d + 1) hi := by
  obtain ⟨n, hn⟩ : ∃ n : Nat, (d - lo).toNat = n := ⟨_, rfl⟩
  induction n generalizing lo with
  | zero => obtain rfl : lo = d := by omega
            rw [depths_nil (Int.le_refl _), depths_cons h2]; rfl
  | succ n ih => rw [depths_cons (show lo < hi by omega), depths_cons (show lo < d by omega), ih (lo := lo + 1) (by omega) (by omega)]; rfl
theorem keysG_cut {m : Mk} : ∀ (rest pre : List Int), begins m pre = true → pre ++ rest ∈ keysG m allA [] rest.length pre false → ∃ A, keysG m allA [] rest.length pre false = A ++ (pre ++ rest) :: behindK m pre rest
  | [], pre, _, h => by
    rw [List.length_nil, keysG] at h ⊢
    rw [List.append_nil] at h ⊢
    split at h
    · cases h
    · rw [if_neg ‹_›]; exact ⟨[], rfl⟩
  | d :: rest, pre, hb, h => by
    rw [List.length_cons, keysG_succ, least_f, keysFrom_all hb] at h ⊢
    obtain ⟨e, he, hx⟩ := List.mem_flatMap.1 h
    have he := mem_depths.1 he
    split at hx
    · have hp := (keysG_pref m allA [] _ _ _ _ hx).2
      rw [List.length_append, List.length_cons, List.length_nil, Nat.zero_add] at hp
      have hd := take_snoc_getD hp
      rw [show (pre ++ d :: rest).getD pre.length 0 = d by simp [List.getD]] at hd
      subst hd
      rename_i hbd
      rw [show pre ++ d :: rest = (pre ++ [d]) ++ rest by simp] at hx
      obtain ⟨A, hA⟩ := keysG_cut rest (pre ++ [d]) hbd hx
      rw [depths_split he.1 he.2, List.flatMap_append, List.flatMap_cons, if_pos hbd, hA, behindK, keysFrom_all hb]
      exact ⟨(depths 0 d).flatMap (fun d => if begins m (pre ++ [d]) = true then keysG m allA [] rest.length (pre ++ [d]) false else []) ++ A, by simp [List.append_assoc]⟩
    · cases hx
theorem nodup_cut {α : Type} : ∀ {xs xs' : List α} {k : α} {ys ys' : List α}, (xs ++ k :: ys).Nodup → xs ++ k :: ys = xs' ++ k :: ys' → ys = ys'
  | [], [], k, ys, ys', _, h => by injection h
  | [], x :: xs', k, ys, ys', hn, h => by
    rw [List.nil_append, List.cons_append] at h
    injection h with h1 h2
    subst h1
    rw [List.nil_append, List.nodup_cons] at hn
    exact absurd (by rw [h2]; simp) hn.1
  | x :: xs, [], k, ys, ys', hn, h => by
    rw [List.nil_append, List.cons_append] at h
    injection h with h1 h2
    subst h1
    rw [List.cons_append, List.nodup_cons] at hn
    exact absurd (by simp) hn.1
  | x :: xs, x' :: xs', k, ys, ys', hn, h => by
    rw [List.cons_append, List.cons_append] at h
    injection h with h1 h2
    rw [List.cons_append, List.nodup_cons] at hn
    exact nodup_cut hn.2 h2
/-- the keys behind a key -/
theorem allK_behind {m : Mk} {done tl : List (List Int)} {key : List Int} (h : allK m = done ++ key :: tl) : behindK m [] key = tl := by
  have hm : key ∈ allK m := by rw [h]; simp
  have hn := nodup_keysG m allA [] m.c.toNat [] false
  have hp := (keysG_pref m allA [] _ _ _ _ hm).1
  have hl : key.length = m.c.toNat := by simpa using hp
  have hm2 : ([] : List Int) ++ key ∈ keysG m allA [] key.length [] false := by rw [hl]; exact hm
  obtain ⟨A, hA⟩ := keysG_cut key [] (begins_nil m) hm2
  rw [hl] at hA
  have e : done ++ key :: tl = A ++ key :: behindK m [] key := h.symm.trans hA
  exact (nodup_cut (by rw [← h]; exact hn) e).symm
theorem behindK_app (m : Mk) : ∀ (a pre b : List Int), ∃ more, behindK m pre (a ++ b) = behindK m (pre ++ a) b ++ more
  | [], pre, b => ⟨[], by simp⟩
  | d :: a, pre, b => by
    obtain ⟨more, h⟩ := behindK_app m a (pre ++ [d]) b
    refine ⟨more ++ keysFrom m allA [] (a ++ b).length pre false (d + 1), ?_⟩
    rw [List.cons_append, behindK, h, List.append_assoc, show pre ++ [d] ++ a = pre ++ d :: a by simp]
theorem behind_cut (m : Mk) (cuts : List Int) (i : Nat) : ∃ more, behindK m [] cuts = behindK m (cuts.take i) (cuts.drop i) ++ more := by
  obtain ⟨more, h⟩ := behindK_app m (cuts.take i) [] (cuts.drop i)
  rw [List.take_append_drop, List.nil_append] at h
  exact ⟨more, h⟩
theorem behind_step (m : Mk) (cuts : List Int) (i : Nat) (h : i < cuts.length) : behindK m (cuts.take i) (cuts.drop i) = behindK m (cuts.take (i + 1)) (cuts.drop (i + 1)) ++ keysFrom m allA [] (cuts.length - (i + 1)) (cuts.take i) false (cuts[i] + 1) := by
  rw [List.drop_eq_getElem_cons h, behindK, List.take_succ_eq_append_getElem h, List.length_drop]
theorem behind_head {m : Mk} {cuts : List Int} {i : Nat} {x : List Int} (h : (behindK m (cuts.take i) (cuts.drop i)).head? = some x) : (behindK m [] cuts).head? = some x := by
  obtain ⟨more, e⟩ := behind_cut m cuts i
  rw [e, List.head?_append, h]; rfl
theorem allK_is {m : Mk} {x : List Int} (hm : isMaker m = true) : x ∈ allK m ↔ isKey m x = true := by
  have hb := mk_bounds hm
  unfold allK
  rw [mem_keysG m allA _ [] x (begins_nil m)]
  unfold isKey
  rw [beq_iff_eq, fault_zero_iff]
  have e : begins m x = true ↔ stepsOK m.s x = true ∧ runsOK m.a x = true := by unfold begins; rw [Bool.and_eq_true]
  rw [e]
  constructor
  · rintro ⟨h1, _, h3, h4, h5⟩
    refine ⟨by simp at h1; omega, ?_, h3.1, h3.2, h4⟩
    unfold allW
    rw [List.all_eq_true]
    intro y hy
    obtain ⟨j, hj, rfl⟩ := List.getElem_of_mem hy
    have := h5 j (by simp) hj
    rw [show x.getD j 0 = x[j] by simp [List.getD, List.getElem?_eq_getElem hj]] at this
    unfold inB
    simp; omega
  · rintro ⟨h1, h2, h3, h4, h5⟩
    refine ⟨by simp; omega, by simp, ⟨h3, h4⟩, h5, fun i _ hi => ?_⟩
    have := allW_at h2 hi
    rw [show x.getD i 0 = x[i] by simp [List.getD, List.getElem?_eq_getElem hi]]
    exact ⟨this.1, by omega, rfl⟩
/-! ### staysOpen -/
def openAt1 (l : List (List Int)) (key xs : List Int) (i : Nat) : Bool := (xs.getD i 0 == key.getD i 0) || frees l i (xs.getD i 0)
def openWith (l : List (List Int)) (key xs : List Int) : Bool := (List.range xs.length).all (openAt1 l key xs)
def stays1 (t cuts : List (List Int)) (l : List (List Int)) (key : List Int) (d k : Nat) : Bool := !((((t.getD cuts.length []).getD d 0 == 1) && ((t.getD k []).getD d 0 == 0)) && openWith l key (cuts.getD k []))
def staysD (t cuts : List (List Int)) (l : List (List Int)) (key : List Int) (d : Nat) : Bool := !(((t.getD cuts.length []).getD d 0 == 0) && opensL l key) && (List.range cuts.length).all (stays1 t cuts l key d)
def staysL (t cuts : List (List Int)) (ls : List (List (List Int))) (key : List Int) : Bool := (List.range ls.length).all fun d => staysD t cuts (ls.getD d []) key d
def staysF (m : Mk) (t cuts : List (List Int)) (key : List Int) : Bool := staysL t cuts (locksF m t cuts) key
theorem keysFor_snoc (t cuts : List (List Int)) (key : List Int) (d : Nat) : keysFor t (cuts ++ [key]) d = keysFor t cuts d ++ (if oneAt d (t.getD cuts.length []) = true then [key] else []) := by
  unfold keysFor
  rw [List.length_append, List.length_cons, List.length_nil, Nat.zero_add, keysForN_succ]
  congr 1
  · unfold keysForN
    refine List.map_congr_left fun i hi => ?_
    have := List.mem_range.1 (List.mem_filter.1 hi).1
    simp [List.getD, List.getElem?_append_left this]
  · rw [show (cuts ++ [key]).getD cuts.length [] = key by simp [List.getD]]
theorem opensL_snoc {m : Mk} {ks : List (List Int)} {key x : List Int} (hx : (x.length : Int) = m.c) (hk : allW 0 (m.d - 1) x = true) :
    opensL (hullF m.c.toNat m.d.toNat (ks ++ [key])) x = openWith (hullF m.c.toNat m.d.toNat ks) key x := by
  unfold opensL openWith
  apply range_congr
  intro i hi
  have hb := allW_at hk hi
  have hc : i < m.c.toNat := by omega
  unfold opensAt openAt1 frees
  rw [getD_row (by rw [hullF_length]; exact hc), hullF_at hc, getD_row (by rw [hullF_length]; exact hc), hullF_at hc]
  rw [Bool.eq_iff_iff, Bool.or_eq_true, hasI_iff, hasI_iff, mem_hullSet, mem_hullSet, beq_iff_eq]
  have e : colI (ks ++ [key]) i = colI ks i ++ [key.getD i 0] := by simp [colI]
  rw [e, List.mem_append, List.mem_singleton]
  rw [show x.getD i 0 = x[i] by simp [List.getD, List.getElem?_eq_getElem hi]]
  constructor
  · rintro ⟨h1, h2 | h2⟩
    · exact .inr ⟨h1, h2⟩
    · exact .inl h2
  · rintro (h | h)
    · exact ⟨⟨hb.1, by omega⟩, .inr h⟩
    · exact ⟨h.1, .inl h.2⟩
theorem key_parts {m : Mk} {x : List Int} (h : isKey m x = true) : (x.length : Int) = m.c ∧ allW 0 (m.d - 1) x = true := by
  have h3 := fault_zero_iff.1 (show fault m x = 0 by simpa [isKey] using h)
  exact ⟨h3.1, h3.2.1⟩
theorem getD_snocL (cuts : List (List Int)) (key : List Int) : (cuts ++ [key]).getD cuts.length [] = key := by simp [List.getD]
theorem getD_leftL {cuts : List (List Int)} {key : List Int} {k : Nat} (h : k < cuts.length) : (cuts ++ [key]).getD k [] = cuts.getD k [] := by simp [List.getD, List.getElem?_append_left h]
/-- open partial cuts stay open with a key -/
theorem stays_open {m : Mk} {t cuts : List (List Int)} {key : List Int} (hp : PartOK m t cuts) (ho : openPart m t cuts = true) : staysF m t cuts key = openPart m t (cuts ++ [key]) := by
  rw [Bool.eq_iff_iff, openPart_iff]
  have hlk : ∀ d, d < (t.headD []).length → (locksF m t cuts).getD d [] = hullF m.c.toNat m.d.toNat (keysFor t cuts d) := fun d hd => by
    rw [getD_lock (by rw [locksF_len]; exact hd), locksF_at]
  have hlk' : ∀ d, d < (t.headD []).length → (locksF m t (cuts ++ [key])).getD d [] = hullF m.c.toNat m.d.toNat (keysFor t cuts d ++ (if oneAt d (t.getD cuts.length []) = true then [key] else [])) := fun d hd => by
    rw [getD_lock (by rw [locksF_len]; exact hd), locksF_at, keysFor_snoc]
  have hold : ∀ k d : Nat, k < cuts.length → d < (t.headD []).length → isFault t cuts (locksF m t cuts) k d = false := fun k d hk hd => by
    cases hf : isFault t cuts (locksF m t cuts) k d with
    | false => rfl
    | true => exact absurd (mem_faultsF.2 ⟨k, d, hk, hd, hf, rfl⟩) (openPart_iff.1 ho _)
  have hck : ∀ k (hk : k < cuts.length), (cuts.getD k []).length = m.c ∧ allW 0 (m.d - 1) (cuts.getD k []) = true := fun k hk => by
    rw [getD_row hk]; exact key_parts (hp.keys k hk)
  -- what a fault with the key is
  have hnew : ∀ d, d < (t.headD []).length → isFault t (cuts ++ [key]) (locksF m t (cuts ++ [key])) cuts.length d = (((t.getD cuts.length []).getD d 0 == 0) && opensL ((locksF m t cuts).getD d []) key) := fun d hd => by
    unfold isFault
    rw [getD_snocL, hlk d hd, hlk' d hd]
    by_cases h0 : (t.getD cuts.length []).getD d 0 = 0
    · rw [if_neg (by unfold oneAt; rw [h0]; simp), List.append_nil]
    · rw [show ((t.getD cuts.length []).getD d 0 == 0) = false from beq_eq_false_iff_ne.2 h0]; rfl
  have hother : ∀ k d : Nat, k < cuts.length → d < (t.headD []).length → isFault t (cuts ++ [key]) (locksF m t (cuts ++ [key])) k d = !(stays1 t cuts ((locksF m t cuts).getD d []) key d k) := fun k d hk hd => by
    unfold stays1 isFault
    rw [Bool.not_not, getD_leftL hk, hlk' d hd]
    by_cases h1 : oneAt d (t.getD cuts.length []) = true
    · rw [if_pos h1, hlk d hd, opensL_snoc (hck k hk).1 (hck k hk).2]
      rw [show ((t.getD cuts.length []).getD d 0 == 1) = true from h1, Bool.true_and]
    · rw [if_neg h1, List.append_nil]
      have := hold k d hk hd
      unfold isFault at this
      rw [hlk d hd] at this
      rw [this]
      have h1' : ((t.getD cuts.length []).getD d 0 == 1) = false := by cases hq : ((t.getD cuts.length []).getD d 0 == 1) with | false => rfl | true => exact absurd hq h1
      rw [h1']; rfl
  constructor
  · intro hs x hx
    obtain ⟨k, d, hk, hd, hf, rfl⟩ := mem_faultsF.1 hx
    unfold staysF staysL at hs
    rw [List.all_eq_true] at hs
    have hs := hs d (List.mem_range.2 (by rw [locksF_len]; exact hd))
    unfold staysD at hs
    rw [Bool.and_eq_true, List.all_eq_true] at hs
    rw [List.length_append, List.length_cons, List.length_nil, Nat.zero_add] at hk
    by_cases e : k = cuts.length
    · subst e
      rw [hnew d hd] at hf
      rw [hf] at hs; exact absurd hs.1 (by simp)
    · rw [hother k d (by omega) hd] at hf
      rw [hs.2 k (List.mem_range.2 (by omega))] at hf; cases hf
  · intro hx
    unfold staysF staysL
    rw [List.all_eq_true]
    intro d hd
    have hd := List.mem_range.1 hd
    rw [locksF_len] at hd
    unfold staysD
    rw [Bool.and_eq_true, List.all_eq_true]
    have hlen : (cuts ++ [key]).length = cuts.length + 1 := by simp
    constructor
    · cases hq : (((t.getD cuts.length []).getD d 0 == 0) && opensL ((locksF m t cuts).getD d []) key) with
      | false => rfl
      | true => exact absurd (mem_faultsF.2 ⟨cuts.length, d, by omega, hd, by rw [hnew d hd]; exact hq, rfl⟩) (hx _)
    · intro k hk
      have hk := List.mem_range.1 hk
      cases hq : stays1 t cuts ((locksF m t cuts).getD d []) key d k with
      | true => rfl
      | false => exact absurd (mem_faultsF.2 ⟨k, d, by omega, hd, by rw [hother k d hk hd, hq]; rfl, rfl⟩) (hx _)
theorem openPart_init {m : Mk} {t cuts : List (List Int)} {key : List Int} (h : openPart m t (cuts ++ [key]) = true) : openPart m t cuts = true := by
  have := openPart_down (k := cuts.length) h
  rwa [List.take_left] at this
/-! ### candidates -/
/-- the keys with which partial cuts are open -/
def candsF (m : Mk) (t cuts : List (List Int)) : List (List Int) := (allK m).filter fun k => openPart m t (cuts ++ [k])
theorem candsF_closed {m : Mk} {t cuts : List (List Int)} (h : openPart m t cuts = false) : candsF m t cuts = [] := by
  unfold candsF
  rw [List.filter_eq_nil_iff]
  intro k _ hk
  rw [openPart_init hk] at h; cases h
theorem candsF_stays {m : Mk} {t cuts : List (List Int)} (hp : PartOK m t cuts) (h : openPart m t cuts = true) : candsF m t cuts = (allK m).filter (staysF m t cuts) := by
  unfold candsF
  exact List.filter_congr fun k _ => (stays_open hp h).symm
theorem allK_len {m : Mk} (hm : isMaker m = true) : (allK m).length ≤ 262144 := by
  have hb := mk_bounds hm
  have h := keysG_len m allA [] hb.2.2.2.1 (fun k => by simp [List.getD]) m.c.toNat [] false
  have h2 : 8 ^ m.c.toNat ≤ 8 ^ 6 := Nat.pow_le_pow_right (by omega) (by omega)
  unfold allK; omega
theorem candsF_len {m : Mk} {t cuts : List (List Int)} (hm : isMaker m = true) : (candsF m t cuts).length ≤ 262144 := by
  have := List.length_filter_le (fun k => openPart m t (cuts ++ [k])) (allK m)
  have := allK_len hm
  unfold candsF; omega
/-- the program's visitor: keys found, how many -/
def visCand (p : List Int → Bool) (most : Int) (s : List (List Int) × Nat) (k : List Int) : Bool × (List (List Int) × Nat) :=
  if p k = true then (decide (((s.2 + 1 : Nat) : Int) ≠ most), (if 0 < most then s.1 ++ [k] else s.1, s.2 + 1)) else (true, s)
theorem runVis_cand_all (p : List Int → Bool) {most : Int} (h : most < 0) : ∀ (ks : List (List Int)) (s : List (List Int) × Nat), (runVis (visCand p most) s ks).2 = (s.1, s.2 + (ks.filter p).length)
  | [], s => by simp [runVis]
  | k :: ks, s => by
    rw [runVis]
    by_cases hk : p k = true
    · have e : visCand p most s k = (true, (s.1, s.2 + 1)) := by
        unfold visCand; rw [if_pos hk, if_neg (by omega), decide_eq_true (by omega)]
      rw [e, if_pos rfl, runVis_cand_all p h ks, List.filter_cons, if_pos hk, List.length_cons]
      simp; omega
    · have e : visCand p most s k = (true, s) := by unfold visCand; rw [if_neg hk]
      rw [e, if_pos rfl, runVis_cand_all p h ks, List.filter_cons, if_neg hk]
theorem runVis_cand_most (p : List Int → Bool) {most : Nat} (h : 0 < most) : ∀ (ks : List (List Int)) (s : List (List Int) × Nat), s.1.length = s.2 → s.2 < most → (runVis (visCand p most) s ks).2.1 = (s.1 ++ ks.filter p).take most
  | [], s, h1, h2 => by rw [runVis, List.filter_nil, List.append_nil, List.take_of_length_le (by omega)]
  | k :: ks, s, h1, h2 => by
    rw [runVis]
    by_cases hk : p k = true
    · by_cases hm : s.2 + 1 = most
      · have e : visCand p most s k = (false, (s.1 ++ [k], s.2 + 1)) := by
          unfold visCand; rw [if_pos hk, if_pos (by omega), decide_eq_false (by omega)]
        rw [e, if_neg (by simp), List.filter_cons, if_pos hk, show s.1 ++ k :: ks.filter p = (s.1 ++ [k]) ++ ks.filter p by simp, List.take_append_of_le_length (by simp; omega), List.take_of_length_le (by simp; omega)]
      · have e : visCand p most s k = (true, (s.1 ++ [k], s.2 + 1)) := by
          unfold visCand; rw [if_pos hk, if_pos (by omega), decide_eq_true (by omega)]
        rw [e, if_pos rfl, runVis_cand_most p h ks _ (by simp; omega) (by simp; omega), List.filter_cons, if_pos hk]
        simp
    · have e : visCand p most s k = (true, s) := by unfold visCand; rw [if_neg hk]
      rw [e, if_pos rfl, runVis_cand_most p h ks _ h1 h2, List.filter_cons, if_neg hk]
/-- the answers -/
def moreC (m : Mk) (t cuts : List (List Int)) : Int := if partC m t cuts = 0 then (if cuts.length = t.length then 5 else 0) else partC m t cuts
end Go.Proofs.YtdedajohkdbdkaaGreat

/- Contracts of opensWith, and of staysOpen's closure. -/
namespace Go.Proofs.YtdedajohkdbdkaaGreat
set_option linter.unusedVariables false
open Go.RowKit
theorem openAt1_in {l : List (List Int)} {key xs : List Int} {k : Nat} (h : k < l.length) (h2 : k < xs.length) (h3 : k < key.length) : openAt1 l key xs k = ((xs[k] == key[k]) || hasI l[k] xs[k]) := by
  unfold openAt1 frees; rw [getD_row h]; simp [List.getD, List.getElem?_eq_getElem h2, List.getElem?_eq_getElem h3]
set_option maxRecDepth 100000 in
set_option maxHeartbeats 4000000 in
theorem opensWith_any (A : Option Addr) (c : Nat) (l : List (List Int)) (K : Option Addr) (q : Nat) (key : List Int) (B : Option Addr) (d : Nat) (xs : List Int) (w : World) (h : RII w A l) (gk : RI w K key) (g : RI w B xs) (hl : xs.length ≤ l.length) (hk : xs.length ≤ key.length) :
    Calls Tryz.prog 158 #[.agg #[.slice A l.length c], .slice K key.length q, .slice B xs.length d] w fun e w' => e = .returned (.bool (openWith l key xs)) ∧ Below w.heap.size w w' := by
  have B0 := (Below.refl w.heap.size w).alloc (Nat.le_refl _) (.cells #[.slice A l.length c] 28)
  have hle := g.le
  have hlk := gk.le
  go_enter Tryz.func158, Tryz.ntmps158
  go_wp2_with fail
  go_loop [7, 8, 11] (fun _ _ i => ∃ k : Nat, k ≤ xs.length ∧ i = .int .i64 k ∧ (List.range k).all (openAt1 l key xs) = true) (fun _ _ i => xs.length - (intOf i).toNat)
  case atStart => exact ⟨0, by omega, rfl, rfl⟩
  case round =>
    obtain ⟨k, hk', rfl, hst⟩ := hrel
    have Hst := Lib.hid hst; clear hst
    by_cases hlt : k < xs.length
    · have hlt2 : k < l.length := by omega
      have hlt3 : k < key.length := by omega
      obtain ⟨b2, o2, rfl, hc2⟩ := g.at_ hlt
      obtain ⟨b3, o3, rfl, hc3⟩ := gk.at_ hlt3
      obtain ⟨b, o, A', c', rfl, hc, hcc, hr⟩ := h.at_ hlt2
      have hbw : b < w.heap.size := World.block_lt_of_cell? w _ hc
      have hbw2 : b2 < w.heap.size := World.block_lt_of_cell? w _ hc2
      have hbw3 : b3 < w.heap.size := World.block_lt_of_cell? w _ hc3
      have i0 : (0 : Int) ≤ (k : Int) := by omega
      have i1 : (k : Int) < (l.length : Int) := by omega
      have i2 : (k : Int) < (key.length : Int) := by omega
      have HS := Lib.hid (openAt1_in hlt2 hlt hlt3)
      have E1 := Lib.hid (sContains_any A' c' l[k] xs[k] _ (hr.below B0))
      cases hq : (xs[k] != key[k]) with
      | false =>
        have HO := Lib.hid (show (List.range (k + 1)).all (openAt1 l key xs) = true by
          rw [rangeAll_next, Hst.out, HS.out]; simp at hq; simp [hq])
        go_wp2_with fail
        go_round
        case rel => exact ⟨k + 1, by omega, by go_num, HO.out⟩
        case measure => simp [intOf]; omega
      | true =>
        have HQ := Lib.hid (show (xs[k] == key[k]) = false by simpa using hq)
        cases hp : hasI l[k] xs[k] with
        | false =>
          have HR := Lib.hid (show openWith l key xs = false from rangeAll_bad hlt (by rw [HS.out, HQ.out, hp]; rfl))
          go_wp2_with fail
          refine E1.out.mono ?_
          rw [hp]
          rintro e w1 ⟨rfl, rfl⟩
          go_wp2_with fail
          go_ret
          exact ⟨retB HR.out.symm, B0⟩
        | true =>
          have HO := Lib.hid (show (List.range (k + 1)).all (openAt1 l key xs) = true by rw [rangeAll_next, Hst.out, HS.out, hp]; simp)
          go_wp2_with fail
          refine E1.out.mono ?_
          rw [hp]
          rintro e w1 ⟨rfl, rfl⟩
          go_wp2_with fail
          go_round
          case rel => exact ⟨k + 1, by omega, by go_num, HO.out⟩
          case measure => simp [intOf]; omega
    · obtain rfl : k = xs.length := by omega
      go_wp2_with fail
      go_ret
      exact ⟨retB (by have := Hst.out; exact this.symm), B0⟩
/-- what an address of n elements names is not of F -/
def NF (F : Nat → Prop) (A : Option Addr) (n : Nat) : Prop := 0 < n → ∀ b o, A = some ⟨b, o, none⟩ → ¬ F b
theorem NF.mono {F G : Nat → Prop} {A : Option Addr} {n : Nat} (h : NF F A n) (hG : ∀ g, G g → F g) : NF G A n := fun h0 b o e hg => h h0 b o e (hG b hg)
theorem RV.keepN {F : Nat → Prop} {w w' : World} {A : Option Addr} {us : List Value} (h : RV w A us) (k : KeepF F w w') (hF : NF F A us.length) : RV w' A us := by
  by_cases h0 : 0 < us.length
  · exact h.keepF k (hF h0)
  · refine ⟨h.1, fun hn => ?_⟩
    exact absurd (List.length_eq_zero_iff.1 (by omega)) hn
theorem RI.keepN {F : Nat → Prop} {w w' : World} {A : Option Addr} {xs : List Int} (h : RI w A xs) (k : KeepF F w w') (hF : NF F A xs.length) : RI w' A xs := RV.keepN h k (by rw [ints_length]; exact hF)
/-- A nest that reads as lists, none of whose blocks is of F. -/
def RIIn (F : Nat → Prop) (w : World) (A : Option Addr) (xss : List (List Int)) : Prop :=
  ∃ us : List Value, us.length = xss.length ∧ RV w A us ∧ NF F A xss.length ∧ ∀ j (hj : j < xss.length), ∃ A' c, us[j]? = some (.slice A' xss[j].length c) ∧ xss[j].length ≤ c ∧ RI w A' xss[j] ∧ NF F A' xss[j].length
theorem RIIn.rii {F : Nat → Prop} {w : World} {A : Option Addr} {xss : List (List Int)} (h : RIIn F w A xss) : RII w A xss := by
  obtain ⟨us, h1, h2, _, h4⟩ := h
  exact ⟨us, h1, h2, fun j hj => by obtain ⟨A', c, a, b, d, _⟩ := h4 j hj; exact ⟨A', c, a, b, d⟩⟩
theorem RIIn.keepF {F : Nat → Prop} {w w' : World} {A : Option Addr} {xss : List (List Int)} (h : RIIn F w A xss) (k : KeepF F w w') : RIIn F w' A xss := by
  obtain ⟨us, h1, h2, h3, h4⟩ := h
  exact ⟨us, h1, h2.keepN k (by rw [h1]; exact h3), h3, fun j hj => by obtain ⟨A', c, a, b, d, e⟩ := h4 j hj; exact ⟨A', c, a, b, d.keepN k e, e⟩⟩
theorem RIIn.mono {F G : Nat → Prop} {w : World} {A : Option Addr} {xss : List (List Int)} (h : RIIn F w A xss) (hG : ∀ g, G g → F g) : RIIn G w A xss := by
  obtain ⟨us, h1, h2, h3, h4⟩ := h
  exact ⟨us, h1, h2, h3.mono hG, fun j hj => by obtain ⟨A', c, a, b, d, e⟩ := h4 j hj; exact ⟨A', c, a, b, d, e.mono hG⟩⟩
theorem ri_block {w : World} {b o : Nat} {us : List Value} (h : RV w (some ⟨b, o, none⟩) us) (h0 : us ≠ []) : b < w.heap.size := by
  obtain ⟨b', o', e, hc⟩ := h.2 h0
  injection e with e; injection e with e1 e2 _; subst e1 e2
  cases us with
  | nil => exact absurd rfl h0
  | cons u us => exact World.block_lt_of_cell? w _ (hc 0 u rfl)
/-- the header's row k -/
theorem RIIn.row {F : Nat → Prop} {w : World} {A : Option Addr} {xss : List (List Int)} (h : RIIn F w A xss) {k : Nat} (hk : k < xss.length) :
    ∃ b o A' c, A = some ⟨b, o, none⟩ ∧ w.cell? ⟨b, o + k, none⟩ = some (.slice A' xss[k].length c) ∧ xss[k].length ≤ c ∧ RI w A' xss[k] ∧ ¬ F b ∧ b < w.heap.size ∧ NF F A' xss[k].length := by
  obtain ⟨us, h1, h2, h3, h4⟩ := h
  obtain ⟨A', c, hu, hc, hr, hn⟩ := h4 k hk
  obtain ⟨b, o, rfl, hcell⟩ := h2.at_ (k := k) (by omega)
  have hb := World.block_lt_of_cell? w _ hcell
  refine ⟨b, o, A', c, rfl, ?_, hc, hr, h3 (by omega) b o rfl, hb, hn⟩
  rw [hcell, ← hu, List.getElem?_eq_getElem]
/-- What staysOpen's closure reads: its variables (from lo to hi - 1), the locks, the row, the cuts, the table. -/
structure StMem (F : Nat → Prop) (m : Mk) (A : Option Addr) (c : Nat) (t : List (List Int)) (B : Option Addr) (d : Nat) (cuts : List (List Int)) (ls : List (List (List Int))) (row : List Int) (lo hi gA gB gC gS : Nat) (AL : Option Addr) (cL : Nat) (AR : Option Addr) (cR : Nat) (w : World) : Prop where
  cA : w.cell? ⟨gA, 0, none⟩ = some (.slice AL ls.length cL)
  cB : w.cell? ⟨gB, 0, none⟩ = some (.slice AR row.length cR)
  cC : w.cell? ⟨gC, 0, none⟩ = some (.slice B cuts.length d)
  cS : BoxC w gS 0 [.int .i64 m.c, .int .i64 m.d, .int .i64 m.s, .int .i64 m.a, .int .i64 m.l, .slice A t.length c]
  loc : OLS w lo hi (.slice AL ls.length cL) ls
  rR : RI w AR row
  nR : NF F AR row.length
  rT : RIIn F w A t
  rC : RIIn F w B cuts
  gr : lo ≤ gA ∧ gA < hi ∧ lo ≤ gB ∧ gB < hi ∧ lo ≤ gC ∧ gC < hi ∧ lo ≤ gS ∧ gS < hi
  nF : ∀ g, lo ≤ g → g < hi → ¬ F g
  top : hi ≤ w.heap.size
theorem StMem.keepF {F : Nat → Prop} {m : Mk} {A : Option Addr} {c : Nat} {t : List (List Int)} {B : Option Addr} {d : Nat} {cuts : List (List Int)} {ls : List (List (List Int))} {row : List Int} {lo hi gA gB gC gS : Nat} {AL : Option Addr} {cL : Nat} {AR : Option Addr} {cR : Nat} {w w' : World}
    (h : StMem F m A c t B d cuts ls row lo hi gA gB gC gS AL cL AR cR w) (k : KeepF F w w') : StMem F m A c t B d cuts ls row lo hi gA gB gC gS AL cL AR cR w' := by
  obtain ⟨a1, a2, b1, b2, c1, c2, s1, s2⟩ := h.gr
  have ht := h.top
  have hc : ∀ g, lo ≤ g → g < hi → ∀ i v, w.cell? ⟨g, i, none⟩ = some v → w'.cell? ⟨g, i, none⟩ = some v := fun g h1 h2 i v hv => (k.cell (p := ⟨g, i, none⟩) (by simp only; omega) (h.nF g h1 h2)).trans hv
  exact ⟨hc _ a1 a2 _ _ h.cA, hc _ b1 b2 _ _ h.cB, hc _ c1 c2 _ _ h.cC, h.cS.keep fun i v hv => hc _ s1 s2 _ _ hv, h.loc.keep fun g h1 h2 => k.block g (by omega) (h.nF g h1 h2), h.rR.keepN k h.nR, h.nR, h.rT.keepF k, h.rC.keepF k, h.gr, h.nF, Nat.le_trans ht k.size⟩
theorem StMem.mono {F G : Nat → Prop} {m : Mk} {A : Option Addr} {c : Nat} {t : List (List Int)} {B : Option Addr} {d : Nat} {cuts : List (List Int)} {ls : List (List (List Int))} {row : List Int} {lo hi gA gB gC gS : Nat} {AL : Option Addr} {cL : Nat} {AR : Option Addr} {cR : Nat} {w : World}
    (h : StMem F m A c t B d cuts ls row lo hi gA gB gC gS AL cL AR cR w) (hG : ∀ g, G g → F g) : StMem G m A c t B d cuts ls row lo hi gA gB gC gS AL cL AR cR w :=
  ⟨h.cA, h.cB, h.cC, h.cS, h.loc, h.rR, h.nR.mono hG, h.rT.mono hG, h.rC.mono hG, h.gr, fun g h1 h2 hg => h.nF g h1 h2 (hG g hg), h.top⟩
theorem getD_in' {xs : List Int} {n : Nat} (h : n < xs.length) : xs.getD n 0 = xs[n] := by simp [List.getD, List.getElem?_eq_getElem h]
theorem staysL_bad {t cuts : List (List Int)} {ls : List (List (List Int))} {key : List Int} {n : Nat} (h : n < ls.length) (hp : staysD t cuts (ls.getD n []) key n = false) : staysL t cuts ls key = false := rangeAll_bad h hp
set_option maxRecDepth 100000 in
set_option maxHeartbeats 16000000 in
theorem staysClo_any (F : Nat → Prop) (m : Mk) (A : Option Addr) (c : Nat) (t : List (List Int)) (B : Option Addr) (d : Nat) (cuts : List (List Int)) (ls : List (List (List Int))) (row : List Int) (lo hi gA gB gC gS : Nat) (AL : Option Addr) (cL : Nat) (AR : Option Addr) (cR : Nat) (w : World)
    (hm : StMem F m A c t B d cuts ls row lo hi gA gB gC gS AL cL AR cR w) (K : Option Addr) (q : Nat) (key : List Int) (kk : RI w K key) (hq : key.length ≤ q) (hkl : (key.length : Int) = m.c)
    (hlt0 : cuts.length < t.length) (hrow : row = t[cuts.length]) (htw : ∀ k (hk : k < t.length), t[k].length = ls.length) (hll : ∀ n (hn : n < ls.length), (ls[n].length : Int) = m.c) (hcl : ∀ k (hk : k < cuts.length), (cuts[k].length : Int) = m.c) (hl12 : ls.length ≤ 12) :
    Calls Tryz.prog 157 #[.slice K key.length q, .pointer (some ⟨gA, 0, none⟩), .pointer (some ⟨gB, 0, none⟩), .pointer (some ⟨gC, 0, none⟩), .pointer (some ⟨gS, 0, none⟩)] w fun e w' => e = .returned (.bool (staysL t cuts ls key)) ∧ Below w.heap.size w w' := by
  obtain ⟨a1, a2, b1, b2, c1, c2, s1, s2⟩ := hm.gr
  have htop := hm.top
  have HSM := Lib.hid hm
  have HROW := Lib.hid hrow
  have HRW := Lib.hid (show row.length = ls.length by rw [hrow]; exact htw _ hlt0)
  have hrl : row.length ≤ 12 := by rw [HRW.out]; exact hl12
  have HTW := Lib.hid htw; have HLL := Lib.hid hll; have HCL := Lib.hid hcl; have HKL := Lib.hid hkl; have HLT := Lib.hid hlt0
  have htl := hm.rT.rii.le
  have hcl0 := hm.rC.rii.le
  have p1 := hm.cA
  have p2 := hm.cC
  clear hm hrow htw hll hcl hkl
  go_enter Tryz.func157, Tryz.ntmps157
  go_wp2_with fail
  go_loopw [7, 8, 9, 10, 13] (fun _ _ _ _ i wr => ∃ n : Nat, n ≤ ls.length ∧ i = .int .i64 n ∧ Hid ((List.range n).all (fun d => staysD t cuts (ls.getD d []) key d) = true) ∧ Below w.heap.size w wr) (fun _ _ _ _ i _ => ls.length - (intOf i).toNat)
  case atStart => exact ⟨0, by omega, rfl, Lib.hid rfl, Below.refl _ _⟩
  case round =>
    obtain ⟨n, hn, rfl, HST, hb⟩ := hrel
    obtain ⟨wo, rfl⟩ : ∃ wo : World, wo = wr := ⟨_, rfl⟩
    by_cases hlt : n < ls.length
    · have HKO := Lib.hid (HSM.out.loc.keep (w' := wo) fun g _ h2 => hb.block g (by omega))
      obtain ⟨bL, oL, A', c', rfl, hcl1, hccl, hrl1⟩ := (OLS.rls HKO.out).at_ hlt
      obtain ⟨bR, oR, rfl, hcR0⟩ := HSM.out.rR.at_ (show n < row.length by rw [HRW.out]; exact hlt)
      have hbR := World.block_lt_of_cell? w _ hcR0
      simp only at hbR
      have hbLw : bL < wo.heap.size := World.block_lt_of_cell? wo _ hcl1
      have hsz := hb.size
      have hcR := cell_in hb hbR hcR0
      have pB0 := cell_in hb (by simp only; omega) HSM.out.cB
      have pC0 := cell_in hb (by simp only; omega) p2
      have bR' : bR < wo.heap.size := by omega
      have gB' : gB < wo.heap.size := by omega
      have gC' : gC < wo.heap.size := by omega
      have i0 : (0 : Int) ≤ (n : Int) := by omega
      have i1 : (n : Int) < (row.length : Int) := by rw [HRW.out]; omega
      obtain ⟨y, hy⟩ : ∃ y, y = row[n]'(by rw [HRW.out]; exact hlt) := ⟨_, rfl⟩
      rw [← hy] at hcR hcR0
      have HCR0 := Lib.hid hcR0
      have HY := Lib.hid hy; clear hy hcR0
      obtain ⟨wb, hwb⟩ : ∃ wb, wb = wo.alloc (.cells #[.slice A' ls[n].length c'] 28) := ⟨_, rfl⟩
      have HWBA := Lib.hid (show Below wo.heap.size wo wb by rw [hwb]; exact (Below.refl _ _).alloc (Nat.le_refl _) _)
      have HWB := Lib.hid (show Below w.heap.size w wb from hb.trans (HWBA.out.mono hsz))
      have HLB := Lib.hid (show wb.cell? ⟨wo.heap.size, 0, none⟩ = some (.slice A' ls[n].length c') by rw [hwb]; simp)
      have hwbs : wb.heap.size = wo.heap.size + 1 := by rw [hwb]; simp
      have HLR := Lib.hid hrl1
      have HOP := fun W (hW : Below wo.heap.size wo W) => opens_any A' c' ls[n] K q key W (hrl1.below hW) (kk.below (hb.trans (hW.mono hsz))) (by have := HLL.out n hlt; have := HKL.out; omega)
      have HYY := Lib.hid (show (t.getD cuts.length []).getD n 0 = y by rw [getD_row HLT.out, ← HROW.out, getD_in' (by rw [HRW.out]; exact hlt), ← HY.out])
      clear hrl1
      cases hq0 : (y == 0) with
      | true =>
        cases hop : opensL ls[n] key with
        | true =>
          have HR := Lib.hid (show staysL t cuts ls key = false from staysL_bad hlt (by
            rw [getD_lock hlt]; unfold staysD; rw [HYY.out, hq0, hop]; rfl))
          rw [hop] at HOP
          have HOO := Lib.hid (HOP wb HWBA.out); clear HOP hop
          go_wp2_with fail
          rw [← hwb]
          refine HOO.out.mono ?_
          rintro e w4 ⟨rfl, b4⟩
          clear hwb
          go_wp2_with fail
          go_ret
          exact ⟨retB HR.out.symm, HWB.out.trans (b4.mono HWB.out.size)⟩
        | false =>
          have HF0 := Lib.hid (show (!(((t.getD cuts.length []).getD n 0 == 0) && opensL ls[n] key)) = true by rw [HYY.out, hq0, hop]; rfl)
          rw [hop] at HOP
          have HOO := Lib.hid (HOP wb HWBA.out); clear HOP hop
          go_wp2_with fail
          rw [← hwb]
          refine HOO.out.mono ?_
          rintro e w4 ⟨rfl, b4⟩
          have HW4 := Lib.hid (b4.mono (show wo.heap.size + 1 ≤ wb.heap.size by omega))
          have hs4 := b4.size
          clear hwb b4 pB0 hcR hcl1
          have pC := cell_in HW4.out (by simp only; omega) (cell_in HWBA.out (by simp only; omega) pC0)
          clear pC0
          go_wp2_with fail
          go_loopw [9, 10, 30] (fun _ _ i wx => ∃ k : Nat, k ≤ cuts.length ∧ i = .int .i64 k ∧ Hid ((List.range k).all (stays1 t cuts ls[n] key n) = true) ∧ Below (wo.heap.size + 1) wb wx) (fun _ _ i _ => cuts.length - (intOf i).toNat)
          case atStart => exact ⟨0, by omega, rfl, Lib.hid rfl, HW4.out⟩
          case round =>
            obtain ⟨k, hk, rfl, HIN, hbx⟩ := hrel
            have Bx := HWB.out.trans (hbx.mono (by omega))
            have pL := cell_in hbx (by simp only; omega) HLB.out
            obtain ⟨q0, q1, q2, q3, q4, q5, _⟩ := HSM.out.cS.keep fun i v hv => cell_in Bx (by simp only; omega) hv
            have pB := cell_in Bx (by simp only; omega) HSM.out.cB
            have hcRx := cell_in Bx hbR HCR0.out
            have BWo := HWBA.out.trans (hbx.mono (by omega))
            by_cases hlt2 : k < cuts.length
            · obtain ⟨bC, oC, AC, cC, rfl, hcC0, hccC, hrC, -, hbC, -⟩ := HSM.out.rC.row hlt2
              have hkt : k < t.length := by omega
              obtain ⟨bT, oT, AT, cT, rfl, hcT0, hccT, hrT, -, hbT, -⟩ := HSM.out.rT.row hkt
              have hnt : n < t[k].length := by rw [HTW.out k hkt]; exact hlt
              obtain ⟨bZ, oZ, rfl, hcZ0⟩ := hrT.at_ hnt
              have hbZ := World.block_lt_of_cell? w _ hcZ0
              simp only at hbZ
              have hcC := cell_in Bx hbC hcC0
              have hcT := cell_in Bx hbT hcT0
              have hcZ := cell_in Bx hbZ hcZ0
              have hlR := hrT.le
              have hsx := Bx.size
              have bT' : bT < wr.heap.size := by omega
              have bZ' : bZ < wr.heap.size := by omega
              have bC' : bC < wr.heap.size := by omega
              have j0 : (0 : Int) ≤ (k : Int) := by omega
              have j1 : (k : Int) < (t.length : Int) := by omega
              have j2 : (n : Int) < (t[k].length : Int) := by omega
              obtain ⟨z, hz⟩ : ∃ z, z = t[k][n] := ⟨_, rfl⟩
              rw [← hz] at hcZ
              have HZ := Lib.hid (show stays1 t cuts ls[n] key n k = !(((y == 1) && (z == 0)) && openWith ls[n] key cuts[k]) by
                unfold stays1; rw [getD_row (show cuts.length < t.length from HLT.out), getD_row hkt, getD_row hlt2, getD_in' hnt, ← hz, ← HROW.out, getD_in' (by rw [HRW.out]; exact hlt), ← HY.out])
              have HCLk := HCL.out k hlt2
              have HOW := fun W (hW : Below wr.heap.size wr W) => opensWith_any A' c' ls[n] K q key AC cC cuts[k] W (HLR.out.below (BWo.trans (hW.mono BWo.size))) (kk.below (Bx.trans (hW.mono Bx.size))) (hrC.below (Bx.trans (hW.mono Bx.size))) (by have := HLL.out n hlt; omega) (by have := HKL.out; omega)
              clear hcC0 hcT0 hcZ0 hz hrT hrC
              cases hq1 : (y == 1) with
              | false =>
                have HO := Lib.hid (show (List.range (k + 1)).all (stays1 t cuts ls[n] key n) = true by rw [rangeAll_next, HIN.out, HZ.out, hq1]; rfl)
                clear HOW
                go_wp2_with fail
                go_roundw
                case rel => exact ⟨k + 1, by omega, by go_num, HO, hbx⟩
                case measure => simp [intOf]; omega
              | true =>
                cases hq2 : (z == 0) with
                | false =>
                  have HO := Lib.hid (show (List.range (k + 1)).all (stays1 t cuts ls[n] key n) = true by rw [rangeAll_next, HIN.out, HZ.out, hq1, hq2]; rfl)
                  clear HOW
                  go_wp2_with fail
                  go_roundw
                  case rel => exact ⟨k + 1, by omega, by go_num, HO, hbx⟩
                  case measure => simp [intOf]; omega
                | true =>
                  cases how : openWith ls[n] key cuts[k] with
                  | false =>
                    have HO := Lib.hid (show (List.range (k + 1)).all (stays1 t cuts ls[n] key n) = true by rw [rangeAll_next, HIN.out, HZ.out, hq1, hq2, how]; rfl)
                    rw [how] at HOW
                    have HOO := Lib.hid (HOW _ (Below.refl _ _)); clear HOW how
                    go_wp2_with fail
                    refine HOO.out.mono ?_
                    rintro e w5 ⟨rfl, b5⟩
                    go_wp2_with fail
                    go_roundw
                    case rel => exact ⟨k + 1, by omega, by go_num, HO, hbx.trans (b5.mono (by have := hbx.size; omega))⟩
                    case measure => simp [intOf]; omega
                  | true =>
                    have HR := Lib.hid (show staysL t cuts ls key = false from staysL_bad hlt (by
                      rw [getD_lock hlt]; unfold staysD; rw [rangeAll_bad hlt2 (by rw [HZ.out, hq1, hq2, how]; rfl), Bool.and_false]))
                    rw [how] at HOW
                    have HOO := Lib.hid (HOW _ (Below.refl _ _)); clear HOW how
                    go_wp2_with fail
                    refine HOO.out.mono ?_
                    rintro e w5 ⟨rfl, b5⟩
                    go_wp2_with fail
                    go_ret
                    exact ⟨retB HR.out.symm, Bx.trans (b5.mono Bx.size)⟩
            · obtain rfl : k = cuts.length := by omega
              have HO := Lib.hid (show (List.range (n + 1)).all (fun d => staysD t cuts (ls.getD d []) key d) = true by
                rw [rangeAll_next, HST.out, getD_lock hlt]; unfold staysD
                rw [HIN.out, HF0.out]; rfl)
              go_wp2_with fail
              go_roundw
              case rel => exact ⟨n + 1, by omega, by go_num, HO, Bx⟩
              case measure => simp [intOf]; omega
      | false =>
        have HF0 := Lib.hid (show (!(((t.getD cuts.length []).getD n 0 == 0) && opensL ls[n] key)) = true by rw [HYY.out, hq0]; rfl)
        have HW4 := Lib.hid (Below.refl (wo.heap.size + 1) wb)
        clear HOP
        have pC := cell_in HWBA.out (by simp only; omega) pC0
        go_wp2_with fail
        rw [← hwb]
        clear hwb pB0 hcR hcl1 pC0
        go_wp2_with fail
        go_loopw [9, 10, 30] (fun _ _ i wx => ∃ k : Nat, k ≤ cuts.length ∧ i = .int .i64 k ∧ Hid ((List.range k).all (stays1 t cuts ls[n] key n) = true) ∧ Below (wo.heap.size + 1) wb wx) (fun _ _ i _ => cuts.length - (intOf i).toNat)
        case atStart => exact ⟨0, by omega, rfl, Lib.hid rfl, HW4.out⟩
        case round =>
          obtain ⟨k, hk, rfl, HIN, hbx⟩ := hrel
          have Bx := HWB.out.trans (hbx.mono (by omega))
          have pL := cell_in hbx (by simp only; omega) HLB.out
          obtain ⟨q0, q1, q2, q3, q4, q5, _⟩ := HSM.out.cS.keep fun i v hv => cell_in Bx (by simp only; omega) hv
          have pB := cell_in Bx (by simp only; omega) HSM.out.cB
          have hcRx := cell_in Bx hbR HCR0.out
          have BWo := HWBA.out.trans (hbx.mono (by omega))
          by_cases hlt2 : k < cuts.length
          · obtain ⟨bC, oC, AC, cC, rfl, hcC0, hccC, hrC, -, hbC, -⟩ := HSM.out.rC.row hlt2
            have hkt : k < t.length := by omega
            obtain ⟨bT, oT, AT, cT, rfl, hcT0, hccT, hrT, -, hbT, -⟩ := HSM.out.rT.row hkt
            have hnt : n < t[k].length := by rw [HTW.out k hkt]; exact hlt
            obtain ⟨bZ, oZ, rfl, hcZ0⟩ := hrT.at_ hnt
            have hbZ := World.block_lt_of_cell? w _ hcZ0
            simp only at hbZ
            have hcC := cell_in Bx hbC hcC0
            have hcT := cell_in Bx hbT hcT0
            have hcZ := cell_in Bx hbZ hcZ0
            have hlR := hrT.le
            have hsx := Bx.size
            have bT' : bT < wr.heap.size := by omega
            have bZ' : bZ < wr.heap.size := by omega
            have bC' : bC < wr.heap.size := by omega
            have j0 : (0 : Int) ≤ (k : Int) := by omega
            have j1 : (k : Int) < (t.length : Int) := by omega
            have j2 : (n : Int) < (t[k].length : Int) := by omega
            obtain ⟨z, hz⟩ : ∃ z, z = t[k][n] := ⟨_, rfl⟩
            rw [← hz] at hcZ
            have HZ := Lib.hid (show stays1 t cuts ls[n] key n k = !(((y == 1) && (z == 0)) && openWith ls[n] key cuts[k]) by
              unfold stays1; rw [getD_row (show cuts.length < t.length from HLT.out), getD_row hkt, getD_row hlt2, getD_in' hnt, ← hz, ← HROW.out, getD_in' (by rw [HRW.out]; exact hlt), ← HY.out])
            have HCLk := HCL.out k hlt2
            have HOW := fun W (hW : Below wr.heap.size wr W) => opensWith_any A' c' ls[n] K q key AC cC cuts[k] W (HLR.out.below (BWo.trans (hW.mono BWo.size))) (kk.below (Bx.trans (hW.mono Bx.size))) (hrC.below (Bx.trans (hW.mono Bx.size))) (by have := HLL.out n hlt; omega) (by have := HKL.out; omega)
            clear hcC0 hcT0 hcZ0 hz hrT hrC
            cases hq1 : (y == 1) with
            | false =>
              have HO := Lib.hid (show (List.range (k + 1)).all (stays1 t cuts ls[n] key n) = true by rw [rangeAll_next, HIN.out, HZ.out, hq1]; rfl)
              clear HOW
              go_wp2_with fail
              go_roundw
              case rel => exact ⟨k + 1, by omega, by go_num, HO, hbx⟩
              case measure => simp [intOf]; omega
            | true =>
              cases hq2 : (z == 0) with
              | false =>
                have HO := Lib.hid (show (List.range (k + 1)).all (stays1 t cuts ls[n] key n) = true by rw [rangeAll_next, HIN.out, HZ.out, hq1, hq2]; rfl)
                clear HOW
                go_wp2_with fail
                go_roundw
                case rel => exact ⟨k + 1, by omega, by go_num, HO, hbx⟩
                case measure => simp [intOf]; omega
              | true =>
                cases how : openWith ls[n] key cuts[k] with
                | false =>
                  have HO := Lib.hid (show (List.range (k + 1)).all (stays1 t cuts ls[n] key n) = true by rw [rangeAll_next, HIN.out, HZ.out, hq1, hq2, how]; rfl)
                  rw [how] at HOW
                  have HOO := Lib.hid (HOW _ (Below.refl _ _)); clear HOW how
                  go_wp2_with fail
                  refine HOO.out.mono ?_
                  rintro e w5 ⟨rfl, b5⟩
                  go_wp2_with fail
                  go_roundw
                  case rel => exact ⟨k + 1, by omega, by go_num, HO, hbx.trans (b5.mono (by have := hbx.size; omega))⟩
                  case measure => simp [intOf]; omega
                | true =>
                  have HR := Lib.hid (show staysL t cuts ls key = false from staysL_bad hlt (by
                    rw [getD_lock hlt]; unfold staysD; rw [rangeAll_bad hlt2 (by rw [HZ.out, hq1, hq2, how]; rfl), Bool.and_false]))
                  rw [how] at HOW
                  have HOO := Lib.hid (HOW _ (Below.refl _ _)); clear HOW how
                  go_wp2_with fail
                  refine HOO.out.mono ?_
                  rintro e w5 ⟨rfl, b5⟩
                  go_wp2_with fail
                  go_ret
                  exact ⟨retB HR.out.symm, Bx.trans (b5.mono Bx.size)⟩
          · obtain rfl : k = cuts.length := by omega
            have HO := Lib.hid (show (List.range (n + 1)).all (fun d => staysD t cuts (ls.getD d []) key d) = true by
              rw [rangeAll_next, HST.out, getD_lock hlt]; unfold staysD
              rw [HIN.out, HF0.out]; rfl)
            go_wp2_with fail
            go_roundw
            case rel => exact ⟨n + 1, by omega, by go_num, HO, Bx⟩
            case measure => simp [intOf]; omega
    · obtain rfl : n = ls.length := by omega
      have HR := Lib.hid (show staysL t cuts ls key = true from HST.out)
      go_wp2_with fail
      go_ret
      exact ⟨retB HR.out.symm, hb⟩
end Go.Proofs.YtdedajohkdbdkaaGreat
