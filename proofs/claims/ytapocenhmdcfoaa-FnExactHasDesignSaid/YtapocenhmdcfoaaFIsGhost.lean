/- Contracts of l14Key, IsGhost. -/
import Derived.Test.YtapocenhmdcfoaaFGhost
namespace Go.Proofs.Ytapocenhmdcfoaa
set_option linter.unusedVariables false
open Go.RowKit
def isGhostR (m : Mk) (l al : List (List Int)) (key : List Int) : Bool × Int := if allowedC m l al [key] = 0 then (opensL l key && !hasL al key, 0) else (false, allowedC m l al [key])
theorem isGhost_no {m : Mk} {l al : List (List Int)} {key : List Int} (h : allowedC m l al [key] ≠ 0) : (false, allowedC m l al [key]) = isGhostR m l al key := by unfold isGhostR; rw [if_neg h]
theorem isGhost_yes {m : Mk} {l al : List (List Int)} {key : List Int} (h : allowedC m l al [key] = 0) : (opensL l key && !hasL al key, 0) = isGhostR m l al key := by unfold isGhostR; rw [if_pos h]
/-- a truth and a code -/
def ResBC (w : World) (r : Bool × Int) (e : Ending) (w' : World) : Prop := e = .returned (.tuple #[.bool r.1, .int .i64 r.2]) ∧ Below w.heap.size w w'
theorem resBC_of {w w' : World} {r : Bool × Int} {b : Bool} {c : Int} (h : (b, c) = r) (hb : Below w.heap.size w w') : ResBC w r (.returned (.tuple #[.bool b, .int .i64 c])) w' := by subst h; exact ⟨rfl, hb⟩
/-- two numbers -/
def ResNC (w : World) (r : Int × Int) (e : Ending) (w' : World) : Prop := e = .returned (.tuple #[.int .i64 r.1, .int .i64 r.2]) ∧ Below w.heap.size w w'
theorem resNC_of {w w' : World} {r : Int × Int} {b c : Int} (h : (b, c) = r) (hb : Below w.heap.size w w') : ResNC w r (.returned (.tuple #[.int .i64 b, .int .i64 c])) w' := by subst h; exact ⟨rfl, hb⟩
theorem allowedC_key {m : Mk} {l al : List (List Int)} {key : List Int} (h : allowedC m l al [] = 0) : allowedC m l al [key] = if isKey m key = true then 0 else 2 := by
  obtain ⟨h1, h2, h3⟩ := allowedC_0 h
  rw [List.append_nil] at h3
  unfold allowedC
  rw [if_pos h1, keys_app, h3]
  simp [h2, areKeysF]
theorem allowedC_keyn {m : Mk} {l al : List (List Int)} {key : List Int} (h : allowedC m l al [] ≠ 0) : allowedC m l al [key] = allowedC m l al [] := by
  unfold allowedC at *
  by_cases h1 : isLockF m l = true
  · rw [if_pos h1] at *
    rw [if_pos h1]
    rw [List.append_nil] at *
    by_cases h2 : (decide (al.length ≤ 300) && areKeysF m al) = true
    · rw [if_pos h2] at h; exact absurd rfl h
    · rw [if_neg h2, if_neg]
      intro h3
      apply h2
      rw [keys_app, ← Bool.and_assoc, Bool.and_eq_true] at h3
      exact h3.1
  · rw [if_neg h1, if_neg h1]
theorem isKey_fault {m : Mk} {xs : List Int} : (fault m xs != 0) = !isKey m xs := rfl
set_option maxRecDepth 100000 in
set_option maxHeartbeats 2000000 in
theorem l14Key_any (m : Mk) (D : Option Addr) (q : Nat) (l : List (List Int)) (A : Option Addr) (c : Nat) (al : List (List Int)) (K : Option Addr) (d : Nat) (key : List Int) (w : World) (h : RII w D l) (g : RII w A al) (k : RI w K key) (hcap : key.length ≤ d) :
    Calls Try.prog 155 #[.agg #[.int .i64 m.c, .int .i64 m.d, .int .i64 m.s, .int .i64 m.a, .int .i64 m.l], .agg #[.slice D l.length q], .slice A al.length c, .slice K key.length d] w fun e w' => e = .returned (.int .i64 (allowedC m l al [key])) ∧ Below w.heap.size w w' := by
  have B0 := ((Below.refl w.heap.size w).alloc (Nat.le_refl _) (.cells #[.int .i64 m.c, .int .i64 m.d, .int .i64 m.s, .int .i64 m.a, .int .i64 m.l] 29)).alloc (by simp only [World.size_alloc]; omega) (.cells #[.slice D l.length q] 75)
  have bx : BoxC (w.alloc (.cells #[.int .i64 m.c, .int .i64 m.d, .int .i64 m.s, .int .i64 m.a, .int .i64 m.l] 29)) w.heap.size 0 [.int .i64 m.c, .int .i64 m.d, .int .i64 m.s, .int .i64 m.a, .int .i64 m.l] := by simp [BoxC, Go.World.cell?_alloc_at]
  have HLL := Lib.hid (l14Code_any m D q l A c al ((w.alloc (.cells #[.int .i64 m.c, .int .i64 m.d, .int .i64 m.s, .int .i64 m.a, .int .i64 m.l] 29)).alloc (.cells #[.slice D l.length q] 75)) (h.below B0) (g.below B0))
  by_cases h1 : allowedC m l al [] = 0
  · have hm := isLock_mk (allowedC_0 h1).1
    have HK := Lib.hid (allowedC_key (key := key) h1)
    rw [h1] at HLL
    have H1 := Lib.hid h1; clear h1
    go_enter Try.func155, Try.ntmps155
    go_wp2_with fail
    refine HLL.out.mono ?_
    rintro e w1 ⟨rfl, b1⟩
    have B1 := B0.trans (b1.mono B0.size)
    have bM : Below (w.alloc (.cells #[.int .i64 m.c, .int .i64 m.d, .int .i64 m.s, .int .i64 m.a, .int .i64 m.l] 29)).heap.size (w.alloc (.cells #[.int .i64 m.c, .int .i64 m.d, .int .i64 m.s, .int .i64 m.a, .int .i64 m.l] 29)) w1 := ((Below.refl _ _).alloc (Nat.le_refl _) (.cells #[.slice D l.length q] 75)).trans (b1.mono (by simp only [World.size_alloc]; omega))
    obtain ⟨q0, q1, q2, q3, q4, _⟩ := bx.below bM
    have HF := Lib.hid (l02Fault_any m K d key w1 (k.below B1) hcap hm)
    cases hp : isKey m key with
    | true =>
      have hz : (fault m key != 0) = false := by rw [isKey_fault, hp]; rfl
      have HR := Lib.hid (show allowedC m l al [key] = 0 by rw [HK.out, hp]; rfl)
      have HP := Lib.hid hp; clear hp
      go_wp2_with fail
      refine HF.out.mono ?_
      rintro e w2 ⟨rfl, b2⟩
      go_wp2_with fail
      go_ret
      exact ⟨retI HR.out.symm, B1.trans (b2.mono B1.size)⟩
    | false =>
      have hz : (fault m key != 0) = true := by rw [isKey_fault, hp]; rfl
      have HR := Lib.hid (show allowedC m l al [key] = 2 by rw [HK.out, hp]; rfl)
      have HP := Lib.hid hp; clear hp
      go_wp2_with fail
      refine HF.out.mono ?_
      rintro e w2 ⟨rfl, b2⟩
      go_wp2_with fail
      go_ret
      exact ⟨retI HR.out.symm, B1.trans (b2.mono B1.size)⟩
  · have HR := Lib.hid (allowedC_keyn (key := key) h1)
    have t1 : (allowedC m l al [] == 0) = false := by simpa using h1
    have H1 := Lib.hid h1; clear h1
    go_enter Try.func155, Try.ntmps155
    go_wp2_with fail
    refine HLL.out.mono ?_
    rintro e w1 ⟨rfl, b1⟩
    go_wp2_with fail
    go_ret
    exact ⟨retI HR.out.symm, B0.trans (b1.mono B0.size)⟩
set_option maxRecDepth 100000 in
set_option maxHeartbeats 2000000 in
theorem specIsGhost_any (m : Mk) (D : Option Addr) (q : Nat) (l : List (List Int)) (A : Option Addr) (c : Nat) (al : List (List Int)) (K : Option Addr) (d : Nat) (key : List Int) (w : World) (h : RII w D l) (g : RII w A al) (k : RI w K key) (hcap : key.length ≤ d) :
    Calls Try.prog 77 #[.agg #[.int .i64 m.c, .int .i64 m.d, .int .i64 m.s, .int .i64 m.a, .int .i64 m.l], .agg #[.slice D l.length q], .slice A al.length c, .slice K key.length d] w (ResBC w (isGhostR m l al key)) := by
  have B0 := ((Below.refl w.heap.size w).alloc (Nat.le_refl _) (.cells #[.int .i64 m.c, .int .i64 m.d, .int .i64 m.s, .int .i64 m.a, .int .i64 m.l] 29)).alloc (by simp only [World.size_alloc]; omega) (.cells #[.slice D l.length q] 75)
  have bx : BoxC ((w.alloc (.cells #[.int .i64 m.c, .int .i64 m.d, .int .i64 m.s, .int .i64 m.a, .int .i64 m.l] 29)).alloc (.cells #[.slice D l.length q] 75)) (w.heap.size + 1) 0 [.slice D l.length q] := by simp [BoxC, Go.World.cell?_alloc_at]
  have HLL := Lib.hid (l14Key_any m D q l A c al K d key ((w.alloc (.cells #[.int .i64 m.c, .int .i64 m.d, .int .i64 m.s, .int .i64 m.a, .int .i64 m.l] 29)).alloc (.cells #[.slice D l.length q] 75)) (h.below B0) (g.below B0) (k.below B0) hcap)
  by_cases h1 : allowedC m l al [key] = 0
  · have hl := ghost_len h1
    have HY := Lib.hid (isGhost_yes h1)
    rw [h1] at HLL
    have H1 := Lib.hid h1; clear h1
    go_enter Try.func77, Try.ntmps77
    go_wp2_with fail
    refine HLL.out.mono ?_
    rintro e w1 ⟨rfl, b1⟩
    have B1 := B0.trans (b1.mono B0.size)
    obtain ⟨q0, _⟩ := bx.below b1
    have HO := l04Opens_any D q l K d key w1 (h.below B1) (k.below B1) hl
    cases hp : opensL l key with
    | false =>
      rw [hp] at HO
      have HOO := Lib.hid HO; clear HO
      have HR := Lib.hid (show (false, 0) = isGhostR m l al key by rw [← HY.out, hp]; rfl)
      go_wp2_with fail
      refine HOO.out.mono ?_
      rintro e w2 ⟨rfl, b2⟩
      go_wp2_with fail
      go_ret2
      exact resBC_of HR.out (B1.trans (b2.mono B1.size))
    | true =>
      rw [hp] at HO
      have HOO := Lib.hid HO; clear HO
      have HR := Lib.hid (show (!hasL al key, 0) = isGhostR m l al key by rw [← HY.out, hp]; rfl)
      go_wp2_with fail
      refine HOO.out.mono ?_
      rintro e w2 ⟨rfl, b2⟩
      have B2 := B1.trans (b2.mono B1.size)
      have HH := Lib.hid (l14Has_any A K c d al key w2 (g.below B2) (k.below B2))
      go_wp2_with fail
      refine HH.out.mono ?_
      rintro e w3 ⟨rfl, n3, rfl⟩
      go_wp2_with fail
      go_ret2
      exact resBC_of HR.out (belowD B2 _)
  · have HN := Lib.hid (isGhost_no h1)
    have t1 : (allowedC m l al [key] != 0) = true := by simpa using h1
    have H1 := Lib.hid h1; clear h1
    go_enter Try.func77, Try.ntmps77
    go_wp2_with fail
    refine HLL.out.mono ?_
    rintro e w1 ⟨rfl, b1⟩
    go_wp2_with fail
    go_ret2
    exact resBC_of HN.out (B0.trans (b1.mono B0.size))
set_option maxRecDepth 100000 in
set_option maxHeartbeats 2000000 in
theorem implIsGhost_any (m : Mk) (D : Option Addr) (q : Nat) (l : List (List Int)) (A : Option Addr) (c : Nat) (al : List (List Int)) (K : Option Addr) (d : Nat) (key : List Int) (w : World) (h : RII w D l) (g : RII w A al) (k : RI w K key) (hcap : key.length ≤ d) :
    Calls Try.prog 76 #[.agg #[.int .i64 m.c, .int .i64 m.d, .int .i64 m.s, .int .i64 m.a, .int .i64 m.l], .agg #[.slice D l.length q], .slice A al.length c, .slice K key.length d] w (ResBC w (isGhostR m l al key)) := by
  have Ba := ((Below.refl w.heap.size w).alloc (Nat.le_refl _) (.cells #[.int .i64 m.c, .int .i64 m.d, .int .i64 m.s, .int .i64 m.a, .int .i64 m.l] 29)).alloc (by simp only [World.size_alloc]; omega) (.cells #[.slice D l.length q] 75)
  have B0 := Ba.alloc (by simp only [World.size_alloc]; omega) (.cells #[.slice K key.length d] 56)
  have bx : BoxC ((w.alloc (.cells #[.int .i64 m.c, .int .i64 m.d, .int .i64 m.s, .int .i64 m.a, .int .i64 m.l] 29)).alloc (.cells #[.slice D l.length q] 75)) (w.heap.size + 1) 0 [.slice D l.length q] := by simp [BoxC, Go.World.cell?_alloc_at]
  have hOne : RII (((w.alloc (.cells #[.int .i64 m.c, .int .i64 m.d, .int .i64 m.s, .int .i64 m.a, .int .i64 m.l] 29)).alloc (.cells #[.slice D l.length q] 75)).alloc (.cells #[.slice K key.length d] 56)) (some ⟨w.heap.size + 1 + 1, 0, none⟩) [key] := RII.one hcap (k.below B0) (by simp [Go.World.cell?_alloc_at])
  have HLL := Lib.hid (allowedCode_any m D q l A c al (some ⟨w.heap.size + 1 + 1, 0, none⟩) 1 [key] (((w.alloc (.cells #[.int .i64 m.c, .int .i64 m.d, .int .i64 m.s, .int .i64 m.a, .int .i64 m.l] 29)).alloc (.cells #[.slice D l.length q] 75)).alloc (.cells #[.slice K key.length d] 56)) (h.below B0) (g.below B0) hOne (by simp))
  by_cases h1 : allowedC m l al [key] = 0
  · have hl := ghost_len h1
    have HY := Lib.hid (isGhost_yes h1)
    rw [h1] at HLL
    have H1 := Lib.hid h1; clear h1
    go_enter Try.func76, Try.ntmps76
    go_wp2_with fail
    refine HLL.out.mono ?_
    rintro e w1 ⟨rfl, b1⟩
    have B1 := B0.trans (b1.mono B0.size)
    have bM : Below ((w.alloc (.cells #[.int .i64 m.c, .int .i64 m.d, .int .i64 m.s, .int .i64 m.a, .int .i64 m.l] 29)).alloc (.cells #[.slice D l.length q] 75)).heap.size ((w.alloc (.cells #[.int .i64 m.c, .int .i64 m.d, .int .i64 m.s, .int .i64 m.a, .int .i64 m.l] 29)).alloc (.cells #[.slice D l.length q] 75)) w1 := ((Below.refl _ _).alloc (Nat.le_refl _) (.cells #[.slice K key.length d] 56)).trans (b1.mono (by simp only [World.size_alloc]; omega))
    obtain ⟨q0, _⟩ := bx.below bM
    have HO := opens_any D q l K d key w1 (h.below B1) (k.below B1) hl
    cases hp : opensL l key with
    | false =>
      rw [hp] at HO
      have HOO := Lib.hid HO; clear HO
      have HR := Lib.hid (show (false, 0) = isGhostR m l al key by rw [← HY.out, hp]; rfl)
      go_wp2_with fail
      refine HOO.out.mono ?_
      rintro e w2 ⟨rfl, b2⟩
      go_wp2_with fail
      go_ret2
      exact resBC_of HR.out (B1.trans (b2.mono B1.size))
    | true =>
      rw [hp] at HO
      have HOO := Lib.hid HO; clear HO
      have HR := Lib.hid (show (!hasL al key, 0) = isGhostR m l al key by rw [← HY.out, hp]; rfl)
      go_wp2_with fail
      refine HOO.out.mono ?_
      rintro e w2 ⟨rfl, b2⟩
      have B2 := B1.trans (b2.mono B1.size)
      have HH := Lib.hid (contains_any A K c d al key w2 (g.below B2) (k.below B2))
      go_wp2_with fail
      refine HH.out.mono ?_
      rintro e w3 ⟨rfl, b3⟩
      go_wp2_with fail
      go_ret2
      exact resBC_of HR.out (B2.trans (b3.mono B2.size))
  · have HN := Lib.hid (isGhost_no h1)
    have t1 : (allowedC m l al [key] != 0) = true := by simpa using h1
    have H1 := Lib.hid h1; clear h1
    go_enter Try.func76, Try.ntmps76
    go_wp2_with fail
    refine HLL.out.mono ?_
    rintro e w1 ⟨rfl, b1⟩
    go_wp2_with fail
    go_ret2
    exact resBC_of HN.out (B0.trans (b1.mono B0.size))
end Go.Proofs.Ytapocenhmdcfoaa
