/- Contracts of the reference's LockAt; of l13Code and ChangeLock. -/
import Derived.Test.YthjfilhcfjpinaaFLockAtS
import Derived.Test.YthjfilhcfjpinaaFChange
namespace Go.Proofs.Ythjfilhcfjpinaa
set_option linter.unusedVariables false
open Go.RowKit
/-! ### ChangeLock -/
def changeC (m : Mk) (xs ys : List Int) (s : Int) (key : List Int) : Int := if isProgF m xs ys s = true then (if (isKey m key && isChange xs ys s key) = true then 0 else 2) else 1
def changeLockR (m : Mk) (xs ys : List Int) (s : Int) (key : List Int) : List (List Int) × Int := if changeC m xs ys s key = 0 then (hullF m.c.toNat m.d.toNat [xs, key], 0) else ([], changeC m xs ys s key)
theorem key_cuts {m : Mk} {xs : List Int} (h : isKey m xs = true) : (xs.length : Int) = m.c ∧ allW 0 (m.d - 1) xs = true := by
  have h3 := fault_zero_iff.1 (show fault m xs = 0 by simpa [isKey] using h)
  exact ⟨h3.1, h3.2.1⟩
theorem two_cuts {m : Mk} {xs ys : List Int} (h1 : isKey m xs = true) (h2 : isKey m ys = true) : allCuts m [xs, ys] := by
  intro k hk
  match k, hk with
  | 0, _ => exact key_cuts h1
  | 1, _ => exact key_cuts h2
  | k + 2, hk => exact absurd hk (by simp)
theorem prog_key {m : Mk} {xs ys : List Int} {s : Int} (h : isProgF m xs ys s = true) : isMaker m = true ∧ isProg m xs ys s = true ∧ isKey m xs = true := by
  unfold isProgF at h; rw [Bool.and_eq_true] at h
  exact ⟨h.1, h.2, (isProg_iff.1 h.2).1⟩
set_option maxRecDepth 100000 in
set_option maxHeartbeats 4000000 in
theorem l13Code_any (m : Mk) (A : Option Addr) (c : Nat) (xs : List Int) (B : Option Addr) (d : Nat) (ys : List Int) (s : Int) (K : Option Addr) (e : Nat) (key : List Int) (w : World) (h : RI w A xs) (g : RI w B ys) (hk : RI w K key) (hcap : xs.length ≤ c) (hcap2 : key.length ≤ e) :
    Calls Try.prog 101 #[.agg #[.int .i64 m.c, .int .i64 m.d, .int .i64 m.s, .int .i64 m.a, .int .i64 m.l], .agg #[.slice A xs.length c, .slice B ys.length d, .int .i64 s], .slice K key.length e] w fun e w' => e = .returned (.int .i64 (changeC m xs ys s key)) ∧ Below w.heap.size w w' := by
  have B0 := ((Below.refl w.heap.size w).alloc (Nat.le_refl _) (.cells #[.int .i64 m.c, .int .i64 m.d, .int .i64 m.s, .int .i64 m.a, .int .i64 m.l] 25)).alloc (by simp only [World.size_alloc]; omega) (.cells #[.slice A xs.length c, .slice B ys.length d, .int .i64 s] 52)
  cases h1 : isProgF m xs ys s with
  | false =>
    have HR := Lib.hid (show changeC m xs ys s key = 1 by simp [changeC, h1])
    go_enter Try.func101, Try.ntmps101
    go_wp2_with fail
    refine (specIsProgression_any m A c xs B d ys s _ (h.below B0) (g.below B0) hcap).mono ?_
    rw [h1]
    rintro e w1 ⟨rfl, b1⟩
    go_wp2_with fail
    go_ret
    exact ⟨retI HR.out.symm, B0.trans (b1.mono B0.size)⟩
  | true =>
    have hpk := prog_key h1
    have HM := Lib.hid hpk.1
    have HQ := Lib.hid (isProg_iff.1 hpk.2.1)
    clear hpk
    cases h2 : fault m key != 0 with
    | true =>
      have HR := Lib.hid (show changeC m xs ys s key = 2 by
        have : isKey m key = false := by unfold isKey; simpa using h2
        simp [changeC, h1, this])
      go_enter Try.func101, Try.ntmps101
      go_wp2_with fail
      refine (specIsProgression_any m A c xs B d ys s _ (h.below B0) (g.below B0) hcap).mono ?_
      rw [h1]
      rintro e w1 ⟨rfl, b1⟩
      have C := (bcell b1).1
      have B1 := B0.trans (b1.mono B0.size)
      go_wp2_with fail
      refine (l02Fault_any m K e key _ (hk.below B1) hcap2 HM.out).mono ?_
      rintro e w2 ⟨rfl, b2⟩
      go_wp2_with fail
      go_ret
      exact ⟨retI HR.out.symm, B1.trans (b2.mono B1.size)⟩
    | false =>
      have hkk : isKey m key = true := by unfold isKey; simpa using h2
      have HK := Lib.hid (key_small HM.out HQ.out.1)
      have HK2 := Lib.hid (key_small HM.out hkk)
      have HR := Lib.hid (show changeC m xs ys s key = if isChange xs ys s key = true then 0 else 2 by simp [changeC, h1, hkk])
      have HC := Lib.hid (fun W (hW : Below w.heap.size w W) => l13Change_any A c xs B d ys s K e key W (h.below hW) (g.below hW) (hk.below hW) (by have := HK.out.1; have := HK2.out.1; omega) HQ.out.2.2.2.1 HQ.out.2.2.2.2 HK.out.2 HK2.out.2)
      clear hkk
      cases h3 : isChange xs ys s key with
      | true =>
        rw [h3] at HC HR
        have H3 := Lib.hid h3; clear h3
        go_enter Try.func101, Try.ntmps101
        go_wp2_with fail
        refine (specIsProgression_any m A c xs B d ys s _ (h.below B0) (g.below B0) hcap).mono ?_
        rw [h1]
        rintro e w1 ⟨rfl, b1⟩
        have C := (bcell b1).1
        have B1 := B0.trans (b1.mono B0.size)
        go_wp2_with fail
        refine (l02Fault_any m K e key _ (hk.below B1) hcap2 HM.out).mono ?_
        rintro e w2 ⟨rfl, b2⟩
        have C2 := (bcell b2).1
        have B2 := B1.trans (b2.mono B1.size)
        have s1 := b1.size
        simp only [World.size_alloc] at s1
        have s2 : w.heap.size + 1 < w1.heap.size := by omega
        have s3 : w.heap.size < w1.heap.size := by omega
        go_wp2_with fail
        refine (HC.out _ B2).mono ?_
        rintro e w3 ⟨rfl, b3⟩
        go_wp2_with fail
        go_ret
        exact ⟨retI (by rw [HR.out]; rfl), B2.trans (b3.mono B2.size)⟩
      | false =>
        rw [h3] at HC HR
        have H3 := Lib.hid h3; clear h3
        go_enter Try.func101, Try.ntmps101
        go_wp2_with fail
        refine (specIsProgression_any m A c xs B d ys s _ (h.below B0) (g.below B0) hcap).mono ?_
        rw [h1]
        rintro e w1 ⟨rfl, b1⟩
        have C := (bcell b1).1
        have B1 := B0.trans (b1.mono B0.size)
        go_wp2_with fail
        refine (l02Fault_any m K e key _ (hk.below B1) hcap2 HM.out).mono ?_
        rintro e w2 ⟨rfl, b2⟩
        have C2 := (bcell b2).1
        have B2 := B1.trans (b2.mono B1.size)
        have s1 := b1.size
        simp only [World.size_alloc] at s1
        have s2 : w.heap.size + 1 < w1.heap.size := by omega
        have s3 : w.heap.size < w1.heap.size := by omega
        go_wp2_with fail
        refine (HC.out _ B2).mono ?_
        rintro e w3 ⟨rfl, b3⟩
        go_wp2_with fail
        go_ret
        exact ⟨retI (by rw [HR.out]; rfl), B2.trans (b3.mono B2.size)⟩
set_option maxRecDepth 100000 in
set_option maxHeartbeats 4000000 in
theorem implChangeLock_any (m : Mk) (A : Option Addr) (c : Nat) (xs : List Int) (B : Option Addr) (d : Nat) (ys : List Int) (s : Int) (K : Option Addr) (e : Nat) (key : List Int) (w : World) (h : RI w A xs) (g : RI w B ys) (hk : RI w K key) (hcap : xs.length ≤ c) (hcap2 : key.length ≤ e) :
    Calls Try.prog 33 #[.agg #[.int .i64 m.c, .int .i64 m.d, .int .i64 m.s, .int .i64 m.a, .int .i64 m.l], .agg #[.slice A xs.length c, .slice B ys.length d, .int .i64 s], .slice K key.length e] w (ResLC w (changeLockR m xs ys s key)) := by
  obtain ⟨w0, hw0⟩ : ∃ w0, w0 = ((w.alloc (.cells #[.int .i64 m.c, .int .i64 m.d, .int .i64 m.s, .int .i64 m.a, .int .i64 m.l] 25)).alloc (.cells #[.slice A xs.length c, .slice B ys.length d, .int .i64 s] 52)).alloc (.cells #[.slice none 0 0] 28) := ⟨_, rfl⟩
  have B0 : Below w.heap.size w w0 := by rw [hw0]; exact (((Below.refl w.heap.size w).alloc (Nat.le_refl _) _).alloc (by simp only [World.size_alloc]; omega) _).alloc (by simp only [World.size_alloc]; omega) _
  have hz0 : w0.heap.size = w.heap.size + 3 := by rw [hw0]; simp
  have bm : BoxC w0 w.heap.size 0 [.int .i64 m.c, .int .i64 m.d, .int .i64 m.s, .int .i64 m.a, .int .i64 m.l] := by
    have : BoxC (w.alloc (.cells #[.int .i64 m.c, .int .i64 m.d, .int .i64 m.s, .int .i64 m.a, .int .i64 m.l] 25)) w.heap.size 0 [.int .i64 m.c, .int .i64 m.d, .int .i64 m.s, .int .i64 m.a, .int .i64 m.l] := by simp [BoxC, Go.World.cell?_alloc_at]
    rw [hw0]; exact (this.below ((Below.refl _ _).alloc (Nat.le_refl _) _)).below ((Below.refl _ _).alloc (Nat.le_refl _) _)
  have bp : BoxC w0 (w.heap.size + 1) 0 [.slice A xs.length c, .slice B ys.length d, .int .i64 s] := by
    have : BoxC ((w.alloc (.cells #[.int .i64 m.c, .int .i64 m.d, .int .i64 m.s, .int .i64 m.a, .int .i64 m.l] 25)).alloc (.cells #[.slice A xs.length c, .slice B ys.length d, .int .i64 s] 52)) (w.heap.size + 1) 0 [.slice A xs.length c, .slice B ys.length d, .int .i64 s] := by simp [BoxC, Go.World.cell?_alloc_at]
    rw [hw0]; exact this.below ((Below.refl _ _).alloc (Nat.le_refl _) _)
  have bk : w0.heap[w.heap.size + 2]? = some (.cells #[.slice none 0 0] 28 (0, 0)) := by
    have := heap_alloc_new ((w.alloc (.cells #[.int .i64 m.c, .int .i64 m.d, .int .i64 m.s, .int .i64 m.a, .int .i64 m.l] 25)).alloc (.cells #[.slice A xs.length c, .slice B ys.length d, .int .i64 s] 52)) (.cells #[.slice none 0 0] 28)
    rw [hw0]; simpa using this
  have HBM := Lib.hid bm; have HBP := Lib.hid bp; have HBK := Lib.hid bk
  clear bm bp bk
  have HIP := Lib.hid (implIsProgression_any m A c xs B d ys s w0 (h.below B0) (g.below B0) hcap)
  cases h1 : isProgF m xs ys s with
  | false =>
    rw [h1] at HIP
    have HR := Lib.hid (show ([], 1) = changeLockR m xs ys s key by simp [changeLockR, changeC, h1])
    go_enter Try.func33, Try.ntmps33
    go_wp2_with fail
    rw [← hw0]
    refine HIP.out.mono ?_
    rintro e w1 ⟨rfl, b1⟩
    clear hw0
    have lb := (b1.block (w.heap.size + 2) (by omega)).trans HBK.out
    have l0 : w1.cell? ⟨w.heap.size + 2, 0, none⟩ = some (.slice none 0 0) := by simp [World.cell?, lb]
    have l1 : w1.frozen? ⟨w.heap.size + 2, 0, none⟩ = false := by simp [World.frozen?, lb]
    have HBE := Lib.hid (B0.trans (b1.mono B0.size))
    go_wp2_with fail
    (try simp only [Exit.inBlock, Exit.then])
    refine bodyPost_ret (results_cell_row_tmp rfl _ _ (w.heap.size + 2) 28 #[.slice none 0 0] (0, 0) _ (by rfl) (by simp [World.setCell, Array.getElem?_modify, lb]) Try.underlying28 rfl (by kernel_rfl)) rfl ?_
    exact resLC_nil HR.out (HBE.out.setCell (by simp only; omega) _)
  | true =>
    rw [h1] at HIP
    have hpk := prog_key h1
    have HM := Lib.hid hpk.1
    have HP := Lib.hid hpk.2.1
    have HIC := Lib.hid (fun W (hW : Below w.heap.size w W) => isChangeKey_any m A c xs B d ys s K e key W (h.below hW) (g.below hW) (hk.below hW) hcap hcap2 HM.out HP.out)
    cases h2 : (isKey m key && isChange xs ys s key) with
    | false =>
      rw [h2] at HIC
      have HR := Lib.hid (show ([], 2) = changeLockR m xs ys s key by
        have : changeC m xs ys s key = 2 := by unfold changeC; rw [if_pos h1, if_neg (by rw [h2]; simp)]
        simp [changeLockR, this])
      clear hpk
      go_enter Try.func33, Try.ntmps33
      go_wp2_with fail
      rw [← hw0]
      refine HIP.out.mono ?_
      rintro e w1 ⟨rfl, b1⟩
      have B1 := B0.trans (b1.mono B0.size)
      have hs1 := b1.size
      obtain ⟨q0, q1, q2, q3, q4, _⟩ := HBM.out.below b1
      obtain ⟨p0, p1, p2, _⟩ := HBP.out.below b1
      clear hw0
      go_wp2_with fail
      refine (HIC.out _ B1).mono ?_
      rintro e w2 ⟨rfl, b2⟩
      have b12 := b1.trans (b2.mono hs1)
      clear q0 q1 q2 q3 q4 p0 p1 p2 b1 b2
      have lb := (b12.block (w.heap.size + 2) (by omega)).trans HBK.out
      have l0 : w2.cell? ⟨w.heap.size + 2, 0, none⟩ = some (.slice none 0 0) := by simp [World.cell?, lb]
      have l1 : w2.frozen? ⟨w.heap.size + 2, 0, none⟩ = false := by simp [World.frozen?, lb]
      have HBE := Lib.hid (B0.trans (b12.mono B0.size))
      go_wp2_with fail
      (try simp only [Exit.inBlock, Exit.then])
      refine bodyPost_ret (results_cell_row_tmp rfl _ _ (w.heap.size + 2) 28 #[.slice none 0 0] (0, 0) _ (by rfl) (by simp [World.setCell, Array.getElem?_modify, lb]) Try.underlying28 rfl (by kernel_rfl)) rfl ?_
      exact resLC_nil HR.out (HBE.out.setCell (by simp only; omega) _)
    | true =>
      rw [h2] at HIC
      have hcc : changeC m xs ys s key = 0 := by unfold changeC; rw [if_pos h1, if_pos h2]
      have HR := Lib.hid (show (hullF m.c.toNat m.d.toNat [xs, key], 0) = changeLockR m xs ys s key by simp [changeLockR, hcc])
      have HAC := Lib.hid (two_cuts hpk.2.2 (by rw [Bool.and_eq_true] at h2; exact h2.1))
      clear hpk hcc
      go_enter Try.func33, Try.ntmps33
      go_wp2_with fail
      rw [← hw0]
      refine HIP.out.mono ?_
      rintro e w1 ⟨rfl, b1⟩
      have B1 := B0.trans (b1.mono B0.size)
      have hs1 := b1.size
      obtain ⟨q0, q1, q2, q3, q4, _⟩ := HBM.out.below b1
      obtain ⟨p0, p1, p2, _⟩ := HBP.out.below b1
      clear hw0
      go_wp2_with fail
      refine (HIC.out _ B1).mono ?_
      rintro e w2 ⟨rfl, b2⟩
      have b12 := b1.trans (b2.mono hs1)
      clear q0 q1 q2 q3 q4 p0 p1 p2 b1 b2
      have hbB : Below w.heap.size w w2 := B0.trans (b12.mono B0.size)
      have hbe : Below w2.heap.size w2 (w2.alloc (.cells #[.slice A xs.length c, .slice K key.length e] 38)) := (Below.refl _ _).alloc (Nat.le_refl _) _
      have hsW := b12.size
      have B3 := hbB.trans (hbe.mono hbB.size)
      have HHU := Lib.hid (hullOf_any m (some ⟨w2.heap.size, 0, none⟩) 2 [xs, key] (w2.alloc (.cells #[.slice A xs.length c, .slice K key.length e] 38))
        (RII.two hcap hcap2 (h.below B3) (hk.below B3) (by rw [World.cell?_alloc_at (hn := rfl)]; rfl) (by rw [World.cell?_alloc_at (hn := rfl)]; rfl)) HM.out HAC.out (by simp))
      obtain ⟨l, hl⟩ : ∃ l, l = hullF m.c.toNat m.d.toNat [xs, key] := ⟨_, rfl⟩
      rw [← hl] at HHU HR
      have hlb0 := (b12.block (w.heap.size + 2) (by omega)).trans HBK.out
      have HLB := Lib.hid ((hbe.block (w.heap.size + 2) (by omega)).trans hlb0)
      obtain ⟨q0, q1, q2, q3, q4, _⟩ := HBM.out.below (b12.mono (by omega))
      obtain ⟨p0, p1, p2, _⟩ := HBP.out.below (b12.mono (by omega))
      have HB3 := Lib.hid B3
      clear hl hlb0 hbe B3
      go_wp2_with fail
      refine HHU.out.mono ?_
      rintro e w4 ⟨A4, c4, rfl, hc4, r4, o4, b4⟩
      have lb := (b4.block (w.heap.size + 2) (by simp; omega)).trans HLB.out
      have l0 : w4.cell? ⟨w.heap.size + 2, 0, none⟩ = some (.slice none 0 0) := by simp [World.cell?, lb]
      have l1 : w4.frozen? ⟨w.heap.size + 2, 0, none⟩ = false := by simp [World.frozen?, lb]
      have HO4 := Lib.hid (o4.wide (show w.heap.size + 3 ≤ (w2.alloc (.cells #[.slice A xs.length c, .slice K key.length e] 38)).heap.size by simp; omega) (Nat.le_refl _))
      have HB4 := Lib.hid (HB3.out.trans (b4.mono HB3.out.size))
      clear o4 r4 b4 q0 q1 q2 q3 q4 p0 p1 p2
      go_wp2_with fail
      (try simp only [Exit.inBlock, Exit.then])
      refine bodyPost_ret (results_cell_row_tmp rfl _ _ (w.heap.size + 2) 28 #[.slice A4 l.length c4] (0, 0) _ (by rfl) (by simp [World.setCell, Array.getElem?_modify, lb]) Try.underlying28 rfl (by kernel_rfl)) rfl ?_
      have ho9 := (HO4.out.setLow (p := ⟨w.heap.size + 2, 0, none⟩) (u := .slice A4 l.length c4) (by simp only; omega)).wide (B' := w.heap.size) (C' := (w4.setCell ⟨w.heap.size + 2, 0, none⟩ (.slice A4 l.length c4)).heap.size) (by omega) (by simp)
      exact resLC_own HR.out hc4 ho9.rii ho9 (HB4.out.setCell (by simp only; omega) _)
set_option maxRecDepth 100000 in
set_option maxHeartbeats 4000000 in
theorem specChangeLock_any (m : Mk) (A : Option Addr) (c : Nat) (xs : List Int) (B : Option Addr) (d : Nat) (ys : List Int) (s : Int) (K : Option Addr) (e : Nat) (key : List Int) (w : World) (h : RI w A xs) (g : RI w B ys) (hk : RI w K key) (hcap : xs.length ≤ c) (hcap2 : key.length ≤ e) :
    Calls Try.prog 34 #[.agg #[.int .i64 m.c, .int .i64 m.d, .int .i64 m.s, .int .i64 m.a, .int .i64 m.l], .agg #[.slice A xs.length c, .slice B ys.length d, .int .i64 s], .slice K key.length e] w (ResLC w (changeLockR m xs ys s key)) := by
  obtain ⟨w0, hw0⟩ : ∃ w0, w0 = ((w.alloc (.cells #[.int .i64 m.c, .int .i64 m.d, .int .i64 m.s, .int .i64 m.a, .int .i64 m.l] 25)).alloc (.cells #[.slice A xs.length c, .slice B ys.length d, .int .i64 s] 52)).alloc (.cells #[.slice none 0 0] 28) := ⟨_, rfl⟩
  have B0 : Below w.heap.size w w0 := by rw [hw0]; exact (((Below.refl w.heap.size w).alloc (Nat.le_refl _) _).alloc (by simp only [World.size_alloc]; omega) _).alloc (by simp only [World.size_alloc]; omega) _
  have hz0 : w0.heap.size = w.heap.size + 3 := by rw [hw0]; simp
  have bm : BoxC w0 w.heap.size 0 [.int .i64 m.c, .int .i64 m.d, .int .i64 m.s, .int .i64 m.a, .int .i64 m.l] := by
    have : BoxC (w.alloc (.cells #[.int .i64 m.c, .int .i64 m.d, .int .i64 m.s, .int .i64 m.a, .int .i64 m.l] 25)) w.heap.size 0 [.int .i64 m.c, .int .i64 m.d, .int .i64 m.s, .int .i64 m.a, .int .i64 m.l] := by simp [BoxC, Go.World.cell?_alloc_at]
    rw [hw0]; exact (this.below ((Below.refl _ _).alloc (Nat.le_refl _) _)).below ((Below.refl _ _).alloc (Nat.le_refl _) _)
  have bp : BoxC w0 (w.heap.size + 1) 0 [.slice A xs.length c, .slice B ys.length d, .int .i64 s] := by
    have : BoxC ((w.alloc (.cells #[.int .i64 m.c, .int .i64 m.d, .int .i64 m.s, .int .i64 m.a, .int .i64 m.l] 25)).alloc (.cells #[.slice A xs.length c, .slice B ys.length d, .int .i64 s] 52)) (w.heap.size + 1) 0 [.slice A xs.length c, .slice B ys.length d, .int .i64 s] := by simp [BoxC, Go.World.cell?_alloc_at]
    rw [hw0]; exact this.below ((Below.refl _ _).alloc (Nat.le_refl _) _)
  have bk : w0.heap[w.heap.size + 2]? = some (.cells #[.slice none 0 0] 28 (0, 0)) := by
    have := heap_alloc_new ((w.alloc (.cells #[.int .i64 m.c, .int .i64 m.d, .int .i64 m.s, .int .i64 m.a, .int .i64 m.l] 25)).alloc (.cells #[.slice A xs.length c, .slice B ys.length d, .int .i64 s] 52)) (.cells #[.slice none 0 0] 28)
    rw [hw0]; simpa using this
  have HBM := Lib.hid bm; have HBP := Lib.hid bp; have HBK := Lib.hid bk
  clear bm bp bk
  have HCO := Lib.hid (l13Code_any m A c xs B d ys s K e key w0 (h.below B0) (g.below B0) (hk.below B0) hcap hcap2)
  by_cases h0 : changeC m xs ys s key = 0
  rotate_left
  · have HR := Lib.hid (show ([], changeC m xs ys s key) = changeLockR m xs ys s key by simp [changeLockR, h0])
    have t1 : (changeC m xs ys s key != 0) = true := by simpa using h0
    have H0 := Lib.hid h0; clear h0
    go_enter Try.func34, Try.ntmps34
    go_wp2_with fail
    rw [← hw0]
    refine HCO.out.mono ?_
    rintro e w1 ⟨rfl, b1⟩
    clear hw0
    have lb := (b1.block (w.heap.size + 2) (by omega)).trans HBK.out
    have l0 : w1.cell? ⟨w.heap.size + 2, 0, none⟩ = some (.slice none 0 0) := by simp [World.cell?, lb]
    have l1 : w1.frozen? ⟨w.heap.size + 2, 0, none⟩ = false := by simp [World.frozen?, lb]
    have HBE := Lib.hid (B0.trans (b1.mono B0.size))
    go_wp2_with fail
    (try simp only [Exit.inBlock, Exit.then])
    refine bodyPost_ret (results_cell_row_tmp rfl _ _ (w.heap.size + 2) 28 #[.slice none 0 0] (0, 0) _ (by rfl) (by simp [World.setCell, Array.getElem?_modify, lb]) Try.underlying28 rfl (by kernel_rfl)) rfl ?_
    exact resLC_nil HR.out (HBE.out.setCell (by simp only; omega) _)
  · have hcx : isProgF m xs ys s = true ∧ (isKey m key && isChange xs ys s key) = true := by
      unfold changeC at h0
      by_cases h1 : isProgF m xs ys s = true
      · rw [if_pos h1] at h0
        by_cases h2 : (isKey m key && isChange xs ys s key) = true
        · exact ⟨h1, h2⟩
        · rw [if_neg h2] at h0; cases h0
      · rw [if_neg h1] at h0; cases h0
    have hpk := prog_key hcx.1
    have HM := Lib.hid hpk.1
    have HAC := Lib.hid (two_cuts hpk.2.2 (by have := hcx.2; rw [Bool.and_eq_true] at this; exact this.1))
    have HR := Lib.hid (show (hullF m.c.toNat m.d.toNat [xs, key], 0) = changeLockR m xs ys s key by simp [changeLockR, h0])
    rw [h0] at HCO
    have H0 := Lib.hid h0
    clear hpk hcx h0
    go_enter Try.func34, Try.ntmps34
    go_wp2_with fail
    rw [← hw0]
    refine HCO.out.mono ?_
    rintro e w1 ⟨rfl, b1⟩
    clear hw0
    have hbB : Below w.heap.size w w1 := B0.trans (b1.mono B0.size)
    have hbe : Below w1.heap.size w1 (w1.alloc (.cells #[.slice A xs.length c, .slice K key.length e] 38)) := (Below.refl _ _).alloc (Nat.le_refl _) _
    have hsW := b1.size
    have B3 := hbB.trans (hbe.mono hbB.size)
    have HHU := Lib.hid (l04Hull_any m (some ⟨w1.heap.size, 0, none⟩) 2 [xs, key] (w1.alloc (.cells #[.slice A xs.length c, .slice K key.length e] 38))
      (RII.two hcap hcap2 (h.below B3) (hk.below B3) (by rw [World.cell?_alloc_at (hn := rfl)]; rfl) (by rw [World.cell?_alloc_at (hn := rfl)]; rfl)) HM.out HAC.out (by simp))
    obtain ⟨l, hl⟩ : ∃ l, l = hullF m.c.toNat m.d.toNat [xs, key] := ⟨_, rfl⟩
    rw [← hl] at HHU HR
    have hlb0 := (b1.block (w.heap.size + 2) (by omega)).trans HBK.out
    have HLB := Lib.hid ((hbe.block (w.heap.size + 2) (by omega)).trans hlb0)
    obtain ⟨q0, q1, q2, q3, q4, _⟩ := HBM.out.below (b1.mono (by omega))
    obtain ⟨p0, p1, p2, _⟩ := HBP.out.below (b1.mono (by omega))
    have HB3 := Lib.hid B3
    clear hl hlb0 hbe B3
    go_wp2_with fail
    refine HHU.out.mono ?_
    rintro e w4 ⟨A4, c4, rfl, hc4, r4, o4, b4⟩
    have lb := (b4.block (w.heap.size + 2) (by simp; omega)).trans HLB.out
    have l0 : w4.cell? ⟨w.heap.size + 2, 0, none⟩ = some (.slice none 0 0) := by simp [World.cell?, lb]
    have l1 : w4.frozen? ⟨w.heap.size + 2, 0, none⟩ = false := by simp [World.frozen?, lb]
    have HO4 := Lib.hid (o4.wide (show w.heap.size + 3 ≤ (w1.alloc (.cells #[.slice A xs.length c, .slice K key.length e] 38)).heap.size by simp; omega) (Nat.le_refl _))
    have HB4 := Lib.hid (HB3.out.trans (b4.mono HB3.out.size))
    clear o4 r4 b4 q0 q1 q2 q3 q4 p0 p1 p2
    go_wp2_with fail
    (try simp only [Exit.inBlock, Exit.then])
    refine bodyPost_ret (results_cell_row_tmp rfl _ _ (w.heap.size + 2) 28 #[.slice A4 l.length c4] (0, 0) _ (by rfl) (by simp [World.setCell, Array.getElem?_modify, lb]) Try.underlying28 rfl (by kernel_rfl)) rfl ?_
    have ho9 := (HO4.out.setLow (p := ⟨w.heap.size + 2, 0, none⟩) (u := .slice A4 l.length c4) (by simp only; omega)).wide (B' := w.heap.size) (C' := (w4.setCell ⟨w.heap.size + 2, 0, none⟩ (.slice A4 l.length c4)).heap.size) (by omega) (by simp)
    exact resLC_own HR.out hc4 ho9.rii ho9 (HB4.out.setCell (by simp only; omega) _)
end Go.Proofs.Ythjfilhcfjpinaa
