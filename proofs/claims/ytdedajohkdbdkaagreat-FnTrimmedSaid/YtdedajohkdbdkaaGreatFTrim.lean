/- Contracts of TrimLock, on both sides. -/
import Derived.Test.YtdedajohkdbdkaaGreatFFit
import Derived.Test.YtdedajohkdbdkaaGreatFHull
import Derived.Test.YtdedajohkdbdkaaGreatFLockAt
namespace Go.Proofs.YtdedajohkdbdkaaGreat
set_option linter.unusedVariables false
open Go.RowKit
theorem mem_fitF_take {l al : List (List Int)} : ∀ k, k ≤ al.length → ∀ x ∈ fitF l (al.take k), x ∈ al
  | 0, _, x, hx => by simp [fitF] at hx
  | k + 1, h, x, hx => by
    rw [fitF_succ l al k (by omega)] at hx
    split at hx
    · rcases List.mem_append.1 hx with e | e
      · exact mem_fitF_take k (by omega) x e
      · rw [List.mem_singleton] at e; rw [e]; exact List.getElem_mem _
    · exact mem_fitF_take k (by omega) x hx
theorem mem_fitF' {l al : List (List Int)} {x : List Int} (h : x ∈ fitF l al) : x ∈ al := mem_fitF_take (l := l) al.length (Nat.le_refl _) x (by rwa [List.take_length])
theorem allowed_trim {m : Mk} {l al : List (List Int)} (h : allowedC m l al [] = 0) : isMaker m = true ∧ al.length ≤ 300 ∧ (∀ k (hk : k < al.length), al[k].length ≤ l.length) ∧ allCuts m (fitF l al) := by
  obtain ⟨h1, h2, h3⟩ := allowedC_0 h
  rw [List.append_nil] at h3
  unfold areKeysF at h3; rw [List.all_eq_true] at h3
  refine ⟨isLock_mk h1, h2, fun k hk => by have := isKey_len (h3 _ (List.getElem_mem hk)); have := isLock_len h1; omega, fun k hk => ?_⟩
  have := h3 _ (mem_fitF' (List.getElem_mem hk))
  have h5 := fault_zero_iff.1 (show fault m (fitF l al)[k] = 0 by simpa [isKey] using this)
  exact ⟨h5.1, h5.2.1⟩
def trimR (m : Mk) (l al : List (List Int)) : List (List Int) × Int := if allowedC m l al [] = 0 then (if (fitF l al).length = 0 then ([], 4) else (hullF m.c.toNat m.d.toNat (fitF l al), 0)) else ([], allowedC m l al [])
theorem trim_no {m : Mk} {l al : List (List Int)} (h : allowedC m l al [] ≠ 0) : ([], allowedC m l al []) = trimR m l al := by unfold trimR; rw [if_neg h]
theorem trim_0 {m : Mk} {l al : List (List Int)} (h : allowedC m l al [] = 0) (h2 : (fitF l al).length = 0) : ([], 4) = trimR m l al := by unfold trimR; rw [if_pos h, if_pos h2]
theorem trim_yes {m : Mk} {l al : List (List Int)} (h : allowedC m l al [] = 0) (h2 : ¬ (fitF l al).length = 0) : (hullF m.c.toNat m.d.toNat (fitF l al), 0) = trimR m l al := by unfold trimR; rw [if_pos h, if_neg h2]
set_option maxRecDepth 100000 in
set_option maxHeartbeats 4000000 in
theorem implTrimLock_any (m : Mk) (D : Option Addr) (q : Nat) (l : List (List Int)) (A : Option Addr) (c : Nat) (al : List (List Int)) (w : World) (h : RII w D l) (g : RII w A al) :
    Calls Tryz.prog 8 #[.agg #[.int .i64 m.c, .int .i64 m.d, .int .i64 m.s, .int .i64 m.a, .int .i64 m.l], .agg #[.slice D l.length q], .slice A al.length c] w (ResLC w (trimR m l al)) := by
  obtain ⟨w0, hw0⟩ : ∃ w0, w0 = ((w.alloc (.cells #[.int .i64 m.c, .int .i64 m.d, .int .i64 m.s, .int .i64 m.a, .int .i64 m.l] 25)).alloc (.cells #[.slice D l.length q] 28)).alloc (.cells #[.slice none 0 0] 28) := ⟨_, rfl⟩
  have B0 : Below w.heap.size w w0 := by rw [hw0]; exact (((Below.refl w.heap.size w).alloc (Nat.le_refl _) _).alloc (by simp only [World.size_alloc]; omega) _).alloc (by simp only [World.size_alloc]; omega) _
  have hz0 : w0.heap.size = w.heap.size + 3 := by rw [hw0]; simp
  have bm : BoxC w0 w.heap.size 0 [.int .i64 m.c, .int .i64 m.d, .int .i64 m.s, .int .i64 m.a, .int .i64 m.l] := by
    have : BoxC (w.alloc (.cells #[.int .i64 m.c, .int .i64 m.d, .int .i64 m.s, .int .i64 m.a, .int .i64 m.l] 25)) w.heap.size 0 [.int .i64 m.c, .int .i64 m.d, .int .i64 m.s, .int .i64 m.a, .int .i64 m.l] := by simp [BoxC, Go.World.cell?_alloc_at]
    rw [hw0]; exact (this.below ((Below.refl _ _).alloc (Nat.le_refl _) _)).below ((Below.refl _ _).alloc (Nat.le_refl _) _)
  have bp : BoxC w0 (w.heap.size + 1) 0 [.slice D l.length q] := by
    have : BoxC ((w.alloc (.cells #[.int .i64 m.c, .int .i64 m.d, .int .i64 m.s, .int .i64 m.a, .int .i64 m.l] 25)).alloc (.cells #[.slice D l.length q] 28)) (w.heap.size + 1) 0 [.slice D l.length q] := by simp [BoxC, Go.World.cell?_alloc_at]
    rw [hw0]; exact this.below ((Below.refl _ _).alloc (Nat.le_refl _) _)
  have bk : w0.heap[w.heap.size + 2]? = some (.cells #[.slice none 0 0] 28 (0, 0)) := by
    have := heap_alloc_new ((w.alloc (.cells #[.int .i64 m.c, .int .i64 m.d, .int .i64 m.s, .int .i64 m.a, .int .i64 m.l] 25)).alloc (.cells #[.slice D l.length q] 28)) (.cells #[.slice none 0 0] 28)
    rw [hw0]; simpa using this
  have HBM := Lib.hid bm; have HBP := Lib.hid bp; have HBK := Lib.hid bk
  clear bm bp bk
  have HCO := Lib.hid (allowedCode_any m D q l A c al none 0 [] w0 (h.below B0) (g.below B0) RII.nil (by simp))
  by_cases h1 : allowedC m l al [] = 0
  rotate_left
  · have HR := Lib.hid (trim_no h1)
    have t1 : (allowedC m l al [] != 0) = true := by simpa using h1
    have H1 := Lib.hid h1; clear h1
    go_enter Tryz.func8, Tryz.ntmps8
    go_wp2_with fail
    rw [← hw0]
    refine HCO.out.mono ?_
    rintro e w1 ⟨rfl, b1⟩
    clear hw0
    have lb := (b1.block (w.heap.size + 2) (by omega)).trans HBK.out
    have l0 : w1.cell? ⟨w.heap.size + 2, 0, none⟩ = some (.slice none 0 0) := by simp [World.cell?, lb]
    have l1 : w1.frozen? ⟨w.heap.size + 2, 0, none⟩ = false := by simp [World.frozen?, lb]
    have HBE := Lib.hid (B0.trans (b1.mono B0.size))
    go_wp2_with fail
    (try simp only [Exit.inBlock, Exit.then])
    refine bodyPost_ret (results_cell_row_tmp rfl _ _ (w.heap.size + 2) 28 #[.slice none 0 0] (0, 0) _ (by rfl) (by simp [World.setCell, Array.getElem?_modify, lb]) Tryz.underlying28 rfl (by kernel_rfl)) rfl ?_
    exact resLC_nil HR.out (HBE.out.setCell (by simp only; omega) _)
  have HT := Lib.hid (allowed_trim h1)
  have hal : al.length ≤ 1000000 := by have := HT.out.2.1; omega
  rw [h1] at HCO
  obtain ⟨fs, hfs⟩ : ∃ fs, fs = fitF l al := ⟨_, rfl⟩
  have hfl : fs.length ≤ 1000000 := by rw [hfs]; have := fitF_le l al al.length (Nat.le_refl _); rw [List.take_length] at this; omega
  have HAC := Lib.hid (show allCuts m fs by rw [hfs]; exact HT.out.2.2.2)
  have HFT := Lib.hid (fun (W : World) (hW : Below w.heap.size w W) => by
    have := allowedOpeners_any D q l A c al W (h.below hW) (g.below hW) HT.out.2.2.1 hal
    rw [← hfs] at this; exact this)
  by_cases h0 : fs.length = 0
  · have HR := Lib.hid (trim_0 h1 (by rw [← hfs]; exact h0))
    have hz : ((fs.length : Int) == 0) = true := by simp [h0]
    have H0 := Lib.hid (And.intro h1 h0); clear h1 h0 hfs
    go_enter Tryz.func8, Tryz.ntmps8
    go_wp2_with fail
    rw [← hw0]
    refine HCO.out.mono ?_
    rintro e w1 ⟨rfl, b1⟩
    have B1 := B0.trans (b1.mono B0.size)
    have hs1 := b1.size
    obtain ⟨p0, _⟩ := HBP.out.below b1
    clear hw0
    go_wp2_with fail
    refine (HFT.out _ B1).mono ?_
    rintro e w2 ⟨A2, c2, rfl, hc2, r2, b2⟩
    have b12 := b1.trans (b2.mono hs1)
    have hl2 := r2.le
    clear p0 b1 b2 r2
    have lb := (b12.block (w.heap.size + 2) (by omega)).trans HBK.out
    have l0 : w2.cell? ⟨w.heap.size + 2, 0, none⟩ = some (.slice none 0 0) := by simp [World.cell?, lb]
    have l1 : w2.frozen? ⟨w.heap.size + 2, 0, none⟩ = false := by simp [World.frozen?, lb]
    have HBE := Lib.hid (B0.trans (b12.mono B0.size))
    go_wp2_with fail
    (try simp only [Exit.inBlock, Exit.then])
    refine bodyPost_ret (results_cell_row_tmp rfl _ _ (w.heap.size + 2) 28 #[.slice none 0 0] (0, 0) _ (by rfl) (by simp [World.setCell, Array.getElem?_modify, lb]) Tryz.underlying28 rfl (by kernel_rfl)) rfl ?_
    exact resLC_nil HR.out (HBE.out.setCell (by simp only; omega) _)
  · have HR := Lib.hid (show (hullF m.c.toNat m.d.toNat fs, 0) = trimR m l al by rw [hfs]; exact trim_yes h1 (by rw [← hfs]; exact h0))
    have hz : ((fs.length : Int) == 0) = false := by rw [beq_eq_false_iff_ne]; omega
    obtain ⟨hu, hhu⟩ : ∃ hu, hu = hullF m.c.toNat m.d.toNat fs := ⟨_, rfl⟩
    have HHU := Lib.hid (fun (W : World) (A2 : Option Addr) (c2 : Nat) (hr : RII W A2 fs) => by
      have := hullOf_any m A2 c2 fs W hr HT.out.1 HAC.out (by omega)
      rw [← hhu] at this; exact this)
    rw [← hhu] at HR
    have H0 := Lib.hid (And.intro h1 h0); clear h1 h0 hfs hhu
    go_enter Tryz.func8, Tryz.ntmps8
    go_wp2_with fail
    rw [← hw0]
    refine HCO.out.mono ?_
    rintro e w1 ⟨rfl, b1⟩
    have B1 := B0.trans (b1.mono B0.size)
    have hs1 := b1.size
    obtain ⟨p0, _⟩ := HBP.out.below b1
    clear hw0
    go_wp2_with fail
    refine (HFT.out _ B1).mono ?_
    rintro e w2 ⟨A2, c2, rfl, hc2, r2, b2⟩
    have b12 := b1.trans (b2.mono hs1)
    have B2 := B1.trans (b2.mono B1.size)
    have hl2 := r2.le
    have HH2 := Lib.hid (HHU.out w2 A2 c2 r2)
    have hsz2 := b12.size
    obtain ⟨q0, q1, q2, q3, q4, _⟩ := HBM.out.below b12
    clear p0 b1 b2 r2
    go_wp2_with fail
    refine HH2.out.mono ?_
    rintro e w4 ⟨A4, c4, rfl, hc4, r4, o4, b4⟩
    have lb := (b4.block (w.heap.size + 2) (by omega)).trans ((b12.block (w.heap.size + 2) (by omega)).trans HBK.out)
    have l0 : w4.cell? ⟨w.heap.size + 2, 0, none⟩ = some (.slice none 0 0) := by simp [World.cell?, lb]
    have l1 : w4.frozen? ⟨w.heap.size + 2, 0, none⟩ = false := by simp [World.frozen?, lb]
    have HO4 := Lib.hid (o4.wide (show w.heap.size + 3 ≤ w2.heap.size by omega) (Nat.le_refl _))
    have HB4 := Lib.hid (B2.trans (b4.mono B2.size))
    clear o4 r4 b4 q0 q1 q2 q3 q4
    go_wp2_with fail
    (try simp only [Exit.inBlock, Exit.then])
    refine bodyPost_ret (results_cell_row_tmp rfl _ _ (w.heap.size + 2) 28 #[.slice A4 hu.length c4] (0, 0) _ (by rfl) (by simp [World.setCell, Array.getElem?_modify, lb]) Tryz.underlying28 rfl (by kernel_rfl)) rfl ?_
    have ho9 := (HO4.out.setLow (p := ⟨w.heap.size + 2, 0, none⟩) (u := .slice A4 hu.length c4) (by simp only; omega)).wide (B' := w.heap.size) (C' := (w4.setCell ⟨w.heap.size + 2, 0, none⟩ (.slice A4 hu.length c4)).heap.size) (by omega) (by simp)
    exact resLC_own HR.out hc4 ho9.rii ho9 (HB4.out.setCell (by simp only; omega) _)
set_option maxRecDepth 100000 in
set_option maxHeartbeats 4000000 in
theorem specTrimLock_any (m : Mk) (D : Option Addr) (q : Nat) (l : List (List Int)) (A : Option Addr) (c : Nat) (al : List (List Int)) (w : World) (h : RII w D l) (g : RII w A al) :
    Calls Tryz.prog 9 #[.agg #[.int .i64 m.c, .int .i64 m.d, .int .i64 m.s, .int .i64 m.a, .int .i64 m.l], .agg #[.slice D l.length q], .slice A al.length c] w (ResLC w (trimR m l al)) := by
  obtain ⟨w0, hw0⟩ : ∃ w0, w0 = ((w.alloc (.cells #[.int .i64 m.c, .int .i64 m.d, .int .i64 m.s, .int .i64 m.a, .int .i64 m.l] 25)).alloc (.cells #[.slice D l.length q] 28)).alloc (.cells #[.slice none 0 0] 28) := ⟨_, rfl⟩
  have B0 : Below w.heap.size w w0 := by rw [hw0]; exact (((Below.refl w.heap.size w).alloc (Nat.le_refl _) _).alloc (by simp only [World.size_alloc]; omega) _).alloc (by simp only [World.size_alloc]; omega) _
  have hz0 : w0.heap.size = w.heap.size + 3 := by rw [hw0]; simp
  have bm : BoxC w0 w.heap.size 0 [.int .i64 m.c, .int .i64 m.d, .int .i64 m.s, .int .i64 m.a, .int .i64 m.l] := by
    have : BoxC (w.alloc (.cells #[.int .i64 m.c, .int .i64 m.d, .int .i64 m.s, .int .i64 m.a, .int .i64 m.l] 25)) w.heap.size 0 [.int .i64 m.c, .int .i64 m.d, .int .i64 m.s, .int .i64 m.a, .int .i64 m.l] := by simp [BoxC, Go.World.cell?_alloc_at]
    rw [hw0]; exact (this.below ((Below.refl _ _).alloc (Nat.le_refl _) _)).below ((Below.refl _ _).alloc (Nat.le_refl _) _)
  have bp : BoxC w0 (w.heap.size + 1) 0 [.slice D l.length q] := by
    have : BoxC ((w.alloc (.cells #[.int .i64 m.c, .int .i64 m.d, .int .i64 m.s, .int .i64 m.a, .int .i64 m.l] 25)).alloc (.cells #[.slice D l.length q] 28)) (w.heap.size + 1) 0 [.slice D l.length q] := by simp [BoxC, Go.World.cell?_alloc_at]
    rw [hw0]; exact this.below ((Below.refl _ _).alloc (Nat.le_refl _) _)
  have bk : w0.heap[w.heap.size + 2]? = some (.cells #[.slice none 0 0] 28 (0, 0)) := by
    have := heap_alloc_new ((w.alloc (.cells #[.int .i64 m.c, .int .i64 m.d, .int .i64 m.s, .int .i64 m.a, .int .i64 m.l] 25)).alloc (.cells #[.slice D l.length q] 28)) (.cells #[.slice none 0 0] 28)
    rw [hw0]; simpa using this
  have HBM := Lib.hid bm; have HBP := Lib.hid bp; have HBK := Lib.hid bk
  clear bm bp bk
  have HCO := Lib.hid (l14Code_any m D q l A c al w0 (h.below B0) (g.below B0))
  by_cases h1 : allowedC m l al [] = 0
  rotate_left
  · have HR := Lib.hid (trim_no h1)
    have t1 : (allowedC m l al [] != 0) = true := by simpa using h1
    have H1 := Lib.hid h1; clear h1
    go_enter Tryz.func9, Tryz.ntmps9
    go_wp2_with fail
    rw [← hw0]
    refine HCO.out.mono ?_
    rintro e w1 ⟨rfl, b1⟩
    clear hw0
    have lb := (b1.block (w.heap.size + 2) (by omega)).trans HBK.out
    have l0 : w1.cell? ⟨w.heap.size + 2, 0, none⟩ = some (.slice none 0 0) := by simp [World.cell?, lb]
    have l1 : w1.frozen? ⟨w.heap.size + 2, 0, none⟩ = false := by simp [World.frozen?, lb]
    have HBE := Lib.hid (B0.trans (b1.mono B0.size))
    go_wp2_with fail
    (try simp only [Exit.inBlock, Exit.then])
    refine bodyPost_ret (results_cell_row_tmp rfl _ _ (w.heap.size + 2) 28 #[.slice none 0 0] (0, 0) _ (by rfl) (by simp [World.setCell, Array.getElem?_modify, lb]) Tryz.underlying28 rfl (by kernel_rfl)) rfl ?_
    exact resLC_nil HR.out (HBE.out.setCell (by simp only; omega) _)
  have HT := Lib.hid (allowed_trim h1)
  have hal : al.length ≤ 1000000 := by have := HT.out.2.1; omega
  rw [h1] at HCO
  obtain ⟨fs, hfs⟩ : ∃ fs, fs = fitF l al := ⟨_, rfl⟩
  have hfl : fs.length ≤ 1000000 := by rw [hfs]; have := fitF_le l al al.length (Nat.le_refl _); rw [List.take_length] at this; omega
  have HAC := Lib.hid (show allCuts m fs by rw [hfs]; exact HT.out.2.2.2)
  have HFT := Lib.hid (fun (W : World) (hW : Below w.heap.size w W) => by
    have := l14Fitting_any D q l A c al W (h.below hW) (g.below hW) HT.out.2.2.1 hal
    rw [← hfs] at this; exact this)
  by_cases h0 : fs.length = 0
  · have HR := Lib.hid (trim_0 h1 (by rw [← hfs]; exact h0))
    have hz : ((fs.length : Int) == 0) = true := by simp [h0]
    have H0 := Lib.hid (And.intro h1 h0); clear h1 h0 hfs
    go_enter Tryz.func9, Tryz.ntmps9
    go_wp2_with fail
    rw [← hw0]
    refine HCO.out.mono ?_
    rintro e w1 ⟨rfl, b1⟩
    have B1 := B0.trans (b1.mono B0.size)
    have hs1 := b1.size
    obtain ⟨p0, _⟩ := HBP.out.below b1
    clear hw0
    go_wp2_with fail
    refine (HFT.out _ B1).mono ?_
    rintro e w2 ⟨A2, c2, rfl, hc2, r2, b2⟩
    have b12 := b1.trans (b2.mono hs1)
    have hl2 := r2.le
    clear p0 b1 b2 r2
    have lb := (b12.block (w.heap.size + 2) (by omega)).trans HBK.out
    have l0 : w2.cell? ⟨w.heap.size + 2, 0, none⟩ = some (.slice none 0 0) := by simp [World.cell?, lb]
    have l1 : w2.frozen? ⟨w.heap.size + 2, 0, none⟩ = false := by simp [World.frozen?, lb]
    have HBE := Lib.hid (B0.trans (b12.mono B0.size))
    go_wp2_with fail
    (try simp only [Exit.inBlock, Exit.then])
    refine bodyPost_ret (results_cell_row_tmp rfl _ _ (w.heap.size + 2) 28 #[.slice none 0 0] (0, 0) _ (by rfl) (by simp [World.setCell, Array.getElem?_modify, lb]) Tryz.underlying28 rfl (by kernel_rfl)) rfl ?_
    exact resLC_nil HR.out (HBE.out.setCell (by simp only; omega) _)
  · have HR := Lib.hid (show (hullF m.c.toNat m.d.toNat fs, 0) = trimR m l al by rw [hfs]; exact trim_yes h1 (by rw [← hfs]; exact h0))
    have hz : ((fs.length : Int) == 0) = false := by rw [beq_eq_false_iff_ne]; omega
    obtain ⟨hu, hhu⟩ : ∃ hu, hu = hullF m.c.toNat m.d.toNat fs := ⟨_, rfl⟩
    have HHU := Lib.hid (fun (W : World) (A2 : Option Addr) (c2 : Nat) (hr : RII W A2 fs) => by
      have := l04Hull_any m A2 c2 fs W hr HT.out.1 HAC.out (by omega)
      rw [← hhu] at this; exact this)
    rw [← hhu] at HR
    have H0 := Lib.hid (And.intro h1 h0); clear h1 h0 hfs hhu
    go_enter Tryz.func9, Tryz.ntmps9
    go_wp2_with fail
    rw [← hw0]
    refine HCO.out.mono ?_
    rintro e w1 ⟨rfl, b1⟩
    have B1 := B0.trans (b1.mono B0.size)
    have hs1 := b1.size
    obtain ⟨p0, _⟩ := HBP.out.below b1
    clear hw0
    go_wp2_with fail
    refine (HFT.out _ B1).mono ?_
    rintro e w2 ⟨A2, c2, rfl, hc2, r2, b2⟩
    have b12 := b1.trans (b2.mono hs1)
    have B2 := B1.trans (b2.mono B1.size)
    have hl2 := r2.le
    have HH2 := Lib.hid (HHU.out w2 A2 c2 r2)
    have hsz2 := b12.size
    obtain ⟨q0, q1, q2, q3, q4, _⟩ := HBM.out.below b12
    clear p0 b1 b2 r2
    go_wp2_with fail
    refine HH2.out.mono ?_
    rintro e w4 ⟨A4, c4, rfl, hc4, r4, o4, b4⟩
    have lb := (b4.block (w.heap.size + 2) (by omega)).trans ((b12.block (w.heap.size + 2) (by omega)).trans HBK.out)
    have l0 : w4.cell? ⟨w.heap.size + 2, 0, none⟩ = some (.slice none 0 0) := by simp [World.cell?, lb]
    have l1 : w4.frozen? ⟨w.heap.size + 2, 0, none⟩ = false := by simp [World.frozen?, lb]
    have HO4 := Lib.hid (o4.wide (show w.heap.size + 3 ≤ w2.heap.size by omega) (Nat.le_refl _))
    have HB4 := Lib.hid (B2.trans (b4.mono B2.size))
    clear o4 r4 b4 q0 q1 q2 q3 q4
    go_wp2_with fail
    (try simp only [Exit.inBlock, Exit.then])
    refine bodyPost_ret (results_cell_row_tmp rfl _ _ (w.heap.size + 2) 28 #[.slice A4 hu.length c4] (0, 0) _ (by rfl) (by simp [World.setCell, Array.getElem?_modify, lb]) Tryz.underlying28 rfl (by kernel_rfl)) rfl ?_
    have ho9 := (HO4.out.setLow (p := ⟨w.heap.size + 2, 0, none⟩) (u := .slice A4 hu.length c4) (by simp only; omega)).wide (B' := w.heap.size) (C' := (w4.setCell ⟨w.heap.size + 2, 0, none⟩ (.slice A4 hu.length c4)).heap.size) (by omega) (by simp)
    exact resLC_own HR.out hc4 ho9.rii ho9 (HB4.out.setCell (by simp only; omega) _)
end Go.Proofs.YtdedajohkdbdkaaGreat
