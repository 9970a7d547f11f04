/- Contracts of frees, l14Ghosts, CountGhosts. -/
import Derived.Test.YtdedajohkdbdkaaGreatFCount
import Derived.Test.YtdedajohkdbdkaaGreatFOpeners
import Derived.Test.YtdedajohkdbdkaaGreatFFit
namespace Go.Proofs.YtdedajohkdbdkaaGreat
set_option linter.unusedVariables false
open Go.RowKit
set_option maxHeartbeats 1000000 in
theorem freesClo_any (g : Nat) (D : Option Addr) (q : Nat) (l : List (List Int)) (ch : Nat) (d : Int) (w : World) (h : RII w D l) (hc : w.cell? ⟨g, 0, none⟩ = some (.slice D l.length q)) (hch : ch < l.length) :
    Calls Tryz.prog 114 #[.int .i64 (ch : Int), .int .i64 d, .pointer (some ⟨g, 0, none⟩)] w fun e w' => e = .returned (.bool (frees l ch d)) ∧ Below w.heap.size w w' := by
  obtain ⟨b, o, A', c', rfl, hc1, hcc, hr⟩ := h.at_ hch
  have HR := Lib.hid (show frees l ch d = hasI l[ch] d by unfold frees; rw [getD_row hch])
  have i0 : (0 : Int) ≤ (ch : Int) := by omega
  have i1 : (ch : Int) < (l.length : Int) := by omega
  go_enter Tryz.func114, Tryz.ntmps114
  go_wp2_with fail
  refine (sContains_any A' c' l[ch] d w hr).mono ?_
  rintro e w1 ⟨rfl, hw⟩
  subst hw
  go_wp2_with fail
  go_ret
  exact ⟨retB HR.out.symm, Below.refl _ _⟩
theorem freesAl (m : Mk) (g : Nat) (D : Option Addr) (q : Nat) (l : List (List Int)) (w : World) (h : RII w D l) (hc : w.cell? ⟨g, 0, none⟩ = some (.slice D l.length q)) (hl : (l.length : Int) = m.c) : AlB 114 #[.pointer (some ⟨g, 0, none⟩)] (frees l) m w :=
  ⟨enters Tryz.func114 (by kernel_rfl) rfl, fun w' hw ch d h1 _ _ => freesClo_any g D q l ch d w' (h.below hw) (cell_in hw (World.block_lt_of_cell? w _ hc) hc) (by omega)⟩
set_option maxHeartbeats 400000 in
theorem frees_any (D : Option Addr) (q : Nat) (l : List (List Int)) (w : World) :
    Calls Tryz.prog 61 #[.agg #[.slice D l.length q]] w fun e w' => e = .returned (.func (.func 114) #[] #[.pointer (some ⟨w.heap.size, 0, none⟩)]) ∧ w' = w.alloc (.cells #[.slice D l.length q] 28) := by
  go_enter Tryz.func61, Tryz.ntmps61
  go_wp2_with fail
  go_ret
  exact ⟨rfl, rfl⟩
theorem filter_take_succ {α : Type} (p : α → Bool) (xs : List α) (k : Nat) (h : k < xs.length) : (xs.take (k + 1)).filter p = (xs.take k).filter p ++ (if p xs[k] = true then [xs[k]] else []) := by
  rw [List.take_succ_eq_append_getElem h, List.filter_append, List.filter_cons]; rfl
theorem openers_eq (m : Mk) (hm : isMaker m = true) (l : List (List Int)) (hl : isLockF m l = true) : openF m l m.c.toNat [] 1000000 = openers m l := by
  rw [openF_eq m l (lock_inc hl), if_pos (begins_nil m), List.take_of_length_le]; rfl
  have := keys_few m hm (frees l); omega
set_option maxRecDepth 100000 in
set_option maxHeartbeats 4000000 in
theorem l14Ghosts_any (m : Mk) (D : Option Addr) (q : Nat) (l : List (List Int)) (A : Option Addr) (c : Nat) (al : List (List Int)) (w : World) (h : RII w D l) (g : RII w A al) (hl : isLockF m l = true) :
    Calls Tryz.prog 56 #[.agg #[.int .i64 m.c, .int .i64 m.d, .int .i64 m.s, .int .i64 m.a, .int .i64 m.l], .agg #[.slice D l.length q], .slice A al.length c] w (RdII w (ghosts m l al)) := by
  have hm := isLock_mk hl
  have B0 := ((Below.refl w.heap.size w).alloc (Nat.le_refl _) (.cells #[.int .i64 m.c, .int .i64 m.d, .int .i64 m.s, .int .i64 m.a, .int .i64 m.l] 25)).alloc (by simp only [World.size_alloc]; omega) (.cells #[.slice D l.length q] 28)
  have HOP := l04Openers_go m hm l (isLock_len hl) (lock_inc hl) m.c.toNat [] 1000000 D q none 0 ((w.alloc (.cells #[.int .i64 m.c, .int .i64 m.d, .int .i64 m.s, .int .i64 m.a, .int .i64 m.l] 25)).alloc (.cells #[.slice D l.length q] 28)) (h.below B0) RI.nil (Nat.le_refl _) (by have := isLock_len hl; simp; omega) rfl (by omega) (by omega)
  rw [openers_eq m hm l hl] at HOP
  have HO := Lib.hid HOP; clear HOP
  have HGH := Lib.hid (show ghosts m l al = (openers m l).filter (fun k => !hasL al k) from rfl)
  have HFEW := Lib.hid (keys_few m hm (frees l))
  obtain ⟨ls, hls⟩ : ∃ ls, ls = openers m l := ⟨_, rfl⟩
  have HL := Lib.hid (show ls.length ≤ 262144 by rw [hls]; exact HFEW.out)
  rw [← hls] at HO HGH
  clear hls HFEW
  go_enter Tryz.func56, Tryz.ntmps56
  go_wp2_with fail
  refine HO.out.mono ?_
  rintro e w1 ⟨A1, c1, us1, rfl, hc1, hr1, hk1, b1, _⟩
  have B1 := B0.trans (b1.mono B0.size)
  have hrr := hk1.rii hr1
  have hle := hrr.le
  have s1 : w.heap.size + 2 ≤ w1.heap.size := by have := b1.size; simp only [World.size_alloc] at this; omega
  clear hk1 hr1
  go_wp2_with fail
  go_loopw [8, 9] (fun v i wr => ∃ (k : Nat) (us : List Value), k ≤ ls.length ∧ i = .int .i64 k ∧ OV wr w1.heap.size 33 v us ∧ RowsR w1 us ((ls.take k).filter (fun k => !hasL al k)) ∧ Below w1.heap.size w1 wr) (fun _ i _ => ls.length - (intOf i).toNat)
  case atStart => exact ⟨0, [], by omega, rfl, OV.new0 (Nat.le_refl _), ⟨rfl, fun j hj => by simp at hj⟩, (Below.refl _ _).alloc (Nat.le_refl _) _⟩
  case round =>
    obtain ⟨k, us, hk, rfl, ho, hro, hb⟩ := hrel
    have HRO := Lib.hid hro; clear hro
    have Bw := B1.trans (hb.mono B1.size)
    have HLE := Lib.hid (show us.length ≤ 1000000 by
      have h1 := HRO.out.1; have h2 := List.length_filter_le (fun k => !hasL al k) (ls.take k); have h3 := HL.out; rw [h1]; simp only [List.length_take] at h2; omega)
    obtain ⟨Av, cv, hv0, hcv, hrv⟩ := ho.rows (HRO.out.below hb)
    by_cases hlt : k < ls.length
    · obtain ⟨b, o, A', c', rfl, hc0, hcc, hr0⟩ := hrr.at_ hlt
      have hc := cell_in hb (World.block_lt_of_cell? w1 _ hc0) hc0
      have i0 : (0 : Int) ≤ (k : Int) := by omega
      have i1 : (k : Int) < (ls.length : Int) := by omega
      have HS := Lib.hid (filter_take_succ (fun k => !hasL al k) ls k hlt)
      have HH := l14Has_any A A' c c' al ls[k] wr (g.below Bw) (hr0.below hb)
      cases hp : hasL al ls[k] with
      | true =>
        have HT := Lib.hid (show (ls.take (k + 1)).filter (fun k => !hasL al k) = (ls.take k).filter (fun k => !hasL al k) by rw [HS.out, hp]; simp)
        rw [hp] at HH
        have HHH := Lib.hid HH; clear HH
        clear hv0 hrv hcv
        go_wp2_with fail
        refine HHH.out.mono ?_
        rintro e w2 ⟨rfl, n2, rfl⟩
        go_wp2_with fail
        go_roundw
        case rel => exact ⟨k + 1, us, by omega, by go_num, ho, by rw [HT.out]; exact HRO.out, belowD hb n2⟩
        case measure => simp [intOf]; omega
      | false =>
        have HT := Lib.hid (show (ls.take (k + 1)).filter (fun k => !hasL al k) = (ls.take k).filter (fun k => !hasL al k) ++ [ls[k]] by rw [HS.out, hp]; simp)
        rw [hp] at HH
        have HHH := Lib.hid HH; clear HH
        clear hv0 hrv hcv
        have hcb := World.block_lt_of_cell? wr _ hc
        simp only at hcb
        go_wp2_with fail
        refine HHH.out.mono ?_
        rintro e w2 ⟨rfl, n2, rfl⟩
        generalize hw2 : wr.drewN n2 = w2 at *
        have ho2 : OV w2 w1.heap.size 33 u8 us := by subst hw2; exact ho
        have hc2 : w2.cell? ⟨b, o + k, none⟩ = some (.slice A' ls[k].length c') := by subst hw2; exact hc
        have hb2 : Below w1.heap.size w1 w2 := by subst hw2; exact belowD hb n2
        have hsz2 := hb2.size
        clear hw2 hc
        have hul := HLE.out
        go_wp2_with (at_builtin; refine wpList_app1 _ rfl _ _ _ rfl w1.heap.size 33 _ 24 Tryz.underlying26 info_sl rfl (by omega) _ _ rfl (ho2.alloc _) _ _ rfl (one_cell _ _ _) rfl (by omega) (by simp; omega) ?_; intro v' w4 ho4 hg4 hn4 hat4)
        go_roundw
        case rel => exact ⟨k + 1, us ++ [.slice A' ls[k].length c'], by omega, by go_num, ho4, by rw [HT.out]; exact HRO.out.snoc hcc hr0, (ho2.alloc _).own (Nat.le_refl _) (hb2.alloc (by omega) _) hg4 (by simp; omega)⟩
        case measure => simp [intOf]; omega
    · obtain rfl : k = ls.length := by omega
      have HT := Lib.hid (show ghosts m l al = (ls.take ls.length).filter (fun k => !hasL al k) by rw [HGH.out, List.take_length])
      rw [← HT.out] at hv0 hcv hrv
      subst hv0
      go_wp2_with fail
      go_ret
      exact ⟨Av, cv, rfl, hcv, hrv, Bw⟩
/-! ### CountGhosts -/
def cGhostsR (m : Mk) (l al : List (List Int)) : Int × Int := if allowedC m l al [] = 0 then (((ghosts m l al).length : Int), 0) else (0, allowedC m l al [])
theorem cghosts_no {m : Mk} {l al : List (List Int)} (h : allowedC m l al [] ≠ 0) : (0, allowedC m l al []) = cGhostsR m l al := by unfold cGhostsR; rw [if_neg h]
theorem cghosts_yes {m : Mk} {l al : List (List Int)} (h : allowedC m l al [] = 0) : (((ghosts m l al).length : Int), 0) = cGhostsR m l al := by unfold cGhostsR; rw [if_pos h]
theorem allowed_lens' {m : Mk} {l al : List (List Int)} (h : allowedC m l al [] = 0) : ∀ k (hk : k < al.length), al[k].length ≤ l.length := by
  obtain ⟨h1, h2, h3⟩ := allowedC_0 h
  rw [List.append_nil] at h3
  intro k hk
  unfold areKeysF at h3; rw [List.all_eq_true] at h3
  have := isKey_len (h3 _ (List.getElem_mem hk)); have := isLock_len h1; omega
set_option maxRecDepth 100000 in
set_option maxHeartbeats 4000000 in
theorem implCountGhosts_any (m : Mk) (D : Option Addr) (q : Nat) (l : List (List Int)) (A : Option Addr) (c : Nat) (al : List (List Int)) (w : World) (h : RII w D l) (g : RII w A al) :
    Calls Tryz.prog 16 #[.agg #[.int .i64 m.c, .int .i64 m.d, .int .i64 m.s, .int .i64 m.a, .int .i64 m.l], .agg #[.slice D l.length q], .slice A al.length c] w (ResNC w (cGhostsR m l al)) := by
  have B0 := ((Below.refl w.heap.size w).alloc (Nat.le_refl _) (.cells #[.int .i64 m.c, .int .i64 m.d, .int .i64 m.s, .int .i64 m.a, .int .i64 m.l] 25)).alloc (by simp only [World.size_alloc]; omega) (.cells #[.slice D l.length q] 28)
  have bx : BoxC ((w.alloc (.cells #[.int .i64 m.c, .int .i64 m.d, .int .i64 m.s, .int .i64 m.a, .int .i64 m.l] 25)).alloc (.cells #[.slice D l.length q] 28)) (w.heap.size + 1) 0 [.slice D l.length q] := by simp [BoxC, Go.World.cell?_alloc_at]
  have bm : BoxC (w.alloc (.cells #[.int .i64 m.c, .int .i64 m.d, .int .i64 m.s, .int .i64 m.a, .int .i64 m.l] 25)) w.heap.size 0 [.int .i64 m.c, .int .i64 m.d, .int .i64 m.s, .int .i64 m.a, .int .i64 m.l] := by simp [BoxC, Go.World.cell?_alloc_at]
  have HLL := Lib.hid (allowedCode_any m D q l A c al none 0 [] ((w.alloc (.cells #[.int .i64 m.c, .int .i64 m.d, .int .i64 m.s, .int .i64 m.a, .int .i64 m.l] 25)).alloc (.cells #[.slice D l.length q] 28)) (h.below B0) (g.below B0) RII.nil (by simp))
  by_cases h1 : allowedC m l al [] = 0
  · have hlk := (allowedC_0 h1).1
    have hm := isLock_mk hlk
    have HY := Lib.hid (cghosts_yes h1)
    have hll := Lib.hid (allowed_lens' h1)
    have hal : al.length ≤ 1000000 := by have := (allowedC_0 h1).2.1; omega
    have HGL := Lib.hid (ghosts_len (l := l) (al := al) (show 0 ≤ m.c by have := (mk_bounds hm).1; omega) (by have := (allowedC_0 h1).2.2; rwa [List.append_nil] at this))
    have HFEW := Lib.hid (keys_few m hm (frees l))
    have HFIT := Lib.hid (show (fitF l al).length ≤ 1000000 by have := fitF_le l al al.length (Nat.le_refl _); rw [List.take_length] at this; omega)
    rw [h1] at HLL
    have H1 := Lib.hid h1; clear h1
    have HK := Lib.hid hlk; clear hlk
    have HM := Lib.hid hm; clear hm
    obtain ⟨nk, hnk⟩ : ∃ nk : Nat, nk = (keysG m (frees l) [] m.c.toNat [] false).length := ⟨_, rfl⟩
    obtain ⟨nf, hnf⟩ : ∃ nf : Nat, nf = (fitF l al).length := ⟨_, rfl⟩
    have HNK := Lib.hid hnk
    have HNF := Lib.hid hnf
    have e1 : nk ≤ 262144 := by rw [hnk]; exact HFEW.out
    have e2 : nf ≤ 1000000 := by rw [hnf]; exact HFIT.out
    clear hnk hnf
    go_enter Tryz.func16, Tryz.ntmps16
    go_wp2_with fail
    refine HLL.out.mono ?_
    rintro e w1 ⟨rfl, b1⟩
    have B1 := B0.trans (b1.mono B0.size)
    have bM : Below (w.alloc (.cells #[.int .i64 m.c, .int .i64 m.d, .int .i64 m.s, .int .i64 m.a, .int .i64 m.l] 25)).heap.size (w.alloc (.cells #[.int .i64 m.c, .int .i64 m.d, .int .i64 m.s, .int .i64 m.a, .int .i64 m.l] 25)) w1 := ((Below.refl _ _).alloc (Nat.le_refl _) (.cells #[.slice D l.length q] 28)).trans (b1.mono (by simp only [World.size_alloc]; omega))
    have KS := Lib.hid (show ∀ w' : World, Below w1.heap.size w1 w' → ((w'.cell? ⟨w.heap.size, 0, none⟩ = some (.int .i64 m.c) ∧ w'.cell? ⟨w.heap.size, 1, none⟩ = some (.int .i64 m.d) ∧ w'.cell? ⟨w.heap.size, 2, none⟩ = some (.int .i64 m.s) ∧ w'.cell? ⟨w.heap.size, 3, none⟩ = some (.int .i64 m.a) ∧ w'.cell? ⟨w.heap.size, 4, none⟩ = some (.int .i64 m.l) ∧ True) ∧ (w'.cell? ⟨w.heap.size + 1, 0, none⟩ = some (.slice D l.length q) ∧ True)) from fun w' h2 => ⟨(bm.below bM).below h2, (bx.below b1).below h2⟩)
    have FIT := Lib.hid (fun (W : World) (hW : Below w1.heap.size w1 W) => allowedOpeners_any D q l A c al W (h.below (B1.trans (hW.mono B1.size))) (g.below (B1.trans (hW.mono B1.size))) hll.out hal)
    have FAL := Lib.hid (fun (W : World) (hW : Below w1.heap.size w1 W) => freesAl m W.heap.size D q l (W.alloc (.cells #[.slice D l.length q] 28)) ((h.below (B1.trans (hW.mono B1.size))).alloc _) (by simp) (isLock_len HK.out))
    have CNT := Lib.hid (fun (W : World) (b : Nat) (hW : AlB 114 #[.pointer (some ⟨b, 0, none⟩)] (frees l) m W) => countKeys_any m HM.out 114 #[.pointer (some ⟨b, 0, none⟩)] (frees l) W hW)
    have FIN : ((nk : Int) - (nf : Int), 0) = cGhostsR m l al := by rw [← HY.out, HNK.out, HNF.out, ← HGL.out]; rfl
    have HFIN := Lib.hid FIN
    clear FIN
    go_wp2_with fail
    refine wp_region_held_drew (S := (fun w' => ((w'.cell? ⟨w.heap.size, 0, none⟩ = some (.int .i64 m.c) ∧ w'.cell? ⟨w.heap.size, 1, none⟩ = some (.int .i64 m.d) ∧ w'.cell? ⟨w.heap.size, 2, none⟩ = some (.int .i64 m.s) ∧ w'.cell? ⟨w.heap.size, 3, none⟩ = some (.int .i64 m.a) ∧ w'.cell? ⟨w.heap.size, 4, none⟩ = some (.int .i64 m.l) ∧ True) ∧ (w'.cell? ⟨w.heap.size + 1, 0, none⟩ = some (.slice D l.length q) ∧ True)))) (by kernel_rfl) (KS.out _ (belowDrew0 _)) (fun hHeld => ?_)
    refine takeD (i := 0) (some 16) (.agg #[.int .i64 m.c, .int .i64 m.d, .int .i64 m.s, .int .i64 m.a, .int .i64 m.l]) rfl (by kernel_rfl) (by kernel_rfl) (by kernel_rfl) (by kernel_rfl) (fun _ _ _ h => h) (by assumption) (Or.inl ⟨by rfl, fun w hSw => by (try dsimp only at hSw); go_simp⟩) ?_
    simp only [Act.put, List.setIfInBounds_toArray, List.set_cons_zero, List.set_cons_succ]
    refine takeD (i := 1) (some 17) (.agg #[.slice D l.length q]) rfl (by kernel_rfl) (by kernel_rfl) (by kernel_rfl) (by kernel_rfl) (fun _ _ _ h => h) (by assumption) (Or.inl ⟨by rfl, fun w hSw => by (try dsimp only at hSw); go_simp⟩) ?_
    simp only [Act.put, List.setIfInBounds_toArray, List.set_cons_zero, List.set_cons_succ]
    refine takeD (i := 4) (some 20) (.agg #[.slice D l.length q]) rfl (by kernel_rfl) (by kernel_rfl) (by kernel_rfl) (by kernel_rfl) (fun _ _ _ h => h) (by assumption) (Or.inl ⟨by rfl, fun w hSw => by (try dsimp only at hSw); go_simp⟩) ?_
    simp only [Act.put, List.setIfInBounds_toArray, List.set_cons_zero, List.set_cons_succ]
    refine takeD (i := 5) (some 21) (.slice A al.length c) rfl (by kernel_rfl) (by kernel_rfl) (by kernel_rfl) (by kernel_rfl) (fun _ _ _ h => h) (by assumption) (Or.inl ⟨by rfl, fun w hSw => by (try dsimp only at hSw); go_simp⟩) ?_
    simp only [Act.put, List.setIfInBounds_toArray, List.set_cons_zero, List.set_cons_succ]
    have bC := belowDrew0 w1
    refine wpAnyH_ready (rs := [2]) (by kernel_rfl) (by simp) (AllReadyH.cons rfl (fun K hK => ?_) AllReadyH.nil)
    go_simp
    refine (frees_any D q l _).mono ?_
    rintro e w2 ⟨rfl, rfl⟩
    have HAL := Lib.hid (FAL.out _ bC)
    have bC2 := bC.alloc bC.size (.cells #[.slice D l.length q] 28)
    generalize w1.drew.alloc (.cells #[.slice D l.length q] 28) = w2 at *
    have HHeld := KS.out _ bC2
    refine hK.out _ _ HHeld (fun _ => ?_)
    clear hK K
    try simp only [Act.put, List.setIfInBounds_toArray, List.set_cons_zero, List.set_cons_succ]
    have HC := CNT.out _ _ HAL.out
    rw [← HNK.out] at HC
    have HCC := Lib.hid HC; clear HC
    refine wpAnyH_ready (rs := [3]) (by kernel_rfl) (by simp) (AllReadyH.cons rfl (fun K hK => ?_) AllReadyH.nil)
    go_simp
    refine HCC.out.mono ?_
    rintro e w3 ⟨rfl, b3⟩
    have bC3 := bC2.trans (b3.mono bC2.size)
    have HHeld := KS.out _ bC3
    refine hK.out _ _ HHeld (fun _ => ?_)
    clear hK K
    try simp only [Act.put, List.setIfInBounds_toArray, List.set_cons_zero, List.set_cons_succ]
    refine wpAnyH_ready (rs := [6]) (by kernel_rfl) (by simp) (AllReadyH.cons rfl (fun K hK => ?_) AllReadyH.nil)
    go_simp
    refine (FIT.out _ bC3).mono ?_
    rintro e w4 ⟨A4, c4, rfl, hc4, r4, b4⟩
    have bC4 := bC3.trans (b4.mono bC3.size)
    rw [← HNF.out]
    have HHeld := KS.out _ bC4
    refine hK.out _ _ HHeld (fun _ => ?_)
    clear hK K
    try simp only [Act.put, List.setIfInBounds_toArray, List.set_cons_zero, List.set_cons_succ]
    refine takeD (i := 7) (some 23) (.int .i64 (nf : Int)) rfl (by kernel_rfl) (by kernel_rfl) (by kernel_rfl) (by kernel_rfl) (fun _ _ _ h => h) (by assumption) (Or.inl ⟨by rfl, fun w hSw => by (try dsimp only at hSw); go_simp⟩) ?_
    simp only [Act.put, List.setIfInBounds_toArray, List.set_cons_zero, List.set_cons_succ]
    refine takeD (i := 8) (some 24) (.int .i64 ((nk : Int) - (nf : Int))) rfl (by kernel_rfl) (by kernel_rfl) (by kernel_rfl) (by kernel_rfl) (fun _ _ _ h => h) (by assumption) (Or.inl ⟨by rfl, fun w hSw => by (try dsimp only at hSw); go_simp; (rw [IntKind.wrap_i64]; omega)⟩) ?_
    simp only [Act.put, List.setIfInBounds_toArray, List.set_cons_zero, List.set_cons_succ]
    refine takeD (i := 9) (some 6) (.int .i64 ((nk : Int) - (nf : Int))) rfl (by kernel_rfl) (by kernel_rfl) (by kernel_rfl) (by kernel_rfl) (fun _ _ _ h => h) (by assumption) (Or.inl ⟨by rfl, fun w hSw => by (try dsimp only at hSw); go_simp⟩) ?_
    simp only [Act.put, List.setIfInBounds_toArray, List.set_cons_zero, List.set_cons_succ]
    refine takeD (i := 10) (some 7) (.int .i64 0) rfl (by kernel_rfl) (by kernel_rfl) (by kernel_rfl) (by kernel_rfl) (fun _ _ _ h => h) (by assumption) (Or.inl ⟨by rfl, fun w hSw => by (try dsimp only at hSw); go_simp⟩) ?_
    simp only [Act.put, List.setIfInBounds_toArray, List.set_cons_zero, List.set_cons_succ]
    refine wpAnyH_done (by kernel_rfl) ?_ _
    go_wp2_with fail
    go_ret2
    exact resNC_of HFIN.out (B1.trans (bC4.mono B1.size))
  · have HN := Lib.hid (cghosts_no h1)
    have t1 : (allowedC m l al [] != 0) = true := by simpa using h1
    have H1 := Lib.hid h1; clear h1
    go_enter Tryz.func16, Tryz.ntmps16
    go_wp2_with fail
    refine HLL.out.mono ?_
    rintro e w1 ⟨rfl, b1⟩
    go_wp2_with fail
    go_ret2
    exact resNC_of HN.out (B0.trans (b1.mono B0.size))
end Go.Proofs.YtdedajohkdbdkaaGreat
