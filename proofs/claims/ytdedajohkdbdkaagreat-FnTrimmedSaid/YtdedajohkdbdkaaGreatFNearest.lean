/- Contracts of NearestGhost. -/
import Derived.Test.YtdedajohkdbdkaaGreatFDist
namespace Go.Proofs.YtdedajohkdbdkaaGreat
set_option linter.unusedVariables false
open Go.RowKit
/-- the nearest ghost so far lies in the variables at gn and gl -/
structure RNearV (gn gl B : Nat) (s : List Int × Int) (w : World) (F : Nat → Prop) (v : Value) : Prop where
  own : OV w B 2 v (ints s.1)
  fv : ∀ x, v.ownBlock = some x → F x ∧ x ≠ gn ∧ x ≠ gl
  cn : w.cell? ⟨gn, 0, none⟩ = some v
  zn : w.frozen? ⟨gn, 0, none⟩ = false
  cl : w.cell? ⟨gl, 0, none⟩ = some (.int .i64 s.2)
  zl : w.frozen? ⟨gl, 0, none⟩ = false
  ne : gn ≠ gl
  fgn : F gn
  fgl : F gl
  fl : ∀ x, F x → x < w.heap.size
  fb : ∀ x, F x → B ≤ x
def RNear (gn gl B : Nat) (s : List Int × Int) (w : World) (F : Nat → Prop) : Prop := ∃ v, RNearV gn gl B s w F v
theorem RNear.lt (gn gl B : Nat) (s : List Int × Int) (w : World) (F : Nat → Prop) (h : RNear gn gl B s w F) : ∀ x, F x → x < w.heap.size := by obtain ⟨v, h⟩ := h; exact h.fl
theorem RNear.fr (gn gl B : Nat) (s : List Int × Int) (w w' : World) (F : Nat → Prop) (h : RNear gn gl B s w F) (k : KeepF (fun x => ¬ F x) w w') : RNear gn gl B s w' F := by
  obtain ⟨v, h⟩ := h
  have hn : ∀ x, F x → ¬ ¬ F x := fun x hx e => e hx
  have a1 := h.fl gn h.fgn; have a2 := h.fl gl h.fgl
  exact ⟨v, h.own.keepF k (fun x e => hn x (h.fv x e).1), h.fv, (k.cell (p := ⟨gn, 0, none⟩) a1 (hn _ h.fgn)).trans h.cn, (k.frozen (p := ⟨gn, 0, none⟩) a1 (hn _ h.fgn)).trans h.zn,
    (k.cell (p := ⟨gl, 0, none⟩) a2 (hn _ h.fgl)).trans h.cl, (k.frozen (p := ⟨gl, 0, none⟩) a2 (hn _ h.fgl)).trans h.zl, h.ne, h.fgn, h.fgl, fun x hx => by have := h.fl x hx; have := k.size; omega, h.fb⟩
theorem RNearV.next {gn gl B : Nat} {s : List Int × Int} {w w4 : World} {F : Nat → Prop} {v u : Value} {key : List Int} {n : Int} (h : RNearV gn gl B s w F v) (b4 : Below w.heap.size w w4) (hu : OV w4 w.heap.size 2 u (ints key)) :
    RNear gn gl B (key, n) ((w4.setCell ⟨gn, 0, none⟩ u).setCell ⟨gl, 0, none⟩ (.int .i64 n)) (fun x => F x ∨ (w.heap.size ≤ x ∧ x < w4.heap.size)) ∧ KeepF F w ((w4.setCell ⟨gn, 0, none⟩ u).setCell ⟨gl, 0, none⟩ (.int .i64 n)) := by
  have a1 := h.fl gn h.fgn; have a2 := h.fl gl h.fgl
  have hB := h.fb gn h.fgn
  have s4 := b4.size
  have k6 : KeepF (fun x => x = gn ∨ x = gl) w4 ((w4.setCell ⟨gn, 0, none⟩ u).setCell ⟨gl, 0, none⟩ (.int .i64 n)) := ((KeepF.refl (fun x => x = gn ∨ x = gl) w4).setCell (p := ⟨gn, 0, none⟩) (.inl (.inl rfl)) _).setCell (p := ⟨gl, 0, none⟩) (.inl (.inr rfl)) _
  have cn4 := cell_in b4 (by simp only; omega) h.cn
  have cl4 := cell_in b4 (by simp only; omega) h.cl
  have zn4 := (b4.frozen (p := ⟨gn, 0, none⟩) (by simp only; omega)).trans h.zn
  have zl4 := (b4.frozen (p := ⟨gl, 0, none⟩) (by simp only; omega)).trans h.zl
  have hne := h.ne
  have c1 := World.cell?_setCell_same w4 ⟨gn, 0, none⟩ u cn4
  have c2 : (w4.setCell ⟨gn, 0, none⟩ u).cell? ⟨gl, 0, none⟩ = some (.int .i64 s.2) := by rw [World.cell?_setCell_far _ _ _ _ (by simp only; omega)]; exact cl4
  have hs : ((w4.setCell ⟨gn, 0, none⟩ u).setCell ⟨gl, 0, none⟩ (.int .i64 n)).heap.size = w4.heap.size := by simp [World.setCell]
  refine ⟨⟨u, (hu.keepF k6 (fun x e => by have := (hu.lt x e).1; omega)).mono (by omega), fun x e => by have := hu.lt x e; exact ⟨.inr this, by omega, by omega⟩, ?_, by simpa using zn4, World.cell?_setCell_same _ _ _ c2, by simpa using zl4, hne, .inl h.fgn, .inl h.fgl, fun x hx => ?_, fun x hx => ?_⟩, ?_⟩
  · rw [World.cell?_setCell_far _ _ _ _ (by simp only; omega)]; exact c1
  · rw [hs]; rcases hx with hx | hx
    · have := h.fl x hx; omega
    · exact hx.2
  · rcases hx with hx | hx
    · exact h.fb x hx
    · omega
  · exact (KeepF.ofBelow (F := F) b4).trans k6 (fun x _ e => by rcases e with e | e <;> subst e; exact h.fgn; exact h.fgl)
set_option maxRecDepth 100000 in
set_option maxHeartbeats 4000000 in
theorem nearClo_any (gk gn gl B : Nat) (K : Option Addr) (e : Nat) (kk : List Int) (s : List Int × Int) (A : Option Addr) (c : Nat) (key : List Int) (w : World) (F : Nat → Prop) (h : RNear gn gl B s w F) (hk : w.cell? ⟨gk, 0, none⟩ = some (.slice K kk.length e)) (hkk : RI w K kk)
    (hr : RI w A key) (hl : key.length ≤ kk.length) (hn : kk.length ≤ 1000) (hx : small key) (hy : small kk) :
    Calls Tryz.prog 52 #[.slice A key.length c, .pointer (some ⟨gk, 0, none⟩), .pointer (some ⟨gl, 0, none⟩), .pointer (some ⟨gn, 0, none⟩)] w (VisPost (visN kk) (RNear gn gl B) s key w F) := by
  have HH := Lib.hid h
  obtain ⟨v, hV⟩ := h
  have HV := Lib.hid hV
  have q1 := hV.cl
  have HD := Lib.hid (distanceOf_any A K c e key kk w hr hkk hl (by omega) hx hy)
  have HR := Lib.hid hr
  have hkn : key.length ≤ 1073741824 := by omega
  obtain ⟨dd, hdd⟩ : ∃ dd, dd = distF key kk := ⟨_, rfl⟩
  rw [← hdd] at HD
  have HDD := Lib.hid hdd
  have hw1 : ∀ n, Below w.heap.size w (w.drewN n) := fun n => belowD (Below.refl _ _) n
  have HW1 := Lib.hid hw1
  clear hV hdd hx hy hr hkk hl hw1
  by_cases hc : s.2 < 0 ∨ dd < s.2
  · have HE := Lib.hid (show visN kk s key = (true, (key, dd)) by unfold visN; rw [← HDD.out, if_pos hc])
    go_enter Tryz.func52, Tryz.ntmps52
    go_wp2_with fail
    refine HD.out.mono ?_
    rintro e w1 ⟨rfl, n1, hw1⟩
    have b1 : Below w.heap.size w w1 := by rw [hw1]; exact HW1.out n1
    have Hb1 := Lib.hid b1
    have p1 : w1.cell? ⟨gl, 0, none⟩ = some (.int .i64 s.2) := by rw [hw1]; exact q1
    have HCL := Lib.hid (sClone_any A c key w1 (RI.below HR.out b1) hkn)
    clear b1 hw1
    by_cases h1 : s.2 < 0
    · skip
      go_wp2_with fail
      refine HCL.out.mono ?_
      rintro e w4 ⟨A4, c4, rfl, hc4, hr4, ho4, b4⟩
      have Hb4 := Lib.hid (Hb1.out.trans (b4.mono Hb1.out.size))
      have HNX := Lib.hid (HV.out.next (n := dd) Hb4.out (ho4.1.mono Hb1.out.size))
      have cn4 := cell_in Hb4.out (by have := HV.out.fl gn HV.out.fgn; simp only; omega) HV.out.cn
      have cl4 := cell_in Hb4.out (by have := HV.out.fl gl HV.out.fgl; simp only; omega) HV.out.cl
      have zn4 := (Hb4.out.frozen (p := ⟨gn, 0, none⟩) (by have := HV.out.fl gn HV.out.fgn; simp only; omega)).trans HV.out.zn
      have zl4 := (Hb4.out.frozen (p := ⟨gl, 0, none⟩) (by have := HV.out.fl gl HV.out.fgl; simp only; omega)).trans HV.out.zl
      have cl5 : (w4.setCell ⟨gn, 0, none⟩ (.slice A4 key.length c4)).cell? ⟨gl, 0, none⟩ = some (.int .i64 s.2) := by rw [World.cell?_setCell_far _ _ _ _ (by have := HV.out.ne; simp only; omega)]; exact cl4
      clear hr4 ho4 b4
      go_wp2_with fail
      go_ret
      unfold VisPost
      rw [HE.out]
      exact ⟨rfl, _, HNX.out.1, HNX.out.2, fun x hx => by rcases hx with h | h; exact .inl h; exact .inr h.1⟩
    · have h1' : decide (s.2 < 0) = false := decide_eq_false h1
      have h2 : dd < s.2 := by omega
      go_wp2_with fail
      refine HCL.out.mono ?_
      rintro e w4 ⟨A4, c4, rfl, hc4, hr4, ho4, b4⟩
      have Hb4 := Lib.hid (Hb1.out.trans (b4.mono Hb1.out.size))
      have HNX := Lib.hid (HV.out.next (n := dd) Hb4.out (ho4.1.mono Hb1.out.size))
      have cn4 := cell_in Hb4.out (by have := HV.out.fl gn HV.out.fgn; simp only; omega) HV.out.cn
      have cl4 := cell_in Hb4.out (by have := HV.out.fl gl HV.out.fgl; simp only; omega) HV.out.cl
      have zn4 := (Hb4.out.frozen (p := ⟨gn, 0, none⟩) (by have := HV.out.fl gn HV.out.fgn; simp only; omega)).trans HV.out.zn
      have zl4 := (Hb4.out.frozen (p := ⟨gl, 0, none⟩) (by have := HV.out.fl gl HV.out.fgl; simp only; omega)).trans HV.out.zl
      have cl5 : (w4.setCell ⟨gn, 0, none⟩ (.slice A4 key.length c4)).cell? ⟨gl, 0, none⟩ = some (.int .i64 s.2) := by rw [World.cell?_setCell_far _ _ _ _ (by have := HV.out.ne; simp only; omega)]; exact cl4
      clear hr4 ho4 b4
      go_wp2_with fail
      go_ret
      unfold VisPost
      rw [HE.out]
      exact ⟨rfl, _, HNX.out.1, HNX.out.2, fun x hx => by rcases hx with h | h; exact .inl h; exact .inr h.1⟩
  · have HE := Lib.hid (show visN kk s key = (true, s) by unfold visN; rw [← HDD.out, if_neg hc])
    have h1 : decide (s.2 < 0) = false := decide_eq_false (by omega)
    have h2 : decide (dd < s.2) = false := decide_eq_false (by omega)
    clear hc
    go_enter Tryz.func52, Tryz.ntmps52
    go_wp2_with fail
    refine HD.out.mono ?_
    rintro e w1 ⟨rfl, n1, hw1⟩
    have b1 : Below w.heap.size w w1 := by rw [hw1]; exact HW1.out n1
    have Hb1 := Lib.hid b1
    have p1 : w1.cell? ⟨gl, 0, none⟩ = some (.int .i64 s.2) := by rw [hw1]; exact q1
    clear b1 hw1
    go_wp2_with fail
    go_ret
    unfold VisPost
    rw [HE.out]
    exact ⟨rfl, F, RNear.fr _ _ _ _ _ _ _ HH.out (KeepF.ofBelow Hb1.out), KeepF.ofBelow Hb1.out, fun x hx => .inl hx⟩
theorem nearVis (m : Mk) (hm : isMaker m = true) (l : List (List Int)) (gk gn gl B : Nat) (K : Option Addr) (e : Nat) (kk : List Int) (w : World) (F : Nat → Prop) (hk : w.cell? ⟨gk, 0, none⟩ = some (.slice K kk.length e)) (hgk : ¬ F gk) (hkk : ∀ w', KeepF F w w' → RI w' K kk)
    (hl : (kk.length : Int) = m.c) (hy : small kk) : VisOK 52 #[.pointer (some ⟨gk, 0, none⟩), .pointer (some ⟨gl, 0, none⟩), .pointer (some ⟨gn, 0, none⟩)] (visN kk) (RNear gn gl B) (fun _ => True) (fun k => k ∈ openers m l) w F :=
  ⟨enters Tryz.func52 (by kernel_rfl) rfl, fun _ _ _ _ _ => trivial, RNear.lt gn gl B, RNear.fr gn gl B, fun s w' G A c key _ hkp hR hG hp hc hr hGA => by
    have hlt := World.block_lt_of_cell? w _ hk
    have hmb := mk_bounds hm
    have hq := (mem_openers (by have := hmb.1; omega)).1 hp
    have hs := key_small hm hq.1
    have := hmb.2.1
    exact nearClo_any gk gn gl B K e kk s A c key w' G hR ((hkp.cell (p := ⟨gk, 0, none⟩) hlt hgk).trans hk) (hkk w' hkp) hr (by omega) (by omega) hs.2 hy⟩
def nearR (m : Mk) (l al : List (List Int)) (kk : List Int) : List Int × Int := if allowedC m l al [kk] = 0 then nearestL kk (ghosts m l al) else ([], allowedC m l al [kk])
theorem near_no {m : Mk} {l al : List (List Int)} {kk : List Int} (h : allowedC m l al [kk] ≠ 0) : ([], allowedC m l al [kk]) = nearR m l al kk := by unfold nearR; rw [if_neg h]
theorem near_yes {m : Mk} {l al : List (List Int)} {kk : List Int} (h : allowedC m l al [kk] = 0) : nearestL kk (ghosts m l al) = nearR m l al kk := by unfold nearR; rw [if_pos h]
theorem near_key {m : Mk} {l al : List (List Int)} {kk : List Int} (h : allowedC m l al [kk] = 0) : isLockF m l = true ∧ (kk.length : Int) = m.c ∧ small kk := by
  obtain ⟨h1, h2, h3⟩ := allowedC_0 h
  rw [keys_app, Bool.and_eq_true] at h3
  have h4 : isKey m kk = true := by have := h3.2; simpa [areKeysF] using this
  exact ⟨h1, key_small (isLock_mk h1) h4⟩
theorem ghost_key {m : Mk} {l al : List (List Int)} {x : List Int} (hl : isLockF m l = true) (h : x ∈ ghosts m l al) : (x.length : Int) = m.c ∧ small x := by
  have hm := isLock_mk hl
  have h1 := (List.mem_filter.1 h).1
  exact key_small hm ((mem_openers (by have := (mk_bounds hm).1; omega)).1 h1).1
theorem near_mem (kk : List Int) : ∀ (ks : List (List Int)) (b : List Int), ks.foldl (nearer kk) b = b ∨ ks.foldl (nearer kk) b ∈ ks
  | [], b => .inl rfl
  | k :: ks, b => by
    rw [List.foldl_cons]
    rcases near_mem kk ks (nearer kk b k) with h | h
    · rw [h]; unfold nearer; split
      · right; simp
      · left; rfl
    · right; exact List.mem_cons_of_mem _ h
set_option maxRecDepth 100000 in
set_option maxHeartbeats 4000000 in
theorem specNearestGhost_any (m : Mk) (D : Option Addr) (q : Nat) (l : List (List Int)) (A : Option Addr) (c : Nat) (al : List (List Int)) (K : Option Addr) (d : Nat) (kk : List Int) (w : World) (h : RII w D l) (g : RII w A al) (k : RI w K kk) (hcap : kk.length ≤ d) :
    Calls Tryz.prog 12 #[.agg #[.int .i64 m.c, .int .i64 m.d, .int .i64 m.s, .int .i64 m.a, .int .i64 m.l], .agg #[.slice D l.length q], .slice A al.length c, .slice K kk.length d] w (RdIC w (nearR m l al kk)) := by
  have B0 := ((Below.refl w.heap.size w).alloc (Nat.le_refl _) (.cells #[.int .i64 m.c, .int .i64 m.d, .int .i64 m.s, .int .i64 m.a, .int .i64 m.l] 25)).alloc (by simp only [World.size_alloc]; omega) (.cells #[.slice D l.length q] 28)
  have bx : BoxC ((w.alloc (.cells #[.int .i64 m.c, .int .i64 m.d, .int .i64 m.s, .int .i64 m.a, .int .i64 m.l] 25)).alloc (.cells #[.slice D l.length q] 28)) (w.heap.size + 1) 0 [.slice D l.length q] := by simp [BoxC, Go.World.cell?_alloc_at]
  have bm : BoxC ((w.alloc (.cells #[.int .i64 m.c, .int .i64 m.d, .int .i64 m.s, .int .i64 m.a, .int .i64 m.l] 25)).alloc (.cells #[.slice D l.length q] 28)) w.heap.size 0 [.int .i64 m.c, .int .i64 m.d, .int .i64 m.s, .int .i64 m.a, .int .i64 m.l] := by
    have : BoxC (w.alloc (.cells #[.int .i64 m.c, .int .i64 m.d, .int .i64 m.s, .int .i64 m.a, .int .i64 m.l] 25)) w.heap.size 0 [.int .i64 m.c, .int .i64 m.d, .int .i64 m.s, .int .i64 m.a, .int .i64 m.l] := by simp [BoxC, Go.World.cell?_alloc_at]
    exact this.below ((Below.refl _ _).alloc (Nat.le_refl _) _)
  have HLL := Lib.hid (l14Key_any m D q l A c al K d kk ((w.alloc (.cells #[.int .i64 m.c, .int .i64 m.d, .int .i64 m.s, .int .i64 m.a, .int .i64 m.l] 25)).alloc (.cells #[.slice D l.length q] 28)) (h.below B0) (g.below B0) (k.below B0) hcap)
  by_cases h1 : allowedC m l al [kk] = 0
  rotate_left
  · have HN := Lib.hid (near_no h1)
    have t1 : (allowedC m l al [kk] != 0) = true := by simpa using h1
    have H1 := Lib.hid h1; clear h1
    go_enter Tryz.func12, Tryz.ntmps12
    go_wp2_with fail
    refine HLL.out.mono ?_
    rintro e w1 ⟨rfl, b1⟩
    go_wp2_with fail
    go_ret2
    exact rdIC_nil HN.out (B0.trans (b1.mono B0.size))
  have HY := Lib.hid (near_yes h1)
  have HF := Lib.hid (near_key h1)
  have c6 : m.c ≤ 6 := (mk_bounds (isLock_mk HF.out.1)).2.1
  rw [h1] at HLL
  have H1 := Lib.hid h1; clear h1
  have HGK := Lib.hid (fun x (hx : x ∈ ghosts m l al) => ghost_key HF.out.1 hx)
  go_enter Tryz.func12, Tryz.ntmps12
  go_wp2_with fail
  refine HLL.out.mono ?_
  rintro e w1 ⟨rfl, b1⟩
  have B1 := B0.trans (b1.mono B0.size)
  obtain ⟨q0, _⟩ := bx.below b1
  obtain ⟨p0, p1, p2, p3, p4, _⟩ := bm.below b1
  have HG := l14Ghosts_any m D q l A c al w1 (h.below B1) (g.below B1) HF.out.1
  obtain ⟨zz, hzz⟩ : ∃ zz, zz = ghosts m l al := ⟨_, rfl⟩
  rw [← hzz] at HG HY HGK
  have HGG := Lib.hid HG
  clear HG hzz
  go_wp2_with fail
  refine HGG.out.mono ?_
  rintro e w2 ⟨A2, c2, rfl, hc2, r2, b2⟩
  have B2 := B1.trans (b2.mono B1.size)
  have hle := r2.le
  have kk2 := k.below B2
  match zz, HY, HGK, r2, hc2, hle with
  | [], HY, HGK, r2, hc2, hle =>
    go_wp2_with fail
    go_ret2
    exact rdIC_nil HY.out B2
  | z0 :: zr, HY, HGK, r2, hc2, hle =>
  obtain ⟨zs, hzs⟩ : ∃ zs, zs = z0 :: zr := ⟨_, rfl⟩
  have HBEST := Lib.hid (show (zs.foldl (nearer kk) z0, 0) = nearR m l al kk by rw [← HY.out, hzs]; rfl)
  have hz0 : zs.length = zr.length + 1 := by rw [hzs]; rfl
  have h0 : 0 < zs.length := by omega
  have HZ0 := Lib.hid (show zs[0] = z0 by subst hzs; rfl)
  rw [← hzs] at r2 HGK hle hc2
  rw [← hzs]
  clear hzs hz0
  obtain ⟨bz, oz, A0, c0, rfl, hcz, hccz, hrz⟩ := r2.at_ h0
  simp only [Nat.add_zero] at hcz
  have hne : ((zs.length : Int) == 0) = false := by simp; intro e; subst e; simp at h0
  have h0' : (0 : Int) < (zs.length : Int) := by omega
  go_wp2_with fail
  go_loopw [12, 13] (fun b i wr => ∃ (j n : Nat) (bb : List Int) (Ab : Option Addr) (cb : Nat), 1 ≤ j ∧ j ≤ zs.length ∧ i = .int .i64 j ∧ b = .slice Ab bb.length cb ∧ bb.length ≤ cb ∧ RI w2 Ab bb ∧ bb = (zs.take j).foldl (nearer kk) z0 ∧ bb ∈ zs ∧ wr = w2.drewN n) (fun _ i _ => zs.length - (intOf i).toNat)
  case atStart => exact ⟨1, 0, zs[0], A0, c0, Nat.le_refl _, by omega, rfl, rfl, hccz, hrz, by
    rw [HZ0.out]
    have : zs.take 1 = [z0] := by rw [← HZ0.out, List.take_one]; cases zs with | nil => simp at h0 | cons a r => rfl
    rw [this]; simp [nearer], List.getElem_mem h0, rfl⟩
  case round =>
    obtain ⟨j, n, bb, Ab, cb, hj1, hj, rfl, rfl, hcb, hrb, hbb, hbm, rfl⟩ := hrel
    have HBB := Lib.hid hbb; have HBM := Lib.hid hbm
    clear hbb hbm
    by_cases hlt : j < zs.length
    · obtain ⟨b3, o3, A3, c3, e3, hc3, hcc3, hr3⟩ := r2.at_ hlt
      injection e3 with e3
      injection e3 with e4 e5
      subst e4 e5
      have i0 : (0 : Int) ≤ (j : Int) := by omega
      have i1 : (j : Int) < (zs.length : Int) := by omega
      have g1 := HGK.out _ (List.getElem_mem hlt)
      have g2 := HGK.out _ HBM.out
      have hkl := HF.out.2.1
      have D1 := Lib.hid (fun n => l03Distance_any A3 K c3 d zs[j] kk (w2.drewN n) hr3 kk2 (by omega) (by omega) g1.2 HF.out.2.2)
      have D2 := Lib.hid (fun n => l03Distance_any Ab K cb d bb kk (w2.drewN n) hrb kk2 (by omega) (by omega) g2.2 HF.out.2.2)
      have HS := Lib.hid (show (zs.take (j + 1)).foldl (nearer kk) z0 = nearer kk bb zs[j] by rw [List.take_succ_eq_append_getElem hlt, List.foldl_append, ← HBB.out]; rfl)
      obtain ⟨d1, hd1⟩ : ∃ d1, d1 = distF zs[j] kk := ⟨_, rfl⟩
      obtain ⟨d2, hd2⟩ : ∃ d2, d2 = distF bb kk := ⟨_, rfl⟩
      rw [← hd1] at D1
      rw [← hd2] at D2
      have HD1 := Lib.hid hd1; have HD2 := Lib.hid hd2
      clear hd1 hd2 g1 g2 hkl
      by_cases hnear : d1 < d2
      · have HN := Lib.hid (show nearer kk bb zs[j] = zs[j] by unfold nearer; rw [← HD1.out, ← HD2.out, if_pos hnear])
        go_wp2_with fail
        refine (D1.out _).mono ?_
        rintro e w3 ⟨rfl, n3, rfl⟩
        go_wp2_with fail
        refine (by simpa [World.drewN_drewN] using D2.out (n + n3) : Calls _ _ _ _ _).mono ?_
        rintro e w4 ⟨rfl, n4, rfl⟩
        go_wp2_with fail
        go_roundw
        case rel => exact ⟨j + 1, _, zs[j], A3, c3, by omega, by omega, by go_num, rfl, hcc3, hr3, by rw [HS.out, HN.out], List.getElem_mem hlt, rfl⟩
        case measure => simp [intOf]; omega
      · have HN := Lib.hid (show nearer kk bb zs[j] = bb by unfold nearer; rw [← HD1.out, ← HD2.out, if_neg hnear])
        have hnear' : decide (d1 < d2) = false := decide_eq_false hnear
        go_wp2_with fail
        refine (D1.out _).mono ?_
        rintro e w3 ⟨rfl, n3, rfl⟩
        go_wp2_with fail
        refine (by simpa [World.drewN_drewN] using D2.out (n + n3) : Calls _ _ _ _ _).mono ?_
        rintro e w4 ⟨rfl, n4, rfl⟩
        go_wp2_with fail
        go_roundw
        case rel => exact ⟨j + 1, _, bb, Ab, cb, by omega, by omega, by go_num, rfl, hcb, hrb, by rw [HS.out, HN.out], HBM.out, rfl⟩
        case measure => simp [intOf]; omega
    · obtain rfl : j = zs.length := by omega
      have HT := Lib.hid (show (bb, 0) = nearR m l al kk by rw [← HBEST.out, HBB.out, List.take_length])
      go_wp2_with fail
      go_ret2
      exact rdIC_of HT.out hcb hrb (belowD B2 _)
set_option maxRecDepth 100000 in
set_option maxHeartbeats 4000000 in
theorem implNearestGhost_any (m : Mk) (D : Option Addr) (q : Nat) (l : List (List Int)) (A : Option Addr) (c : Nat) (al : List (List Int)) (K : Option Addr) (d : Nat) (kk : List Int) (w : World) (h : RII w D l) (g : RII w A al) (k : RI w K kk) (hcap : kk.length ≤ d) :
    Calls Tryz.prog 11 #[.agg #[.int .i64 m.c, .int .i64 m.d, .int .i64 m.s, .int .i64 m.a, .int .i64 m.l], .agg #[.slice D l.length q], .slice A al.length c, .slice K kk.length d] w (ResIC w (nearR m l al kk)) := by
  have Ba := (((Below.refl w.heap.size w).alloc (Nat.le_refl _) (.cells #[.int .i64 m.c, .int .i64 m.d, .int .i64 m.s, .int .i64 m.a, .int .i64 m.l] 25)).alloc (by simp only [World.size_alloc]; omega) (.cells #[.slice D l.length q] 28)).alloc (by simp only [World.size_alloc]; omega) (.cells #[.slice K kk.length d] 33)
  have B0 := Ba.alloc (by simp only [World.size_alloc]; omega) (.cells #[.slice K kk.length d] 33)
  obtain ⟨w0, hw0⟩ : ∃ w0, w0 = (((w.alloc (.cells #[.int .i64 m.c, .int .i64 m.d, .int .i64 m.s, .int .i64 m.a, .int .i64 m.l] 25)).alloc (.cells #[.slice D l.length q] 28)).alloc (.cells #[.slice K kk.length d] 33)).alloc (.cells #[.slice K kk.length d] 33) := ⟨_, rfl⟩
  rw [← hw0] at B0
  have hz0 : w0.heap.size = w.heap.size + 4 := by rw [hw0]; simp
  have bx : BoxC w0 (w.heap.size + 1) 0 [.slice D l.length q] := by
    have : BoxC ((w.alloc (.cells #[.int .i64 m.c, .int .i64 m.d, .int .i64 m.s, .int .i64 m.a, .int .i64 m.l] 25)).alloc (.cells #[.slice D l.length q] 28)) (w.heap.size + 1) 0 [.slice D l.length q] := by simp [BoxC, Go.World.cell?_alloc_at]
    rw [hw0]
    exact (this.below ((Below.refl _ _).alloc (Nat.le_refl _) _)).below ((Below.refl _ _).alloc (Nat.le_refl _) _)
  have bm : BoxC w0 w.heap.size 0 [.int .i64 m.c, .int .i64 m.d, .int .i64 m.s, .int .i64 m.a, .int .i64 m.l] := by
    have : BoxC (w.alloc (.cells #[.int .i64 m.c, .int .i64 m.d, .int .i64 m.s, .int .i64 m.a, .int .i64 m.l] 25)) w.heap.size 0 [.int .i64 m.c, .int .i64 m.d, .int .i64 m.s, .int .i64 m.a, .int .i64 m.l] := by simp [BoxC, Go.World.cell?_alloc_at]
    rw [hw0]
    exact ((this.below ((Below.refl _ _).alloc (Nat.le_refl _) _)).below ((Below.refl _ _).alloc (Nat.le_refl _) _)).below ((Below.refl _ _).alloc (Nat.le_refl _) _)
  have bk : w0.cell? ⟨w.heap.size + 2, 0, none⟩ = some (.slice K kk.length d) := by
    rw [hw0, World.cell?_alloc_lt _ _ _ (by simp only [World.size_alloc]; omega), World.cell?_alloc_at (hn := by simp)]; rfl
  have hOne : RII w0 (some ⟨w.heap.size + 1 + 1 + 1, 0, none⟩) [kk] := RII.one hcap (k.below B0) (by rw [hw0, World.cell?_alloc_at (hn := by simp)]; rfl)
  have HLL := Lib.hid (allowedCode_any m D q l A c al (some ⟨w.heap.size + 1 + 1 + 1, 0, none⟩) 1 [kk] w0 (h.below B0) (g.below B0) hOne (by simp))
  by_cases h1 : allowedC m l al [kk] = 0
  rotate_left
  · have HN := Lib.hid (near_no h1)
    have t1 : (allowedC m l al [kk] != 0) = true := by simpa using h1
    have H1 := Lib.hid h1; clear h1
    clear hOne bk bx bm
    go_enter Tryz.func11, Tryz.ntmps11
    go_wp2_with fail
    rw [← hw0]
    clear hw0
    refine HLL.out.mono ?_
    rintro e w1 ⟨rfl, b1⟩
    go_wp2_with fail
    go_ret2
    exact resIC_nil HN.out (B0.trans (b1.mono B0.size))
  have HY := Lib.hid (near_yes h1)
  have HF := Lib.hid (near_key h1)
  rw [h1] at HLL
  have H1 := Lib.hid h1; clear h1
  have HBX := Lib.hid (And.intro bx (And.intro bm bk))
  clear hOne bk bx bm
  go_enter Tryz.func11, Tryz.ntmps11
  go_wp2_with fail
  rw [← hw0]
  clear hw0
  refine HLL.out.mono ?_
  rintro e w1 ⟨rfl, b1⟩
  have B1 := B0.trans (b1.mono B0.size)
  have s1 : w.heap.size + 4 ≤ w1.heap.size := by have := b1.size; omega
  obtain ⟨q0, _⟩ := HBX.out.1.below b1
  obtain ⟨p0, p1, p2, p3, p4, _⟩ := HBX.out.2.1.below b1
  have kc := cell_in b1 (by simp only; omega) HBX.out.2.2
  obtain ⟨w2, hw2⟩ : ∃ w2, w2 = ((w1.alloc (.cells #[] 2)).alloc (.cells #[.slice (some ⟨w1.heap.size, 0, none⟩) 0 0] 33)).alloc (.cells #[.int .i64 (-1)] 2) := ⟨_, rfl⟩
  have b2 : Below w1.heap.size w1 w2 := by rw [hw2]; exact (((Below.refl _ _).alloc (Nat.le_refl _) _).alloc (by simp) _).alloc (by simp; omega) _
  have hz2 : w2.heap.size = w1.heap.size + 3 := by rw [hw2]; simp
  have cn : w2.cell? ⟨w1.heap.size + 1, 0, none⟩ = some (.slice (some ⟨w1.heap.size, 0, none⟩) 0 0) := by
    rw [hw2, World.cell?_alloc_lt _ _ _ (by simp only [World.size_alloc]; omega), World.cell?_alloc_at (hn := by simp)]; rfl
  have zn : w2.frozen? ⟨w1.heap.size + 1, 0, none⟩ = false := by
    rw [hw2, World.frozen?_alloc_past _ _ _ (by simp only [World.size_alloc]; omega), World.frozen?_alloc_at _ _ _ _ (by simp)]
  have cl : w2.cell? ⟨w1.heap.size + 2, 0, none⟩ = some (.int .i64 (-1)) := by rw [hw2, World.cell?_alloc_at (hn := by simp)]; rfl
  have zl : w2.frozen? ⟨w1.heap.size + 2, 0, none⟩ = false := by rw [hw2, World.frozen?_alloc_at _ _ _ _ (by simp)]
  have ho : OV w2 w1.heap.size 2 (.slice (some ⟨w1.heap.size, 0, none⟩) 0 0) (ints []) := by rw [hw2]; exact ((OV.new0 (Nat.le_refl _)).alloc _).alloc _
  have hR : RNear (w1.heap.size + 1) (w1.heap.size + 2) w1.heap.size ([], -1) w2 (fun x => x = w1.heap.size ∨ x = w1.heap.size + 1 ∨ x = w1.heap.size + 2) :=
    ⟨_, ho, fun x e => by simp [Value.ownBlock] at e; omega, cn, zn, cl, zl, by omega, .inr (.inl rfl), .inr (.inr rfl), fun x hx => by omega, fun x hx => by omega⟩
  have hm := isLock_mk HF.out.1
  have hkb : ∀ w', KeepF (fun x => x = w1.heap.size ∨ x = w1.heap.size + 1 ∨ x = w1.heap.size + 2) w2 w' → Below w1.heap.size w1 w' := fun w' hk => b2.trans (hk.toBelow (by omega) (fun x hx e => by omega))
  have HE := eachGhost_any m D q l A c al 52 #[.pointer (some ⟨w.heap.size + 2, 0, none⟩), .pointer (some ⟨w1.heap.size + 2, 0, none⟩), .pointer (some ⟨w1.heap.size + 1, 0, none⟩)] (visN kk) (RNear (w1.heap.size + 1) (w1.heap.size + 2) w1.heap.size) (fun _ => True) w2 (fun x => x = w1.heap.size ∨ x = w1.heap.size + 1 ∨ x = w1.heap.size + 2) ([], -1) HF.out.1
    (nearVis m hm l (w.heap.size + 2) _ _ _ K d kk w2 _ (cell_in b2 (by simp only; omega) kc) (by omega) (fun w' hk => k.below (B1.trans ((hkb w' hk).mono B1.size))) HF.out.2.1 HF.out.2.2) (fun w' hk => h.below (B1.trans ((hkb w' hk).mono B1.size))) (fun w' hk => g.below (B1.trans ((hkb w' hk).mono B1.size))) hR trivial
  obtain ⟨zz, hzz⟩ : ∃ zz, zz = ghosts m l al := ⟨_, rfl⟩
  rw [← hzz] at HE HY
  have HEE := Lib.hid HE
  have HKB := Lib.hid hkb
  have HP2 := Lib.hid (And.intro ((HBX.out.1.below b1).below b2) ((HBX.out.2.1.below b1).below b2))
  clear HE hR ho cn zn cl zl hkb b2 hzz kc
  have s2 : w.heap.size + 1 < w1.heap.size := by omega
  have s3 : w.heap.size < w1.heap.size := by omega
  have s4 : w.heap.size < w1.heap.size + 1 := by omega
  have s5 : w.heap.size < w1.heap.size + 1 + 1 := by omega
  have s6 : w.heap.size + 1 < w1.heap.size + 1 := by omega
  have s7 : w.heap.size + 1 < w1.heap.size + 1 + 1 := by omega
  go_wp2_with fail
  rw [← hw2]
  clear hw2
  refine HEE.out.mono ?_
  rintro e w4 ⟨rfl, G, ⟨v4, hV4⟩, hk4, hG4⟩
  have HB4 := Lib.hid (HKB.out w4 hk4)
  match zz, HY, hV4 with
  | [], HY, hV4 =>
    have hl4 : w4.cell? ⟨w1.heap.size + 1 + 1, 0, none⟩ = some (.int .i64 (-1)) := hV4.cl
    clear hV4 hk4 hG4
    go_wp2_with fail
    go_ret2
    exact resIC_nil HY.out (B1.trans (HB4.out.mono B1.size))
  | z0 :: zr, HY, hV4 =>
    rw [runVis_N0] at hV4
    have HT := Lib.hid (show ((z0 :: zr).foldl (nearer kk) z0, 0) = nearR m l al kk by rw [← HY.out]; rfl)
    obtain ⟨bb, hbb⟩ : ∃ bb, bb = (z0 :: zr).foldl (nearer kk) z0 := ⟨_, rfl⟩
    rw [← hbb] at hV4 HT
    obtain ⟨dd, hdd⟩ : ∃ dd, dd = distF bb kk := ⟨_, rfl⟩
    have hd0 : 0 ≤ dd := by rw [hdd]; exact distN_nn _ _ _
    rw [← hdd] at hV4
    have hl4 : w4.cell? ⟨w1.heap.size + 1 + 1, 0, none⟩ = some (.int .i64 dd) := hV4.cl
    have hn4 : w4.cell? ⟨w1.heap.size + 1, 0, none⟩ = some v4 := hV4.cn
    have hneg : decide (dd < 0) = false := decide_eq_false (by omega)
    have HO4 := Lib.hid hV4.own
    clear hV4 hk4 hG4 hbb hdd
    go_wp2_with fail
    go_ret2
    exact resIC_own HT.out HO4.out (by omega) (B1.trans (HB4.out.mono B1.size))
end Go.Proofs.YtdedajohkdbdkaaGreat