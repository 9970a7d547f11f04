/- Contracts of l12Lock and of the reference's LockAt. -/
import Derived.Test.YtdkkkkfcpgkcnaaFLockAt
namespace Go.Proofs.Ytdkkkkfcpgkcnaa
set_option linter.unusedVariables false
open Go.RowKit
theorem colI_two (xs ys : List Int) (k : Nat) (h1 : k < xs.length) (h2 : k < ys.length) : colI [xs, ys] k = [xs[k], ys[k]] := by
  unfold colI
  simp [List.getD, List.getElem?_eq_getElem h1, List.getElem?_eq_getElem h2]
/-- One more row of the call's own, made of literal numbers. -/
theorem rows_push {N0 : Nat} {wr w' : World} {v0 v' : Value} {us : List Value} {xss : List (List Int)} {ys : List Int} {n : Nat} (hn : n = ys.length) (hn2 : n ≤ 1000) (h2 : N0 ≤ wr.heap.size)
    (h1 : us.length = xss.length) (k2 : OR wr N0 wr.heap.size 30 v0 us) (k3 : ∀ j (hj : j < xss.length), ∃ u, us[j]? = some u ∧ OR wr N0 wr.heap.size 2 u (ints xss[j]))
    (k4 : ∀ (i j : Nat) (u u' : Value), i ≠ j → us[i]? = some u → us[j]? = some u' → ∀ g, u.ownBlock = some g → u'.ownBlock ≠ some g)
    (ho : OV w' N0 30 v' (us ++ [.slice (some ⟨wr.heap.size, 0, none⟩) n n]))
    (hg : ((wr.alloc (.cells (ints ys).toArray 2)).alloc (.cells #[.slice (some ⟨wr.heap.size, 0, none⟩) n n] 30)).grownBy w' v0.ownBlock) :
    OII w' N0 w'.heap.size v' (xss ++ [ys]) ∧ ∀ a, Below N0 a wr → Below N0 a w' := by
  subst hn
  have b1 := (Below.refl wr.heap.size wr).alloc (Nat.le_refl _) (.cells (ints ys).toArray 2)
  have b2 := b1.alloc (by simp only [World.size_alloc]; omega) (.cells #[.slice (some ⟨wr.heap.size, 0, none⟩) ys.length ys.length] 30)
  have hu : OV (wr.alloc (.cells (ints ys).toArray 2)) wr.heap.size 2 (.slice (some ⟨wr.heap.size, 0, none⟩) ys.length ys.length) (ints ys) := by
    have := OV.new (w := wr) (B := wr.heap.size) (e := 2) (ints ys).toArray (Nat.le_refl _) (by simp [maxLen, ints_length]; omega)
    simpa [ints_length] using this
  exact ⟨OII.push1 (w := wr.alloc (.cells (ints ys).toArray 2)) (C := wr.heap.size) (ys := ys) h1 (k2.below b1) (fun j hj => by obtain ⟨u, a, b⟩ := k3 j hj; exact ⟨u, a, b.below b1⟩) k4 hu h2 (by simp) ho hg,
    fun a ha => ha.trans (belowG (b2.mono h2) hg (by simp only [World.size_alloc]; omega) (fun g hg1 => (k2.1.lt g hg1).1))⟩
set_option maxRecDepth 100000 in
set_option maxHeartbeats 8000000 in
theorem l12Lock_any (m : Mk) (A : Option Addr) (c : Nat) (ms : List Int) (B : Option Addr) (d : Nat) (ls : List Int) (D : Option Addr) (e : Nat) (ps : List Int) (w : World) (h : RI w A ms) (g : RI w B ls) (p : RI w D ps) (h0 : levelsCode m ms ls ps = 0) :
    Calls Try.prog 131 #[.agg #[.int .i64 m.c, .int .i64 m.d, .int .i64 m.s, .int .i64 m.a, .int .i64 m.l], .slice A ms.length c, .slice B ls.length d, .slice D ps.length e] w (ResL w (hullF m.c.toNat m.d.toNat [ms, cutsAtF m ms ls ps])) := by
  obtain ⟨w0, hw0⟩ : ∃ w0, w0 = (w.alloc (.cells #[.int .i64 m.c, .int .i64 m.d, .int .i64 m.s, .int .i64 m.a, .int .i64 m.l] 45)).alloc (.cells #[.slice none 0 0] 54) := ⟨_, rfl⟩
  have B0 : Below w.heap.size w w0 := by rw [hw0]; exact ((Below.refl w.heap.size w).alloc (Nat.le_refl _) _).alloc (by simp only [World.size_alloc]; omega) _
  have hz0 : w0.heap.size = w.heap.size + 2 := by rw [hw0]; simp
  have bk : w0.heap[w.heap.size + 1]? = some (.cells #[.slice none 0 0] 54 (0, 0)) := by
    have := heap_alloc_new (w.alloc (.cells #[.int .i64 m.c, .int .i64 m.d, .int .i64 m.s, .int .i64 m.a, .int .i64 m.l] 45)) (.cells #[.slice none 0 0] 54)
    rw [hw0]; simpa using this
  have H0 := Lib.hid (lc_0_iff.1 h0)
  have HCA := Lib.hid (fun (W : World) (hW : Below w.heap.size w W) => l12Cuts_any m A B D c d e ms ls ps W (h.below hW) (g.below hW) (p.below hW) H0.out.1 H0.out.2.1 H0.out.2.2.1 H0.out.2.2.2)
  have hac := cutsAt_cuts h0
  have hmc : (ms.length : Int) = m.c := (cutsOK_get H0.out.2.1).1
  have hmb := mk_bounds H0.out.1
  have hm6 : ms.length ≤ 6 := by omega
  have hcc : m.c.toNat = ms.length := by omega
  obtain ⟨cs, hcs⟩ : ∃ cs, cs = cutsAtF m ms ls ps := ⟨_, rfl⟩
  rw [← hcs] at hac HCA
  have hlen := hac.2
  have HSET := Lib.hid (show ∀ k (h1 : k < ms.length) (h2 : k < cs.length), hullF (k + 1) m.d.toNat [ms, cs] = hullF k m.d.toNat [ms, cs] ++ [if cs[k] < ms[k] then [cs[k], ms[k]] else if ms[k] < cs[k] then [ms[k], cs[k]] else [ms[k]]] from fun k h1 h2 => by
    have a1 := col_in hac.1 (i := k) (by omega) ms[k] (by rw [colI_two _ _ _ h1 h2]; simp)
    have a2 := col_in hac.1 (i := k) (by omega) cs[k] (by rw [colI_two _ _ _ h1 h2]; simp)
    rw [hullF_succ, colI_two _ _ _ h1 h2, hullSet_two a1 a2])
  have HRES := Lib.hid (show hullF m.c.toNat m.d.toNat [ms, cutsAtF m ms ls ps] = hullF ms.length m.d.toNat [ms, cs] by rw [hcc, hcs])
  have hle := h.le
  have HBK := Lib.hid bk
  clear bk hac hcs hmb hcc hmc h0
  go_enter Try.func131, Try.ntmps131
  go_wp2_with fail
  rw [← hw0]
  refine (HCA.out _ B0).mono ?_
  rintro e w2 ⟨A2, c2, rfl, hc2, r2, o2, b2⟩
  have B2 := B0.trans (b2.mono B0.size)
  have HR2 := Lib.hid r2
  have HLB := Lib.hid ((b2.block (w.heap.size + 1) (by omega)).trans HBK.out)
  have hs2 := b2.size
  have HLEN := Lib.hid hlen
  have hle2 := r2.le
  clear r2 o2 b2 hw0
  clear hlen
  go_wp2_with fail
  go_loopw [10, 11] (fun v i wr => ∃ (k : Nat) (v0 : Value), k ≤ ms.length ∧ i = .int .i64 k ∧ v = v0 ∧ OII wr w2.heap.size wr.heap.size v0 (hullF k m.d.toNat [ms, cs]) ∧ Below w2.heap.size w2 wr) (fun _ i _ => ms.length - (intOf i).toNat)
  case atStart => exact ⟨0, _, by omega, rfl, rfl, by simpa [hullF] using (OII.new0 (w := w2) (Nat.le_refl _)).wide (Nat.le_refl _) (show w2.heap.size + 1 ≤ (w2.alloc (.cells #[] 30)).heap.size by simp), (Below.refl _ _).alloc (Nat.le_refl _) _⟩
  case round =>
    obtain ⟨k, v0, hk, rfl, rfl, ho, hb⟩ := hrel
    have HO := Lib.hid ho
    have HB := Lib.hid hb
    have hsz := hb.size
    have Bw := B2.trans (hb.mono B2.size)
    clear ho
    by_cases hlt : k < ms.length
    · have hltc : k < cs.length := by rw [HLEN.out]; exact hlt
      obtain ⟨bM, oM, rfl, hcM⟩ := (h.below B2).at_ hlt
      obtain ⟨bC, oC, rfl, hcC⟩ := HR2.out.at_ hltc
      have HSE := Lib.hid (HSET.out k hlt hltc)
      obtain ⟨x, hx⟩ : ∃ x, x = cs[k] := ⟨_, rfl⟩
      obtain ⟨y, hy⟩ : ∃ y, y = ms[k] := ⟨_, rfl⟩
      rw [← hx, ← hy] at HSE
      rw [← hx] at hcC
      rw [← hy] at hcM
      have KS := Lib.hid (show ∀ w' : World, Below w2.heap.size w2 w' → (w'.cell? ⟨bM, oM + k, none⟩ = some (.int .i64 y) ∧ w'.cell? ⟨bC, oC + k, none⟩ = some (.int .i64 x)) from fun w' hw => ⟨cell_in hw (World.block_lt_of_cell? w2 _ hcM) hcM, cell_in hw (World.block_lt_of_cell? w2 _ hcC) hcC⟩)
      have i0 : (0 : Int) ≤ (k : Int) := by omega
      have i1 : (k : Int) < (ms.length : Int) := by omega
      have i2 : (k : Int) < (cs.length : Int) := by omega
      clear hx hy hcM hcC
      obtain ⟨c1wr, c2wr⟩ := KS.out _ hb
      clear hb
      have HOwr := HO; have HBwr := HB
      by_cases hxy : x < y
      · have HSP := Lib.hid (show hullF (k + 1) m.d.toNat [ms, cs] = hullF k m.d.toNat [ms, cs] ++ [[x, y]] by rw [HSE.out, if_pos hxy])
        go_wp2_with fail
        go_quiet (fail)
        obtain ⟨wq, hqwq⟩ : ∃ zz : World, zz = wr.drewN nq := ⟨_, rfl⟩
        rw [← hqwq]
        have HOwq := Lib.hid (show OII wq w2.heap.size wq.heap.size u10 (hullF k m.d.toNat [ms, cs]) by rw [hqwq]; exact HOwr.out)
        have HBwq := Lib.hid (show Below w2.heap.size w2 wq by rw [hqwq]; exact belowD HBwr.out _)
        clear hqwq
        obtain ⟨c1wq, c2wq⟩ := KS.out _ HBwq.out
        go_wp2_with fail
        clear c1wq c2wq
        refine wp_region_held_drew (S := (fun w' => w'.cell? ⟨bM, oM + k, none⟩ = some (.int .i64 y) ∧ w'.cell? ⟨bC, oC + k, none⟩ = some (.int .i64 x))) (by kernel_rfl) (KS.out _ (HBwq.out.trans ((belowDrew0 _).mono HBwq.out.size))) (fun hHeld => ?_)
        refine takeD (i := 0) (some 42) (u10) rfl (by kernel_rfl) (by kernel_rfl) (by kernel_rfl) (by kernel_rfl) (fun _ _ _ h => h) (by assumption) (Or.inl ⟨by rfl, fun w hSw => by (try dsimp only at hSw); go_simp⟩) ?_
        simp only [Act.put, List.setIfInBounds_toArray, List.set_cons_zero, List.set_cons_succ]
        refine takeD (i := 1) (some 43) (.slice (some ⟨bC, oC, none⟩) cs.length c2) rfl (by kernel_rfl) (by kernel_rfl) (by kernel_rfl) (by kernel_rfl) (fun _ _ _ h => h) (by assumption) (Or.inl ⟨by rfl, fun w hSw => by (try dsimp only at hSw); go_simp⟩) ?_
        simp only [Act.put, List.setIfInBounds_toArray, List.set_cons_zero, List.set_cons_succ]
        refine takeD (i := 2) (some 44) (.int .i64 (k : Int)) rfl (by kernel_rfl) (by kernel_rfl) (by kernel_rfl) (by kernel_rfl) (fun _ _ _ h => h) (by assumption) (Or.inl ⟨by rfl, fun w hSw => by (try dsimp only at hSw); go_simp⟩) ?_
        simp only [Act.put, List.setIfInBounds_toArray, List.set_cons_zero, List.set_cons_succ]
        refine takeD (i := 3) (some 45) (.pointer (some ⟨bC, oC + k, none⟩)) rfl (by kernel_rfl) (by kernel_rfl) (by kernel_rfl) (by kernel_rfl) (fun _ _ _ h => h) (by assumption) (Or.inl ⟨by rfl, fun w hSw => by (try dsimp only at hSw); go_simp⟩) ?_
        simp only [Act.put, List.setIfInBounds_toArray, List.set_cons_zero, List.set_cons_succ]
        refine takeD (i := 4) (some 46) (.int .i64 x) rfl (by kernel_rfl) (by kernel_rfl) (by kernel_rfl) (by kernel_rfl) (fun _ _ _ h => h) (by assumption) (Or.inl ⟨by rfl, fun w hSw => by (try dsimp only at hSw); go_simp⟩) ?_
        simp only [Act.put, List.setIfInBounds_toArray, List.set_cons_zero, List.set_cons_succ]
        refine takeD (i := 5) (some 47) (.slice (some ⟨bM, oM, none⟩) ms.length c) rfl (by kernel_rfl) (by kernel_rfl) (by kernel_rfl) (by kernel_rfl) (fun _ _ _ h => h) (by assumption) (Or.inl ⟨by rfl, fun w hSw => by (try dsimp only at hSw); go_simp⟩) ?_
        simp only [Act.put, List.setIfInBounds_toArray, List.set_cons_zero, List.set_cons_succ]
        refine takeD (i := 6) (some 48) (.int .i64 (k : Int)) rfl (by kernel_rfl) (by kernel_rfl) (by kernel_rfl) (by kernel_rfl) (fun _ _ _ h => h) (by assumption) (Or.inl ⟨by rfl, fun w hSw => by (try dsimp only at hSw); go_simp⟩) ?_
        simp only [Act.put, List.setIfInBounds_toArray, List.set_cons_zero, List.set_cons_succ]
        refine takeD (i := 7) (some 49) (.pointer (some ⟨bM, oM + k, none⟩)) rfl (by kernel_rfl) (by kernel_rfl) (by kernel_rfl) (by kernel_rfl) (fun _ _ _ h => h) (by assumption) (Or.inl ⟨by rfl, fun w hSw => by (try dsimp only at hSw); go_simp⟩) ?_
        simp only [Act.put, List.setIfInBounds_toArray, List.set_cons_zero, List.set_cons_succ]
        refine takeD (i := 8) (some 50) (.int .i64 y) rfl (by kernel_rfl) (by kernel_rfl) (by kernel_rfl) (by kernel_rfl) (fun _ _ _ h => h) (by assumption) (Or.inl ⟨by rfl, fun w hSw => by (try dsimp only at hSw); go_simp⟩) ?_
        simp only [Act.put, List.setIfInBounds_toArray, List.set_cons_zero, List.set_cons_succ]
        refine wpAnyH_ready (rs := [9]) (by kernel_rfl) (by simp) (AllReadyH.cons rfl (fun K hK => ?_) AllReadyH.nil)
        go_simp
        have e1 : Below wq.heap.size wq (wq.drew.alloc (.cells #[.int .i64 x, .int .i64 y] 2)) := (belowDrew0 wq).alloc (Nat.le_refl _) _
        have HHeld := KS.out _ (HBwq.out.trans (e1.mono HBwq.out.size))
        refine hK.out _ _ HHeld (fun _ => ?_)
        clear hK K
        try simp only [Act.put, List.setIfInBounds_toArray, List.set_cons_zero, List.set_cons_succ]
        refine wpAnyH_ready (rs := [10]) (by kernel_rfl) (by simp) (AllReadyH.cons rfl (fun K hK => ?_) AllReadyH.nil)
        go_simp
        have e2 : Below wq.heap.size wq ((wq.drew.alloc (.cells #[.int .i64 x, .int .i64 y] 2)).alloc (.cells #[.slice (some ⟨wq.heap.size, 0, none⟩) 2 2] 30)) := e1.alloc e1.size _
        have HHeld := KS.out _ (HBwq.out.trans (e2.mono HBwq.out.size))
        refine hK.out _ _ HHeld (fun _ => ?_)
        clear hK K
        try simp only [Act.put, List.setIfInBounds_toArray, List.set_cons_zero, List.set_cons_succ]
        obtain ⟨us, k1, k2, k3, k4⟩ := HOwq.out
        rw [hullF_length] at k1
        have hsW := HBwq.out.size
        refine wpAnyH_ready (rs := [11]) (by kernel_rfl) (by simp) (AllReadyH.cons rfl (fun K hK => ?_) AllReadyH.nil)
        refine step_app1 _ (by rfl) _ _ _ (by rfl) w2.heap.size 30 _ 24 Try.underlying24 info_sl rfl (by omega) _ us (by rfl) ((k2.1.drew.alloc _).alloc _) _ _ (by rfl) (one_cell' (by simp)) rfl (by omega) (by simp; omega) ?_
        intro v' w5 ho5 hg5 hn5 hat5
        have HN := Lib.hid (pairs_push (wr := wq.drew) (N0 := w2.heap.size) (xss := hullF k m.d.toNat [ms, cs]) (k := x) (d := y) hsW (by rw [hullF_length]; exact k1) k2 k3 k4 ho5 hg5)
        have HB5 := Lib.hid (HN.out.2 w2 (belowD HBwq.out 1))
        have ks5 := KS.out w5 HB5.out
        clear ho5 hg5 hn5 hat5 k1 k2 k3 k4 e1 e2
        have HHeld := ks5
        refine hK.out _ _ HHeld (fun _ => ?_)
        clear hK K
        (try simp only [Act.put]); (try simp only [List.setIfInBounds_toArray]); (try simp only [List.set_cons_zero, List.set_cons_succ])
        refine takeD (i := 12) (some 10) (v') rfl (by kernel_rfl) (by kernel_rfl) (by kernel_rfl) (by kernel_rfl) (fun _ _ _ h => h) (by assumption) (Or.inl ⟨by rfl, fun w hSw => by (try dsimp only at hSw); go_simp⟩) ?_
        (try simp only [Act.put]); (try simp only [List.setIfInBounds_toArray]); (try simp only [List.set_cons_zero, List.set_cons_succ])
        refine wpAnyH_done (by kernel_rfl) ?_ _
        clear ks5
        go_wp2_with fail
        go_roundw
        case rel => exact ⟨k + 1, v', by omega, by go_num, rfl, by rw [HSP.out]; exact HN.out.1, HB5.out⟩
        case measure => simp [intOf]; omega
      · have hxd : decide (x < y) = false := decide_eq_false hxy
        by_cases hyx : y < x
        · have HSP := Lib.hid (show hullF (k + 1) m.d.toNat [ms, cs] = hullF k m.d.toNat [ms, cs] ++ [[y, x]] by rw [HSE.out, if_neg hxy, if_pos hyx])
          go_wp2_with fail
          go_quiet (fail)
          obtain ⟨wq, hqwq⟩ : ∃ zz : World, zz = wr.drewN nq := ⟨_, rfl⟩
          rw [← hqwq]
          have HOwq := Lib.hid (show OII wq w2.heap.size wq.heap.size u10 (hullF k m.d.toNat [ms, cs]) by rw [hqwq]; exact HOwr.out)
          have HBwq := Lib.hid (show Below w2.heap.size w2 wq by rw [hqwq]; exact belowD HBwr.out _)
          clear hqwq
          obtain ⟨c1wq, c2wq⟩ := KS.out _ HBwq.out
          go_wp2_with fail
          go_quiet (fail)
          obtain ⟨wp, hqwp⟩ : ∃ zz : World, zz = wq.drewN nq := ⟨_, rfl⟩
          rw [← hqwp]
          have HOwp := Lib.hid (show OII wp w2.heap.size wp.heap.size u10 (hullF k m.d.toNat [ms, cs]) by rw [hqwp]; exact HOwq.out)
          have HBwp := Lib.hid (show Below w2.heap.size w2 wp by rw [hqwp]; exact belowD HBwq.out _)
          clear hqwp
          obtain ⟨c1wp, c2wp⟩ := KS.out _ HBwp.out
          go_wp2_with fail
          clear c1wp c2wp
          refine wp_region_held_drew (S := (fun w' => w'.cell? ⟨bM, oM + k, none⟩ = some (.int .i64 y) ∧ w'.cell? ⟨bC, oC + k, none⟩ = some (.int .i64 x))) (by kernel_rfl) (KS.out _ (HBwp.out.trans ((belowDrew0 _).mono HBwp.out.size))) (fun hHeld => ?_)
          refine takeD (i := 0) (some 64) (u10) rfl (by kernel_rfl) (by kernel_rfl) (by kernel_rfl) (by kernel_rfl) (fun _ _ _ h => h) (by assumption) (Or.inl ⟨by rfl, fun w hSw => by (try dsimp only at hSw); go_simp⟩) ?_
          simp only [Act.put, List.setIfInBounds_toArray, List.set_cons_zero, List.set_cons_succ]
          refine takeD (i := 1) (some 65) (.slice (some ⟨bM, oM, none⟩) ms.length c) rfl (by kernel_rfl) (by kernel_rfl) (by kernel_rfl) (by kernel_rfl) (fun _ _ _ h => h) (by assumption) (Or.inl ⟨by rfl, fun w hSw => by (try dsimp only at hSw); go_simp⟩) ?_
          simp only [Act.put, List.setIfInBounds_toArray, List.set_cons_zero, List.set_cons_succ]
          refine takeD (i := 2) (some 66) (.int .i64 (k : Int)) rfl (by kernel_rfl) (by kernel_rfl) (by kernel_rfl) (by kernel_rfl) (fun _ _ _ h => h) (by assumption) (Or.inl ⟨by rfl, fun w hSw => by (try dsimp only at hSw); go_simp⟩) ?_
          simp only [Act.put, List.setIfInBounds_toArray, List.set_cons_zero, List.set_cons_succ]
          refine takeD (i := 3) (some 67) (.pointer (some ⟨bM, oM + k, none⟩)) rfl (by kernel_rfl) (by kernel_rfl) (by kernel_rfl) (by kernel_rfl) (fun _ _ _ h => h) (by assumption) (Or.inl ⟨by rfl, fun w hSw => by (try dsimp only at hSw); go_simp⟩) ?_
          simp only [Act.put, List.setIfInBounds_toArray, List.set_cons_zero, List.set_cons_succ]
          refine takeD (i := 4) (some 68) (.int .i64 y) rfl (by kernel_rfl) (by kernel_rfl) (by kernel_rfl) (by kernel_rfl) (fun _ _ _ h => h) (by assumption) (Or.inl ⟨by rfl, fun w hSw => by (try dsimp only at hSw); go_simp⟩) ?_
          simp only [Act.put, List.setIfInBounds_toArray, List.set_cons_zero, List.set_cons_succ]
          refine takeD (i := 5) (some 69) (.slice (some ⟨bC, oC, none⟩) cs.length c2) rfl (by kernel_rfl) (by kernel_rfl) (by kernel_rfl) (by kernel_rfl) (fun _ _ _ h => h) (by assumption) (Or.inl ⟨by rfl, fun w hSw => by (try dsimp only at hSw); go_simp⟩) ?_
          simp only [Act.put, List.setIfInBounds_toArray, List.set_cons_zero, List.set_cons_succ]
          refine takeD (i := 6) (some 70) (.int .i64 (k : Int)) rfl (by kernel_rfl) (by kernel_rfl) (by kernel_rfl) (by kernel_rfl) (fun _ _ _ h => h) (by assumption) (Or.inl ⟨by rfl, fun w hSw => by (try dsimp only at hSw); go_simp⟩) ?_
          simp only [Act.put, List.setIfInBounds_toArray, List.set_cons_zero, List.set_cons_succ]
          refine takeD (i := 7) (some 71) (.pointer (some ⟨bC, oC + k, none⟩)) rfl (by kernel_rfl) (by kernel_rfl) (by kernel_rfl) (by kernel_rfl) (fun _ _ _ h => h) (by assumption) (Or.inl ⟨by rfl, fun w hSw => by (try dsimp only at hSw); go_simp⟩) ?_
          simp only [Act.put, List.setIfInBounds_toArray, List.set_cons_zero, List.set_cons_succ]
          refine takeD (i := 8) (some 72) (.int .i64 x) rfl (by kernel_rfl) (by kernel_rfl) (by kernel_rfl) (by kernel_rfl) (fun _ _ _ h => h) (by assumption) (Or.inl ⟨by rfl, fun w hSw => by (try dsimp only at hSw); go_simp⟩) ?_
          simp only [Act.put, List.setIfInBounds_toArray, List.set_cons_zero, List.set_cons_succ]
          refine wpAnyH_ready (rs := [9]) (by kernel_rfl) (by simp) (AllReadyH.cons rfl (fun K hK => ?_) AllReadyH.nil)
          go_simp
          have e1 : Below wp.heap.size wp (wp.drew.alloc (.cells #[.int .i64 y, .int .i64 x] 2)) := (belowDrew0 wp).alloc (Nat.le_refl _) _
          have HHeld := KS.out _ (HBwp.out.trans (e1.mono HBwp.out.size))
          refine hK.out _ _ HHeld (fun _ => ?_)
          clear hK K
          try simp only [Act.put, List.setIfInBounds_toArray, List.set_cons_zero, List.set_cons_succ]
          refine wpAnyH_ready (rs := [10]) (by kernel_rfl) (by simp) (AllReadyH.cons rfl (fun K hK => ?_) AllReadyH.nil)
          go_simp
          have e2 : Below wp.heap.size wp ((wp.drew.alloc (.cells #[.int .i64 y, .int .i64 x] 2)).alloc (.cells #[.slice (some ⟨wp.heap.size, 0, none⟩) 2 2] 30)) := e1.alloc e1.size _
          have HHeld := KS.out _ (HBwp.out.trans (e2.mono HBwp.out.size))
          refine hK.out _ _ HHeld (fun _ => ?_)
          clear hK K
          try simp only [Act.put, List.setIfInBounds_toArray, List.set_cons_zero, List.set_cons_succ]
          obtain ⟨us, k1, k2, k3, k4⟩ := HOwp.out
          rw [hullF_length] at k1
          have hsW := HBwp.out.size
          refine wpAnyH_ready (rs := [11]) (by kernel_rfl) (by simp) (AllReadyH.cons rfl (fun K hK => ?_) AllReadyH.nil)
          refine step_app1 _ (by rfl) _ _ _ (by rfl) w2.heap.size 30 _ 24 Try.underlying24 info_sl rfl (by omega) _ us (by rfl) ((k2.1.drew.alloc _).alloc _) _ _ (by rfl) (one_cell' (by simp)) rfl (by omega) (by simp; omega) ?_
          intro v' w5 ho5 hg5 hn5 hat5
          have HN := Lib.hid (pairs_push (wr := wp.drew) (N0 := w2.heap.size) (xss := hullF k m.d.toNat [ms, cs]) (k := y) (d := x) hsW (by rw [hullF_length]; exact k1) k2 k3 k4 ho5 hg5)
          have HB5 := Lib.hid (HN.out.2 w2 (belowD HBwp.out 1))
          have ks5 := KS.out w5 HB5.out
          clear ho5 hg5 hn5 hat5 k1 k2 k3 k4 e1 e2
          have HHeld := ks5
          refine hK.out _ _ HHeld (fun _ => ?_)
          clear hK K
          (try simp only [Act.put]); (try simp only [List.setIfInBounds_toArray]); (try simp only [List.set_cons_zero, List.set_cons_succ])
          refine takeD (i := 12) (some 10) (v') rfl (by kernel_rfl) (by kernel_rfl) (by kernel_rfl) (by kernel_rfl) (fun _ _ _ h => h) (by assumption) (Or.inl ⟨by rfl, fun w hSw => by (try dsimp only at hSw); go_simp⟩) ?_
          (try simp only [Act.put]); (try simp only [List.setIfInBounds_toArray]); (try simp only [List.set_cons_zero, List.set_cons_succ])
          refine wpAnyH_done (by kernel_rfl) ?_ _
          clear ks5
          go_wp2_with fail
          go_roundw
          case rel => exact ⟨k + 1, v', by omega, by go_num, rfl, by rw [HSP.out]; exact HN.out.1, HB5.out⟩
          case measure => simp [intOf]; omega
        · have hyd : decide (y < x) = false := decide_eq_false hyx
          have HSP := Lib.hid (show hullF (k + 1) m.d.toNat [ms, cs] = hullF k m.d.toNat [ms, cs] ++ [[y]] by rw [HSE.out, if_neg hxy, if_neg hyx])
          go_wp2_with fail
          go_quiet (fail)
          obtain ⟨wq, hqwq⟩ : ∃ zz : World, zz = wr.drewN nq := ⟨_, rfl⟩
          rw [← hqwq]
          have HOwq := Lib.hid (show OII wq w2.heap.size wq.heap.size u10 (hullF k m.d.toNat [ms, cs]) by rw [hqwq]; exact HOwr.out)
          have HBwq := Lib.hid (show Below w2.heap.size w2 wq by rw [hqwq]; exact belowD HBwr.out _)
          clear hqwq
          obtain ⟨c1wq, c2wq⟩ := KS.out _ HBwq.out
          go_wp2_with fail
          go_quiet (fail)
          obtain ⟨wp, hqwp⟩ : ∃ zz : World, zz = wq.drewN nq := ⟨_, rfl⟩
          rw [← hqwp]
          have HOwp := Lib.hid (show OII wp w2.heap.size wp.heap.size u10 (hullF k m.d.toNat [ms, cs]) by rw [hqwp]; exact HOwq.out)
          have HBwp := Lib.hid (show Below w2.heap.size w2 wp by rw [hqwp]; exact belowD HBwq.out _)
          clear hqwp
          obtain ⟨c1wp, c2wp⟩ := KS.out _ HBwp.out
          obtain ⟨us, k1, k2, k3, k4⟩ := HOwp.out
          rw [hullF_length] at k1
          have HK := Lib.hid (And.intro k1 (And.intro k3 k4)); clear k1 k3 k4
          have hus : us.length ≤ 6 := by have := HK.out.1; omega
          have hsW := HBwp.out.size
          go_wp2_with (at_builtin; refine wpList_app1 _ rfl _ _ _ rfl w2.heap.size 30 _ 24 Try.underlying24 info_sl rfl (by omega) _ us rfl ((k2.1.alloc _).alloc _) _ _ rfl (one_cell' (by simp)) rfl (by omega) (by simp; omega) ?_; intro v' w5 ho5 hg5 hn5 hat5)
          have HN := Lib.hid (rows_push (wr := wp) (N0 := w2.heap.size) (xss := hullF k m.d.toNat [ms, cs]) (ys := [y]) (n := 1) rfl (by omega) hsW (by rw [hullF_length]; exact HK.out.1) k2 HK.out.2.1 HK.out.2.2 ho5 hg5)
          have HB5 := Lib.hid (HN.out.2 w2 HBwp.out)
          clear ho5 hg5 hn5 hat5
          go_roundw
          case rel => exact ⟨k + 1, v', by omega, by go_num, rfl, by rw [HSP.out]; exact HN.out.1, HB5.out⟩
          case measure => simp [intOf]; omega
    · obtain rfl : k = ms.length := by omega
      obtain ⟨A9, c9, hv9, hc9, hr9⟩ := HO.out.reads
      rw [hullF_length] at hv9 hc9
      subst hv9
      have lb := (hb.block (w.heap.size + 1) (by omega)).trans HLB.out
      have l0 : wr.cell? ⟨w.heap.size + 1, 0, none⟩ = some (.slice none 0 0) := by simp [World.cell?, lb]
      have l1 : wr.frozen? ⟨w.heap.size + 1, 0, none⟩ = false := by simp [World.frozen?, lb]
      have HBB := Lib.hid Bw
      clear hr9
      go_wp2_with fail
      (try simp only [Exit.inBlock, Exit.then])
      refine bodyPost_ret (results_cell_row rfl _ _ (w.heap.size + 1) 54 #[.slice A9 ms.length c9] (0, 0) _ (by rfl) (by simp [World.setCell, Array.getElem?_modify, lb]) Try.underlying54 rfl (by kernel_rfl)) rfl ?_
      have ho9 := (HO.out.setLow (p := ⟨w.heap.size + 1, 0, none⟩) (u := .slice A9 ms.length c9) (by simp only; omega)).wide (B' := w.heap.size) (C' := (wr.setCell ⟨w.heap.size + 1, 0, none⟩ (.slice A9 ms.length c9)).heap.size) (by omega) (by simp)
      rw [HRES.out]
      have hl9 : (hullF ms.length m.d.toNat [ms, cs]).length = ms.length := hullF_length _ _ _
      exact ⟨A9, c9, by rw [hl9], by rw [hl9]; exact hc9, ho9.rii, by rw [hl9]; exact ho9, HBB.out.setCell (by simp only; omega) _⟩
end Go.Proofs.Ytdkkkkfcpgkcnaa
