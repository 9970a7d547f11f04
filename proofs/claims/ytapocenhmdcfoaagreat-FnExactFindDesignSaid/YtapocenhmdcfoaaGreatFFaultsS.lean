/- Contracts of l15False (of the reference). -/
import Derived.Test.YtapocenhmdcfoaaGreatFParts2
import Derived.Test.YtapocenhmdcfoaaGreatFFaults
namespace Go.Proofs.YtapocenhmdcfoaaGreat
set_option linter.unusedVariables false
open Go.RowKit
/-- One more pair in a list of pairs of the call's own. -/
theorem pairs_push {N0 : Nat} {wr w' : World} {v0 v' : Value} {us : List Value} {xss : List (List Int)} {k d : Int} (h2 : N0 ≤ wr.heap.size)
    (h1 : us.length = xss.length) (k2 : OR wr N0 wr.heap.size 47 v0 us) (k3 : ∀ j (hj : j < xss.length), ∃ u, us[j]? = some u ∧ OR wr N0 wr.heap.size 2 u (ints xss[j]))
    (k4 : ∀ (i j : Nat) (u u' : Value), i ≠ j → us[i]? = some u → us[j]? = some u' → ∀ g, u.ownBlock = some g → u'.ownBlock ≠ some g)
    (ho : OV w' N0 47 v' (us ++ [.slice (some ⟨wr.heap.size, 0, none⟩) 2 2]))
    (hg : ((wr.alloc (.cells #[.int .i64 k, .int .i64 d] 2)).alloc (.cells #[.slice (some ⟨wr.heap.size, 0, none⟩) 2 2] 47)).grownBy w' v0.ownBlock) :
    OII w' N0 w'.heap.size v' (xss ++ [[k, d]]) ∧ ∀ a, Below N0 a wr → Below N0 a w' := by
  have b1 := (Below.refl wr.heap.size wr).alloc (Nat.le_refl _) (.cells #[.int .i64 k, .int .i64 d] 2)
  have b2 := b1.alloc (by simp only [World.size_alloc]; omega) (.cells #[.slice (some ⟨wr.heap.size, 0, none⟩) 2 2] 47)
  have hu : OV (wr.alloc (.cells #[.int .i64 k, .int .i64 d] 2)) wr.heap.size 2 (.slice (some ⟨wr.heap.size, 0, none⟩) 2 2) (ints [k, d]) := by
    have := OV.new (w := wr) (B := wr.heap.size) (e := 2) #[.int .i64 k, .int .i64 d] (Nat.le_refl _) (by simp [maxLen])
    simpa [ints] using this
  exact ⟨OII.push1 (w := wr.alloc (.cells #[.int .i64 k, .int .i64 d] 2)) (C := wr.heap.size) (ys := [k, d]) h1 (k2.below b1) (fun j hj => by obtain ⟨u, a, b⟩ := k3 j hj; exact ⟨u, a, b.below b1⟩) k4 hu h2 (by simp) ho hg,
    fun a ha => ha.trans (belowG (b2.mono h2) hg (by simp only [World.size_alloc]; omega) (fun g hg1 => (k2.1.lt g hg1).1))⟩
set_option maxRecDepth 100000 in
set_option maxHeartbeats 8000000 in
theorem l15False_any (m : Mk) (A : Option Addr) (c : Nat) (t : List (List Int)) (B : Option Addr) (d : Nat) (cuts : List (List Int)) (w : World) (h : RII w A t) (g : RII w B cuts) (hp : PartOK m t cuts) :
    Calls Tryz.prog 47 #[.agg #[.int .i64 m.c, .int .i64 m.d, .int .i64 m.s, .int .i64 m.a, .int .i64 m.l, .slice A t.length c], .slice B cuts.length d] w (ResII w (faultsF m t cuts)) := by
  have t10 := hp.t10
  have hle := hp.le
  have hgl := g.le
  have HP := Lib.hid hp
  obtain ⟨ls, hls⟩ : ∃ ls, ls = locksF m t cuts := ⟨_, rfl⟩
  have HLW := Lib.hid (show ∀ k (hk : k < t.length), t[k].length = ls.length from fun k hk => by rw [hls, locksF_len]; exact (hp.row k hk).1)
  have HLL := Lib.hid (show ∀ n (hn : n < ls.length), (ls[n].length : Int) = m.c by subst hls; exact fun n hn => hp.lock_len hn)
  have HCL := Lib.hid (show ∀ k (hk : k < cuts.length), (cuts[k].length : Int) = m.c from fun k hk => hp.len hk)
  have HFW := Lib.hid (show ∀ k n, k ≤ cuts.length → n ≤ ls.length → (faultsN t cuts ls k ++ faultRow t cuts ls k n).length ≤ 1000 by subst hls; exact fun k n hk hn => faults_few hp hk hn)
  have HPL := l15Locks_any m A c t B d cuts (w.alloc (.cells #[.int .i64 m.c, .int .i64 m.d, .int .i64 m.s, .int .i64 m.a, .int .i64 m.l, .slice A t.length c] 32)) (h.alloc _) (g.alloc _) hp
  rw [← hls] at HPL
  have HE := Lib.hid (show faultsF m t cuts = faultsN t cuts ls cuts.length by rw [hls]; rfl)
  have HPLL := Lib.hid HPL
  have B0 : Below w.heap.size w (w.alloc (.cells #[.int .i64 m.c, .int .i64 m.d, .int .i64 m.s, .int .i64 m.a, .int .i64 m.l, .slice A t.length c] 32)) := (Below.refl w.heap.size w).alloc (Nat.le_refl _) _
  have bx : BoxC (w.alloc (.cells #[.int .i64 m.c, .int .i64 m.d, .int .i64 m.s, .int .i64 m.a, .int .i64 m.l, .slice A t.length c] 32)) w.heap.size 0 [.int .i64 m.c, .int .i64 m.d, .int .i64 m.s, .int .i64 m.a, .int .i64 m.l, .slice A t.length c] := by simp [BoxC, Go.World.cell?_alloc_at]
  have HBX := Lib.hid bx
  clear hp bx HPL hls
  go_enter Tryz.func47, Tryz.ntmps47
  go_wp2_with fail
  refine HPLL.out.mono ?_
  rintro e w2 ⟨AL, cL, rfl, hcL, rL, oL, bL⟩
  have B2 := B0.trans (bL.mono B0.size)
  have HB2 := Lib.hid (HBX.out.below bL)
  have HRL := Lib.hid rL
  have hls1 := rL.le
  have hN2 : w.heap.size + 1 ≤ w2.heap.size := by have := bL.size; simp only [World.size_alloc] at this; omega
  clear rL oL bL HPLL
  go_wp2_with fail
  go_loopw [6, 7, 8] (fun v i _ wr => ∃ (k : Nat) (v0 : Value), k ≤ cuts.length ∧ i = .int .i64 k ∧ v = v0 ∧ OII wr w2.heap.size wr.heap.size v0 (faultsN t cuts ls k) ∧ Below w2.heap.size w2 wr) (fun _ i _ _ => cuts.length - (intOf i).toNat)
  case atStart => exact ⟨0, _, by omega, rfl, rfl, by simpa [faultsN] using (OII.new0 (w := w2) (Nat.le_refl _)).wide (Nat.le_refl _) (show w2.heap.size + 1 ≤ (w2.alloc (.cells #[] 47)).heap.size by simp), (Below.refl _ _).alloc (Nat.le_refl _) _⟩
  case round =>
    obtain ⟨k, v0, hk, rfl, rfl, ho, hb⟩ := hrel
    have HO := Lib.hid ho
    have HB := Lib.hid hb
    clear ho hb
    by_cases hlt : k < cuts.length
    · obtain ⟨wo, rfl⟩ : ∃ wo : World, wo = wr := ⟨_, rfl⟩
      obtain ⟨bC, oC, AC, cC, rfl, hcC0, hccC, hrC⟩ := g.at_ hlt
      have HRC := Lib.hid (And.intro hcC0 hrC)
      clear hcC0 hrC
      go_wp2_with fail
      go_loopw [6, 8] (fun v i wx => ∃ (n : Nat) (v1 : Value), n ≤ ls.length ∧ i = .int .i64 n ∧ v = v1 ∧ OII wx w2.heap.size wx.heap.size v1 (faultsN t cuts ls k ++ faultRow t cuts ls k n) ∧ Below w2.heap.size w2 wx) (fun _ i _ => ls.length - (intOf i).toNat)
      case atStart => exact ⟨0, _, by omega, rfl, rfl, by simpa [faultRow] using HO.out, HB.out⟩
      case round =>
        obtain ⟨n, v1, hn, rfl, rfl, ho1, hb1⟩ := hrel
        have HO1 := Lib.hid ho1
        have Bx := B2.trans (hb1.mono B2.size)
        have hsz := hb1.size
        clear ho1
        by_cases hlt2 : n < ls.length
        · obtain ⟨bL, oL, A', c', rfl, hcl, hccl, hrl⟩ := (HRL.out.below hb1).at_ hlt2
          obtain ⟨bT, oT, AT, cT, rfl, hcT, hccT, hrT⟩ := (h.below Bx).at_ (show k < t.length by omega)
          have hnt : n < t[k].length := by rw [HLW.out k (by omega)]; exact hlt2
          obtain ⟨bR, oR, rfl, hcR⟩ := hrT.at_ hnt
          have hlR := hrT.le
          have hlT := h.le
          have i0 : (0 : Int) ≤ (k : Int) := by omega
          have i1 : (0 : Int) ≤ (n : Int) := by omega
          have i2 : (k : Int) < (t.length : Int) := by omega
          have i3 : (n : Int) < (t[k].length : Int) := by omega
          have i4 : (n : Int) < (ls.length : Int) := by omega
          have i5 : (k : Int) < (cuts.length : Int) := by omega
          have HSR := Lib.hid (show faultRow t cuts ls k (n + 1) = faultRow t cuts ls k n ++ (if (t[k][n] == 0 && opensL ls[n] cuts[k]) = true then [[(k : Int), (n : Int)]] else []) by rw [faultRow_succ, isFault_in (show k < t.length by omega) hnt hlt hlt2])
          have hlen : cuts[k].length ≤ ls[n].length := by have := HLL.out n hlt2; have := HCL.out k hlt; omega
          have HOP := fun W (hW : Below wr.heap.size wr W) => l04Opens_any A' c' ls[n] AC cC cuts[k] W (hrl.below hW) (HRC.out.2.below (Bx.trans (hW.mono Bx.size))) hlen
          have q5 := (HB2.out.below hb1).2.2.2.2.2.1
          have hcC := cell_in Bx (World.block_lt_of_cell? w _ HRC.out.1) HRC.out.1
          obtain ⟨y, hy⟩ : ∃ y, y = t[k][n] := ⟨_, rfl⟩
          rw [← hy] at hcR HSR
          have KS := Lib.hid (show ∀ w' : World, Below wr.heap.size wr w' → (w'.cell? ⟨w.heap.size, 5, none⟩ = some (.slice (some ⟨bT, oT, none⟩) t.length c) ∧ w'.cell? ⟨bT, oT + k, none⟩ = some (.slice (some ⟨bR, oR, none⟩) t[k].length cT) ∧ w'.cell? ⟨bR, oR + n, none⟩ = some (.int .i64 y) ∧ w'.cell? ⟨bL, oL + n, none⟩ = some (.slice A' ls[n].length c') ∧ w'.cell? ⟨bC, oC + k, none⟩ = some (.slice AC cuts[k].length cC)) from fun w' hw =>
            ⟨cell_in hw (World.block_lt_of_cell? wr _ q5) q5, cell_in hw (World.block_lt_of_cell? wr _ hcT) hcT, cell_in hw (World.block_lt_of_cell? wr _ hcR) hcR, cell_in hw (World.block_lt_of_cell? wr _ hcl) hcl, cell_in hw (World.block_lt_of_cell? wr _ hcC) hcC⟩)
          clear hy hrT q5 hcT hcR hcl hcC
          have HF1 := Lib.hid (HFW.out k n (by omega) (by omega))
          cases hq : (y == 0) with
          | true =>
            cases hop : opensL ls[n] cuts[k] with
            | true =>
              rw [hop] at HOP
              have HOO := Lib.hid HOP
              have HSP := Lib.hid (show faultRow t cuts ls k (n + 1) = faultRow t cuts ls k n ++ [[(k : Int), (n : Int)]] by rw [HSR.out, hq, hop]; rfl)
              clear HOP hop hrl
              go_wp2_with fail
              refine wp_region_held_drew (S := (fun w' => w'.cell? ⟨w.heap.size, 5, none⟩ = some (.slice (some ⟨bT, oT, none⟩) t.length c) ∧ w'.cell? ⟨bT, oT + k, none⟩ = some (.slice (some ⟨bR, oR, none⟩) t[k].length cT) ∧ w'.cell? ⟨bR, oR + n, none⟩ = some (.int .i64 y) ∧ w'.cell? ⟨bL, oL + n, none⟩ = some (.slice A' ls[n].length c') ∧ w'.cell? ⟨bC, oC + k, none⟩ = some (.slice AC cuts[k].length cC))) (by kernel_rfl) (KS.out _ (belowDrew0 _)) (fun hHeld => ?_)
              refine takeD (i := 0) (some 25) (.pointer (some ⟨w.heap.size, 5, none⟩)) rfl (by kernel_rfl) (by kernel_rfl) (by kernel_rfl) (by kernel_rfl) (fun _ _ _ h => h) (by assumption) (Or.inl ⟨by rfl, fun w hSw => by (try dsimp only at hSw); go_simp⟩) ?_
              simp only [Act.put, List.setIfInBounds_toArray, List.set_cons_zero, List.set_cons_succ]
              refine takeD (i := 1) (some 26) (.slice (some ⟨bT, oT, none⟩) t.length c) rfl (by kernel_rfl) (by kernel_rfl) (by kernel_rfl) (by kernel_rfl) (fun _ _ _ h => h) (by assumption) (Or.inl ⟨by rfl, fun w hSw => by (try dsimp only at hSw); go_simp⟩) ?_
              simp only [Act.put, List.setIfInBounds_toArray, List.set_cons_zero, List.set_cons_succ]
              refine takeD (i := 2) (some 27) (.int .i64 (k : Int)) rfl (by kernel_rfl) (by kernel_rfl) (by kernel_rfl) (by kernel_rfl) (fun _ _ _ h => h) (by assumption) (Or.inl ⟨by rfl, fun w hSw => by (try dsimp only at hSw); go_simp⟩) ?_
              simp only [Act.put, List.setIfInBounds_toArray, List.set_cons_zero, List.set_cons_succ]
              refine takeD (i := 3) (some 28) (.pointer (some ⟨bT, oT + k, none⟩)) rfl (by kernel_rfl) (by kernel_rfl) (by kernel_rfl) (by kernel_rfl) (fun _ _ _ h => h) (by assumption) (Or.inl ⟨by rfl, fun w hSw => by (try dsimp only at hSw); go_simp⟩) ?_
              simp only [Act.put, List.setIfInBounds_toArray, List.set_cons_zero, List.set_cons_succ]
              refine takeD (i := 4) (some 29) (.slice (some ⟨bR, oR, none⟩) t[k].length cT) rfl (by kernel_rfl) (by kernel_rfl) (by kernel_rfl) (by kernel_rfl) (fun _ _ _ h => h) (by assumption) (Or.inl ⟨by rfl, fun w hSw => by (try dsimp only at hSw); go_simp⟩) ?_
              simp only [Act.put, List.setIfInBounds_toArray, List.set_cons_zero, List.set_cons_succ]
              refine takeD (i := 5) (some 30) (.int .i64 (n : Int)) rfl (by kernel_rfl) (by kernel_rfl) (by kernel_rfl) (by kernel_rfl) (fun _ _ _ h => h) (by assumption) (Or.inl ⟨by rfl, fun w hSw => by (try dsimp only at hSw); go_simp⟩) ?_
              simp only [Act.put, List.setIfInBounds_toArray, List.set_cons_zero, List.set_cons_succ]
              refine takeD (i := 6) (some 31) (.pointer (some ⟨bR, oR + n, none⟩)) rfl (by kernel_rfl) (by kernel_rfl) (by kernel_rfl) (by kernel_rfl) (fun _ _ _ h => h) (by assumption) (Or.inl ⟨by rfl, fun w hSw => by (try dsimp only at hSw); go_simp⟩) ?_
              simp only [Act.put, List.setIfInBounds_toArray, List.set_cons_zero, List.set_cons_succ]
              refine takeD (i := 7) (some 32) (.int .i64 y) rfl (by kernel_rfl) (by kernel_rfl) (by kernel_rfl) (by kernel_rfl) (fun _ _ _ h => h) (by assumption) (Or.inl ⟨by rfl, fun w hSw => by (try dsimp only at hSw); go_simp⟩) ?_
              simp only [Act.put, List.setIfInBounds_toArray, List.set_cons_zero, List.set_cons_succ]
              refine takeD (i := 8) (some 33) (.bool true) rfl (by kernel_rfl) (by kernel_rfl) (by kernel_rfl) (by kernel_rfl) (fun _ _ _ h => h) (by assumption) (Or.inl ⟨by rfl, fun w hSw => by (try dsimp only at hSw); go_simp⟩) ?_
              simp only [Act.put, List.setIfInBounds_toArray, List.set_cons_zero, List.set_cons_succ]
              refine takeD (i := 9) (some 34) (.bool true) rfl (by kernel_rfl) (by kernel_rfl) (by kernel_rfl) (by kernel_rfl) (fun _ _ _ h => h) (by assumption) (Or.inl ⟨by rfl, fun w hSw => by (try dsimp only at hSw); go_simp⟩) ?_
              simp only [Act.put, List.setIfInBounds_toArray, List.set_cons_zero, List.set_cons_succ]
              refine takeD (i := 10) (some 35) (.slice (some ⟨bL, oL, none⟩) ls.length cL) rfl (by kernel_rfl) (by kernel_rfl) (by kernel_rfl) (by kernel_rfl) (fun _ _ _ h => h) (by assumption) (Or.inl ⟨by rfl, fun w hSw => by (try dsimp only at hSw); go_simp⟩) ?_
              simp only [Act.put, List.setIfInBounds_toArray, List.set_cons_zero, List.set_cons_succ]
              refine takeD (i := 11) (some 36) (.int .i64 (n : Int)) rfl (by kernel_rfl) (by kernel_rfl) (by kernel_rfl) (by kernel_rfl) (fun _ _ _ h => h) (by assumption) (Or.inl ⟨by rfl, fun w hSw => by (try dsimp only at hSw); go_simp⟩) ?_
              simp only [Act.put, List.setIfInBounds_toArray, List.set_cons_zero, List.set_cons_succ]
              refine takeD (i := 12) (some 37) (.pointer (some ⟨bL, oL + n, none⟩)) rfl (by kernel_rfl) (by kernel_rfl) (by kernel_rfl) (by kernel_rfl) (fun _ _ _ h => h) (by assumption) (Or.inl ⟨by rfl, fun w hSw => by (try dsimp only at hSw); go_simp⟩) ?_
              simp only [Act.put, List.setIfInBounds_toArray, List.set_cons_zero, List.set_cons_succ]
              refine takeD (i := 13) (some 38) (.agg #[.slice A' ls[n].length c']) rfl (by kernel_rfl) (by kernel_rfl) (by kernel_rfl) (by kernel_rfl) (fun _ _ _ h => h) (by assumption) (Or.inl ⟨by rfl, fun w hSw => by (try dsimp only at hSw); go_simp⟩) ?_
              simp only [Act.put, List.setIfInBounds_toArray, List.set_cons_zero, List.set_cons_succ]
              refine takeD (i := 14) (some 39) (.slice (some ⟨bC, oC, none⟩) cuts.length d) rfl (by kernel_rfl) (by kernel_rfl) (by kernel_rfl) (by kernel_rfl) (fun _ _ _ h => h) (by assumption) (Or.inl ⟨by rfl, fun w hSw => by (try dsimp only at hSw); go_simp⟩) ?_
              simp only [Act.put, List.setIfInBounds_toArray, List.set_cons_zero, List.set_cons_succ]
              refine takeD (i := 15) (some 40) (.int .i64 (k : Int)) rfl (by kernel_rfl) (by kernel_rfl) (by kernel_rfl) (by kernel_rfl) (fun _ _ _ h => h) (by assumption) (Or.inl ⟨by rfl, fun w hSw => by (try dsimp only at hSw); go_simp⟩) ?_
              simp only [Act.put, List.setIfInBounds_toArray, List.set_cons_zero, List.set_cons_succ]
              refine takeD (i := 16) (some 41) (.pointer (some ⟨bC, oC + k, none⟩)) rfl (by kernel_rfl) (by kernel_rfl) (by kernel_rfl) (by kernel_rfl) (fun _ _ _ h => h) (by assumption) (Or.inl ⟨by rfl, fun w hSw => by (try dsimp only at hSw); go_simp⟩) ?_
              simp only [Act.put, List.setIfInBounds_toArray, List.set_cons_zero, List.set_cons_succ]
              refine takeD (i := 17) (some 42) (.slice AC cuts[k].length cC) rfl (by kernel_rfl) (by kernel_rfl) (by kernel_rfl) (by kernel_rfl) (fun _ _ _ h => h) (by assumption) (Or.inl ⟨by rfl, fun w hSw => by (try dsimp only at hSw); go_simp⟩) ?_
              simp only [Act.put, List.setIfInBounds_toArray, List.set_cons_zero, List.set_cons_succ]
              refine wpAnyH_ready (rs := [18]) (by kernel_rfl) (by simp) (AllReadyH.cons rfl (fun K hK => ?_) AllReadyH.nil)
              go_simp
              refine (HOO.out _ (belowDrew0 _)).mono ?_
              rintro e w3 ⟨rfl, b3'⟩
              have b3 := belowDrew b3'
              clear b3'
              have HHeld := KS.out _ b3
              refine hK.out _ _ HHeld (fun _ => ?_)
              clear hK K
              try simp only [Act.put, List.setIfInBounds_toArray, List.set_cons_zero, List.set_cons_succ]
              refine takeD (i := 19) (some 44) (.bool true) rfl (by kernel_rfl) (by kernel_rfl) (by kernel_rfl) (by kernel_rfl) (fun _ _ _ h => h) (by assumption) (Or.inl ⟨by rfl, fun w hSw => by (try dsimp only at hSw); go_simp⟩) ?_
              simp only [Act.put, List.setIfInBounds_toArray, List.set_cons_zero, List.set_cons_succ]
              refine wpAnyH_done (by kernel_rfl) ?_ _
              obtain ⟨us, k1, k2, k3, k4⟩ := HO1.out.below b3
              have hs3 := b3.size
              have hul : us.length ≤ 1000 := by rw [k1]; exact HF1.out
              have HK := Lib.hid (And.intro k1 (And.intro k3 k4))
              clear k1 k3 k4
              go_wp2_with (at_builtin; refine wpList_app1 _ rfl _ _ _ rfl w2.heap.size 47 _ 24 Tryz.underlying24 info_sl rfl (by omega) _ us rfl ((k2.1.alloc _).alloc _) _ _ rfl (one_cell' (by simp)) rfl (by omega) (by simp; omega) ?_; intro v' w5 ho5 hg5 hn5 hat5)
              have HN := Lib.hid (pairs_push (by omega) HK.out.1 (k2.wide (Nat.le_refl _) hs3) (fun j hj => by obtain ⟨u, a, b⟩ := HK.out.2.1 j hj; exact ⟨u, a, b.wide (Nat.le_refl _) hs3⟩) HK.out.2.2 ho5 hg5)
              have HB3 := Lib.hid (hb1.trans (b3.mono hsz))
              clear ho5 hg5 hn5 hat5
              go_roundw
              case rel => exact ⟨n + 1, v', by omega, by go_num, rfl, by rw [HSP.out, ← List.append_assoc]; exact HN.out.1, HN.out.2 _ HB3.out⟩
              case measure => simp [intOf]; omega
            | false =>
              rw [hop] at HOP
              have HOO := Lib.hid HOP
              have HSP := Lib.hid (show faultRow t cuts ls k (n + 1) = faultRow t cuts ls k n by rw [HSR.out, hq, hop]; simp)
              clear HOP hop hrl
              go_wp2_with fail
              refine wp_region_held_drew (S := (fun w' => w'.cell? ⟨w.heap.size, 5, none⟩ = some (.slice (some ⟨bT, oT, none⟩) t.length c) ∧ w'.cell? ⟨bT, oT + k, none⟩ = some (.slice (some ⟨bR, oR, none⟩) t[k].length cT) ∧ w'.cell? ⟨bR, oR + n, none⟩ = some (.int .i64 y) ∧ w'.cell? ⟨bL, oL + n, none⟩ = some (.slice A' ls[n].length c') ∧ w'.cell? ⟨bC, oC + k, none⟩ = some (.slice AC cuts[k].length cC))) (by kernel_rfl) (KS.out _ (belowDrew0 _)) (fun hHeld => ?_)
              refine takeD (i := 0) (some 25) (.pointer (some ⟨w.heap.size, 5, none⟩)) rfl (by kernel_rfl) (by kernel_rfl) (by kernel_rfl) (by kernel_rfl) (fun _ _ _ h => h) (by assumption) (Or.inl ⟨by rfl, fun w hSw => by (try dsimp only at hSw); go_simp⟩) ?_
              simp only [Act.put, List.setIfInBounds_toArray, List.set_cons_zero, List.set_cons_succ]
              refine takeD (i := 1) (some 26) (.slice (some ⟨bT, oT, none⟩) t.length c) rfl (by kernel_rfl) (by kernel_rfl) (by kernel_rfl) (by kernel_rfl) (fun _ _ _ h => h) (by assumption) (Or.inl ⟨by rfl, fun w hSw => by (try dsimp only at hSw); go_simp⟩) ?_
              simp only [Act.put, List.setIfInBounds_toArray, List.set_cons_zero, List.set_cons_succ]
              refine takeD (i := 2) (some 27) (.int .i64 (k : Int)) rfl (by kernel_rfl) (by kernel_rfl) (by kernel_rfl) (by kernel_rfl) (fun _ _ _ h => h) (by assumption) (Or.inl ⟨by rfl, fun w hSw => by (try dsimp only at hSw); go_simp⟩) ?_
              simp only [Act.put, List.setIfInBounds_toArray, List.set_cons_zero, List.set_cons_succ]
              refine takeD (i := 3) (some 28) (.pointer (some ⟨bT, oT + k, none⟩)) rfl (by kernel_rfl) (by kernel_rfl) (by kernel_rfl) (by kernel_rfl) (fun _ _ _ h => h) (by assumption) (Or.inl ⟨by rfl, fun w hSw => by (try dsimp only at hSw); go_simp⟩) ?_
              simp only [Act.put, List.setIfInBounds_toArray, List.set_cons_zero, List.set_cons_succ]
              refine takeD (i := 4) (some 29) (.slice (some ⟨bR, oR, none⟩) t[k].length cT) rfl (by kernel_rfl) (by kernel_rfl) (by kernel_rfl) (by kernel_rfl) (fun _ _ _ h => h) (by assumption) (Or.inl ⟨by rfl, fun w hSw => by (try dsimp only at hSw); go_simp⟩) ?_
              simp only [Act.put, List.setIfInBounds_toArray, List.set_cons_zero, List.set_cons_succ]
              refine takeD (i := 5) (some 30) (.int .i64 (n : Int)) rfl (by kernel_rfl) (by kernel_rfl) (by kernel_rfl) (by kernel_rfl) (fun _ _ _ h => h) (by assumption) (Or.inl ⟨by rfl, fun w hSw => by (try dsimp only at hSw); go_simp⟩) ?_
              simp only [Act.put, List.setIfInBounds_toArray, List.set_cons_zero, List.set_cons_succ]
              refine takeD (i := 6) (some 31) (.pointer (some ⟨bR, oR + n, none⟩)) rfl (by kernel_rfl) (by kernel_rfl) (by kernel_rfl) (by kernel_rfl) (fun _ _ _ h => h) (by assumption) (Or.inl ⟨by rfl, fun w hSw => by (try dsimp only at hSw); go_simp⟩) ?_
              simp only [Act.put, List.setIfInBounds_toArray, List.set_cons_zero, List.set_cons_succ]
              refine takeD (i := 7) (some 32) (.int .i64 y) rfl (by kernel_rfl) (by kernel_rfl) (by kernel_rfl) (by kernel_rfl) (fun _ _ _ h => h) (by assumption) (Or.inl ⟨by rfl, fun w hSw => by (try dsimp only at hSw); go_simp⟩) ?_
              simp only [Act.put, List.setIfInBounds_toArray, List.set_cons_zero, List.set_cons_succ]
              refine takeD (i := 8) (some 33) (.bool true) rfl (by kernel_rfl) (by kernel_rfl) (by kernel_rfl) (by kernel_rfl) (fun _ _ _ h => h) (by assumption) (Or.inl ⟨by rfl, fun w hSw => by (try dsimp only at hSw); go_simp⟩) ?_
              simp only [Act.put, List.setIfInBounds_toArray, List.set_cons_zero, List.set_cons_succ]
              refine takeD (i := 9) (some 34) (.bool true) rfl (by kernel_rfl) (by kernel_rfl) (by kernel_rfl) (by kernel_rfl) (fun _ _ _ h => h) (by assumption) (Or.inl ⟨by rfl, fun w hSw => by (try dsimp only at hSw); go_simp⟩) ?_
              simp only [Act.put, List.setIfInBounds_toArray, List.set_cons_zero, List.set_cons_succ]
              refine takeD (i := 10) (some 35) (.slice (some ⟨bL, oL, none⟩) ls.length cL) rfl (by kernel_rfl) (by kernel_rfl) (by kernel_rfl) (by kernel_rfl) (fun _ _ _ h => h) (by assumption) (Or.inl ⟨by rfl, fun w hSw => by (try dsimp only at hSw); go_simp⟩) ?_
              simp only [Act.put, List.setIfInBounds_toArray, List.set_cons_zero, List.set_cons_succ]
              refine takeD (i := 11) (some 36) (.int .i64 (n : Int)) rfl (by kernel_rfl) (by kernel_rfl) (by kernel_rfl) (by kernel_rfl) (fun _ _ _ h => h) (by assumption) (Or.inl ⟨by rfl, fun w hSw => by (try dsimp only at hSw); go_simp⟩) ?_
              simp only [Act.put, List.setIfInBounds_toArray, List.set_cons_zero, List.set_cons_succ]
              refine takeD (i := 12) (some 37) (.pointer (some ⟨bL, oL + n, none⟩)) rfl (by kernel_rfl) (by kernel_rfl) (by kernel_rfl) (by kernel_rfl) (fun _ _ _ h => h) (by assumption) (Or.inl ⟨by rfl, fun w hSw => by (try dsimp only at hSw); go_simp⟩) ?_
              simp only [Act.put, List.setIfInBounds_toArray, List.set_cons_zero, List.set_cons_succ]
              refine takeD (i := 13) (some 38) (.agg #[.slice A' ls[n].length c']) rfl (by kernel_rfl) (by kernel_rfl) (by kernel_rfl) (by kernel_rfl) (fun _ _ _ h => h) (by assumption) (Or.inl ⟨by rfl, fun w hSw => by (try dsimp only at hSw); go_simp⟩) ?_
              simp only [Act.put, List.setIfInBounds_toArray, List.set_cons_zero, List.set_cons_succ]
              refine takeD (i := 14) (some 39) (.slice (some ⟨bC, oC, none⟩) cuts.length d) rfl (by kernel_rfl) (by kernel_rfl) (by kernel_rfl) (by kernel_rfl) (fun _ _ _ h => h) (by assumption) (Or.inl ⟨by rfl, fun w hSw => by (try dsimp only at hSw); go_simp⟩) ?_
              simp only [Act.put, List.setIfInBounds_toArray, List.set_cons_zero, List.set_cons_succ]
              refine takeD (i := 15) (some 40) (.int .i64 (k : Int)) rfl (by kernel_rfl) (by kernel_rfl) (by kernel_rfl) (by kernel_rfl) (fun _ _ _ h => h) (by assumption) (Or.inl ⟨by rfl, fun w hSw => by (try dsimp only at hSw); go_simp⟩) ?_
              simp only [Act.put, List.setIfInBounds_toArray, List.set_cons_zero, List.set_cons_succ]
              refine takeD (i := 16) (some 41) (.pointer (some ⟨bC, oC + k, none⟩)) rfl (by kernel_rfl) (by kernel_rfl) (by kernel_rfl) (by kernel_rfl) (fun _ _ _ h => h) (by assumption) (Or.inl ⟨by rfl, fun w hSw => by (try dsimp only at hSw); go_simp⟩) ?_
              simp only [Act.put, List.setIfInBounds_toArray, List.set_cons_zero, List.set_cons_succ]
              refine takeD (i := 17) (some 42) (.slice AC cuts[k].length cC) rfl (by kernel_rfl) (by kernel_rfl) (by kernel_rfl) (by kernel_rfl) (fun _ _ _ h => h) (by assumption) (Or.inl ⟨by rfl, fun w hSw => by (try dsimp only at hSw); go_simp⟩) ?_
              simp only [Act.put, List.setIfInBounds_toArray, List.set_cons_zero, List.set_cons_succ]
              refine wpAnyH_ready (rs := [18]) (by kernel_rfl) (by simp) (AllReadyH.cons rfl (fun K hK => ?_) AllReadyH.nil)
              go_simp
              refine (HOO.out _ (belowDrew0 _)).mono ?_
              rintro e w3 ⟨rfl, b3'⟩
              have b3 := belowDrew b3'
              clear b3'
              have HHeld := KS.out _ b3
              refine hK.out _ _ HHeld (fun _ => ?_)
              clear hK K
              try simp only [Act.put, List.setIfInBounds_toArray, List.set_cons_zero, List.set_cons_succ]
              refine takeD (i := 19) (some 44) (.bool false) rfl (by kernel_rfl) (by kernel_rfl) (by kernel_rfl) (by kernel_rfl) (fun _ _ _ h => h) (by assumption) (Or.inl ⟨by rfl, fun w hSw => by (try dsimp only at hSw); go_simp⟩) ?_
              simp only [Act.put, List.setIfInBounds_toArray, List.set_cons_zero, List.set_cons_succ]
              refine wpAnyH_done (by kernel_rfl) ?_ _
              have HB3 := Lib.hid (hb1.trans (b3.mono hsz))
              have HO3 := Lib.hid ((HO1.out.below b3).wide (Nat.le_refl _) b3.size)
              go_wp2_with fail
              go_roundw
              case rel => exact ⟨n + 1, _, by omega, by go_num, rfl, by rw [HSP.out]; exact HO3.out, HB3.out⟩
              case measure => simp [intOf]; omega
          | false =>
            have HSP := Lib.hid (show faultRow t cuts ls k (n + 1) = faultRow t cuts ls k n by rw [HSR.out, hq]; simp)
            clear HOP hrl
            go_wp2_with fail
            refine wp_region_held_drew (S := (fun w' => w'.cell? ⟨w.heap.size, 5, none⟩ = some (.slice (some ⟨bT, oT, none⟩) t.length c) ∧ w'.cell? ⟨bT, oT + k, none⟩ = some (.slice (some ⟨bR, oR, none⟩) t[k].length cT) ∧ w'.cell? ⟨bR, oR + n, none⟩ = some (.int .i64 y) ∧ w'.cell? ⟨bL, oL + n, none⟩ = some (.slice A' ls[n].length c') ∧ w'.cell? ⟨bC, oC + k, none⟩ = some (.slice AC cuts[k].length cC))) (by kernel_rfl) (KS.out _ (belowDrew0 _)) (fun hHeld => ?_)
            refine takeD (i := 0) (some 25) (.pointer (some ⟨w.heap.size, 5, none⟩)) rfl (by kernel_rfl) (by kernel_rfl) (by kernel_rfl) (by kernel_rfl) (fun _ _ _ h => h) (by assumption) (Or.inl ⟨by rfl, fun w hSw => by (try dsimp only at hSw); go_simp⟩) ?_
            simp only [Act.put, List.setIfInBounds_toArray, List.set_cons_zero, List.set_cons_succ]
            refine takeD (i := 1) (some 26) (.slice (some ⟨bT, oT, none⟩) t.length c) rfl (by kernel_rfl) (by kernel_rfl) (by kernel_rfl) (by kernel_rfl) (fun _ _ _ h => h) (by assumption) (Or.inl ⟨by rfl, fun w hSw => by (try dsimp only at hSw); go_simp⟩) ?_
            simp only [Act.put, List.setIfInBounds_toArray, List.set_cons_zero, List.set_cons_succ]
            refine takeD (i := 2) (some 27) (.int .i64 (k : Int)) rfl (by kernel_rfl) (by kernel_rfl) (by kernel_rfl) (by kernel_rfl) (fun _ _ _ h => h) (by assumption) (Or.inl ⟨by rfl, fun w hSw => by (try dsimp only at hSw); go_simp⟩) ?_
            simp only [Act.put, List.setIfInBounds_toArray, List.set_cons_zero, List.set_cons_succ]
            refine takeD (i := 3) (some 28) (.pointer (some ⟨bT, oT + k, none⟩)) rfl (by kernel_rfl) (by kernel_rfl) (by kernel_rfl) (by kernel_rfl) (fun _ _ _ h => h) (by assumption) (Or.inl ⟨by rfl, fun w hSw => by (try dsimp only at hSw); go_simp⟩) ?_
            simp only [Act.put, List.setIfInBounds_toArray, List.set_cons_zero, List.set_cons_succ]
            refine takeD (i := 4) (some 29) (.slice (some ⟨bR, oR, none⟩) t[k].length cT) rfl (by kernel_rfl) (by kernel_rfl) (by kernel_rfl) (by kernel_rfl) (fun _ _ _ h => h) (by assumption) (Or.inl ⟨by rfl, fun w hSw => by (try dsimp only at hSw); go_simp⟩) ?_
            simp only [Act.put, List.setIfInBounds_toArray, List.set_cons_zero, List.set_cons_succ]
            refine takeD (i := 5) (some 30) (.int .i64 (n : Int)) rfl (by kernel_rfl) (by kernel_rfl) (by kernel_rfl) (by kernel_rfl) (fun _ _ _ h => h) (by assumption) (Or.inl ⟨by rfl, fun w hSw => by (try dsimp only at hSw); go_simp⟩) ?_
            simp only [Act.put, List.setIfInBounds_toArray, List.set_cons_zero, List.set_cons_succ]
            refine takeD (i := 6) (some 31) (.pointer (some ⟨bR, oR + n, none⟩)) rfl (by kernel_rfl) (by kernel_rfl) (by kernel_rfl) (by kernel_rfl) (fun _ _ _ h => h) (by assumption) (Or.inl ⟨by rfl, fun w hSw => by (try dsimp only at hSw); go_simp⟩) ?_
            simp only [Act.put, List.setIfInBounds_toArray, List.set_cons_zero, List.set_cons_succ]
            refine takeD (i := 7) (some 32) (.int .i64 y) rfl (by kernel_rfl) (by kernel_rfl) (by kernel_rfl) (by kernel_rfl) (fun _ _ _ h => h) (by assumption) (Or.inl ⟨by rfl, fun w hSw => by (try dsimp only at hSw); go_simp⟩) ?_
            simp only [Act.put, List.setIfInBounds_toArray, List.set_cons_zero, List.set_cons_succ]
            refine takeD (i := 8) (some 33) (.bool false) rfl (by kernel_rfl) (by kernel_rfl) (by kernel_rfl) (by kernel_rfl) (fun _ _ _ h => h) (by assumption) (Or.inl ⟨by rfl, fun w hSw => by (try dsimp only at hSw); go_simp⟩) ?_
            simp only [Act.put, List.setIfInBounds_toArray, List.set_cons_zero, List.set_cons_succ]
            refine takeD (i := 9) (some 34) (.bool false) rfl (by kernel_rfl) (by kernel_rfl) (by kernel_rfl) (by kernel_rfl) (fun _ _ _ h => h) (by assumption) (Or.inl ⟨by rfl, fun w hSw => by (try dsimp only at hSw); go_simp⟩) ?_
            simp only [Act.put, List.setIfInBounds_toArray, List.set_cons_zero, List.set_cons_succ]
            refine skipD (i := 10) (some 35) rfl (by kernel_rfl) (by kernel_rfl) (by kernel_rfl) (by kernel_rfl) (fun _ _ _ h => h) (by assumption) (by kernel_rfl) ?_
            simp only [Act.put, List.setIfInBounds_toArray, List.set_cons_zero, List.set_cons_succ]
            refine skipD (i := 11) (some 36) rfl (by kernel_rfl) (by kernel_rfl) (by kernel_rfl) (by kernel_rfl) (fun _ _ _ h => h) (by assumption) (by kernel_rfl) ?_
            simp only [Act.put, List.setIfInBounds_toArray, List.set_cons_zero, List.set_cons_succ]
            refine skipD (i := 12) (some 37) rfl (by kernel_rfl) (by kernel_rfl) (by kernel_rfl) (by kernel_rfl) (fun _ _ _ h => h) (by assumption) (by kernel_rfl) ?_
            simp only [Act.put, List.setIfInBounds_toArray, List.set_cons_zero, List.set_cons_succ]
            refine skipD (i := 13) (some 38) rfl (by kernel_rfl) (by kernel_rfl) (by kernel_rfl) (by kernel_rfl) (fun _ _ _ h => h) (by assumption) (by kernel_rfl) ?_
            simp only [Act.put, List.setIfInBounds_toArray, List.set_cons_zero, List.set_cons_succ]
            refine skipD (i := 14) (some 39) rfl (by kernel_rfl) (by kernel_rfl) (by kernel_rfl) (by kernel_rfl) (fun _ _ _ h => h) (by assumption) (by kernel_rfl) ?_
            simp only [Act.put, List.setIfInBounds_toArray, List.set_cons_zero, List.set_cons_succ]
            refine skipD (i := 15) (some 40) rfl (by kernel_rfl) (by kernel_rfl) (by kernel_rfl) (by kernel_rfl) (fun _ _ _ h => h) (by assumption) (by kernel_rfl) ?_
            simp only [Act.put, List.setIfInBounds_toArray, List.set_cons_zero, List.set_cons_succ]
            refine skipD (i := 16) (some 41) rfl (by kernel_rfl) (by kernel_rfl) (by kernel_rfl) (by kernel_rfl) (fun _ _ _ h => h) (by assumption) (by kernel_rfl) ?_
            simp only [Act.put, List.setIfInBounds_toArray, List.set_cons_zero, List.set_cons_succ]
            refine skipD (i := 17) (some 42) rfl (by kernel_rfl) (by kernel_rfl) (by kernel_rfl) (by kernel_rfl) (fun _ _ _ h => h) (by assumption) (by kernel_rfl) ?_
            simp only [Act.put, List.setIfInBounds_toArray, List.set_cons_zero, List.set_cons_succ]
            refine skipD (i := 18) (some 43) rfl (by kernel_rfl) (by kernel_rfl) (by kernel_rfl) (by kernel_rfl) (fun _ _ _ h => h) (by assumption) (by kernel_rfl) ?_
            simp only [Act.put, List.setIfInBounds_toArray, List.set_cons_zero, List.set_cons_succ]
            refine takeD (i := 19) (some 44) (.bool false) rfl (by kernel_rfl) (by kernel_rfl) (by kernel_rfl) (by kernel_rfl) (fun _ _ _ h => h) (by assumption) (Or.inl ⟨by rfl, fun w hSw => by (try dsimp only at hSw); go_simp⟩) ?_
            simp only [Act.put, List.setIfInBounds_toArray, List.set_cons_zero, List.set_cons_succ]
            refine wpAnyH_done (by kernel_rfl) ?_ _
            have HB3 := Lib.hid (belowD hb1 1)
            have HO3 := Lib.hid (show OII wr.drew w2.heap.size wr.drew.heap.size u6 (faultsN t cuts ls k ++ faultRow t cuts ls k n) from HO1.out)
            go_wp2_with fail
            go_roundw
            case rel => exact ⟨n + 1, _, by omega, by go_num, rfl, by rw [HSP.out]; exact HO3.out, HB3.out⟩
            case measure => simp [intOf]; omega
        · obtain rfl : n = ls.length := by omega
          have HSS := Lib.hid (faultsN_succ t cuts ls k)
          go_wp2_with fail
          go_roundw
          case rel => exact ⟨k + 1, _, by omega, by go_num, rfl, by rw [HSS.out]; exact HO1.out, hb1⟩
          case measure => simp [intOf]; omega
    · obtain rfl : k = cuts.length := by omega
      have HBB := Lib.hid (B2.trans (HB.out.mono B2.size))
      go_wp2_with fail
      go_ret
      rw [HE.out]
      exact resII_own HO.out (by omega) (Nat.le_refl _) HBB.out
end Go.Proofs.YtapocenhmdcfoaaGreat
