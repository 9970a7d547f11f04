/- Contracts of partFaults (of the program). -/
import Derived.Test.YtapocenhmdcfoaaGreatFParts
namespace Go.Proofs.YtapocenhmdcfoaaGreat
set_option linter.unusedVariables false
open Go.RowKit
/-- The state of the collection of false openings: the list v0, the locks, what lies below. -/
structure FaultSt (N0 N2 : Nat) (w0 : World) (AL : Option Addr) (cL : Nat) (ls : List (List (List Int))) (wr : World) (v0 : Value) (xss : List (List Int)) : Prop where
  own : OII wr N0 wr.heap.size v0 xss
  loc : OLS wr (N0 + 1) N2 (.slice AL ls.length cL) ls
  le : N2 ≤ wr.heap.size
  bk : ∀ g, v0.ownBlock = some g → g < N0 + 1 ∨ N2 ≤ g
  bel : Below N0 w0 wr
theorem FaultSt.next {N0 N2 : Nat} {w0 wr w' : World} {AL : Option Addr} {cL : Nat} {ls : List (List (List Int))} {v0 : Value} {xss : List (List Int)} (h : FaultSt N0 N2 w0 AL cL ls wr v0 xss) (h2 : N0 ≤ N2) (hb : Below wr.heap.size wr w') : FaultSt N0 N2 w0 AL cL ls w' v0 xss :=
  ⟨(h.own.below hb).wide (Nat.le_refl _) hb.size, h.loc.below (hb.mono h.le), Nat.le_trans h.le hb.size, h.bk, h.bel.trans (hb.mono (Nat.le_trans h2 h.le))⟩
/-- One more pair. -/
theorem FaultSt.push {N0 N2 : Nat} {w0 wr w' : World} {AL : Option Addr} {cL : Nat} {ls : List (List (List Int))} {v0 v' : Value} {us : List Value} {xss : List (List Int)} {k d : Int} (h : FaultSt N0 N2 w0 AL cL ls wr v0 xss) (h2 : N0 + 1 ≤ N2)
    (h1 : us.length = xss.length) (k2 : OR wr N0 wr.heap.size 47 v0 us) (k3 : ∀ j (hj : j < xss.length), ∃ u, us[j]? = some u ∧ OR wr N0 wr.heap.size 2 u (ints xss[j]))
    (k4 : ∀ (i j : Nat) (u u' : Value), i ≠ j → us[i]? = some u → us[j]? = some u' → ∀ g, u.ownBlock = some g → u'.ownBlock ≠ some g)
    (ho : OV w' N0 47 v' (us ++ [.slice (some ⟨wr.heap.size, 0, none⟩) 2 2]))
    (hg : ((wr.alloc (.cells #[.int .i64 k, .int .i64 d] 2)).alloc (.cells #[.slice (some ⟨wr.heap.size, 0, none⟩) 2 2] 47)).grownBy w' v0.ownBlock)
    (hat : v'.ownBlock = v0.ownBlock ∨ v'.ownBlock = some ((wr.alloc (.cells #[.int .i64 k, .int .i64 d] 2)).alloc (.cells #[.slice (some ⟨wr.heap.size, 0, none⟩) 2 2] 47)).heap.size) : FaultSt N0 N2 w0 AL cL ls w' v' (xss ++ [[k, d]]) := by
  have hle := h.le
  have b1 := (Below.refl wr.heap.size wr).alloc (Nat.le_refl _) (.cells #[.int .i64 k, .int .i64 d] 2)
  have b2 := b1.alloc (by simp only [World.size_alloc]; omega) (.cells #[.slice (some ⟨wr.heap.size, 0, none⟩) 2 2] 47)
  have hu : OV (wr.alloc (.cells #[.int .i64 k, .int .i64 d] 2)) wr.heap.size 2 (.slice (some ⟨wr.heap.size, 0, none⟩) 2 2) (ints [k, d]) := by
    have := OV.new (w := wr) (B := wr.heap.size) (e := 2) #[.int .i64 k, .int .i64 d] (Nat.le_refl _) (by simp [maxLen])
    simpa [ints] using this
  have hN := OII.push1 (w := wr.alloc (.cells #[.int .i64 k, .int .i64 d] 2)) (C := wr.heap.size) (ys := [k, d]) h1 (k2.below b1) (fun j hj => by obtain ⟨u, a, b⟩ := k3 j hj; exact ⟨u, a, b.below b1⟩) k4 hu (by omega) (by simp) ho hg
  have hsz := hg.size
  simp only [World.size_alloc] at hsz
  have kp : ∀ g, g < wr.heap.size → v0.ownBlock ≠ some g → w'.heap[g]? = wr.heap[g]? := fun g hl hn => (hg.block g (by simp only [World.size_alloc]; omega) (Ne.symm hn)).trans (b2.block g hl)
  refine ⟨hN, h.loc.keep fun g hg1 hg2 => kp g (by omega) fun e => by have := h.bk g e; omega, by omega, fun g hgv => ?_, ?_⟩
  · rcases hat with e | e
    · exact h.bk g (e.symm.trans hgv)
    · rw [hgv] at e; injection e with e; simp only [World.size_alloc] at e; omega
  · exact h.bel.trans (belowG (b2.mono (by omega)) hg (by simp only [World.size_alloc]; omega) (fun g hg1 => (k2.1.lt g hg1).1))
theorem FaultSt.open_ {N0 N2 : Nat} {w0 wr : World} {AL : Option Addr} {cL : Nat} {ls : List (List (List Int))} {v0 : Value} {xss : List (List Int)} (h : FaultSt N0 N2 w0 AL cL ls wr v0 xss) :
    ∃ us : List Value, us.length = xss.length ∧ OR wr N0 wr.heap.size 47 v0 us ∧ (∀ j (hj : j < xss.length), ∃ u, us[j]? = some u ∧ OR wr N0 wr.heap.size 2 u (ints xss[j])) ∧
      ∀ (i j : Nat) (u u' : Value), i ≠ j → us[i]? = some u → us[j]? = some u' → ∀ g, u.ownBlock = some g → u'.ownBlock ≠ some g := h.own
theorem PartOK.len {m : Mk} {t cuts : List (List Int)} (h : PartOK m t cuts) {k : Nat} (hk : k < cuts.length) : (cuts[k].length : Int) = m.c := by
  have h3 := fault_zero_iff.1 (show fault m cuts[k] = 0 by have := h.keys k hk; simpa [isKey] using this)
  exact h3.1
theorem PartOK.lock_len {m : Mk} {t cuts : List (List Int)} (h : PartOK m t cuts) {d : Nat} (hd : d < (locksF m t cuts).length) : ((locksF m t cuts)[d].length : Int) = m.c := by
  rw [locksF_at hd, hullF_length]
  have := mk_bounds h.mak
  omega
theorem faults_few {m : Mk} {t cuts : List (List Int)} (h : PartOK m t cuts) {k n : Nat} (hk : k ≤ cuts.length) (hn : n ≤ (locksF m t cuts).length) : (faultsN t cuts (locksF m t cuts) k ++ faultRow t cuts (locksF m t cuts) k n).length ≤ 1000 := by
  rw [List.length_append]
  have h1 := faultsN_len t cuts (locksF m t cuts) k
  have h2 := faultRow_len t cuts (locksF m t cuts) k n
  have h3 : (locksF m t cuts).length ≤ 12 := by
    rw [locksF_len]
    have h0 : 0 < t.length := by have := h.t1; omega
    rw [h.head h0]; exact (h.row 0 h0).2.2
  have h4 := h.t10; have h5 := h.le
  have h6 : k * (locksF m t cuts).length ≤ 10 * 12 := Nat.mul_le_mul (by omega) h3
  omega
set_option maxRecDepth 100000 in
set_option maxHeartbeats 8000000 in
theorem partFaults_any (m : Mk) (A : Option Addr) (c : Nat) (t : List (List Int)) (B : Option Addr) (d : Nat) (cuts : List (List Int)) (w : World) (h : RII w A t) (g : RII w B cuts) (hp : PartOK m t cuts) :
    Calls Tryz.prog 51 #[.agg #[.int .i64 m.c, .int .i64 m.d, .int .i64 m.s, .int .i64 m.a, .int .i64 m.l, .slice A t.length c], .slice B cuts.length d] w (ResII w (faultsF m t cuts)) := by
  have t10 := hp.t10
  have hle := hp.le
  have hgl := g.le
  have HP := Lib.hid hp
  obtain ⟨ls, hls⟩ : ∃ ls, ls = locksF m t cuts := ⟨_, rfl⟩
  have HLW := Lib.hid (show ∀ k (hk : k < t.length), t[k].length = ls.length from fun k hk => by rw [hls, locksF_len]; exact (hp.row k hk).1)
  have HLL := Lib.hid (show ∀ n (hn : n < ls.length), (ls[n].length : Int) = m.c by subst hls; exact fun n hn => hp.lock_len hn)
  have HCL := Lib.hid (show ∀ k (hk : k < cuts.length), (cuts[k].length : Int) = m.c from fun k hk => hp.len hk)
  have HFW := Lib.hid (show ∀ k n, k ≤ cuts.length → n ≤ ls.length → (faultsN t cuts ls k ++ faultRow t cuts ls k n).length ≤ 1000 by subst hls; exact fun k n hk hn => faults_few hp hk hn)
  have HPL := partLocks_any m A c t B d cuts ((w.alloc (.cells #[.int .i64 m.c, .int .i64 m.d, .int .i64 m.s, .int .i64 m.a, .int .i64 m.l, .slice A t.length c] 32)).alloc (.cells #[] 47)) ((h.alloc _).alloc _) ((g.alloc _).alloc _) hp
  rw [← hls] at HPL
  have HE := Lib.hid (show faultsF m t cuts = faultsN t cuts ls cuts.length by rw [hls]; rfl)
  have HPLL := Lib.hid HPL
  obtain ⟨w0, hw0⟩ : ∃ w0, w0 = w.alloc (.cells #[.int .i64 m.c, .int .i64 m.d, .int .i64 m.s, .int .i64 m.a, .int .i64 m.l, .slice A t.length c] 32) := ⟨_, rfl⟩
  have B0 : Below w.heap.size w w0 := by rw [hw0]; exact (Below.refl w.heap.size w).alloc (Nat.le_refl _) _
  have hz0 : w0.heap.size = w.heap.size + 1 := by rw [hw0]; simp
  have bx : BoxC w0 w.heap.size 0 [.int .i64 m.c, .int .i64 m.d, .int .i64 m.s, .int .i64 m.a, .int .i64 m.l, .slice A t.length c] := by rw [hw0]; simp [BoxC, Go.World.cell?_alloc_at]
  have HBX := Lib.hid bx
  have hnew := OII.new0 (w := w0) (B := w.heap.size + 1) (by omega)
  rw [hw0] at hnew
  have HNW := Lib.hid hnew
  have HW0 := Lib.hid hw0
  clear hp bx HPL hls hnew hw0
  go_enter Tryz.func51, Tryz.ntmps51
  go_wp2_with fail
  refine HPLL.out.mono ?_
  rintro e w2 ⟨AL, cL, rfl, hcL, rL, oL, bL⟩
  have st2 : FaultSt (w.heap.size + 1) w2.heap.size w0 AL cL ls w2 (.slice (some ⟨w.heap.size + 1, 0, none⟩) 0 0) (faultsN t cuts ls 0) := by
    rw [← HW0.out] at oL bL
    have hnw := HNW.out
    rw [← HW0.out] at hnw
    refine ⟨?_, by simpa [hz0] using oL, Nat.le_refl _, fun g hg => by simp [Value.ownBlock] at hg; omega, ?_⟩
    · have h1 := hnw.below (bL.mono (by simp))
      have h2 := h1.wide (B' := w.heap.size + 1) (C' := w2.heap.size) (by omega) (by have := bL.size; simp at this; omega)
      rw [hz0] at h2
      simpa [faultsN] using h2
    · exact ((Below.refl _ _).alloc (by omega) _).trans (bL.mono (by simp; omega))
  have hls1 := (OLS.rls oL).le
  have HST2 := Lib.hid st2
  have hN2 : w.heap.size + 2 ≤ w2.heap.size := by have := bL.size; simp only [World.size_alloc] at this; omega
  clear rL oL bL st2 HPLL HNW
  go_wp2_with fail
  go_loopw [5, 7, 8, 9, 10, 17] (fun v _ _ _ _ i wr => ∃ (k : Nat) (v0 : Value), k ≤ cuts.length ∧ i = .int .i64 k ∧ v = v0 ∧ FaultSt (w.heap.size + 1) w2.heap.size w0 AL cL ls wr v0 (faultsN t cuts ls k)) (fun _ _ _ _ _ i _ => cuts.length - (intOf i).toNat)
  case atStart => exact ⟨0, _, by omega, rfl, rfl, HST2.out⟩
  case round =>
    obtain ⟨k, v0, hk, rfl, rfl, hst⟩ := hrel
    have HST := Lib.hid hst
    have Bw := B0.trans (hst.bel.mono (by omega))
    clear hst
    by_cases hlt : k < cuts.length
    · obtain ⟨wo, rfl⟩ : ∃ wo : World, wo = wr := ⟨_, rfl⟩
      obtain ⟨bC, oC, AC, cC, rfl, hcC0, hccC, hrC⟩ := g.at_ hlt
      have hcC := cell_in Bw (World.block_lt_of_cell? w _ hcC0) hcC0
      have HRC := Lib.hid hrC
      clear hcC0
      clear hrC
      go_wp2_with fail
      clear hcC
      go_loopw [5, 9, 10, 24] (fun v _ _ i wx => ∃ (n : Nat) (v1 : Value), n ≤ ls.length ∧ i = .int .i64 n ∧ v = v1 ∧ FaultSt (w.heap.size + 1) w2.heap.size w0 AL cL ls wx v1 (faultsN t cuts ls k ++ faultRow t cuts ls k n)) (fun _ _ _ i _ => ls.length - (intOf i).toNat)
      case atStart => exact ⟨0, _, by omega, rfl, rfl, by simpa [faultRow] using HST.out⟩
      case round =>
        obtain ⟨n, v1, hn, rfl, rfl, hst⟩ := hrel
        have HS1 := Lib.hid hst
        have Bx := B0.trans (hst.bel.mono (by omega))
        have hws : w.heap.size < wr.heap.size := by have := hst.le; omega
        obtain ⟨q0, q1, q2, q3, q4, q5, _⟩ := HBX.out.keep fun i v hv => cell_in hst.bel (by simp only; omega) hv
        by_cases hlt2 : n < ls.length
        · obtain ⟨bL', oL', A', c', rfl, hcl, hccl, hrl⟩ := (OLS.rls hst.loc).at_ hlt2
          obtain ⟨bT, oT, AT, cT, rfl, hcT, hccT, hrT⟩ := (h.below Bx).at_ (show k < t.length by omega)
          have hnt : n < t[k].length := by rw [HLW.out k (by omega)]; exact hlt2
          obtain ⟨bR, oR, rfl, hcR⟩ := hrT.at_ hnt
          have hlR := hrT.le
          have hlT := h.le
          have hdi : ((n : Int) < (t[k].length : Int)) := by omega
          have HSR := Lib.hid (show faultRow t cuts ls k (n + 1) = faultRow t cuts ls k n ++ (if (t[k][n] == 0 && opensL ls[n] cuts[k]) = true then [[(k : Int), (n : Int)]] else []) by rw [faultRow_succ, isFault_in (show k < t.length by omega) hnt hlt hlt2])
          have hlen : cuts[k].length ≤ ls[n].length := by have := HLL.out n hlt2; have := HCL.out k hlt; omega
          have HOP := fun W (hW : Below wr.heap.size wr W) => opens_any A' c' ls[n] AC cC cuts[k] W (hrl.below hW) (HRC.out.below (Bx.trans (hW.mono Bx.size))) hlen
          have hbT := World.block_lt_of_cell? wr _ hcT
          have hbR := World.block_lt_of_cell? wr _ hcR
          simp only at hbT hbR
          obtain ⟨y, hy⟩ : ∃ y, y = t[k][n] := ⟨_, rfl⟩
          rw [← hy] at hcR HSR
          clear hy hrT hst
          have HF1 := Lib.hid (HFW.out k n (by omega) (by omega))
          cases hq : (y == 0) with
          | true =>
            cases hop : opensL ls[n] cuts[k] with
            | true =>
              rw [hop] at HOP
              have HOO := Lib.hid HOP
              have HSP := Lib.hid (show faultRow t cuts ls k (n + 1) = faultRow t cuts ls k n ++ [[(k : Int), (n : Int)]] by rw [HSR.out, hq, hop]; rfl)
              clear HOP hop hrl
              go_wp2_with fail
              refine (HOO.out _ ((Below.refl _ _).alloc (Nat.le_refl _) _)).mono ?_
              rintro e w3 ⟨rfl, b3⟩
              have hst3 := HS1.out.next (by omega) (((Below.refl wr.heap.size wr).alloc (Nat.le_refl _) (.cells #[.slice A' ls[n].length c'] 85)).trans (b3.mono (by simp)))
              have HS3 := Lib.hid hst3
              obtain ⟨us, k1, k2, k3, k4⟩ := hst3.open_
              have hul : us.length ≤ 1000 := by rw [k1]; exact HF1.out
              have HK := Lib.hid (And.intro k1 (And.intro k3 k4))
              have hs3 : w.heap.size + 1 ≤ w3.heap.size := by have := hst3.le; omega
              clear k1 k3 k4 hst3 hcl hcT hcR q0 q1 q2 q3 q4 q5
              go_wp2_with (at_builtin; refine wpList_app1 _ rfl _ _ _ rfl (w.heap.size + 1) 47 _ 24 Tryz.underlying24 info_sl rfl (by omega) _ us rfl ((k2.1.alloc _).alloc _) _ _ rfl (one_cell' (by simp)) rfl (by omega) (by simp; omega) ?_; intro v' w5 ho5 hg5 hn5 hat5)
              have HN := Lib.hid (HS3.out.push (by omega) HK.out.1 k2 HK.out.2.1 HK.out.2.2 ho5 hg5 hat5)
              clear ho5 hg5 hn5 hat5
              go_roundw
              case rel => exact ⟨n + 1, v', by omega, by go_num, rfl, by rw [HSP.out, ← List.append_assoc]; exact HN.out⟩
              case measure => simp [intOf]; omega
            | false =>
              rw [hop] at HOP
              have HOO := Lib.hid HOP
              have HSP := Lib.hid (show faultRow t cuts ls k (n + 1) = faultRow t cuts ls k n by rw [HSR.out, hq, hop]; simp)
              clear HOP hop hrl
              go_wp2_with fail
              refine (HOO.out _ ((Below.refl _ _).alloc (Nat.le_refl _) _)).mono ?_
              rintro e w3 ⟨rfl, b3⟩
              have HS3 := Lib.hid (HS1.out.next (by omega) (((Below.refl wr.heap.size wr).alloc (Nat.le_refl _) (.cells #[.slice A' ls[n].length c'] 85)).trans (b3.mono (by simp))))
              clear hcl hcT hcR q0 q1 q2 q3 q4 q5
              go_wp2_with fail
              go_roundw
              case rel => exact ⟨n + 1, _, by omega, by go_num, rfl, by rw [HSP.out]; exact HS3.out⟩
              case measure => simp [intOf]; omega
          | false =>
            have HSP := Lib.hid (show faultRow t cuts ls k (n + 1) = faultRow t cuts ls k n by rw [HSR.out, hq]; simp)
            have HS3 := Lib.hid (HS1.out.next (by omega) ((Below.refl wr.heap.size wr).alloc (Nat.le_refl _) (.cells #[.slice A' ls[n].length c'] 85)))
            clear HOP hrl
            go_wp2_with fail
            go_roundw
            case rel => exact ⟨n + 1, _, by omega, by go_num, rfl, by rw [HSP.out]; exact HS3.out⟩
            case measure => simp [intOf]; omega
        · obtain rfl : n = ls.length := by omega
          have HSS := Lib.hid (faultsN_succ t cuts ls k)
          go_wp2_with fail
          go_roundw
          case rel => exact ⟨k + 1, _, by omega, by go_num, rfl, by rw [HSS.out]; exact HS1.out⟩
          case measure => simp [intOf]; omega
    · obtain rfl : k = cuts.length := by omega
      have HBB := Lib.hid Bw
      go_wp2_with fail
      go_ret
      rw [HE.out]
      exact resII_own HST.out.own (by omega) (Nat.le_refl _) HBB.out
end Go.Proofs.YtapocenhmdcfoaaGreat
