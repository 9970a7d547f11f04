/- Contracts of partLocks (of the program), l15Lock and l15Locks (of the reference). -/
import Derived.Test.YtapocenhmdcfoaaGreatMemLS
import Derived.Test.YtapocenhmdcfoaaGreatPSys
import Derived.Test.YtapocenhmdcfoaaGreatFHull
import Derived.Test.YtapocenhmdcfoaaGreatFSysCode
namespace Go.Proofs.YtapocenhmdcfoaaGreat
set_option linter.unusedVariables false
open Go.RowKit
/-- what holds of a system and partial cuts behind the test of their code -/
structure PartOK (m : Mk) (t cuts : List (List Int)) : Prop where
  mak : isMaker m = true
  t1 : 1 ≤ t.length
  t10 : t.length ≤ 10
  row : ∀ k (hk : k < t.length), t[k].length = (t.headD []).length ∧ 1 ≤ t[k].length ∧ t[k].length ≤ 12
  le : cuts.length ≤ t.length
  keys : ∀ k (hk : k < cuts.length), isKey m cuts[k] = true
theorem PartOK.cuts {m : Mk} {t cuts : List (List Int)} (h : PartOK m t cuts) {ks : List (List Int)} (hs : ∀ k ∈ ks, k ∈ cuts) : allCuts m ks := by
  intro k hk
  have h1 := hs _ (List.getElem_mem hk)
  obtain ⟨j, hj, e⟩ := List.getElem_of_mem h1
  have h2 := h.keys j hj
  rw [e] at h2
  have h3 := fault_zero_iff.1 (show fault m ks[k] = 0 by simpa [isKey] using h2)
  exact ⟨h3.1, h3.2.1⟩
theorem PartOK.width {m : Mk} {t cuts : List (List Int)} (h : PartOK m t cuts) {k j : Nat} (hk : k < t.length) (hj : j < t.length) : t[k].length = t[j].length := by rw [(h.row k hk).1, (h.row j hj).1]
theorem PartOK.head {m : Mk} {t cuts : List (List Int)} (h : PartOK m t cuts) {k : Nat} (hk : k < t.length) : (t.headD []).length = t[k].length := (h.row k hk).1.symm
set_option maxRecDepth 100000 in
set_option maxHeartbeats 8000000 in
theorem partLocks_any (m : Mk) (A : Option Addr) (c : Nat) (t : List (List Int)) (B : Option Addr) (d : Nat) (cuts : List (List Int)) (w : World) (h : RII w A t) (g : RII w B cuts) (hp : PartOK m t cuts) :
    Calls Tryz.prog 68 #[.agg #[.int .i64 m.c, .int .i64 m.d, .int .i64 m.s, .int .i64 m.a, .int .i64 m.l, .slice A t.length c], .slice B cuts.length d] w (ResLS w (locksF m t cuts)) := by
  have t1 := hp.t1
  have t10 := hp.t10
  have hle := hp.le
  have h0 : 0 < t.length := by omega
  have ht0 : t[0].length ≤ 12 := (hp.row 0 h0).2.2
  have HL := Lib.hid (show locksF m t cuts = locksN m t cuts t[0].length by unfold locksF; rw [hp.head h0])
  have HP := Lib.hid hp
  obtain ⟨w0, hw0⟩ : ∃ w0, w0 = w.alloc (.cells #[.int .i64 m.c, .int .i64 m.d, .int .i64 m.s, .int .i64 m.a, .int .i64 m.l, .slice A t.length c] 32) := ⟨_, rfl⟩
  have B0 : Below w.heap.size w w0 := by rw [hw0]; exact (Below.refl w.heap.size w).alloc (Nat.le_refl _) _
  have hz0 : w0.heap.size = w.heap.size + 1 := by rw [hw0]; simp
  have bx : BoxC w0 w.heap.size 0 [.int .i64 m.c, .int .i64 m.d, .int .i64 m.s, .int .i64 m.a, .int .i64 m.l, .slice A t.length c] := by rw [hw0]; simp [BoxC, Go.World.cell?_alloc_at]
  have HBX := Lib.hid bx
  obtain ⟨b, o, A', c', rfl, hc0, hcc, hr⟩ := h.at_ h0
  simp only [Nat.add_zero] at hc0
  have hrl := hr.le
  have hbw : b < w.heap.size := World.block_lt_of_cell? w _ hc0
  have hbw1 : b < w.heap.size + 1 := by omega
  clear hp bx
  go_enter Tryz.func68, Tryz.ntmps68
  go_wp2_with fail
  clear hc0
  rw [← hw0]
  clear hw0
  go_loopw [5, 6, 7, 9, 16] (fun v _ _ _ i wr => ∃ (k : Nat) (v0 : Value), k ≤ t[0].length ∧ i = .int .i64 k ∧ v = v0 ∧ OLS wr (w.heap.size + 1) wr.heap.size v0 (locksN m t cuts k) ∧ Below (w.heap.size + 1) w0 wr) (fun _ _ _ _ i _ => t[0].length - (intOf i).toNat)
  case atStart => exact ⟨0, _, by omega, rfl, rfl, by simpa [locksN, hz0] using (OLS.new0 (w := w0) (B := w.heap.size + 1) (by omega)).wide (Nat.le_refl _) (show w0.heap.size + 1 ≤ (w0.alloc (.cells #[] 85)).heap.size by simp), (Below.refl _ _).alloc (by omega) _⟩
  case round =>
    obtain ⟨k, v0, hk, rfl, rfl, ho, hb⟩ := hrel
    have HO := Lib.hid ho
    clear ho
    have hsz := hb.size
    have hws : w.heap.size < wr.heap.size := by omega
    have Bw := B0.trans (hb.mono (by omega))
    obtain ⟨q0, q1, q2, q3, q4, q5, _⟩ := HBX.out.keep fun i v hv => cell_in hb (by simp only; omega) hv
    by_cases hlt : k < t[0].length
    · obtain ⟨wo, rfl⟩ : ∃ wo : World, wo = wr := ⟨_, rfl⟩
      have HS := Lib.hid (locksN_succ m t cuts k)
      have HKL := Lib.hid (keysFor_len t cuts k)
      have HQ := Lib.hid (show ∀ w' : World, Below wo.heap.size wo w' → BoxC w' w.heap.size 0 [.int .i64 m.c, .int .i64 m.d, .int .i64 m.s, .int .i64 m.a, .int .i64 m.l, .slice (some ⟨b, o, none⟩) t.length c] from fun w' hw => (HBX.out.keep fun i v hv => cell_in hb (by simp only; omega) hv).below hw)
      obtain ⟨rl, hrlE⟩ : ∃ rl, rl = rowsForL t k := ⟨_, rfl⟩
      have HPK := Lib.hid (show pick cuts rl = keysFor t cuts k by rw [hrlE]; exact pick_rowsFor k HP.out.le)
      have HNN := Lib.hid (show ∀ j (hj : j < rl.length), 0 ≤ rl[j] by subst hrlE; exact fun j hj => rowsForL_nonneg hj)
      have HRF := fun W (hW : Below w.heap.size w W) => rowsFor_any m (some ⟨b, o, none⟩) c t k W (h.below hW) (fun j hj => by rw [HP.out.width hj h0]; exact hlt) (by omega)
      rw [← hrlE] at HRF
      have HRLL := Lib.hid (show rl.length ≤ 10 by rw [hrlE]; exact Nat.le_trans (selF_len (oneAt k) t) t10)
      have HR := Lib.hid HRF
      clear HRF hrlE
      go_wp2_with fail
      refine (HR.out _ (Bw.alloc (by omega) _)).mono ?_
      rintro e w2 ⟨A2, c2, rfl, hc2, r2, o2, b2⟩
      have hb2 : Below wo.heap.size wo w2 := ((Below.refl _ _).alloc (Nat.le_refl _) _).trans (b2.mono (by simp))
      have hov := (OV.new0 (w := wo) (B := wo.heap.size) (e := 47) (Nat.le_refl _)).below' b2
      have HOV := Lib.hid hov; have HR2 := Lib.hid (show OI w2 (wo.heap.size + 1) w2.heap.size (.slice A2 rl.length c2) rl by simpa using o2); have HB2 := Lib.hid hb2
      have hrl10 := HRLL.out
      clear hov o2 b2 r2 hb2 q0 q1 q2 q3 q4 q5
      go_wp2_with fail
      go_loopw [7, 9, 24] (fun u _ j wx => ∃ (n : Nat) (u0 : Value) (us : List Value), n ≤ rl.length ∧ j = .int .i64 n ∧ u = u0 ∧ OV wx wo.heap.size 47 u0 us ∧ RowsW w us (pick cuts (rl.take n)) ∧ Below wo.heap.size wo wx ∧ OI wx (wo.heap.size + 1) w2.heap.size (.slice A2 rl.length c2) rl ∧ w2.heap.size ≤ wx.heap.size ∧ ∀ g, u0.ownBlock = some g → g < wo.heap.size + 1 ∨ w2.heap.size ≤ g) (fun _ _ j _ => rl.length - (intOf j).toNat)
      case atStart => exact ⟨0, _, [], by omega, rfl, rfl, HOV.out, RowsW.nil, HB2.out, HR2.out, Nat.le_refl _, fun g hg => by simp [Value.ownBlock] at hg; omega⟩
      case round =>
        obtain ⟨n, u0, us, hn, rfl, rfl, ho2, hrw, hb2, hoR, hs2', hug⟩ := hrel
        have HO2 := Lib.hid ho2; have HRW := Lib.hid hrw
        have hus : us.length ≤ 10 := by rw [hrw.1]; have := pick_len cuts (rl.take n); rw [List.length_take] at this; omega
        have Bx := Bw.trans (hb2.mono (by omega))
        have hs2 := hb2.size
        have HUG := Lib.hid hug
        clear ho2 hrw hug
        by_cases hlt2 : n < rl.length
        · obtain ⟨bR, oR, rfl, hcR⟩ := (OI.ri hoR).at_ hlt2
          have hnn := HNN.out n hlt2
          obtain ⟨x, hx⟩ : ∃ x : Nat, rl[n] = (x : Int) := ⟨rl[n].toNat, by omega⟩
          have HSS := Lib.hid (pick_succ cuts rl n hlt2)
          rw [hx] at hcR HSS
          clear hnn
          by_cases hxc : x < cuts.length
          · have hxd : ((x : Int) < (cuts.length : Int)) := by omega
            have HSP := Lib.hid (show pick cuts (rl.take (n + 1)) = pick cuts (rl.take n) ++ [cuts[x]] by rw [HSS.out, if_pos (decide_eq_true hxd), Int.toNat_natCast, getD_row hxc])
            obtain ⟨bC, oC, AC, cC, rfl, hcC, hccC, hrC⟩ := g.at_ hxc
            have hcC' := cell_in Bx (World.block_lt_of_cell? w _ hcC) hcC
            have hgl := g.le
            have HRC := Lib.hid hrC
            have HXX := Lib.hid hx
            clear hcC hrC hx
            go_wp2_with (at_builtin; refine wpList_app1 _ rfl _ _ _ rfl wo.heap.size 47 _ 24 Tryz.underlying24 info_sl rfl (by omega) _ us rfl (HO2.out.alloc _) _ _ rfl (one_cell _ _ _) rfl (by omega) (by simp; omega) ?_; intro v' w5 ho5 hg5 hn5 hat5)
            have hb5 := (HO2.out.alloc (.cells #[.slice AC cuts[x].length cC] 47)).own (Nat.le_refl _) (hb2.alloc (by omega) _) hg5 (by simp; omega)
            have hoR5 : OI w5 (wo.heap.size + 1) w2.heap.size (.slice (some ⟨bR, oR, none⟩) rl.length c2) rl := hoR.keep fun g hg1 hg2 => (hg5.block g (by simp; omega) (fun e => by have := HUG.out g e.symm; omega)).trans (Below.heap_alloc wr _ g (by omega))
            have hug5 : ∀ g, v'.ownBlock = some g → g < wo.heap.size + 1 ∨ w2.heap.size ≤ g := fun g hg => by
              rcases hat5 with e | e
              · exact HUG.out g (e.symm.trans hg)
              · rw [hg] at e; injection e with e; simp at e; omega
            have hs5 : w2.heap.size ≤ w5.heap.size := by have := hg5.size; simp at this; omega
            go_roundw
            case rel => exact ⟨n + 1, v', us ++ [.slice AC cuts[x].length cC], by omega, by go_num, rfl, ho5, by rw [HSP.out]; exact HRW.out.snoc hccC HRC.out, hb5, hoR5, hs5, hug5⟩
            case measure => simp [intOf]; omega
          · have hxd : ¬ ((x : Int) < (cuts.length : Int)) := by omega
            have HSP := Lib.hid (show pick cuts (rl.take (n + 1)) = pick cuts (rl.take n) by rw [HSS.out, if_neg (by simpa using hxd), List.append_nil])
            have HXX := Lib.hid hx
            clear hx
            go_wp2_with fail
            go_roundw
            case rel => exact ⟨n + 1, _, us, by omega, by go_num, rfl, HO2.out, by rw [HSP.out]; exact HRW.out, hb2, hoR, hs2', HUG.out⟩
            case measure => simp [intOf]; omega
        · obtain rfl : n = rl.length := by omega
          have hrr := HRW.out
          rw [List.take_length, HPK.out] at hrr
          obtain ⟨ks, hks⟩ : ∃ ks, ks = keysFor t cuts k := ⟨_, rfl⟩
          rw [← hks] at hrr HS
          have HKL2 := Lib.hid (show ks.length ≤ 10 by rw [hks]; exact Nat.le_trans HKL.out (by omega))
          have HAC := Lib.hid (show allCuts m ks by rw [hks]; exact HP.out.cuts fun x hx => mem_keysFor hx)
          obtain ⟨A7, c7, hv7, hc7, hr7⟩ := HO2.out.reads
          have hul := hrr.1
          rw [hul] at hv7
          subst hv7
          have HHU := Lib.hid (hullOf_any m A7 c7 ks wr (hrr.rii Bx hr7) HP.out.mak HAC.out (by have := HKL2.out; omega))
          obtain ⟨l, hl⟩ : ∃ l, l = hullF m.c.toNat m.d.toNat ks := ⟨_, rfl⟩
          rw [← hl] at HHU HS
          obtain ⟨q0, q1, q2, q3, q4, q5, _⟩ := HQ.out _ hb2
          clear hl hks hr7 hrr hul HO2 HRW hoR HUG
          go_wp2_with fail
          refine HHU.out.mono ?_
          rintro e w3 ⟨A3, c3, rfl, hc3, r3, o3, b3⟩
          have hb3 : Below wo.heap.size wo w3 := hb2.trans (b3.mono hs2)
          obtain ⟨usL, f, hf⟩ := HO.out.below hb3
          have hul : usL.length ≤ 12 := by rw [hf.1, locksN_len]; omega
          have HF := Lib.hid hf
          have HO3 := Lib.hid (o3.wide hs2 (Nat.le_refl _))
          have hs3 := b3.size
          have hs3' : wo.heap.size ≤ w3.heap.size := by omega
          clear hf r3 o3 b3 q0 q1 q2 q3 q4 q5
          go_wp2_with (at_builtin; refine wpList_app1 _ rfl _ _ _ rfl (w.heap.size + 1) 85 _ 24 Tryz.underlying81 info_lock rfl (by omega) _ usL rfl (HF.out.2.1.1.alloc _) _ _ rfl (one_cell _ _ _) rfl (by omega) (by simp; omega) ?_; intro v' w5 ho5 hg5 hn5 hat5)
          have HN := Lib.hid (HF.out.push1 HO3.out (by omega) hs3' (Nat.le_refl _) hs3' ho5 hg5 hat5)
          have HB5 := Lib.hid ((HF.out.2.1.1.alloc (.cells #[.slice A3 l.length c3] 85)).own (Nat.le_refl _) ((hb.trans (hb3.mono (by omega))).alloc (by omega) _) hg5 (by simp; omega))
          clear ho5 hg5 hn5 hat5
          go_roundw
          case rel => exact ⟨k + 1, v', by omega, by go_num, rfl, by rw [HS.out]; exact HN.out, HB5.out⟩
          case measure => simp [intOf]; omega
    · obtain rfl : k = t[0].length := by omega
      obtain ⟨A9, c9, hv9, hc9, hr9⟩ := HO.out.reads
      have hl9 := locksN_len m t cuts t[0].length
      have HWW := Lib.hid (HO.out.wide (show w.heap.size ≤ w.heap.size + 1 by omega) (Nat.le_refl _))
      have HBB := Lib.hid Bw
      clear hv9
      go_wp2_with fail
      go_ret
      obtain ⟨A9, c9, hv9, hc9, hr9⟩ := HWW.out.reads
      have ho9 := HWW.out
      subst hv9
      rw [HL.out]
      exact ⟨A9, c9, rfl, hc9, hr9, ho9, HBB.out⟩
end Go.Proofs.YtapocenhmdcfoaaGreat
