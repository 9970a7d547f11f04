/- Contracts of l15Lock and l15Locks (of the reference). -/
import Derived.Test.YtapocenhmdcfoaaFParts
namespace Go.Proofs.Ytapocenhmdcfoaa
set_option linter.unusedVariables false
open Go.RowKit
set_option maxRecDepth 100000 in
set_option maxHeartbeats 8000000 in
theorem l15Lock_any (m : Mk) (A : Option Addr) (c : Nat) (t : List (List Int)) (B : Option Addr) (d : Nat) (cuts : List (List Int)) (dd : Nat) (w : World) (h : RII w A t) (g : RII w B cuts) (hp : PartOK m t cuts) (hdd : dd < (t.headD []).length) :
    Calls Try.prog 231 #[.agg #[.int .i64 m.c, .int .i64 m.d, .int .i64 m.s, .int .i64 m.a, .int .i64 m.l, .slice A t.length c], .slice B cuts.length d, .int .i64 (dd : Int)] w (ResL w (hullF m.c.toNat m.d.toNat (keysFor t cuts dd))) := by
  have t10 := hp.t10
  have hle := hp.le
  have HDD := Lib.hid (show ∀ k (hk : k < t.length), dd < t[k].length from fun k hk => by rw [(hp.row k hk).1]; exact hdd)
  have HP := Lib.hid hp
  obtain ⟨w0, hw0⟩ : ∃ w0, w0 = (w.alloc (.cells #[.int .i64 m.c, .int .i64 m.d, .int .i64 m.s, .int .i64 m.a, .int .i64 m.l, .slice A t.length c] 31)).alloc (.cells #[.slice none 0 0] 75) := ⟨_, rfl⟩
  have B0 : Below w.heap.size w w0 := by rw [hw0]; exact ((Below.refl w.heap.size w).alloc (Nat.le_refl _) _).alloc (by simp only [World.size_alloc]; omega) _
  have hz0 : w0.heap.size = w.heap.size + 2 := by rw [hw0]; simp
  have bx : BoxC w0 w.heap.size 0 [.int .i64 m.c, .int .i64 m.d, .int .i64 m.s, .int .i64 m.a, .int .i64 m.l, .slice A t.length c] := by
    have : BoxC (w.alloc (.cells #[.int .i64 m.c, .int .i64 m.d, .int .i64 m.s, .int .i64 m.a, .int .i64 m.l, .slice A t.length c] 31)) w.heap.size 0 [.int .i64 m.c, .int .i64 m.d, .int .i64 m.s, .int .i64 m.a, .int .i64 m.l, .slice A t.length c] := by simp [BoxC, Go.World.cell?_alloc_at]
    rw [hw0]; exact this.below ((Below.refl _ _).alloc (Nat.le_refl _) _)
  have bk : w0.heap[w.heap.size + 1]? = some (.cells #[.slice none 0 0] 75 (0, 0)) := by
    have := heap_alloc_new (w.alloc (.cells #[.int .i64 m.c, .int .i64 m.d, .int .i64 m.s, .int .i64 m.a, .int .i64 m.l, .slice A t.length c] 31)) (.cells #[.slice none 0 0] 75)
    rw [hw0]; simpa using this
  have HBX := Lib.hid bx; have HBK := Lib.hid bk
  have hgl := g.le
  have htl := h.le
  clear hp bx bk hdd
  go_enter Try.func231, Try.ntmps231
  go_wp2_with fail
  rw [← hw0]
  clear hw0
  go_loopw [7, 8] (fun u i wx => ∃ (n : Nat) (u0 : Value) (us : List Value), n ≤ cuts.length ∧ i = .int .i64 n ∧ u = u0 ∧ OV wx (w.heap.size + 2) 56 u0 us ∧ RowsW w us (keysForN t cuts dd n) ∧ Below (w.heap.size + 2) w0 wx) (fun _ i _ => cuts.length - (intOf i).toNat)
  case atStart => exact ⟨0, _, [], by omega, rfl, rfl, by simpa [hz0] using OV.new0 (w := w0) (B := w.heap.size + 2) (e := 56) (by omega), RowsW.nil, (Below.refl _ _).alloc (by omega) _⟩
  case round =>
    obtain ⟨n, u0, us, hn, rfl, rfl, ho2, hrw, hb⟩ := hrel
    have hus : us.length ≤ 10 := by rw [hrw.1]; have := keysForN_len t cuts dd n; omega
    have hsz := hb.size
    have Bw := B0.trans (hb.mono (by omega))
    have hws : w.heap.size < wr.heap.size := by omega
    have hws1 : w.heap.size + 1 < wr.heap.size := by omega
    obtain ⟨q0, q1, q2, q3, q4, q5, _⟩ := HBX.out.keep fun i v hv => cell_in hb (by simp only; omega) hv
    have HO2 := Lib.hid ho2; have HRW := Lib.hid hrw
    clear ho2 hrw
    by_cases hlt : n < cuts.length
    · obtain ⟨bT, oT, AT, cT, rfl, hcT, hccT, hrT⟩ := (h.below Bw).at_ (show n < t.length by omega)
      have hdn := HDD.out n (by omega)
      obtain ⟨bR, oR, rfl, hcR⟩ := hrT.at_ hdn
      have hlR := hrT.le
      have hdi : ((dd : Int) < (t[n].length : Int)) := by omega
      have HSS := Lib.hid (show keysForN t cuts dd (n + 1) = keysForN t cuts dd n ++ (if (t[n][dd] == 1) = true then [cuts[n]] else []) by
        rw [keysForN_succ, getD_row (show n < t.length by omega), getD_row hlt, oneAt_in hdn])
      obtain ⟨y, hy⟩ : ∃ y, y = t[n][dd] := ⟨_, rfl⟩
      rw [← hy] at hcR HSS
      clear hy hrT
      cases hq : (y == 1) with
      | true =>
        have HSP := Lib.hid (show keysForN t cuts dd (n + 1) = keysForN t cuts dd n ++ [cuts[n]] by rw [HSS.out, hq, if_pos rfl])
        obtain ⟨bC, oC, AC, cC, rfl, hcC, hccC, hrC⟩ := g.at_ hlt
        have hcC' := cell_in Bw (World.block_lt_of_cell? w _ hcC) hcC
        have HRC := Lib.hid hrC
        clear hcC hrC
        go_wp2_with (at_builtin; refine wpList_app1 _ rfl _ _ _ rfl (w.heap.size + 2) 56 _ 24 Try.underlying24 info_sl rfl (by omega) _ us rfl (HO2.out.alloc _) _ _ rfl (one_cell _ _ _) rfl (by omega) (by simp; omega) ?_; intro v' w5 ho5 hg5 hn5 hat5)
        have hb5 := (HO2.out.alloc (.cells #[.slice AC cuts[n].length cC] 56)).own (Nat.le_refl _) (hb.alloc (by omega) _) hg5 (by simp; omega)
        go_roundw
        case rel => exact ⟨n + 1, v', us ++ [.slice AC cuts[n].length cC], by omega, by go_num, rfl, ho5, by rw [HSP.out]; exact HRW.out.snoc hccC HRC.out, hb5⟩
        case measure => simp [intOf]; omega
      | false =>
        have HSP := Lib.hid (show keysForN t cuts dd (n + 1) = keysForN t cuts dd n by rw [HSS.out, hq]; simp)
        go_wp2_with fail
        go_roundw
        case rel => exact ⟨n + 1, _, us, by omega, by go_num, rfl, HO2.out, by rw [HSP.out]; exact HRW.out, hb⟩
        case measure => simp [intOf]; omega
    · obtain rfl : n = cuts.length := by omega
      have hrr := HRW.out
      obtain ⟨ks, hks⟩ : ∃ ks, ks = keysFor t cuts dd := ⟨_, rfl⟩
      rw [show keysForN t cuts dd cuts.length = ks from hks.symm] at hrr
      have HAC := Lib.hid (show allCuts m ks by rw [hks]; exact HP.out.cuts fun x hx => mem_keysFor hx)
      obtain ⟨A7, c7, hv7, hc7, hr7⟩ := HO2.out.reads
      have hul := hrr.1
      rw [hul] at hv7
      subst hv7
      have hkl : ks.length ≤ 1048576 := by omega
      have HHU := Lib.hid (l04Hull_any m A7 c7 ks wr (hrr.rii Bw hr7) HP.out.mak HAC.out hkl)
      obtain ⟨l, hl⟩ : ∃ l, l = hullF m.c.toNat m.d.toNat ks := ⟨_, rfl⟩
      have HEQ := Lib.hid (show hullF m.c.toNat m.d.toNat (keysFor t cuts dd) = l by rw [hl, hks])
      rw [← hl] at HHU
      have lb := (hb.block (w.heap.size + 1) (by omega)).trans HBK.out
      have hB2 := Lib.hid Bw
      clear hl hks hr7 hrr hul HO2 HRW
      go_wp2_with fail
      refine HHU.out.mono ?_
      rintro e w3 ⟨A3, c3, rfl, hc3, r3, o3, b3⟩
      have lb3 := (b3.block (w.heap.size + 1) (by omega)).trans lb
      have l0 : w3.cell? ⟨w.heap.size + 1, 0, none⟩ = some (.slice none 0 0) := by simp [World.cell?, lb3]
      have l1 : w3.frozen? ⟨w.heap.size + 1, 0, none⟩ = false := by simp [World.frozen?, lb3]
      have HO3 := Lib.hid o3; have HB3 := Lib.hid (hB2.out.trans (b3.mono hB2.out.size))
      clear r3 o3 b3 lb q0 q1 q2 q3 q4 q5
      go_wp2_with fail
      (try simp only [Exit.inBlock, Exit.then])
      refine bodyPost_ret (results_cell_row rfl _ _ (w.heap.size + 1) 75 #[.slice A3 l.length c3] (0, 0) _ (by rfl) (by simp [World.setCell, Array.getElem?_modify, lb3]) Try.underlying75 rfl (by kernel_rfl)) rfl ?_
      have ho9 := (HO3.out.setLow (p := ⟨w.heap.size + 1, 0, none⟩) (u := .slice A3 l.length c3) (by simp only; omega)).wide (B' := w.heap.size) (C' := (w3.setCell ⟨w.heap.size + 1, 0, none⟩ (.slice A3 l.length c3)).heap.size) (by omega) (by simp)
      rw [HEQ.out]
      exact ⟨A3, c3, rfl, hc3, ho9.rii, ho9, HB3.out.setCell (by simp only; omega) _⟩
set_option maxRecDepth 100000 in
set_option maxHeartbeats 8000000 in
theorem l15Locks_any (m : Mk) (A : Option Addr) (c : Nat) (t : List (List Int)) (B : Option Addr) (d : Nat) (cuts : List (List Int)) (w : World) (h : RII w A t) (g : RII w B cuts) (hp : PartOK m t cuts) :
    Calls Try.prog 223 #[.agg #[.int .i64 m.c, .int .i64 m.d, .int .i64 m.s, .int .i64 m.a, .int .i64 m.l, .slice A t.length c], .slice B cuts.length d] w (ResLS w (locksF m t cuts)) := by
  have t1 := hp.t1
  have h0 : 0 < t.length := by omega
  have ht0 : t[0].length ≤ 12 := (hp.row 0 h0).2.2
  have HL := Lib.hid (show locksF m t cuts = locksN m t cuts t[0].length by unfold locksF; rw [hp.head h0])
  have HP := Lib.hid hp
  obtain ⟨w0, hw0⟩ : ∃ w0, w0 = w.alloc (.cells #[.int .i64 m.c, .int .i64 m.d, .int .i64 m.s, .int .i64 m.a, .int .i64 m.l, .slice A t.length c] 31) := ⟨_, rfl⟩
  have B0 : Below w.heap.size w w0 := by rw [hw0]; exact (Below.refl w.heap.size w).alloc (Nat.le_refl _) _
  have hz0 : w0.heap.size = w.heap.size + 1 := by rw [hw0]; simp
  have bx : BoxC w0 w.heap.size 0 [.int .i64 m.c, .int .i64 m.d, .int .i64 m.s, .int .i64 m.a, .int .i64 m.l, .slice A t.length c] := by rw [hw0]; simp [BoxC, Go.World.cell?_alloc_at]
  have HBX := Lib.hid bx
  clear hp bx
  go_enter Try.func223, Try.ntmps223
  go_wp2_with fail
  rw [← hw0]
  clear hw0
  go_loopw [5, 6] (fun v i wr => ∃ (k : Nat) (v0 : Value), k ≤ t[0].length ∧ i = .int .i64 k ∧ v = v0 ∧ OLS wr (w.heap.size + 1) wr.heap.size v0 (locksN m t cuts k) ∧ Below (w.heap.size + 1) w0 wr) (fun _ i _ => t[0].length - (intOf i).toNat)
  case atStart => exact ⟨0, _, by omega, rfl, rfl, by simpa [locksN, hz0] using (OLS.new0 (w := w0) (B := w.heap.size + 1) (by omega)).wide (Nat.le_refl _) (show w0.heap.size + 1 ≤ (w0.alloc (.cells #[] 75)).heap.size by simp), (Below.refl _ _).alloc (by omega) _⟩
  case round =>
    obtain ⟨k, v0, hk, rfl, rfl, ho, hb⟩ := hrel
    have HO := Lib.hid ho
    clear ho
    have hsz := hb.size
    have hws : w.heap.size < wr.heap.size := by omega
    have Bw := B0.trans (hb.mono (by omega))
    obtain ⟨q0, q1, q2, q3, q4, q5, _⟩ := HBX.out.keep fun i v hv => cell_in hb (by simp only; omega) hv
    obtain ⟨b, o, A', c', rfl, hc0, hcc, hr⟩ := (h.below Bw).at_ h0
    simp only [Nat.add_zero] at hc0
    have hrl := hr.le
    by_cases hlt : k < t[0].length
    · have HS := Lib.hid (locksN_succ m t cuts k)
      have HHU := Lib.hid (fun W (hW : Below w.heap.size w W) => l15Lock_any m (some ⟨b, o, none⟩) c t B d cuts k W (h.below hW) (g.below hW) HP.out (by rw [HP.out.head h0]; exact hlt))
      obtain ⟨l, hl⟩ : ∃ l, l = hullF m.c.toNat m.d.toNat (keysFor t cuts k) := ⟨_, rfl⟩
      rw [← hl] at HHU HS
      clear hl
      go_wp2_with fail
      refine (HHU.out _ Bw).mono ?_
      rintro e w3 ⟨A3, c3, rfl, hc3, r3, o3, b3⟩
      obtain ⟨usL, f, hf⟩ := HO.out.below b3
      have hul : usL.length ≤ 12 := by rw [hf.1, locksN_len]; omega
      have HF := Lib.hid hf
      have HO3 := Lib.hid o3
      have hs3 := b3.size
      have HB3 := Lib.hid b3
      clear hf r3 o3 b3 q0 q1 q2 q3 q4 q5 hc0
      go_wp2_with (at_builtin; refine wpList_app1 _ rfl _ _ _ rfl (w.heap.size + 1) 75 _ 24 Try.underlying168 info_lock rfl (by omega) _ usL rfl (HF.out.2.1.1.alloc _) _ _ rfl (one_cell _ _ _) rfl (by omega) (by simp; omega) ?_; intro v' w5 ho5 hg5 hn5 hat5)
      have HN := Lib.hid (HF.out.push1 HO3.out (by omega) hs3 (Nat.le_refl _) hs3 ho5 hg5 hat5)
      have HB5 := Lib.hid ((HF.out.2.1.1.alloc (.cells #[.slice A3 l.length c3] 75)).own (Nat.le_refl _) ((hb.trans (HB3.out.mono (by omega))).alloc (by omega) _) hg5 (by simp; omega))
      clear ho5 hg5 hn5 hat5
      go_roundw
      case rel => exact ⟨k + 1, v', by omega, by go_num, rfl, by rw [HS.out]; exact HN.out, HB5.out⟩
      case measure => simp [intOf]; omega
    · obtain rfl : k = t[0].length := by omega
      have HWW := Lib.hid (HO.out.wide (show w.heap.size ≤ w.heap.size + 1 by omega) (Nat.le_refl _))
      have HBB := Lib.hid Bw
      go_wp2_with fail
      go_ret
      obtain ⟨A9, c9, hv9, hc9, hr9⟩ := HWW.out.reads
      have ho9 := HWW.out
      subst hv9
      rw [HL.out]
      exact ⟨A9, c9, rfl, hc9, hr9, ho9, HBB.out⟩
end Go.Proofs.Ytapocenhmdcfoaa
