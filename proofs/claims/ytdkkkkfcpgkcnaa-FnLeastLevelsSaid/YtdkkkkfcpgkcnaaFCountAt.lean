/- Contracts of l12Count and CountKeysAt (of the reference). -/
import Derived.Test.YtdkkkkfcpgkcnaaPKeysAt
import Derived.Test.YtdkkkkfcpgkcnaaFCuts
import Derived.Test.YtdkkkkfcpgkcnaaFGhost
namespace Go.Proofs.Ytdkkkkfcpgkcnaa
set_option linter.unusedVariables false
open Go.RowKit
theorem pow_tab2 : ∀ b : Fin 8, ∀ n : Fin 7, (b.val : Int) ^ n.val ≤ 117649 := by decide +kernel
theorem pow_few {b : Int} {n : Nat} (h1 : 1 ≤ b) (h7 : b ≤ 7) (hn : n ≤ 6) : 1 ≤ b ^ n ∧ b ^ n ≤ 117649 := by
  have h3 : ((b.toNat : Nat) : Int) ^ n ≤ 117649 := pow_tab2 ⟨b.toNat, by omega⟩ ⟨n, by omega⟩
  rw [show ((b.toNat : Nat) : Int) = b by omega] at h3
  have h2 : 0 < b ^ n := Int.pow_pos (show 0 < b by omega)
  exact ⟨by omega, h3⟩
theorem isPath_snoc {m : Mk} {ls ps : List Int} {k : Int} (h : isPath m ls ps = true) (hp : ps.length < ls.length) (h0 : 0 ≤ k) (h1 : k < powW (m.d - 1) ls[ps.length].toNat) : isPath m ls (ps ++ [k]) = true := by
  unfold isPath at h ⊢
  rw [Bool.and_eq_true, decide_eq_true_eq, List.all_eq_true] at h ⊢
  refine ⟨by simp; omega, fun i hi => ?_⟩
  have hi1 := List.mem_range.1 hi
  rw [List.length_append, List.length_singleton] at hi1
  by_cases he : i < ps.length
  · have h2 := h.2 i (List.mem_range.2 he)
    unfold pathAt at h2 ⊢
    rw [show (ps ++ [k]).getD i 0 = ps.getD i 0 by simp only [List.getD]; rw [List.getElem?_append_left he]]
    exact h2
  · have e : i = ps.length := by omega
    subst e
    unfold pathAt
    rw [show (ps ++ [k]).getD ps.length 0 = k by simp [List.getD], show ls.getD ps.length 0 = ls[ps.length] by simp [List.getD, List.getElem?_eq_getElem hp]]
    unfold inB
    rw [decide_eq_true_eq]
    omega
def cntKA (m : Mk) (ms ls ps : List Int) : Int := ((keysAt m ms ls ps).length : Int)
theorem cnt_few {m : Mk} {ms ls ps : List Int} (hm : isMaker m = true) : 0 ≤ cntKA m ms ls ps ∧ cntKA m ms ls ps ≤ 262144 := by
  have := keys_few m hm (atAl (cutsAtF m ms ls ps) ms (restSum (ls.take ps.length) : Nat))
  unfold cntKA keysAt; omega
set_option maxRecDepth 100000 in
set_option maxHeartbeats 8000000 in
theorem l12Count_go (m : Mk) (ms ls : List Int) (hm : isMaker m = true) (hc : cutsOK m ms = true) (hl : areLevels m ls = true) : ∀ (r : Nat) (ps : List Int) (A B D : Option Addr) (c d e : Nat) (w : World), RI w A ms → RI w B ls → RI w D ps → isPath m ls ps = true → ps.length + r = ls.length →
    Calls Try.prog 126 #[.agg #[.int .i64 m.c, .int .i64 m.d, .int .i64 m.s, .int .i64 m.a, .int .i64 m.l], .slice A ms.length c, .slice B ls.length d, .slice D ps.length e] w fun e w' => e = .returned (.int .i64 (cntKA m ms ls ps)) ∧ Below w.heap.size w w' := by
  intro r
  induction r with
  | zero =>
    intro ps A B D c d e w h g p hp hr
    have B0 := (Below.refl w.heap.size w).alloc (Nat.le_refl _) (.cells #[.int .i64 m.c, .int .i64 m.d, .int .i64 m.s, .int .i64 m.a, .int .i64 m.l] 45)
    have bx : BoxC (w.alloc (.cells #[.int .i64 m.c, .int .i64 m.d, .int .i64 m.s, .int .i64 m.a, .int .i64 m.l] 45)) w.heap.size 0 [.int .i64 m.c, .int .i64 m.d, .int .i64 m.s, .int .i64 m.a, .int .i64 m.l] := by simp [BoxC, Go.World.cell?_alloc_at]
    have hgl := g.le; have hpl := p.le
    have t1 : ((ps.length : Int) == (ls.length : Int)) = true := by simp; omega
    have HCU := fun (W : World) (hW : Below w.heap.size w W) => l12Cuts_any m A B D c d e ms ls ps W (h.below hW) (g.below hW) (p.below hW) hm hc hl hp
    have HL := show cntKA m ms ls ps = if isKey m (cutsAtF m ms ls ps) = true then 1 else 0 by
      unfold cntKA; rw [keysAt_end (lvOK_of hm hc hl) (by omega)]; split <;> rfl
    obtain ⟨cs, hcs⟩ : ∃ cs, cs = cutsAtF m ms ls ps := ⟨_, rfl⟩
    rw [← hcs] at HCU HL
    have HCC := Lib.hid HCU
    have HFA := Lib.hid (fun (W : World) (A9 : Option Addr) (c9 : Nat) (h9 : RI W A9 cs) (hc9 : cs.length ≤ c9) => l02Fault_any m A9 c9 cs W h9 hc9 hm)
    have KS := Lib.hid (show ∀ w' : World, Below (w.alloc (.cells #[.int .i64 m.c, .int .i64 m.d, .int .i64 m.s, .int .i64 m.a, .int .i64 m.l] 45)).heap.size (w.alloc (.cells #[.int .i64 m.c, .int .i64 m.d, .int .i64 m.s, .int .i64 m.a, .int .i64 m.l] 45)) w' → (w'.cell? ⟨w.heap.size, 0, none⟩ = some (.int .i64 m.c) ∧ w'.cell? ⟨w.heap.size, 1, none⟩ = some (.int .i64 m.d) ∧ w'.cell? ⟨w.heap.size, 2, none⟩ = some (.int .i64 m.s) ∧ w'.cell? ⟨w.heap.size, 3, none⟩ = some (.int .i64 m.a) ∧ w'.cell? ⟨w.heap.size, 4, none⟩ = some (.int .i64 m.l) ∧ True) from fun w' hw => bx.below hw)
    have HB0 := Lib.hid B0
    have H0 := Lib.hid (And.intro hp (And.intro hr hcs))
    clear hp hr hcs HCU bx
    cases hk : isKey m cs with
    | true =>
      have HR := Lib.hid (show (1 : Int) = cntKA m ms ls ps by rw [HL, if_pos hk])
      have hz : (fault m cs != 0) = false := by unfold isKey at hk; simpa using hk
      have HK := Lib.hid (And.intro hk HL); clear hk HL
      go_enter Try.func126, Try.ntmps126
      go_wp2_with fail
      refine wp_region_held_drew (S := (fun w' => w'.cell? ⟨w.heap.size, 0, none⟩ = some (.int .i64 m.c) ∧ w'.cell? ⟨w.heap.size, 1, none⟩ = some (.int .i64 m.d) ∧ w'.cell? ⟨w.heap.size, 2, none⟩ = some (.int .i64 m.s) ∧ w'.cell? ⟨w.heap.size, 3, none⟩ = some (.int .i64 m.a) ∧ w'.cell? ⟨w.heap.size, 4, none⟩ = some (.int .i64 m.l) ∧ True)) (by kernel_rfl) (KS.out _ (belowDrew0 _)) (fun hHeld => ?_)
      refine takeD (i := 0) (some 16) (.agg #[.int .i64 m.c, .int .i64 m.d, .int .i64 m.s, .int .i64 m.a, .int .i64 m.l]) rfl (by kernel_rfl) (by kernel_rfl) (by kernel_rfl) (by kernel_rfl) (fun _ _ _ h => h) (by assumption) (Or.inl ⟨by rfl, fun w hSw => by (try dsimp only at hSw); go_simp⟩) ?_
      simp only [Act.put, List.setIfInBounds_toArray, List.set_cons_zero, List.set_cons_succ]
      refine takeD (i := 1) (some 17) (.agg #[.int .i64 m.c, .int .i64 m.d, .int .i64 m.s, .int .i64 m.a, .int .i64 m.l]) rfl (by kernel_rfl) (by kernel_rfl) (by kernel_rfl) (by kernel_rfl) (fun _ _ _ h => h) (by assumption) (Or.inl ⟨by rfl, fun w hSw => by (try dsimp only at hSw); go_simp⟩) ?_
      simp only [Act.put, List.setIfInBounds_toArray, List.set_cons_zero, List.set_cons_succ]
      refine takeD (i := 2) (some 18) (.slice A ms.length c) rfl (by kernel_rfl) (by kernel_rfl) (by kernel_rfl) (by kernel_rfl) (fun _ _ _ h => h) (by assumption) (Or.inl ⟨by rfl, fun w hSw => by (try dsimp only at hSw); go_simp⟩) ?_
      simp only [Act.put, List.setIfInBounds_toArray, List.set_cons_zero, List.set_cons_succ]
      refine takeD (i := 3) (some 19) (.slice B ls.length d) rfl (by kernel_rfl) (by kernel_rfl) (by kernel_rfl) (by kernel_rfl) (fun _ _ _ h => h) (by assumption) (Or.inl ⟨by rfl, fun w hSw => by (try dsimp only at hSw); go_simp⟩) ?_
      simp only [Act.put, List.setIfInBounds_toArray, List.set_cons_zero, List.set_cons_succ]
      refine takeD (i := 4) (some 20) (.slice D ps.length e) rfl (by kernel_rfl) (by kernel_rfl) (by kernel_rfl) (by kernel_rfl) (fun _ _ _ h => h) (by assumption) (Or.inl ⟨by rfl, fun w hSw => by (try dsimp only at hSw); go_simp⟩) ?_
      simp only [Act.put, List.setIfInBounds_toArray, List.set_cons_zero, List.set_cons_succ]
      have Hb1 := Lib.hid (belowDrew0 (w.alloc (.cells #[.int .i64 m.c, .int .i64 m.d, .int .i64 m.s, .int .i64 m.a, .int .i64 m.l] 45)))
      refine wpAnyH_ready (rs := [5]) (by kernel_rfl) (by simp) (AllReadyH.cons rfl (fun K hK => ?_) AllReadyH.nil)
      go_simp
      refine (HCC.out _ (HB0.out.trans (Hb1.out.mono HB0.out.size))).mono ?_
      rintro e w2 ⟨A2, c2, rfl, hc2, r2, o2, b2⟩
      have Hb2 := Lib.hid (Hb1.out.trans (b2.mono Hb1.out.size))
      have HF2 := Lib.hid (HFA.out w2 A2 c2 r2 hc2)
      clear o2 b2
      have HHeld := KS.out _ Hb2.out
      refine hK.out _ _ HHeld (fun _ => ?_)
      clear hK K
      try simp only [Act.put, List.setIfInBounds_toArray, List.set_cons_zero, List.set_cons_succ]
      refine wpAnyH_ready (rs := [6]) (by kernel_rfl) (by simp) (AllReadyH.cons rfl (fun K hK => ?_) AllReadyH.nil)
      go_simp
      refine HF2.out.mono ?_
      rintro e w3 ⟨rfl, b3⟩
      have Hb3 := Lib.hid (Hb2.out.trans (b3.mono Hb2.out.size))
      clear b3
      have HHeld := KS.out _ Hb3.out
      refine hK.out _ _ HHeld (fun _ => ?_)
      clear hK K
      try simp only [Act.put, List.setIfInBounds_toArray, List.set_cons_zero, List.set_cons_succ]
      refine takeD (i := 7) (some 23) (.bool false) rfl (by kernel_rfl) (by kernel_rfl) (by kernel_rfl) (by kernel_rfl) (fun _ _ _ h => h) (by assumption) (Or.inl ⟨by rfl, fun w hSw => by (try dsimp only at hSw); go_simp⟩) ?_
      simp only [Act.put, List.setIfInBounds_toArray, List.set_cons_zero, List.set_cons_succ]
      refine wpAnyH_done (by kernel_rfl) ?_ _
      go_wp2_with fail
      go_ret
      exact ⟨retI HR.out, HB0.out.trans (Hb3.out.mono HB0.out.size)⟩
    | false =>
      have HR := Lib.hid (show (0 : Int) = cntKA m ms ls ps by rw [HL, if_neg (by rw [hk]; simp)])
      have hz : (fault m cs != 0) = true := by unfold isKey at hk; simpa using hk
      have HK := Lib.hid (And.intro hk HL); clear hk HL
      go_enter Try.func126, Try.ntmps126
      go_wp2_with fail
      refine wp_region_held_drew (S := (fun w' => w'.cell? ⟨w.heap.size, 0, none⟩ = some (.int .i64 m.c) ∧ w'.cell? ⟨w.heap.size, 1, none⟩ = some (.int .i64 m.d) ∧ w'.cell? ⟨w.heap.size, 2, none⟩ = some (.int .i64 m.s) ∧ w'.cell? ⟨w.heap.size, 3, none⟩ = some (.int .i64 m.a) ∧ w'.cell? ⟨w.heap.size, 4, none⟩ = some (.int .i64 m.l) ∧ True)) (by kernel_rfl) (KS.out _ (belowDrew0 _)) (fun hHeld => ?_)
      refine takeD (i := 0) (some 16) (.agg #[.int .i64 m.c, .int .i64 m.d, .int .i64 m.s, .int .i64 m.a, .int .i64 m.l]) rfl (by kernel_rfl) (by kernel_rfl) (by kernel_rfl) (by kernel_rfl) (fun _ _ _ h => h) (by assumption) (Or.inl ⟨by rfl, fun w hSw => by (try dsimp only at hSw); go_simp⟩) ?_
      simp only [Act.put, List.setIfInBounds_toArray, List.set_cons_zero, List.set_cons_succ]
      refine takeD (i := 1) (some 17) (.agg #[.int .i64 m.c, .int .i64 m.d, .int .i64 m.s, .int .i64 m.a, .int .i64 m.l]) rfl (by kernel_rfl) (by kernel_rfl) (by kernel_rfl) (by kernel_rfl) (fun _ _ _ h => h) (by assumption) (Or.inl ⟨by rfl, fun w hSw => by (try dsimp only at hSw); go_simp⟩) ?_
      simp only [Act.put, List.setIfInBounds_toArray, List.set_cons_zero, List.set_cons_succ]
      refine takeD (i := 2) (some 18) (.slice A ms.length c) rfl (by kernel_rfl) (by kernel_rfl) (by kernel_rfl) (by kernel_rfl) (fun _ _ _ h => h) (by assumption) (Or.inl ⟨by rfl, fun w hSw => by (try dsimp only at hSw); go_simp⟩) ?_
      simp only [Act.put, List.setIfInBounds_toArray, List.set_cons_zero, List.set_cons_succ]
      refine takeD (i := 3) (some 19) (.slice B ls.length d) rfl (by kernel_rfl) (by kernel_rfl) (by kernel_rfl) (by kernel_rfl) (fun _ _ _ h => h) (by assumption) (Or.inl ⟨by rfl, fun w hSw => by (try dsimp only at hSw); go_simp⟩) ?_
      simp only [Act.put, List.setIfInBounds_toArray, List.set_cons_zero, List.set_cons_succ]
      refine takeD (i := 4) (some 20) (.slice D ps.length e) rfl (by kernel_rfl) (by kernel_rfl) (by kernel_rfl) (by kernel_rfl) (fun _ _ _ h => h) (by assumption) (Or.inl ⟨by rfl, fun w hSw => by (try dsimp only at hSw); go_simp⟩) ?_
      simp only [Act.put, List.setIfInBounds_toArray, List.set_cons_zero, List.set_cons_succ]
      have Hb1 := Lib.hid (belowDrew0 (w.alloc (.cells #[.int .i64 m.c, .int .i64 m.d, .int .i64 m.s, .int .i64 m.a, .int .i64 m.l] 45)))
      refine wpAnyH_ready (rs := [5]) (by kernel_rfl) (by simp) (AllReadyH.cons rfl (fun K hK => ?_) AllReadyH.nil)
      go_simp
      refine (HCC.out _ (HB0.out.trans (Hb1.out.mono HB0.out.size))).mono ?_
      rintro e w2 ⟨A2, c2, rfl, hc2, r2, o2, b2⟩
      have Hb2 := Lib.hid (Hb1.out.trans (b2.mono Hb1.out.size))
      have HF2 := Lib.hid (HFA.out w2 A2 c2 r2 hc2)
      clear o2 b2
      have HHeld := KS.out _ Hb2.out
      refine hK.out _ _ HHeld (fun _ => ?_)
      clear hK K
      try simp only [Act.put, List.setIfInBounds_toArray, List.set_cons_zero, List.set_cons_succ]
      refine wpAnyH_ready (rs := [6]) (by kernel_rfl) (by simp) (AllReadyH.cons rfl (fun K hK => ?_) AllReadyH.nil)
      go_simp
      refine HF2.out.mono ?_
      rintro e w3 ⟨rfl, b3⟩
      have Hb3 := Lib.hid (Hb2.out.trans (b3.mono Hb2.out.size))
      clear b3
      have HHeld := KS.out _ Hb3.out
      refine hK.out _ _ HHeld (fun _ => ?_)
      clear hK K
      try simp only [Act.put, List.setIfInBounds_toArray, List.set_cons_zero, List.set_cons_succ]
      refine takeD (i := 7) (some 23) (.bool true) rfl (by kernel_rfl) (by kernel_rfl) (by kernel_rfl) (by kernel_rfl) (fun _ _ _ h => h) (by assumption) (Or.inl ⟨by rfl, fun w hSw => by (try dsimp only at hSw); go_simp⟩) ?_
      simp only [Act.put, List.setIfInBounds_toArray, List.set_cons_zero, List.set_cons_succ]
      refine wpAnyH_done (by kernel_rfl) ?_ _
      go_wp2_with fail
      go_ret
      exact ⟨retI HR.out, HB0.out.trans (Hb3.out.mono HB0.out.size)⟩
  | succ r ih =>
    intro ps A B D c d e w h g p hp hr
    have IH := Lib.hid ih; clear ih
    obtain ⟨c1, c2, d1, d2, -⟩ := mk_bounds hm
    have hlt : ps.length < ls.length := by omega
    have hlv := (areLevels_get hl).2.2 ps.length hlt
    have hl4 := (areLevels_get hl).2.1
    have HLV := Lib.hid (lvOK_of hm hc hl)
    obtain ⟨lk, hlk⟩ : ∃ lk, lk = ls[ps.length] := ⟨_, rfl⟩
    rw [← hlk] at hlv
    have hpf := pow_few (b := m.d - 1) (n := lk.toNat) (by omega) (by omega) (by omega)
    obtain ⟨N, hN⟩ : ∃ N : Nat, (N : Int) = (m.d - 1) ^ lk.toNat := ⟨((m.d - 1) ^ lk.toNat).toNat, by omega⟩
    have hN2 : N ≤ 117649 := by omega
    have HPW := Lib.hid (show powW (m.d - 1) lk.toNat = (N : Int) by rw [powW_pow (by omega) (by omega) (by omega), hN])
    have HALL := Lib.hid (show cntKA m ms ls ps = (sumAt m ms ls ps N : Int) by unfold cntKA; rw [sumAt_all HLV.out hlt (by rw [hN, hlk])])
    have HSN := Lib.hid (show ∀ k, k ≤ N → ((sumAt m ms ls ps k : Nat) : Int) ≤ 262144 from fun k hk => by
      have h1 := sumAt_mono (m := m) (ms := ms) (ls := ls) (ps := ps) hk
      have h2 := (cnt_few (m := m) (ms := ms) (ls := ls) (ps := ps) hm).2
      rw [HALL.out] at h2; omega)
    have HM := Lib.hid hm
    have HPA := Lib.hid (show ∀ k : Nat, k < N → isPath m ls (ps ++ [(k : Int)]) = true from fun k hk => isPath_snoc hp hlt (by omega) (by rw [← hlk, HPW.out]; omega))
    have B0 := (Below.refl w.heap.size w).alloc (Nat.le_refl _) (.cells #[.int .i64 m.c, .int .i64 m.d, .int .i64 m.s, .int .i64 m.a, .int .i64 m.l] 45)
    have bx : BoxC (w.alloc (.cells #[.int .i64 m.c, .int .i64 m.d, .int .i64 m.s, .int .i64 m.a, .int .i64 m.l] 45)) w.heap.size 0 [.int .i64 m.c, .int .i64 m.d, .int .i64 m.s, .int .i64 m.a, .int .i64 m.l] := by simp [BoxC, Go.World.cell?_alloc_at]
    have HBX := Lib.hid bx
    have hgl := g.le; have hpl := p.le
    have hps4 : ps.length ≤ 4 := by omega
    have t1 : ((ps.length : Int) == (ls.length : Int)) = false := by rw [beq_eq_false_iff_ne]; omega
    obtain ⟨bB, oB, rfl, hcB⟩ := g.at_ hlt
    rw [← hlk] at hcB
    have E1 := Lib.hid (show ∀ W : World, Calls Try.prog 123 #[.int .i64 (m.d - 1), .int .i64 lk] W fun e w' => e = .returned (.int .i64 (N : Int)) ∧ W = w' from fun W => by rw [← HPW.out]; exact l07Power_any _ _ W (by omega))
    have w1 : IntKind.i64.wrap (m.d - 1) = m.d - 1 := IntWalk.i64_in _ (by omega)
    have i0 : (0 : Int) ≤ (ps.length : Int) := by omega
    have i1 : (ps.length : Int) < (ls.length : Int) := by omega
    have HH := Lib.hid (And.intro hp (And.intro hr (And.intro hN hlk)))
    clear hp hr hN hlk bx hpf
    obtain ⟨w0, hw0⟩ : ∃ w0, w0 = w.alloc (.cells #[.int .i64 m.c, .int .i64 m.d, .int .i64 m.s, .int .i64 m.a, .int .i64 m.l] 45) := ⟨_, rfl⟩
    rw [← hw0] at B0 HBX
    have hz0 : w0.heap.size = w.heap.size + 1 := by rw [hw0]; simp
    go_enter Try.func126, Try.ntmps126
    go_wp2_with fail
    rw [← hw0]
    clear hw0
    go_loopw [9, 10] (fun v i wr => ∃ k : Nat, k ≤ N ∧ i = .int .i64 k ∧ v = .int .i64 (sumAt m ms ls ps k : Nat) ∧ Below w0.heap.size w0 wr) (fun _ i _ => N - (intOf i).toNat)
    case atStart => exact ⟨0, by omega, rfl, rfl, Below.refl _ _⟩
    case round =>
      obtain ⟨k, hk, rfl, rfl, hb⟩ := hrel
      have hsz := hb.size
      have Bw := B0.trans (hb.mono B0.size)
      obtain ⟨q0, q1, q2, q3, q4, _⟩ := HBX.out.below hb
      have hcB2 := cell_in Bw (World.block_lt_of_cell? w _ hcB) hcB
      have hnn := HSN.out k hk
      obtain ⟨n, hn⟩ : ∃ n : Int, n = ((sumAt m ms ls ps k : Nat) : Int) := ⟨_, rfl⟩
      rw [← hn] at hnn ⊢
      have hn0 : 0 ≤ n := by omega
      have HNN := Lib.hid hn; clear hn
      by_cases hkN : k < N
      · have i2 : (k : Int) < (N : Int) := by omega
        go_wp2_with fail
        go_quiet ((go_at_call 123; first | exact quietSA (E1.out _) | exact quietS (E1.out _)))
        go_wp2_with fail
        have hbd := belowD (Below.refl wr.heap.size wr) nq
        obtain ⟨wd, hwd⟩ : ∃ wd, wd = wr.drewN nq := ⟨_, rfl⟩
        rw [← hwd] at hbd ⊢
        clear hwd
        have KS := Lib.hid (show ∀ w' : World, Below wd.heap.size wd w' → (w'.cell? ⟨w.heap.size, 0, none⟩ = some (.int .i64 m.c) ∧ w'.cell? ⟨w.heap.size, 1, none⟩ = some (.int .i64 m.d) ∧ w'.cell? ⟨w.heap.size, 2, none⟩ = some (.int .i64 m.s) ∧ w'.cell? ⟨w.heap.size, 3, none⟩ = some (.int .i64 m.a) ∧ w'.cell? ⟨w.heap.size, 4, none⟩ = some (.int .i64 m.l) ∧ True) from fun w' hw => HBX.out.below (hb.trans ((hbd.trans (hw.mono hbd.size)).mono hsz)))
        have Bd := Bw.trans (hbd.mono Bw.size)
        have hb2 := hb.trans (hbd.mono hsz)
        have OWN := Lib.hid (fun (W : World) (hW : Below wd.heap.size wd W) => l01Own_any D e ps W (p.below (Bd.trans (hW.mono Bd.size))) (by omega))
        obtain ⟨k2, hk2⟩ : ∃ k2, k2 = ps ++ [(k : Int)] := ⟨_, rfl⟩
        have HK2 := Lib.hid hk2
        have HIN := Lib.hid (show ints ps ++ [.int .i64 (k : Int)] = ints k2 by rw [hk2, ints_append]; rfl)
        have HL2 := Lib.hid (show k2.length = ps.length + 1 by rw [hk2]; simp)
        have HP2 := Lib.hid (show isPath m ls k2 = true by rw [hk2]; exact HPA.out k hkN)
        have HR2 := Lib.hid (show k2.length + r = ls.length by rw [hk2]; simp; have := HH.out.2.1; omega)
        have HSG := Lib.hid (show ((sumAt m ms ls ps (k + 1) : Nat) : Int) = ((sumAt m ms ls ps k : Nat) : Int) + cntKA m ms ls (ps ++ [(k : Int)]) by rw [sumAt]; unfold cntKA; omega)
        have HFN := Lib.hid hb2
        have HSZ := Lib.hid (show w0.heap.size ≤ wd.heap.size from Nat.le_trans hsz hbd.size)
        clear hk2 q0 q1 q2 q3 q4 hcB2
        refine wp_region_held_drew (S := (fun w' => w'.cell? ⟨w.heap.size, 0, none⟩ = some (.int .i64 m.c) ∧ w'.cell? ⟨w.heap.size, 1, none⟩ = some (.int .i64 m.d) ∧ w'.cell? ⟨w.heap.size, 2, none⟩ = some (.int .i64 m.s) ∧ w'.cell? ⟨w.heap.size, 3, none⟩ = some (.int .i64 m.a) ∧ w'.cell? ⟨w.heap.size, 4, none⟩ = some (.int .i64 m.l) ∧ True)) (by kernel_rfl) (KS.out _ (belowDrew0 _)) (fun hHeld => ?_)
        refine takeD (i := 0) (some 37) (.int .i64 n) rfl (by kernel_rfl) (by kernel_rfl) (by kernel_rfl) (by kernel_rfl) (fun _ _ _ h => h) (by assumption) (Or.inl ⟨by rfl, fun w hSw => by (try dsimp only at hSw); go_simp⟩) ?_
        simp only [Act.put, List.setIfInBounds_toArray, List.set_cons_zero, List.set_cons_succ]
        refine takeD (i := 1) (some 38) (.agg #[.int .i64 m.c, .int .i64 m.d, .int .i64 m.s, .int .i64 m.a, .int .i64 m.l]) rfl (by kernel_rfl) (by kernel_rfl) (by kernel_rfl) (by kernel_rfl) (fun _ _ _ h => h) (by assumption) (Or.inl ⟨by rfl, fun w hSw => by (try dsimp only at hSw); go_simp⟩) ?_
        simp only [Act.put, List.setIfInBounds_toArray, List.set_cons_zero, List.set_cons_succ]
        refine takeD (i := 2) (some 39) (.slice A ms.length c) rfl (by kernel_rfl) (by kernel_rfl) (by kernel_rfl) (by kernel_rfl) (fun _ _ _ h => h) (by assumption) (Or.inl ⟨by rfl, fun w hSw => by (try dsimp only at hSw); go_simp⟩) ?_
        simp only [Act.put, List.setIfInBounds_toArray, List.set_cons_zero, List.set_cons_succ]
        refine takeD (i := 3) (some 40) (.slice (some ⟨bB, oB, none⟩) ls.length d) rfl (by kernel_rfl) (by kernel_rfl) (by kernel_rfl) (by kernel_rfl) (fun _ _ _ h => h) (by assumption) (Or.inl ⟨by rfl, fun w hSw => by (try dsimp only at hSw); go_simp⟩) ?_
        simp only [Act.put, List.setIfInBounds_toArray, List.set_cons_zero, List.set_cons_succ]
        refine takeD (i := 4) (some 41) (.slice D ps.length e) rfl (by kernel_rfl) (by kernel_rfl) (by kernel_rfl) (by kernel_rfl) (fun _ _ _ h => h) (by assumption) (Or.inl ⟨by rfl, fun w hSw => by (try dsimp only at hSw); go_simp⟩) ?_
        simp only [Act.put, List.setIfInBounds_toArray, List.set_cons_zero, List.set_cons_succ]
        refine takeD (i := 6) (some 43) (.int .i64 (k : Int)) rfl (by kernel_rfl) (by kernel_rfl) (by kernel_rfl) (by kernel_rfl) (fun _ _ _ h => h) (by assumption) (Or.inl ⟨by rfl, fun w hSw => by (try dsimp only at hSw); go_simp⟩) ?_
        simp only [Act.put, List.setIfInBounds_toArray, List.set_cons_zero, List.set_cons_succ]
        refine wpAnyH_ready (rs := [5, 7]) (by kernel_rfl) (by simp) (AllReadyH.cons rfl (fun K hK => ?_) (AllReadyH.cons rfl (fun K hK => ?_) AllReadyH.nil))
        · go_simp
          refine (OWN.out _ (belowDrew0 _)).mono ?_
          rintro e' w4 ⟨A4, c4, rfl, hc4, hr4, ho4', hb4'⟩
          have Hb4 := Lib.hid (belowDrew hb4')
          have HHeld := KS.out _ Hb4.out
          refine hK.out _ _ HHeld (fun _ => ?_)
          clear hK K
          try simp only [Act.put, List.setIfInBounds_toArray, List.set_cons_zero, List.set_cons_succ]
          refine wpAnyH_ready (rs := [7]) (by kernel_rfl) (by simp) (AllReadyH.cons rfl (fun K hK => ?_) AllReadyH.nil)
          go_simp
          have hb4 := Hb4.out.alloc Hb4.out.size (.cells #[.int .i64 (k : Int)] 2)
          have ho4 : OV (w4.alloc (.cells #[.int .i64 (k : Int)] 2)) wd.heap.size 2 (.slice A4 ps.length c4) (ints ps) := ho4'.1.alloc _
          have hcell4 := one_cell w4 (.int .i64 (k : Int)) 2
          clear ho4' hr4 hb4'
          have HHeld := KS.out _ hb4
          refine hK.out _ _ HHeld (fun _ => ?_)
          clear hK K
          try simp only [Act.put, List.setIfInBounds_toArray, List.set_cons_zero, List.set_cons_succ]
          refine wpAnyH_ready (rs := [8]) (by kernel_rfl) (by simp) (AllReadyH.cons rfl (fun K hK => ?_) AllReadyH.nil)
          refine step_app1 _ (by rfl) _ _ _ (by rfl) wd.heap.size 2 _ 8 Try.underlying30 info_int rfl (by omega) _ _ (by rfl) ho4 _ _ (by rfl) hcell4 rfl (by rw [ints_length]; omega) (by have := hb4.size; omega) ?_
          intro v5 w5 ho5 hg5 hn5 hat5
          have hb5 := ho4.own (Nat.le_refl _) hb4 hg5 hb4.size
          rw [HIN.out] at ho5
          have hl2 := HL2.out
          obtain ⟨g5, c5, rfl, hg5a, hg5b, hcc5, _, _⟩ := ho5.open1 (by omega)
          have hr5 : RI w5 (some ⟨g5, 0, none⟩) k2 := by
            obtain ⟨A9, c9, e9, _, h9⟩ := ho5.reads
            injection e9 with e9 _ _
            rw [e9]; exact h9
          have Hb5 := Lib.hid hb5
          have HWW := Lib.hid (Bd.trans (hb5.mono Bd.size))
          clear ho5 hg5 hn5 hat5 hl2
          have HHeld := KS.out _ Hb5.out
          refine hK.out _ _ HHeld (fun _ => ?_)
          clear hK K
          (try simp only [Act.put]); (try simp only [List.setIfInBounds_toArray]); (try simp only [List.set_cons_zero, List.set_cons_succ])
          have HIH := Lib.hid (IH.out k2 A (some ⟨bB, oB, none⟩) (some ⟨g5, 0, none⟩) c d c5 w5 (h.below HWW.out) (g.below HWW.out) hr5 HP2.out HR2.out)
          obtain ⟨x5, hx5⟩ : ∃ x5, x5 = cntKA m ms ls k2 := ⟨_, rfl⟩
          rw [← hx5] at HIH
          have HX5 := Lib.hid hx5; clear hx5
          have hfx : 0 ≤ x5 ∧ x5 ≤ 262144 := by rw [HX5.out]; exact cnt_few HM.out
          have hw5 : IntKind.i64.wrap (n + x5) = n + x5 := IntWalk.i64_in _ (by omega)
          refine wpAnyH_ready (rs := [9]) (by kernel_rfl) (by simp) (AllReadyH.cons rfl (fun K hK => ?_) AllReadyH.nil)
          go_simp
          refine HIH.out.mono ?_
          rintro e' w6 ⟨rfl, b6⟩
          have Hb6 := Lib.hid (Hb5.out.trans (b6.mono Hb5.out.size))
          have HHeld := KS.out _ Hb6.out
          refine hK.out _ _ HHeld (fun _ => ?_)
          clear hK K
          try simp only [Act.put, List.setIfInBounds_toArray, List.set_cons_zero, List.set_cons_succ]
          refine takeD (i := 10) (some 47) (.int .i64 (n + x5)) rfl (by kernel_rfl) (by kernel_rfl) (by kernel_rfl) (by kernel_rfl) (fun _ _ _ h => h) (by assumption) (Or.inl ⟨by rfl, fun w hSw => by (try dsimp only at hSw); go_simp⟩) ?_
          simp only [Act.put, List.setIfInBounds_toArray, List.set_cons_zero, List.set_cons_succ]
          refine takeD (i := 11) (some 9) (.int .i64 (n + x5)) rfl (by kernel_rfl) (by kernel_rfl) (by kernel_rfl) (by kernel_rfl) (fun _ _ _ h => h) (by assumption) (Or.inl ⟨by rfl, fun w hSw => by (try dsimp only at hSw); go_simp⟩) ?_
          simp only [Act.put, List.setIfInBounds_toArray, List.set_cons_zero, List.set_cons_succ]
          refine wpAnyH_done (by kernel_rfl) ?_ _
          go_wp2_with fail
          go_roundw
          case rel => exact ⟨k + 1, by omega, by go_num, by rw [HSG.out, ← HK2.out, ← HX5.out, ← HNN.out], HFN.out.trans (Hb6.out.mono HSZ.out)⟩
          case measure => simp [intOf]; omega
        · go_simp
          have hb40 : Below wd.heap.size wd (wd.drew.alloc (.cells #[.int .i64 (k : Int)] 2)) := (belowDrew0 wd).alloc (Nat.le_refl _) _
          have HHeld := KS.out _ hb40
          refine hK.out _ _ HHeld (fun _ => ?_)
          clear hK K
          try simp only [Act.put, List.setIfInBounds_toArray, List.set_cons_zero, List.set_cons_succ]
          refine wpAnyH_ready (rs := [5]) (by kernel_rfl) (by simp) (AllReadyH.cons rfl (fun K hK => ?_) AllReadyH.nil)
          go_simp
          refine (OWN.out _ hb40).mono ?_
          rintro e' w4 ⟨A4, c4, rfl, hc4, hr4, ho4', hb4'⟩
          have hb4 := hb40.trans (hb4'.mono hb40.size)
          have ho4 : OV w4 wd.heap.size 2 (.slice A4 ps.length c4) (ints ps) := ho4'.1.mono (by simp)
          have hcell4 : w4.cell? ⟨wd.heap.size, 0, none⟩ = some (.int .i64 (k : Int)) := cell_in hb4' (by simp) (one_cell wd (.int .i64 (k : Int)) 2)
          clear ho4' hr4 hb4'
          have HHeld := KS.out _ hb4
          refine hK.out _ _ HHeld (fun _ => ?_)
          clear hK K
          try simp only [Act.put, List.setIfInBounds_toArray, List.set_cons_zero, List.set_cons_succ]
          refine wpAnyH_ready (rs := [8]) (by kernel_rfl) (by simp) (AllReadyH.cons rfl (fun K hK => ?_) AllReadyH.nil)
          refine step_app1 _ (by rfl) _ _ _ (by rfl) wd.heap.size 2 _ 8 Try.underlying30 info_int rfl (by omega) _ _ (by rfl) ho4 _ _ (by rfl) hcell4 rfl (by rw [ints_length]; omega) (by have := hb4.size; omega) ?_
          intro v5 w5 ho5 hg5 hn5 hat5
          have hb5 := ho4.own (Nat.le_refl _) hb4 hg5 hb4.size
          rw [HIN.out] at ho5
          have hl2 := HL2.out
          obtain ⟨g5, c5, rfl, hg5a, hg5b, hcc5, _, _⟩ := ho5.open1 (by omega)
          have hr5 : RI w5 (some ⟨g5, 0, none⟩) k2 := by
            obtain ⟨A9, c9, e9, _, h9⟩ := ho5.reads
            injection e9 with e9 _ _
            rw [e9]; exact h9
          have Hb5 := Lib.hid hb5
          have HWW := Lib.hid (Bd.trans (hb5.mono Bd.size))
          clear ho5 hg5 hn5 hat5 hl2
          have HHeld := KS.out _ Hb5.out
          refine hK.out _ _ HHeld (fun _ => ?_)
          clear hK K
          (try simp only [Act.put]); (try simp only [List.setIfInBounds_toArray]); (try simp only [List.set_cons_zero, List.set_cons_succ])
          have HIH := Lib.hid (IH.out k2 A (some ⟨bB, oB, none⟩) (some ⟨g5, 0, none⟩) c d c5 w5 (h.below HWW.out) (g.below HWW.out) hr5 HP2.out HR2.out)
          obtain ⟨x5, hx5⟩ : ∃ x5, x5 = cntKA m ms ls k2 := ⟨_, rfl⟩
          rw [← hx5] at HIH
          have HX5 := Lib.hid hx5; clear hx5
          have hfx : 0 ≤ x5 ∧ x5 ≤ 262144 := by rw [HX5.out]; exact cnt_few HM.out
          have hw5 : IntKind.i64.wrap (n + x5) = n + x5 := IntWalk.i64_in _ (by omega)
          refine wpAnyH_ready (rs := [9]) (by kernel_rfl) (by simp) (AllReadyH.cons rfl (fun K hK => ?_) AllReadyH.nil)
          go_simp
          refine HIH.out.mono ?_
          rintro e' w6 ⟨rfl, b6⟩
          have Hb6 := Lib.hid (Hb5.out.trans (b6.mono Hb5.out.size))
          have HHeld := KS.out _ Hb6.out
          refine hK.out _ _ HHeld (fun _ => ?_)
          clear hK K
          try simp only [Act.put, List.setIfInBounds_toArray, List.set_cons_zero, List.set_cons_succ]
          refine takeD (i := 10) (some 47) (.int .i64 (n + x5)) rfl (by kernel_rfl) (by kernel_rfl) (by kernel_rfl) (by kernel_rfl) (fun _ _ _ h => h) (by assumption) (Or.inl ⟨by rfl, fun w hSw => by (try dsimp only at hSw); go_simp⟩) ?_
          simp only [Act.put, List.setIfInBounds_toArray, List.set_cons_zero, List.set_cons_succ]
          refine takeD (i := 11) (some 9) (.int .i64 (n + x5)) rfl (by kernel_rfl) (by kernel_rfl) (by kernel_rfl) (by kernel_rfl) (fun _ _ _ h => h) (by assumption) (Or.inl ⟨by rfl, fun w hSw => by (try dsimp only at hSw); go_simp⟩) ?_
          simp only [Act.put, List.setIfInBounds_toArray, List.set_cons_zero, List.set_cons_succ]
          refine wpAnyH_done (by kernel_rfl) ?_ _
          go_wp2_with fail
          go_roundw
          case rel => exact ⟨k + 1, by omega, by go_num, by rw [HSG.out, ← HK2.out, ← HX5.out, ← HNN.out], HFN.out.trans (Hb6.out.mono HSZ.out)⟩
          case measure => simp [intOf]; omega
      · obtain rfl : k = N := by omega
        have HR := Lib.hid (show n = cntKA m ms ls ps by rw [HALL.out, HNN.out])
        go_wp2_with fail
        go_quiet ((go_at_call 123; first | exact quietSA (E1.out _) | exact quietS (E1.out _)))
        go_wp2_with fail
        go_ret
        exact ⟨retI HR.out, belowD Bw _⟩
def countAtR (m : Mk) (ms ls ps : List Int) : Int × Int := if levelsCode m ms ls ps = 0 then (cntKA m ms ls ps, 0) else (0, levelsCode m ms ls ps)
theorem countAt_no {m : Mk} {ms ls ps : List Int} (h : levelsCode m ms ls ps ≠ 0) : (0, levelsCode m ms ls ps) = countAtR m ms ls ps := by unfold countAtR; rw [if_neg h]
theorem countAt_yes {m : Mk} {ms ls ps : List Int} (h : levelsCode m ms ls ps = 0) : (cntKA m ms ls ps, 0) = countAtR m ms ls ps := by unfold countAtR; rw [if_pos h]
theorem isPath_le {m : Mk} {ls ps : List Int} (h : isPath m ls ps = true) : ps.length ≤ ls.length := by
  unfold isPath at h; rw [Bool.and_eq_true, decide_eq_true_eq] at h; exact h.1
set_option maxRecDepth 100000 in
set_option maxHeartbeats 2000000 in
theorem specCountKeysAt_any (m : Mk) (A B D : Option Addr) (c d e : Nat) (ms ls ps : List Int) (w : World) (h : RI w A ms) (g : RI w B ls) (p : RI w D ps) :
    Calls Try.prog 45 #[.agg #[.int .i64 m.c, .int .i64 m.d, .int .i64 m.s, .int .i64 m.a, .int .i64 m.l], .slice A ms.length c, .slice B ls.length d, .slice D ps.length e] w (ResNC w (countAtR m ms ls ps)) := by
  have B0 := (Below.refl w.heap.size w).alloc (Nat.le_refl _) (.cells #[.int .i64 m.c, .int .i64 m.d, .int .i64 m.s, .int .i64 m.a, .int .i64 m.l] 45)
  have bx : BoxC (w.alloc (.cells #[.int .i64 m.c, .int .i64 m.d, .int .i64 m.s, .int .i64 m.a, .int .i64 m.l] 45)) w.heap.size 0 [.int .i64 m.c, .int .i64 m.d, .int .i64 m.s, .int .i64 m.a, .int .i64 m.l] := by simp [BoxC, Go.World.cell?_alloc_at]
  have HCC := Lib.hid (l12Code_any m A B D c d e ms ls ps (w.alloc (.cells #[.int .i64 m.c, .int .i64 m.d, .int .i64 m.s, .int .i64 m.a, .int .i64 m.l] 45)) (h.below B0) (g.below B0) (p.below B0))
  by_cases h1 : levelsCode m ms ls ps = 0
  rotate_left
  · have HN := Lib.hid (countAt_no h1)
    have t1 : (levelsCode m ms ls ps != 0) = true := by simpa using h1
    have H1 := Lib.hid h1; clear h1
    go_enter Try.func45, Try.ntmps45
    go_wp2_with fail
    refine HCC.out.mono ?_
    rintro e w1 ⟨rfl, b1⟩
    go_wp2_with fail
    go_ret2
    exact resNC_of HN.out (B0.trans (b1.mono B0.size))
  have HY := Lib.hid (countAt_yes h1)
  obtain ⟨hm, hc, hl, hp⟩ := lc_0_iff.1 h1
  have hpl := isPath_le hp
  rw [h1] at HCC
  have HK := Lib.hid (fun (W : World) (hW : Below w.heap.size w W) => l12Count_go m ms ls hm hc hl (ls.length - ps.length) ps A B D c d e W (h.below hW) (g.below hW) (p.below hW) hp (by omega))
  have H1 := Lib.hid (And.intro h1 hpl); clear h1 hm hc hl hp hpl
  go_enter Try.func45, Try.ntmps45
  go_wp2_with fail
  refine HCC.out.mono ?_
  rintro e w1 ⟨rfl, b1⟩
  have B1 := B0.trans (b1.mono B0.size)
  obtain ⟨q0, q1, q2, q3, q4, _⟩ := bx.below b1
  go_wp2_with fail
  refine (HK.out _ B1).mono ?_
  rintro e w2 ⟨rfl, b2⟩
  go_wp2_with fail
  go_ret2
  exact resNC_of HY.out (B1.trans (b2.mono B1.size))
end Go.Proofs.Ytdkkkkfcpgkcnaa
