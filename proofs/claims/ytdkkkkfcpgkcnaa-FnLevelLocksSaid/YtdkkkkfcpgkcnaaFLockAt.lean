/- Contracts of LockAt. -/
import Derived.Test.YtdkkkkfcpgkcnaaFHull
import Derived.Test.YtdkkkkfcpgkcnaaFCuts
import Derived.Laws.ResultCell
namespace Go.Proofs.Ytdkkkkfcpgkcnaa
set_option linter.unusedVariables false
open Go.RowKit
theorem results_cell_row_tmp {P : Program} {fn : Func} {p u : Tmp} {ty : TypeId} (h : fn.results = #[.cell p ty, .tmp u]) (tmps : Array Value) (w : World) (g : Nat) (t : TypeId) (cs : Array Value) (fr : Nat × Nat) (d : TypeDesc)
    (hp : tmps.getD p undef = .pointer (some ⟨g, 0, none⟩)) (hg : w.heap[g]? = some (.cells cs t fr))
    (hu : P.underlying ty = some d) (hd : (match d with | .struct _ | .array _ _ => true | _ => false) = true) (hi : (P.info? ty).map (·.size) = some cs.size) :
    (results fn tmps).run P w = .ok (.tuple #[.agg cs, tmps.getD u undef]) w := by
  rw [results_cell_tmp h, hp]
  simp [asAddr, Result.andThen, run_loadVar_row w g t ty cs fr d hg hu hd hi]
theorem resLC_own {w w' : World} {r : List (List Int) × Int} {A : Option Addr} {c : Nat} {l : List (List Int)} (h : (l, 0) = r) (hc : l.length ≤ c) (hr : RII w' A l) (ho : OII w' w.heap.size w'.heap.size (.slice A l.length c) l) (hb : Below w.heap.size w w') :
    ResLC w r (.returned (.tuple #[.agg #[.slice A l.length c], .int .i64 0])) w' := by subst h; exact ⟨A, c, rfl, hc, hr, ho, hb⟩
theorem resLC_nil {w w' : World} {r : List (List Int) × Int} {c : Int} (h : ([], c) = r) (hb : Below w.heap.size w w') : ResLC w r (.returned (.tuple #[.agg #[.slice none 0 0], .int .i64 c])) w' := by
  subst h; exact ⟨none, 0, rfl, Nat.le_refl _, RII.nil, OII.nil, hb⟩
/-- Two rows in a row of the call's own. -/
theorem RII.two {w : World} {g : Nat} {A1 A2 : Option Addr} {c1 c2 : Nat} {xs ys : List Int} (h1 : xs.length ≤ c1) (h2 : ys.length ≤ c2) (r1 : RI w A1 xs) (r2 : RI w A2 ys)
    (e0 : w.cell? ⟨g, 0, none⟩ = some (.slice A1 xs.length c1)) (e1 : w.cell? ⟨g, 1, none⟩ = some (.slice A2 ys.length c2)) : RII w (some ⟨g, 0, none⟩) [xs, ys] := by
  refine ⟨[.slice A1 xs.length c1, .slice A2 ys.length c2], rfl, ⟨by simp, fun _ => ⟨g, 0, rfl, fun j u hu => ?_⟩⟩, fun j hj => ?_⟩
  · match j, hu with
    | 0, hu => simp at hu; subst hu; exact e0
    | 1, hu => simp at hu; subst hu; exact e1
    | j + 2, hu => simp at hu
  · match j, hj with
    | 0, _ => exact ⟨A1, c1, rfl, h1, r1⟩
    | 1, _ => exact ⟨A2, c2, rfl, h2, r2⟩
    | j + 2, hj => exact absurd hj (by simp)
theorem innerC_in {b : Int} {ms : List Int} {first : Nat} (hb : 1 ≤ b) : ∀ (k : Nat) (n : Int) (cs : List Int), (∀ x ∈ cs, 0 ≤ x ∧ x ≤ b) → ∀ x ∈ innerC b ms first k n cs, 0 ≤ x ∧ x ≤ b
  | 0, _, _, h => h
  | k + 1, n, cs, h => by
    rw [innerC]
    refine innerC_in hb k _ _ fun x hx => ?_
    rcases List.mem_or_eq_of_mem_set hx with h1 | h1
    · exact h x h1
    · subst h1
      have := emod_in (n := n) hb
      unfold bump; split <;> omega
theorem outerC_in {b : Int} {ms : List Int} (hb : 1 ≤ b) : ∀ (ls ps : List Int) (first : Nat) (cs : List Int), (∀ x ∈ cs, 0 ≤ x ∧ x ≤ b) → ∀ x ∈ outerC b ms first ls ps cs, 0 ≤ x ∧ x ≤ b
  | [], _, _, _, h => by simpa [outerC] using h
  | _ :: _, [], _, _, h => by simpa [outerC] using h
  | l :: ls, n :: ps, first, cs, h => by rw [outerC]; exact outerC_in hb ls ps _ _ (innerC_in hb _ _ _ h)
theorem cutsAt_cuts {m : Mk} {ms ls ps : List Int} (h : levelsCode m ms ls ps = 0) : allCuts m [ms, cutsAtF m ms ls ps] ∧ (cutsAtF m ms ls ps).length = ms.length := by
  obtain ⟨hm, hc, _, _⟩ := lc_0_iff.1 h
  have h2 := cutsOK_get hc
  have d2 := (mk_bounds hm).2.2.1
  have hlen : (cutsAtF m ms ls ps).length = ms.length := outerC_len _ _ _ _ _ _
  have hall : ∀ xs : List Int, (∀ x ∈ xs, 0 ≤ x ∧ x ≤ m.d - 1) → allW 0 (m.d - 1) xs = true := fun xs hx => by
    unfold allW; rw [List.all_eq_true]; intro x hx2; have := hx x hx2; simp [inB]; omega
  have hms : ∀ x ∈ ms, 0 ≤ x ∧ x ≤ m.d - 1 := fun x hx => by
    obtain ⟨i, hi, rfl⟩ := List.getElem_of_mem hx
    exact h2.2 i hi
  refine ⟨fun k hk => ?_, hlen⟩
  match k, hk with
  | 0, _ => exact ⟨h2.1, hall _ hms⟩
  | 1, _ => exact ⟨by show ((cutsAtF m ms ls ps).length : Int) = m.c; rw [hlen]; exact h2.1, hall _ (outerC_in (by omega) _ _ _ _ hms)⟩
  | k + 2, hk => exact absurd hk (by simp)
def lockAtR (m : Mk) (ms ls ps : List Int) : List (List Int) × Int := if levelsCode m ms ls ps = 0 then (hullF m.c.toNat m.d.toNat [ms, cutsAtF m ms ls ps], 0) else ([], levelsCode m ms ls ps)
set_option maxRecDepth 100000 in
set_option maxHeartbeats 8000000 in
theorem implLockAt_any (m : Mk) (A : Option Addr) (c : Nat) (ms : List Int) (B : Option Addr) (d : Nat) (ls : List Int) (D : Option Addr) (e : Nat) (ps : List Int) (w : World) (h : RI w A ms) (g : RI w B ls) (p : RI w D ps) (hcap : ms.length ≤ c) :
    Calls Try.prog 49 #[.agg #[.int .i64 m.c, .int .i64 m.d, .int .i64 m.s, .int .i64 m.a, .int .i64 m.l], .slice A ms.length c, .slice B ls.length d, .slice D ps.length e] w (ResLC w (lockAtR m ms ls ps)) := by
  obtain ⟨w0, hw0⟩ : ∃ w0, w0 = (w.alloc (.cells #[.int .i64 m.c, .int .i64 m.d, .int .i64 m.s, .int .i64 m.a, .int .i64 m.l] 45)).alloc (.cells #[.slice none 0 0] 54) := ⟨_, rfl⟩
  have B0 : Below w.heap.size w w0 := by rw [hw0]; exact ((Below.refl w.heap.size w).alloc (Nat.le_refl _) _).alloc (by simp only [World.size_alloc]; omega) _
  have hz0 : w0.heap.size = w.heap.size + 2 := by rw [hw0]; simp
  have bm : BoxC w0 w.heap.size 0 [.int .i64 m.c, .int .i64 m.d, .int .i64 m.s, .int .i64 m.a, .int .i64 m.l] := by
    have : BoxC (w.alloc (.cells #[.int .i64 m.c, .int .i64 m.d, .int .i64 m.s, .int .i64 m.a, .int .i64 m.l] 45)) w.heap.size 0 [.int .i64 m.c, .int .i64 m.d, .int .i64 m.s, .int .i64 m.a, .int .i64 m.l] := by simp [BoxC, Go.World.cell?_alloc_at]
    rw [hw0]; exact this.below ((Below.refl _ _).alloc (Nat.le_refl _) _)
  have bk : w0.heap[w.heap.size + 1]? = some (.cells #[.slice none 0 0] 54 (0, 0)) := by
    have := heap_alloc_new (w.alloc (.cells #[.int .i64 m.c, .int .i64 m.d, .int .i64 m.s, .int .i64 m.a, .int .i64 m.l] 45)) (.cells #[.slice none 0 0] 54)
    rw [hw0]; simpa using this
  have HCO := Lib.hid (levelsCode_any m A B D c d e ms ls ps w0 (h.below B0) (g.below B0) (p.below B0))
  have HBM := Lib.hid bm; have HBK := Lib.hid bk
  clear bm bk
  by_cases h0 : levelsCode m ms ls ps = 0
  rotate_left
  · have HR := Lib.hid (show ([], levelsCode m ms ls ps) = lockAtR m ms ls ps by simp [lockAtR, h0])
    have t1 : (levelsCode m ms ls ps != 0) = true := by simpa using h0
    have H0 := Lib.hid h0; clear h0
    go_enter Try.func49, Try.ntmps49
    go_wp2_with fail
    rw [← hw0]
    refine HCO.out.mono ?_
    rintro e w1 ⟨rfl, b1⟩
    have lb := (b1.block (w.heap.size + 1) (by omega)).trans HBK.out
    have l0 : w1.cell? ⟨w.heap.size + 1, 0, none⟩ = some (.slice none 0 0) := by simp [World.cell?, lb]
    have l1 : w1.frozen? ⟨w.heap.size + 1, 0, none⟩ = false := by simp [World.frozen?, lb]
    have HB1 := Lib.hid (B0.trans (b1.mono B0.size))
    clear b1 hw0
    go_wp2_with fail
    (try simp only [Exit.inBlock, Exit.then])
    refine bodyPost_ret (results_cell_row_tmp rfl _ _ (w.heap.size + 1) 54 #[.slice none 0 0] (0, 0) _ (by rfl) (by simp [World.setCell, Array.getElem?_modify, lb]) Try.underlying54 rfl (by kernel_rfl)) rfl ?_
    exact resLC_nil HR.out (HB1.out.setCell (by simp only; omega) _)
  have HR := Lib.hid (show (hullF m.c.toNat m.d.toNat [ms, cutsAtF m ms ls ps], 0) = lockAtR m ms ls ps by simp [lockAtR, h0])
  have H0 := Lib.hid (lc_0_iff.1 h0)
  have HAC := Lib.hid (cutsAt_cuts h0)
  rw [h0] at HCO
  have HCA := Lib.hid (fun (W : World) (hW : Below w.heap.size w W) => cutsAt_any m A B D c d e ms ls ps W (h.below hW) (g.below hW) (p.below hW) H0.out.1 H0.out.2.1 H0.out.2.2.1 H0.out.2.2.2)
  obtain ⟨cs, hcs⟩ : ∃ cs, cs = cutsAtF m ms ls ps := ⟨_, rfl⟩
  rw [← hcs] at HR HAC HCA
  clear h0 hcs
  go_enter Try.func49, Try.ntmps49
  go_wp2_with fail
  rw [← hw0]
  refine HCO.out.mono ?_
  rintro e w1 ⟨rfl, b1⟩
  have B1 := B0.trans (b1.mono B0.size)
  have hs1 := b1.size
  have KS := Lib.hid (show ∀ w' : World, Below w1.heap.size w1 w' → (w'.cell? ⟨w.heap.size, 0, none⟩ = some (.int .i64 m.c) ∧ w'.cell? ⟨w.heap.size, 1, none⟩ = some (.int .i64 m.d) ∧ w'.cell? ⟨w.heap.size, 2, none⟩ = some (.int .i64 m.s) ∧ w'.cell? ⟨w.heap.size, 3, none⟩ = some (.int .i64 m.a) ∧ w'.cell? ⟨w.heap.size, 4, none⟩ = some (.int .i64 m.l) ∧ True) from fun w' hw => (HBM.out.below b1).below hw)
  have HB1 := Lib.hid b1
  clear hw0 b1
  go_wp2_with fail
  refine wp_region_held_drew (S := (fun w' => w'.cell? ⟨w.heap.size, 0, none⟩ = some (.int .i64 m.c) ∧ w'.cell? ⟨w.heap.size, 1, none⟩ = some (.int .i64 m.d) ∧ w'.cell? ⟨w.heap.size, 2, none⟩ = some (.int .i64 m.s) ∧ w'.cell? ⟨w.heap.size, 3, none⟩ = some (.int .i64 m.a) ∧ w'.cell? ⟨w.heap.size, 4, none⟩ = some (.int .i64 m.l) ∧ True)) (by kernel_rfl) (KS.out _ (belowDrew0 _)) (fun hHeld => ?_)
  refine takeD (i := 0) (some 20) (.agg #[.int .i64 m.c, .int .i64 m.d, .int .i64 m.s, .int .i64 m.a, .int .i64 m.l]) rfl (by kernel_rfl) (by kernel_rfl) (by kernel_rfl) (by kernel_rfl) (fun _ _ _ h => h) (by assumption) (Or.inl ⟨by rfl, fun w hSw => by (try dsimp only at hSw); go_simp⟩) ?_
  simp only [Act.put, List.setIfInBounds_toArray, List.set_cons_zero, List.set_cons_succ]
  refine takeD (i := 1) (some 21) (.slice A ms.length c) rfl (by kernel_rfl) (by kernel_rfl) (by kernel_rfl) (by kernel_rfl) (fun _ _ _ h => h) (by assumption) (Or.inl ⟨by rfl, fun w hSw => by (try dsimp only at hSw); go_simp⟩) ?_
  simp only [Act.put, List.setIfInBounds_toArray, List.set_cons_zero, List.set_cons_succ]
  refine takeD (i := 2) (some 22) (.agg #[.int .i64 m.c, .int .i64 m.d, .int .i64 m.s, .int .i64 m.a, .int .i64 m.l]) rfl (by kernel_rfl) (by kernel_rfl) (by kernel_rfl) (by kernel_rfl) (fun _ _ _ h => h) (by assumption) (Or.inl ⟨by rfl, fun w hSw => by (try dsimp only at hSw); go_simp⟩) ?_
  simp only [Act.put, List.setIfInBounds_toArray, List.set_cons_zero, List.set_cons_succ]
  refine takeD (i := 3) (some 23) (.slice A ms.length c) rfl (by kernel_rfl) (by kernel_rfl) (by kernel_rfl) (by kernel_rfl) (fun _ _ _ h => h) (by assumption) (Or.inl ⟨by rfl, fun w hSw => by (try dsimp only at hSw); go_simp⟩) ?_
  simp only [Act.put, List.setIfInBounds_toArray, List.set_cons_zero, List.set_cons_succ]
  refine takeD (i := 4) (some 24) (.slice B ls.length d) rfl (by kernel_rfl) (by kernel_rfl) (by kernel_rfl) (by kernel_rfl) (fun _ _ _ h => h) (by assumption) (Or.inl ⟨by rfl, fun w hSw => by (try dsimp only at hSw); go_simp⟩) ?_
  simp only [Act.put, List.setIfInBounds_toArray, List.set_cons_zero, List.set_cons_succ]
  refine takeD (i := 5) (some 25) (.slice D ps.length e) rfl (by kernel_rfl) (by kernel_rfl) (by kernel_rfl) (by kernel_rfl) (fun _ _ _ h => h) (by assumption) (Or.inl ⟨by rfl, fun w hSw => by (try dsimp only at hSw); go_simp⟩) ?_
  simp only [Act.put, List.setIfInBounds_toArray, List.set_cons_zero, List.set_cons_succ]
  refine wpAnyH_ready (rs := [6]) (by kernel_rfl) (by simp) (AllReadyH.cons rfl (fun K hK => ?_) AllReadyH.nil)
  go_simp
  refine (HCA.out _ (B1.trans ((belowDrew0 w1).mono B1.size))).mono ?_
  rintro e w2 ⟨A2, c2, rfl, hc2, r2, o2, b2'⟩
  have b2 := belowDrew b2'
  have hb3 : Below w1.heap.size w1 (w2.alloc (.cells #[.slice A ms.length c, .slice A2 cs.length c2] 30)) := b2.alloc b2.size _
  have B3 := B1.trans (hb3.mono B1.size)
  have hbe : Below w2.heap.size w2 (w2.alloc (.cells #[.slice A ms.length c, .slice A2 cs.length c2] 30)) := (Below.refl _ _).alloc (Nat.le_refl _) _
  have HHU := Lib.hid (hullOf_any m (some ⟨w2.heap.size, 0, none⟩) 2 [ms, cs] (w2.alloc (.cells #[.slice A ms.length c, .slice A2 cs.length c2] 30))
    (RII.two hcap hc2 (h.below B3) (r2.below hbe) (by rw [World.cell?_alloc_at (hn := rfl)]; rfl) (by rw [World.cell?_alloc_at (hn := rfl)]; rfl)) H0.out.1 HAC.out.1 (by simp))
  have hs2 : w.heap.size + 2 ≤ w2.heap.size := by have := b2.size; omega
  have HB3 := Lib.hid (And.intro hb3 B3)
  clear r2 o2 b2' hbe hb3 B3
  have HHeld := KS.out _ b2
  refine hK.out _ _ HHeld (fun _ => ?_)
  clear hK K
  try simp only [Act.put, List.setIfInBounds_toArray, List.set_cons_zero, List.set_cons_succ]
  refine wpAnyH_ready (rs := [7]) (by kernel_rfl) (by simp) (AllReadyH.cons rfl (fun K hK => ?_) AllReadyH.nil)
  go_simp
  have HHeld := KS.out _ HB3.out.1
  refine hK.out _ _ HHeld (fun _ => ?_)
  clear hK K
  try simp only [Act.put, List.setIfInBounds_toArray, List.set_cons_zero, List.set_cons_succ]
  refine wpAnyH_ready (rs := [8]) (by kernel_rfl) (by simp) (AllReadyH.cons rfl (fun K hK => ?_) AllReadyH.nil)
  go_simp
  refine HHU.out.mono ?_
  rintro e w4 ⟨A4, c4, rfl, hc4, r4, o4, b4⟩
  have hb4 : Below w1.heap.size w1 w4 := HB3.out.1.trans (b4.mono HB3.out.1.size)
  have lb := (b4.block (w.heap.size + 1) (by simp; omega)).trans ((Below.heap_alloc w2 (.cells #[.slice A ms.length c, .slice A2 cs.length c2] 30) (w.heap.size + 1) (by omega)).trans ((b2.block (w.heap.size + 1) (by omega)).trans ((HB1.out.block (w.heap.size + 1) (by omega)).trans HBK.out)))
  have l0 : w4.cell? ⟨w.heap.size + 1, 0, none⟩ = some (.slice none 0 0) := by simp [World.cell?, lb]
  have l1 : w4.frozen? ⟨w.heap.size + 1, 0, none⟩ = false := by simp [World.frozen?, lb]
  obtain ⟨l, hl⟩ : ∃ l, l = hullF m.c.toNat m.d.toNat [ms, cs] := ⟨_, rfl⟩
  have HO4 := Lib.hid (o4.wide (show w.heap.size + 2 ≤ (w2.alloc (.cells #[.slice A ms.length c, .slice A2 cs.length c2] 30)).heap.size by simp; omega) (Nat.le_refl _))
  have HB4 := Lib.hid (B1.trans (hb4.mono B1.size))
  have HLB := Lib.hid lb
  rw [← hl] at HO4 HR hc4
  rw [← hl]
  have hs4 := hb4.size
  have HC5 := Lib.hid (show Below (w.heap.size + 1) w4 (w4.setCell ⟨w.heap.size + 1, 0, none⟩ (.slice A4 l.length c4)) from (Below.refl (w.heap.size + 1) w4).setCell (by simp only; omega) _)
  have hKS4 := KS.out _ hb4
  clear o4 r4 b4 hb4 b2 hl lb
  have HHeld := hKS4
  refine hK.out _ _ HHeld (fun _ => ?_)
  clear hK K
  try simp only [Act.put, List.setIfInBounds_toArray, List.set_cons_zero, List.set_cons_succ]
  refine wpAnyH_ready (rs := [9]) (by kernel_rfl) (by simp) (AllReadyH.cons rfl (fun K hK => ?_) AllReadyH.nil)
  go_simp
  have hKS5 : (fun w' : World => w'.cell? ⟨w.heap.size, 0, none⟩ = some (.int .i64 m.c) ∧ w'.cell? ⟨w.heap.size, 1, none⟩ = some (.int .i64 m.d) ∧ w'.cell? ⟨w.heap.size, 2, none⟩ = some (.int .i64 m.s) ∧ w'.cell? ⟨w.heap.size, 3, none⟩ = some (.int .i64 m.a) ∧ w'.cell? ⟨w.heap.size, 4, none⟩ = some (.int .i64 m.l) ∧ True) (w4.setCell ⟨w.heap.size + 1, 0, none⟩ (.slice A4 l.length c4)) :=
    (show BoxC w4 w.heap.size 0 [.int .i64 m.c, .int .i64 m.d, .int .i64 m.s, .int .i64 m.a, .int .i64 m.l] from hKS4).keep fun i v hv => cell_in HC5.out (by simp only; omega) hv
  have HHeld := hKS5
  refine hK.out _ _ HHeld (fun _ => ?_)
  clear hK K
  (try simp only [Act.put]); (try simp only [List.setIfInBounds_toArray]); (try simp only [List.set_cons_zero, List.set_cons_succ])
  refine takeD (i := 10) (some 9) (.int .i64 0) rfl (by kernel_rfl) (by kernel_rfl) (by kernel_rfl) (by kernel_rfl) (fun _ _ _ h => h) (by assumption) (Or.inl ⟨by rfl, fun w hSw => by (try dsimp only at hSw); go_simp⟩) ?_
  (try simp only [Act.put]); (try simp only [List.setIfInBounds_toArray]); (try simp only [List.set_cons_zero, List.set_cons_succ])
  refine wpAnyH_done (by kernel_rfl) ?_ _
  clear hKS4 hKS5 l0 l1
  go_wp2_with fail
  (try simp only [Exit.inBlock, Exit.then])
  refine bodyPost_ret (results_cell_row_tmp rfl _ _ (w.heap.size + 1) 54 #[.slice A4 l.length c4] (0, 0) _ (by rfl) (by simp [World.setCell, Array.getElem?_modify, HLB.out]) Try.underlying54 rfl (by kernel_rfl)) rfl ?_
  have ho9 := (HO4.out.setLow (p := ⟨w.heap.size + 1, 0, none⟩) (u := .slice A4 l.length c4) (by simp only; omega)).wide (B' := w.heap.size) (C' := (w4.setCell ⟨w.heap.size + 1, 0, none⟩ (.slice A4 l.length c4)).heap.size) (by omega) (by simp)
  exact resLC_own HR.out hc4 ho9.rii ho9 (HB4.out.setCell (by simp only; omega) _)
end Go.Proofs.Ytdkkkkfcpgkcnaa
