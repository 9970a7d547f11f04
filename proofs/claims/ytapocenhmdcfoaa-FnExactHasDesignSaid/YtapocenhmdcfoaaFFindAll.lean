/- Contracts of searchCode, searchAll, l17Code, l17Run; of CountDesigns, CountTries, FindDesign and HasDesign, on both sides. Printed by gen_findall.py. -/
import Derived.Test.YtapocenhmdcfoaaFGoOnI
import Derived.Test.YtapocenhmdcfoaaFFrom
namespace Go.Proofs.Ytapocenhmdcfoaa
set_option linter.unusedVariables false
open Go.RowKit
/-! ### the code -/
def limC (m : Mk) (t : List (List Int)) (lim : Int) : Int := if isSystem m t = true then (if inB lim 0 4000 = true then 0 else 2) else 1
theorem limC_1 {m : Mk} {t : List (List Int)} {lim : Int} (h : isSystem m t = false) : limC m t lim = 1 := by unfold limC; rw [if_neg (by rw [h]; simp)]
theorem limC_2 {m : Mk} {t : List (List Int)} {lim : Int} (h : isSystem m t = true) (h2 : inB lim 0 4000 = false) : limC m t lim = 2 := by unfold limC; rw [if_pos h, if_neg (by rw [h2]; simp)]
theorem limC_0 {m : Mk} {t : List (List Int)} {lim : Int} (h : isSystem m t = true) (h2 : inB lim 0 4000 = true) : limC m t lim = 0 := by unfold limC; rw [if_pos h, if_pos h2]
theorem limC_ok {m : Mk} {t : List (List Int)} {lim : Int} (h : limC m t lim = 0) : PartOK m t [] ∧ ∃ k : Nat, lim = (k : Int) ∧ k ≤ 4000 := by
  unfold limC at h
  by_cases h1 : isSystem m t = true
  · rw [if_pos h1] at h
    by_cases h2 : inB lim 0 4000 = true
    · have := inB_iff.1 h2
      exact ⟨sys_ok h1 (by simp) rfl, lim.toNat, by omega, by omega⟩
    · rw [if_neg h2] at h; cases h
  · rw [if_neg h1] at h; cases h
theorem partC_nil (m : Mk) (t : List (List Int)) : partC m t [] = if isSystem m t = true then 0 else 1 := by
  unfold partC
  by_cases h : isSystem m t = true
  · rw [if_pos h, if_pos h, if_pos (by simp [areKeysF])]
  · rw [if_neg h, if_neg h]
theorem openPart_none (m : Mk) (t : List (List Int)) : openPart m t [] = true := openPart_nil (cuts := [])
set_option maxRecDepth 100000 in
set_option maxHeartbeats 2000000 in
theorem searchCode_nil (m : Mk) (A : Option Addr) (c : Nat) (t : List (List Int)) (lim : Int) (w : World) (h : RII w A t) :
    Calls Try.prog 101 #[.agg #[.int .i64 m.c, .int .i64 m.d, .int .i64 m.s, .int .i64 m.a, .int .i64 m.l, .slice A t.length c], .slice none 0 0, .int .i64 lim] w fun e w' => e = .returned (.int .i64 (limC m t lim)) ∧ Below w.heap.size w w' := by
  have B0 := (Below.refl w.heap.size w).alloc (Nat.le_refl _) (.cells #[.int .i64 m.c, .int .i64 m.d, .int .i64 m.s, .int .i64 m.a, .int .i64 m.l, .slice A t.length c] 31)
  have bx : BoxC (w.alloc (.cells #[.int .i64 m.c, .int .i64 m.d, .int .i64 m.s, .int .i64 m.a, .int .i64 m.l, .slice A t.length c] 31)) w.heap.size 0 [.int .i64 m.c, .int .i64 m.d, .int .i64 m.s, .int .i64 m.a, .int .i64 m.l, .slice A t.length c] := by simp [BoxC, Go.World.cell?_alloc_at]
  have HCC := partCode_any m A c t none 0 [] (w.alloc (.cells #[.int .i64 m.c, .int .i64 m.d, .int .i64 m.s, .int .i64 m.a, .int .i64 m.l, .slice A t.length c] 31)) (h.below B0) RII.nil
  rw [partC_nil] at HCC
  have hs0 := B0.size
  have HLI : ∀ W, Calls Try.prog 177 #[.int .i64 lim] W fun e w' => e = .returned (.bool (inB lim 0 4000)) ∧ W = w' := fun W => by
    have HI := within_any lim 0 4000
    cases hq : inB lim 0 4000 with
    | true =>
      rw [hq] at HI
      have HII := Lib.hid HI; clear HI hq
      go_enter Try.func177, Try.ntmps177
      go_wp2_with fail
      refine (HII.out _).mono ?_
      rintro e w1 ⟨rfl, rfl⟩
      go_wp2_with fail
      go_ret
      exact ⟨rfl, rfl⟩
    | false =>
      rw [hq] at HI
      have HII := Lib.hid HI; clear HI hq
      go_enter Try.func177, Try.ntmps177
      go_wp2_with fail
      refine (HII.out _).mono ?_
      rintro e w1 ⟨rfl, rfl⟩
      go_wp2_with fail
      go_ret
      exact ⟨rfl, rfl⟩
  cases h1 : isSystem m t with
  | false =>
    have HN := Lib.hid (limC_1 (lim := lim) h1)
    rw [if_neg (by rw [h1]; simp)] at HCC
    have HCX := Lib.hid HCC
    have H1 := Lib.hid h1; clear h1 HCC HLI
    go_enter Try.func101, Try.ntmps101
    go_wp2_with fail
    refine HCX.out.mono ?_
    rintro e w1 ⟨rfl, b1⟩
    go_wp2_with fail
    go_ret
    exact ⟨retI HN.out.symm, B0.trans (b1.mono B0.size)⟩
  | true =>
    rw [if_pos h1] at HCC
    have HCX := Lib.hid HCC; clear HCC
    cases h2 : inB lim 0 4000 with
    | false =>
      have HN := Lib.hid (limC_2 h1 h2)
      rw [h2] at HLI
      have HL := Lib.hid HLI
      have H1 := Lib.hid (And.intro h1 h2); clear h1 h2 HLI
      go_enter Try.func101, Try.ntmps101
      go_wp2_with fail
      refine HCX.out.mono ?_
      rintro e w1 ⟨rfl, b1⟩
      go_wp2_with fail
      refine (HL.out _).mono ?_
      rintro e w2 ⟨rfl, rfl⟩
      go_wp2_with fail
      go_ret
      exact ⟨retI HN.out.symm, B0.trans (b1.mono B0.size)⟩
    | true =>
      have HN := Lib.hid (limC_0 h1 h2)
      have HP := Lib.hid (limC_ok HN.out).1
      rw [h2] at HLI
      have HL := Lib.hid HLI
      have HO := Lib.hid (fun (W : World) (hW : Below w.heap.size w W) => isOpenPart_any m A c t none 0 [] W (h.below hW) RII.nil HP.out)
      rw [openPart_none] at HO
      have H1 := Lib.hid (And.intro h1 h2); clear h1 h2 HLI
      go_enter Try.func101, Try.ntmps101
      go_wp2_with fail
      refine HCX.out.mono ?_
      rintro e w1 ⟨rfl, b1⟩
      have B1 := B0.trans (b1.mono B0.size)
      obtain ⟨q0, q1, q2, q3, q4, q5, _⟩ := bx.below b1
      have hws : w.heap.size < w1.heap.size := by have := b1.size; simp only [World.size_alloc] at this; omega
      go_wp2_with fail
      refine (HL.out _).mono ?_
      rintro e w2 ⟨rfl, rfl⟩
      go_wp2_with fail
      refine (HO.out _ B1).mono ?_
      rintro e w2 ⟨rfl, b2⟩
      go_wp2_with fail
      go_ret
      exact ⟨retI HN.out.symm, B1.trans (b2.mono B1.size)⟩
set_option maxRecDepth 100000 in
set_option maxHeartbeats 2000000 in
theorem l17Code_any (m : Mk) (A : Option Addr) (c : Nat) (t : List (List Int)) (lim : Int) (w : World) (h : RII w A t) :
    Calls Try.prog 99 #[.agg #[.int .i64 m.c, .int .i64 m.d, .int .i64 m.s, .int .i64 m.a, .int .i64 m.l, .slice A t.length c], .int .i64 lim] w fun e w' => e = .returned (.int .i64 (limC m t lim)) ∧ Below w.heap.size w w' := by
  have B0 := (Below.refl w.heap.size w).alloc (Nat.le_refl _) (.cells #[.int .i64 m.c, .int .i64 m.d, .int .i64 m.s, .int .i64 m.a, .int .i64 m.l, .slice A t.length c] 31)
  have HCC := specIsSystem_any m A c t (w.alloc (.cells #[.int .i64 m.c, .int .i64 m.d, .int .i64 m.s, .int .i64 m.a, .int .i64 m.l, .slice A t.length c] 31)) (h.below B0)
  have HLI := l01In_any lim 0 4000
  have hs0 := B0.size
  cases h1 : isSystem m t with
  | false =>
    have HN := Lib.hid (limC_1 (lim := lim) h1)
    rw [h1] at HCC
    have HCX := Lib.hid HCC
    have H1 := Lib.hid h1; clear h1 HCC HLI
    go_enter Try.func99, Try.ntmps99
    go_wp2_with fail
    refine HCX.out.mono ?_
    rintro e w1 ⟨rfl, b1⟩
    go_wp2_with fail
    go_ret
    exact ⟨retI HN.out.symm, B0.trans (b1.mono B0.size)⟩
  | true =>
    rw [h1] at HCC
    have HCX := Lib.hid HCC; clear HCC
    cases h2 : inB lim 0 4000 with
    | false =>
      have HN := Lib.hid (limC_2 h1 h2)
      rw [h2] at HLI
      have HL := Lib.hid HLI
      have H1 := Lib.hid (And.intro h1 h2); clear h1 h2 HLI
      go_enter Try.func99, Try.ntmps99
      go_wp2_with fail
      refine HCX.out.mono ?_
      rintro e w1 ⟨rfl, b1⟩
      go_wp2_with fail
      refine (HL.out _).mono ?_
      rintro e w2 ⟨rfl, rfl⟩
      go_wp2_with fail
      go_ret
      exact ⟨retI HN.out.symm, B0.trans (b1.mono B0.size)⟩
    | true =>
      have HN := Lib.hid (limC_0 h1 h2)
      rw [h2] at HLI
      have HL := Lib.hid HLI
      have H1 := Lib.hid (And.intro h1 h2); clear h1 h2 HLI
      go_enter Try.func99, Try.ntmps99
      go_wp2_with fail
      refine HCX.out.mono ?_
      rintro e w1 ⟨rfl, b1⟩
      go_wp2_with fail
      refine (HL.out _).mono ?_
      rintro e w2 ⟨rfl, rfl⟩
      go_wp2_with fail
      go_ret
      exact ⟨retI HN.out.symm, B0.trans (b1.mono B0.size)⟩
/-! ### counting designs -/
def RNum (g : Nat) (n : Int) (w : World) (F : Nat → Prop) : Prop := (∀ x, F x ↔ x = g) ∧ w.cell? ⟨g, 0, none⟩ = some (.int .i64 n) ∧ w.frozen? ⟨g, 0, none⟩ = false
theorem RNum.lt (g : Nat) (s : Int) (w : World) (F : Nat → Prop) (h : RNum g s w F) : ∀ x, F x → x < w.heap.size := fun x hx => by
  have := (h.1 x).1 hx; subst this; exact World.block_lt_of_cell? w _ h.2.1
theorem RNum.fr (g : Nat) (s : Int) (w w' : World) (F : Nat → Prop) (h : RNum g s w F) (k : KeepF (fun x => ¬ F x) w w') : RNum g s w' F := by
  have hg := World.block_lt_of_cell? w _ h.2.1
  have hn : ¬ ¬ F g := fun e => e ((h.1 g).2 rfl)
  exact ⟨h.1, (k.cell (p := ⟨g, 0, none⟩) hg hn).trans h.2.1, (k.frozen (p := ⟨g, 0, none⟩) hg hn).trans h.2.2⟩
theorem RIIn.nil {F : Nat → Prop} {w : World} {A : Option Addr} : RIIn F w A [] := ⟨[], rfl, ⟨by simp, fun h => absurd rfl h⟩, fun h0 => by simp at h0, fun j hj => by simp at hj⟩
/-- the whole search -/
def allS {τ : Type} (m : Mk) (t : List (List Int)) (lim : Nat) (visD : τ → List (List Int) → Bool × τ) (s : τ) : Srch τ := (goF m t lim visD t.length [] ⟨0, false, s⟩).2
set_option maxHeartbeats 1000000 in
theorem numClo_any (g : Nat) (n : Int) (A : Option Addr) (k c : Nat) (w : World) (F : Nat → Prop) (h : RNum g n w F) :
    Calls Try.prog 178 #[.slice A k c, .pointer (some ⟨g, 0, none⟩)] w fun e w' => e = .returned (.bool true) ∧ ∃ G', RNum g (wrap64 (n + 1)) w' G' ∧ KeepF F w w' ∧ ∀ x, G' x → F x ∨ w.heap.size ≤ x := by
  obtain ⟨h1, h2, h3⟩ := h
  have H1 := Lib.hid h1; clear h1
  have H2 := Lib.hid h2
  go_enter Try.func178, Try.ntmps178
  go_wp2_with fail
  go_ret
  exact ⟨rfl, F, ⟨H1.out, World.cell?_setCell_same _ _ _ H2.out, by simpa using h3⟩, (KeepF.refl F w).setCell (p := ⟨g, 0, none⟩) (.inl ((H1.out g).2 rfl)) _, fun x hx => .inl hx⟩
theorem numDes (m : Mk) (t : List (List Int)) (g : Nat) (w0 : World) (F0 : Nat → Prop) : DesOK 178 #[.pointer (some ⟨g, 0, none⟩)] visNum (RNum g) (fun _ => True) m t w0 F0 :=
  ⟨enters Try.func178 (by kernel_rfl) rfl, fun _ _ _ _ => trivial, RNum.lt g, RNum.fr g, fun s w' G A c cuts _ _ hR _ _ _ => numClo_any g s A cuts.length c w' G hR⟩
set_option maxRecDepth 100000 in
set_option maxHeartbeats 4000000 in
theorem searchAll_any (m : Mk) (A : Option Addr) (c : Nat) (t : List (List Int)) (lim : Nat) (hlim : lim ≤ 4000) (w : World) (h : RII w A t) (hp : PartOK m t []) :
    Calls Try.prog 102 #[.agg #[.int .i64 m.c, .int .i64 m.d, .int .i64 m.s, .int .i64 m.a, .int .i64 m.l, .slice A t.length c], .int .i64 (lim : Int)] w fun e w' => ∃ X, e = .returned (.tuple #[.int .i64 (allS m t lim visNum 0).vis, .pointer (some ⟨X, 0, none⟩)]) ∧
      w'.cell? ⟨X, 7, none⟩ = some (.int .i64 ((allS m t lim visNum 0).tries : Int)) ∧ w'.cell? ⟨X, 8, none⟩ = some (.bool (allS m t lim visNum 0).over) ∧ X < w'.heap.size ∧ Below w.heap.size w w' := by
  obtain ⟨w1, hw1⟩ : ∃ w1, w1 = ((w.alloc (.cells #[.int .i64 m.c, .int .i64 m.d, .int .i64 m.s, .int .i64 m.a, .int .i64 m.l, .slice A t.length c] 31)).alloc (.cells #[.int .i64 0] 2)).alloc (.cells #[.int .i64 m.c, .int .i64 m.d, .int .i64 m.s, .int .i64 m.a, .int .i64 m.l, .slice A t.length c, .int .i64 (lim : Int), .int .i64 0, .bool false, .func (.func 178) #[] #[.pointer (some ⟨w.heap.size + 1, 0, none⟩)]] 107) := ⟨_, rfl⟩
  have B1 : Below w.heap.size w w1 := by rw [hw1]; exact (((Below.refl w.heap.size w).alloc (Nat.le_refl _) _).alloc (by simp only [World.size_alloc]; omega) _).alloc (by simp only [World.size_alloc]; omega) _
  have hz1 : w1.heap.size = w.heap.size + 3 := by rw [hw1]; simp
  have hR : RNum (w.heap.size + 1) 0 w1 (fun x => x = w.heap.size + 1) := by
    refine ⟨fun x => Iff.rfl, ?_, ?_⟩
    · rw [hw1, World.cell?_alloc_lt _ _ _ (by simp only [World.size_alloc]; omega), World.cell?_alloc_at (hn := by simp)]; rfl
    · rw [hw1, World.frozen?_alloc_past _ _ _ (by simp only [World.size_alloc]; omega), World.frozen?_alloc_at (hn := by simp)]
  have bX : BoxC w1 (w.heap.size + 1 + 1) 0 [.int .i64 m.c, .int .i64 m.d, .int .i64 m.s, .int .i64 m.a, .int .i64 m.l, .slice A t.length c, .int .i64 (lim : Int), .int .i64 ((0 : Nat) : Int), .bool false, .func (.func 178) #[] #[.pointer (some ⟨w.heap.size + 1, 0, none⟩)]] := by
    rw [hw1]; exact BoxC.new [.int .i64 m.c, .int .i64 m.d, .int .i64 m.s, .int .i64 m.a, .int .i64 m.l, .slice A t.length c, .int .i64 (lim : Int), .int .i64 0, .bool false, .func (.func 178) #[] #[.pointer (some ⟨w.heap.size + 1, 0, none⟩)]] (by simp)
  have fX : ∀ i, w1.frozen? ⟨w.heap.size + 1 + 1, i, none⟩ = false := fun i => by rw [hw1]; exact World.frozen?_alloc_at _ _ _ _ (by simp)
  have HRS : RS (RNum (w.heap.size + 1)) (w.heap.size + 1 + 1) m A c t lim 178 #[.pointer (some ⟨w.heap.size + 1, 0, none⟩)] ⟨0, false, 0⟩ w1 (fun x => x = w.heap.size + 1 ∨ x = w.heap.size + 1 + 1) :=
    ⟨_, hR, by simp, by omega, bX, fX 7, fX 8, fun x => Iff.rfl⟩
  have hT : RIIn (fun g => (g = w.heap.size + 1 ∨ g = w.heap.size + 1 + 1) ∨ w1.heap.size ≤ g) w1 A t := ((h.nF (F := fun x => w.heap.size ≤ x) (fun _ h => h)).keepF (KeepF.ofBelow B1)).mono (fun g hg => by omega)
  have HGO := goOn_any (RNum (w.heap.size + 1)) (fun _ => True) (w.heap.size + 1 + 1) m A c t lim hlim 178 #[.pointer (some ⟨w.heap.size + 1, 0, none⟩)] visNum w1 _ (numDes m t _ w1 _) hT t.length [] ⟨0, false, 0⟩ w1 _ none 0 hp (by simp) (openPart_none m t) (Nat.le_refl _) (Nat.zero_le _) trivial (KeepF.refl _ _) (fun g hg => .inl hg) HRS RIIn.nil
  obtain ⟨bg, stg, hg⟩ : ∃ bg stg, goF m t lim visNum t.length [] ⟨0, false, 0⟩ = (bg, stg) := ⟨_, _, rfl⟩
  have HS := Lib.hid (show allS m t lim visNum 0 = stg by unfold allS; rw [hg])
  rw [hg] at HGO
  have HGG := Lib.hid HGO
  have HB := Lib.hid B1
  have bS : BoxC w1 w.heap.size 0 [.int .i64 m.c, .int .i64 m.d, .int .i64 m.s, .int .i64 m.a, .int .i64 m.l, .slice A t.length c] := by
    have : BoxC (w.alloc (.cells #[.int .i64 m.c, .int .i64 m.d, .int .i64 m.s, .int .i64 m.a, .int .i64 m.l, .slice A t.length c] 31)) w.heap.size 0 [.int .i64 m.c, .int .i64 m.d, .int .i64 m.s, .int .i64 m.a, .int .i64 m.l, .slice A t.length c] := by simp [BoxC, Go.World.cell?_alloc_at]
    rw [hw1]; exact (this.below ((Below.refl _ _).alloc (Nat.le_refl _) _)).below ((Below.refl _ _).alloc (Nat.le_refl _) _)
  rw [HS.out]
  have hh := h.le
  clear HGO hg HRS hT bX fX hR B1 bS
  go_enter Try.func102, Try.ntmps102
  go_wp2_with fail
  rw [← hw1]
  refine HGG.out.mono ?_
  rintro e w2 ⟨rfl, F2, ⟨G2, hR2, _, hX2, b2, _⟩, k2, _⟩
  obtain ⟨_, _, _, _, _, _, _, x7, x8, _⟩ := b2
  have cn := hR2.2.1
  have HX := Lib.hid (And.intro x7 (And.intro x8 hX2))
  have HB2 := Lib.hid (HB.out.trans (k2.toBelow HB.out.size (fun g hg e => by omega)))
  clear x7 x8 k2 hR2 hw1
  go_wp2_with fail
  go_ret2
  exact ⟨_, rfl, HX.out.1, HX.out.2.1, HX.out.2.2, HB2.out⟩
theorem allS_alike {m : Mk} {t : List (List Int)} {lim : Nat} (hlim : lim ≤ 4000) (hp : PartOK m t []) : Alike (allS m t lim visNum 0) (allS m t lim (visMost 1000000) []) :=
  (goF_alike hlim t.length [] ⟨0, false, 0⟩ ⟨0, false, []⟩ ⟨rfl, rfl, rfl, Nat.le_refl _⟩ (by have := hp.t1; rw [if_neg (by omega)]; exact Nat.le_refl _) (Nat.zero_le _)).2
theorem l17From_any (X : Nat) (m : Mk) (A : Option Addr) (c : Nat) (t : List (List Int)) (lim most : Nat) (hlim : lim ≤ 4000) (hmost : most ≤ 1000000) (hm : isMaker m = true) : ∀ r, FromIH X m A c t lim most 176 r
  | 0 => l17From_zero X m A c t lim most hlim hmost
  | r + 1 => l17From_succ X m A c t lim most hlim hmost r hm (l17From_any X m A c t lim most hlim hmost hm r)
set_option maxRecDepth 100000 in
set_option maxHeartbeats 4000000 in
theorem l17Run_any (m : Mk) (A : Option Addr) (c : Nat) (t : List (List Int)) (lim most : Nat) (hlim : lim ≤ 4000) (h0 : 0 < most) (hmost : most ≤ 1000000) (w : World) (h : RII w A t) (hp : PartOK m t []) :
    Calls Try.prog 100 #[.agg #[.int .i64 m.c, .int .i64 m.d, .int .i64 m.s, .int .i64 m.a, .int .i64 m.l, .slice A t.length c], .slice none 0 0, .int .i64 (most : Int), .int .i64 (lim : Int)] w fun e w' => ∃ X F, e = .returned (.pointer (some ⟨X, 0, none⟩)) ∧ RF X m A c t lim most (allS m t lim (visMost most) []) w' F ∧ Below w.heap.size w w' := by
  obtain ⟨w1, hw1⟩ : ∃ w1, w1 = (w.alloc (.cells #[.int .i64 m.c, .int .i64 m.d, .int .i64 m.s, .int .i64 m.a, .int .i64 m.l, .slice A t.length c] 31)).alloc (.cells #[.int .i64 m.c, .int .i64 m.d, .int .i64 m.s, .int .i64 m.a, .int .i64 m.l, .slice A t.length c, .int .i64 (lim : Int), .int .i64 (most : Int), .int .i64 0, .bool false, .slice none 0 0] 101) := ⟨_, rfl⟩
  have B1 : Below w.heap.size w w1 := by rw [hw1]; exact ((Below.refl w.heap.size w).alloc (Nat.le_refl _) _).alloc (by simp only [World.size_alloc]; omega) _
  have hz1 : w1.heap.size = w.heap.size + 2 := by rw [hw1]; simp
  have bX : BoxC w1 (w.heap.size + 1) 0 [.int .i64 m.c, .int .i64 m.d, .int .i64 m.s, .int .i64 m.a, .int .i64 m.l, .slice A t.length c, .int .i64 (lim : Int), .int .i64 (most : Int), .int .i64 ((0 : Nat) : Int), .bool false, .slice none 0 0] := by
    rw [hw1]; exact BoxC.new [.int .i64 m.c, .int .i64 m.d, .int .i64 m.s, .int .i64 m.a, .int .i64 m.l, .slice A t.length c, .int .i64 (lim : Int), .int .i64 (most : Int), .int .i64 0, .bool false, .slice none 0 0] (by simp)
  have fX : ∀ i, w1.frozen? ⟨w.heap.size + 1, i, none⟩ = false := fun i => by rw [hw1]; exact World.frozen?_alloc_at _ _ _ _ (by simp)
  have hRF : RF (w.heap.size + 1) m A c t lim most ⟨0, false, []⟩ w1 (fun x => x = w.heap.size + 1) :=
    ⟨.slice none 0 0, [], rfl, OV.nil, fun j hj => by simp at hj, by omega, bX, fX 8, fX 9, fX 10, fun x => by simp [Value.ownBlock]⟩
  have hT : RIIn (fun g => g = w.heap.size + 1) w1 A t := ((h.nF (F := fun x => w.heap.size ≤ x) (fun _ h => h)).keepF (KeepF.ofBelow B1)).mono (fun g hg => by omega)
  have HGO := l17From_any (w.heap.size + 1) m A c t lim most hlim hmost hp.mak t.length [] ⟨0, false, []⟩ w1 _ none 0 hp (by simp) (Nat.le_refl _) (Nat.zero_le _) (by have := hp.t1; rw [if_neg (by omega)]; exact Nat.le_refl _) hRF hT RIIn.nil
  obtain ⟨bg, stg, hg⟩ : ∃ bg stg, goF m t lim (visMost most) t.length [] ⟨0, false, []⟩ = (bg, stg) := ⟨_, _, rfl⟩
  have HS := Lib.hid (show allS m t lim (visMost most) [] = stg by unfold allS; rw [hg])
  rw [hg] at HGO
  have HGG := Lib.hid HGO
  have HB := Lib.hid B1
  rw [HS.out]
  have hh := h.le
  have h0' : (0 : Int) < (most : Int) := by omega
  clear HGO hg hRF hT bX fX B1
  go_enter Try.func100, Try.ntmps100
  go_wp2_with fail
  rw [← hw1]
  refine HGG.out.mono ?_
  rintro e w2 ⟨rfl, F2, hR2, k2, _⟩
  have HR := Lib.hid hR2
  have HB2 := Lib.hid (HB.out.trans (k2.toBelow HB.out.size (fun g hg e => by omega)))
  clear hR2 k2 hw1
  go_wp2_with fail
  go_ret
  exact ⟨_, F2, rfl, HR.out, HB2.out⟩
/-! ### CountDesigns, CountTries -/
def srchR (m : Mk) (t : List (List Int)) (lim : Int) : SrchL := allS m t lim.toNat (visMost 1000000) []
def countDesR (m : Mk) (t : List (List Int)) (lim : Int) : Int × Int := if limC m t lim = 0 then (if (srchR m t lim).over = true then (0, 3) else (((srchR m t lim).vis.length : Int), 0)) else (0, limC m t lim)
def countTriesR (m : Mk) (t : List (List Int)) (lim : Int) : Int × Int := if limC m t lim = 0 then (if (srchR m t lim).over = true then (0, 3) else (((srchR m t lim).tries : Int), 0)) else (0, limC m t lim)
theorem countDes_no {m : Mk} {t : List (List Int)} {lim : Int} (h : limC m t lim ≠ 0) : (0, limC m t lim) = countDesR m t lim := by unfold countDesR; rw [if_neg h]
theorem countDes_over {m : Mk} {t : List (List Int)} {lim : Int} (h : limC m t lim = 0) (h2 : (srchR m t lim).over = true) : (0, 3) = countDesR m t lim := by unfold countDesR; rw [if_pos h, if_pos h2]
theorem countDes_yes {m : Mk} {t : List (List Int)} {lim : Int} (h : limC m t lim = 0) (h2 : (srchR m t lim).over = false) : (((srchR m t lim).vis.length : Int), 0) = countDesR m t lim := by unfold countDesR; rw [if_pos h, if_neg (by rw [h2]; simp)]
theorem countTries_no {m : Mk} {t : List (List Int)} {lim : Int} (h : limC m t lim ≠ 0) : (0, limC m t lim) = countTriesR m t lim := by unfold countTriesR; rw [if_neg h]
theorem countTries_over {m : Mk} {t : List (List Int)} {lim : Int} (h : limC m t lim = 0) (h2 : (srchR m t lim).over = true) : (0, 3) = countTriesR m t lim := by unfold countTriesR; rw [if_pos h, if_pos h2]
theorem countTries_yes {m : Mk} {t : List (List Int)} {lim : Int} (h : limC m t lim = 0) (h2 : (srchR m t lim).over = false) : (((srchR m t lim).tries : Int), 0) = countTriesR m t lim := by unfold countTriesR; rw [if_pos h, if_neg (by rw [h2]; simp)]
set_option maxRecDepth 100000 in
set_option maxHeartbeats 4000000 in
theorem implCountDesigns_any (m : Mk) (A : Option Addr) (c : Nat) (t : List (List Int)) (lim : Int) (w : World) (h : RII w A t) (hwf : (Lit.int .i64 lim).wf = true) :
    Calls Try.prog 31 #[.agg #[.int .i64 m.c, .int .i64 m.d, .int .i64 m.s, .int .i64 m.a, .int .i64 m.l, .slice A t.length c], .int .i64 lim] w (ResNC w (countDesR m t lim)) := by
  have B0 := (Below.refl w.heap.size w).alloc (Nat.le_refl _) (.cells #[.int .i64 m.c, .int .i64 m.d, .int .i64 m.s, .int .i64 m.a, .int .i64 m.l, .slice A t.length c] 31)
  have bx : BoxC (w.alloc (.cells #[.int .i64 m.c, .int .i64 m.d, .int .i64 m.s, .int .i64 m.a, .int .i64 m.l, .slice A t.length c] 31)) w.heap.size 0 [.int .i64 m.c, .int .i64 m.d, .int .i64 m.s, .int .i64 m.a, .int .i64 m.l, .slice A t.length c] := by simp [BoxC, Go.World.cell?_alloc_at]
  have HCC := Lib.hid (searchCode_nil m A c t lim (w.alloc (.cells #[.int .i64 m.c, .int .i64 m.d, .int .i64 m.s, .int .i64 m.a, .int .i64 m.l, .slice A t.length c] 31)) (h.below B0))
  have hs0 := B0.size
  by_cases h1 : limC m t lim = 0
  rotate_left
  · have HN := Lib.hid (countDes_no h1)
    have t1 : (limC m t lim != 0) = true := by simpa using h1
    have H1 := Lib.hid h1; clear h1
    go_enter Try.func31, Try.ntmps31
    go_wp2_with fail
    refine HCC.out.mono ?_
    rintro e w1 ⟨rfl, b1⟩
    go_wp2_with fail
    go_ret2
    exact resNC_of HN.out (B0.trans (b1.mono B0.size))
  obtain ⟨hp, k, rfl, hk⟩ := limC_ok h1
  rw [h1] at HCC
  have HA := Lib.hid (allS_alike hk hp)
  have HH := fun (W : World) (hW : Below w.heap.size w W) => searchAll_any m A c t k hk W (h.below hW) hp
  obtain ⟨sn, hsn⟩ : ∃ sn, sn = allS m t k visNum 0 := ⟨_, rfl⟩
  have HSR := Lib.hid (show srchR m t (k : Int) = allS m t k (visMost 1000000) [] by unfold srchR; rw [Int.toNat_natCast])
  rw [← hsn] at HA HH
  have HHH := Lib.hid HH
  have HSN := Lib.hid hsn
  have HOV := Lib.hid (show sn.over = (srchR m t (k : Int)).over by rw [HSR.out]; exact HA.out.ov)
  have HVL := Lib.hid (show sn.vis = ((srchR m t (k : Int)).vis.length : Int) by rw [HSR.out]; exact HA.out.nu)
  cases hov : sn.over with
  | true =>
    have HN := Lib.hid (countDes_over h1 (by rw [← HOV.out]; exact hov))
    have H1 := Lib.hid (And.intro h1 hov); clear h1 HH hsn
    go_enter Try.func31, Try.ntmps31
    go_wp2_with fail
    refine HCC.out.mono ?_
    rintro e w1 ⟨rfl, b1⟩
    have B1 := B0.trans (b1.mono B0.size)
    obtain ⟨q0, q1, q2, q3, q4, q5, _⟩ := bx.below b1
    go_wp2_with fail
    refine (HHH.out _ B1).mono ?_
    rw [hov]
    rintro e w2 ⟨X, rfl, x7, x8, hX, b2⟩
    have HB2 := Lib.hid (B1.trans (b2.mono B1.size))
    clear b2 q0 q1 q2 q3 q4 q5 hov
    go_wp2_with fail
    go_ret2
    exact resNC_of HN.out HB2.out
  | false =>
    have HN := Lib.hid (countDes_yes h1 (by rw [← HOV.out]; exact hov))
    have H1 := Lib.hid (And.intro h1 hov); clear h1 HH hsn
    go_enter Try.func31, Try.ntmps31
    go_wp2_with fail
    refine HCC.out.mono ?_
    rintro e w1 ⟨rfl, b1⟩
    have B1 := B0.trans (b1.mono B0.size)
    obtain ⟨q0, q1, q2, q3, q4, q5, _⟩ := bx.below b1
    go_wp2_with fail
    refine (HHH.out _ B1).mono ?_
    rw [hov]
    rintro e w2 ⟨X, rfl, x7, x8, hX, b2⟩
    have HB2 := Lib.hid (B1.trans (b2.mono B1.size))
    clear b2 q0 q1 q2 q3 q4 q5 hov
    go_wp2_with fail
    go_ret2
    rw [HVL.out]
    exact resNC_of HN.out HB2.out
set_option maxRecDepth 100000 in
set_option maxHeartbeats 4000000 in
theorem implCountTries_any (m : Mk) (A : Option Addr) (c : Nat) (t : List (List Int)) (lim : Int) (w : World) (h : RII w A t) (hwf : (Lit.int .i64 lim).wf = true) :
    Calls Try.prog 33 #[.agg #[.int .i64 m.c, .int .i64 m.d, .int .i64 m.s, .int .i64 m.a, .int .i64 m.l, .slice A t.length c], .int .i64 lim] w (ResNC w (countTriesR m t lim)) := by
  have B0 := (Below.refl w.heap.size w).alloc (Nat.le_refl _) (.cells #[.int .i64 m.c, .int .i64 m.d, .int .i64 m.s, .int .i64 m.a, .int .i64 m.l, .slice A t.length c] 31)
  have bx : BoxC (w.alloc (.cells #[.int .i64 m.c, .int .i64 m.d, .int .i64 m.s, .int .i64 m.a, .int .i64 m.l, .slice A t.length c] 31)) w.heap.size 0 [.int .i64 m.c, .int .i64 m.d, .int .i64 m.s, .int .i64 m.a, .int .i64 m.l, .slice A t.length c] := by simp [BoxC, Go.World.cell?_alloc_at]
  have HCC := Lib.hid (searchCode_nil m A c t lim (w.alloc (.cells #[.int .i64 m.c, .int .i64 m.d, .int .i64 m.s, .int .i64 m.a, .int .i64 m.l, .slice A t.length c] 31)) (h.below B0))
  have hs0 := B0.size
  by_cases h1 : limC m t lim = 0
  rotate_left
  · have HN := Lib.hid (countTries_no h1)
    have t1 : (limC m t lim != 0) = true := by simpa using h1
    have H1 := Lib.hid h1; clear h1
    go_enter Try.func33, Try.ntmps33
    go_wp2_with fail
    refine HCC.out.mono ?_
    rintro e w1 ⟨rfl, b1⟩
    go_wp2_with fail
    go_ret2
    exact resNC_of HN.out (B0.trans (b1.mono B0.size))
  obtain ⟨hp, k, rfl, hk⟩ := limC_ok h1
  rw [h1] at HCC
  have HA := Lib.hid (allS_alike hk hp)
  have HH := fun (W : World) (hW : Below w.heap.size w W) => searchAll_any m A c t k hk W (h.below hW) hp
  obtain ⟨sn, hsn⟩ : ∃ sn, sn = allS m t k visNum 0 := ⟨_, rfl⟩
  have HSR := Lib.hid (show srchR m t (k : Int) = allS m t k (visMost 1000000) [] by unfold srchR; rw [Int.toNat_natCast])
  rw [← hsn] at HA HH
  have HHH := Lib.hid HH
  have HSN := Lib.hid hsn
  have HOV := Lib.hid (show sn.over = (srchR m t (k : Int)).over by rw [HSR.out]; exact HA.out.ov)
  have HVL := Lib.hid (show (sn.tries : Int) = ((srchR m t (k : Int)).tries : Int) by rw [HSR.out]; rw [HA.out.tr])
  cases hov : sn.over with
  | true =>
    have HN := Lib.hid (countTries_over h1 (by rw [← HOV.out]; exact hov))
    have H1 := Lib.hid (And.intro h1 hov); clear h1 HH hsn
    go_enter Try.func33, Try.ntmps33
    go_wp2_with fail
    refine HCC.out.mono ?_
    rintro e w1 ⟨rfl, b1⟩
    have B1 := B0.trans (b1.mono B0.size)
    obtain ⟨q0, q1, q2, q3, q4, q5, _⟩ := bx.below b1
    go_wp2_with fail
    refine (HHH.out _ B1).mono ?_
    rw [hov]
    rintro e w2 ⟨X, rfl, x7, x8, hX, b2⟩
    have HB2 := Lib.hid (B1.trans (b2.mono B1.size))
    clear b2 q0 q1 q2 q3 q4 q5 hov
    go_wp2_with fail
    go_ret2
    exact resNC_of HN.out HB2.out
  | false =>
    have HN := Lib.hid (countTries_yes h1 (by rw [← HOV.out]; exact hov))
    have H1 := Lib.hid (And.intro h1 hov); clear h1 HH hsn
    go_enter Try.func33, Try.ntmps33
    go_wp2_with fail
    refine HCC.out.mono ?_
    rintro e w1 ⟨rfl, b1⟩
    have B1 := B0.trans (b1.mono B0.size)
    obtain ⟨q0, q1, q2, q3, q4, q5, _⟩ := bx.below b1
    go_wp2_with fail
    refine (HHH.out _ B1).mono ?_
    rw [hov]
    rintro e w2 ⟨X, rfl, x7, x8, hX, b2⟩
    have HB2 := Lib.hid (B1.trans (b2.mono B1.size))
    clear b2 q0 q1 q2 q3 q4 q5 hov
    go_wp2_with fail
    go_ret2
    rw [HVL.out]
    exact resNC_of HN.out HB2.out
set_option maxRecDepth 100000 in
set_option maxHeartbeats 4000000 in
theorem specCountDesigns_any (m : Mk) (A : Option Addr) (c : Nat) (t : List (List Int)) (lim : Int) (w : World) (h : RII w A t) (hwf : (Lit.int .i64 lim).wf = true) :
    Calls Try.prog 30 #[.agg #[.int .i64 m.c, .int .i64 m.d, .int .i64 m.s, .int .i64 m.a, .int .i64 m.l, .slice A t.length c], .int .i64 lim] w (ResNC w (countDesR m t lim)) := by
  have B0 := (Below.refl w.heap.size w).alloc (Nat.le_refl _) (.cells #[.int .i64 m.c, .int .i64 m.d, .int .i64 m.s, .int .i64 m.a, .int .i64 m.l, .slice A t.length c] 31)
  have bx : BoxC (w.alloc (.cells #[.int .i64 m.c, .int .i64 m.d, .int .i64 m.s, .int .i64 m.a, .int .i64 m.l, .slice A t.length c] 31)) w.heap.size 0 [.int .i64 m.c, .int .i64 m.d, .int .i64 m.s, .int .i64 m.a, .int .i64 m.l, .slice A t.length c] := by simp [BoxC, Go.World.cell?_alloc_at]
  have HCC := Lib.hid (l17Code_any m A c t lim (w.alloc (.cells #[.int .i64 m.c, .int .i64 m.d, .int .i64 m.s, .int .i64 m.a, .int .i64 m.l, .slice A t.length c] 31)) (h.below B0))
  have hs0 := B0.size
  by_cases h1 : limC m t lim = 0
  rotate_left
  · have HN := Lib.hid (countDes_no h1)
    have t1 : (limC m t lim != 0) = true := by simpa using h1
    have H1 := Lib.hid h1; clear h1
    go_enter Try.func30, Try.ntmps30
    go_wp2_with fail
    refine HCC.out.mono ?_
    rintro e w1 ⟨rfl, b1⟩
    go_wp2_with fail
    go_ret2
    exact resNC_of HN.out (B0.trans (b1.mono B0.size))
  obtain ⟨hp, k, rfl, hk⟩ := limC_ok h1
  rw [h1] at HCC
  have HH := fun (W : World) (hW : Below w.heap.size w W) => l17Run_any m A c t k 1000000 hk (by omega) (Nat.le_refl _) W (h.below hW) hp
  obtain ⟨sn, hsn⟩ : ∃ sn, sn = allS m t k (visMost 1000000) [] := ⟨_, rfl⟩
  have HSR := Lib.hid (show srchR m t (k : Int) = sn by unfold srchR; rw [Int.toNat_natCast, hsn])
  rw [← hsn] at HH
  have HHH := Lib.hid HH
  have HSN := Lib.hid hsn
  cases hov : sn.over with
  | true =>
    have HN := Lib.hid (countDes_over h1 (by rw [HSR.out]; exact hov))
    have HOV := Lib.hid hov
    have H1 := Lib.hid h1; clear h1 HH hsn hov
    go_enter Try.func30, Try.ntmps30
    go_wp2_with fail
    refine HCC.out.mono ?_
    rintro e w1 ⟨rfl, b1⟩
    have B1 := B0.trans (b1.mono B0.size)
    obtain ⟨q0, q1, q2, q3, q4, q5, _⟩ := bx.below b1
    go_wp2_with fail
    refine (HHH.out _ B1).mono ?_
    rintro e w2 ⟨X, F, rfl, ⟨v, us, hV⟩, b2⟩
    have HB2 := Lib.hid (B1.trans (b2.mono B1.size))
    have hX := hV.xl
    obtain ⟨x0, x1, x2, x3, x4, x5, x6, x7, x8, x9, x10, _⟩ := hV.box
    simp only [Nat.zero_add] at x8 x9 x10
    rw [HOV.out] at x9
    clear b2 q0 q1 q2 q3 q4 q5 hV x0 x1 x2 x3 x4 x5 x6 x7
    go_wp2_with fail
    go_ret2
    exact resNC_of HN.out HB2.out
  | false =>
    have HN := Lib.hid (countDes_yes h1 (by rw [HSR.out]; exact hov))
    rw [HSR.out] at HN
    have HOV := Lib.hid hov
    have H1 := Lib.hid h1; clear h1 HH hsn hov
    go_enter Try.func30, Try.ntmps30
    go_wp2_with fail
    refine HCC.out.mono ?_
    rintro e w1 ⟨rfl, b1⟩
    have B1 := B0.trans (b1.mono B0.size)
    obtain ⟨q0, q1, q2, q3, q4, q5, _⟩ := bx.below b1
    go_wp2_with fail
    refine (HHH.out _ B1).mono ?_
    rintro e w2 ⟨X, F, rfl, ⟨v, us, hV⟩, b2⟩
    have HB2 := Lib.hid (B1.trans (b2.mono B1.size))
    have hX := hV.xl
    obtain ⟨Av, cv, rfl, hcv, hrv⟩ := hV.own.reads
    have hle := hrv.1
    have HLN := Lib.hid hV.len
    obtain ⟨x0, x1, x2, x3, x4, x5, x6, x7, x8, x9, x10, _⟩ := hV.box
    simp only [Nat.zero_add] at x8 x9 x10
    rw [HOV.out] at x9
    try rw [← HLN.out] at HN
    clear b2 q0 q1 q2 q3 q4 q5 hV hrv x0 x1 x2 x3 x4 x5 x6 x7
    go_wp2_with fail
    go_ret2
    exact resNC_of HN.out HB2.out
set_option maxRecDepth 100000 in
set_option maxHeartbeats 4000000 in
theorem specCountTries_any (m : Mk) (A : Option Addr) (c : Nat) (t : List (List Int)) (lim : Int) (w : World) (h : RII w A t) (hwf : (Lit.int .i64 lim).wf = true) :
    Calls Try.prog 32 #[.agg #[.int .i64 m.c, .int .i64 m.d, .int .i64 m.s, .int .i64 m.a, .int .i64 m.l, .slice A t.length c], .int .i64 lim] w (ResNC w (countTriesR m t lim)) := by
  have B0 := (Below.refl w.heap.size w).alloc (Nat.le_refl _) (.cells #[.int .i64 m.c, .int .i64 m.d, .int .i64 m.s, .int .i64 m.a, .int .i64 m.l, .slice A t.length c] 31)
  have bx : BoxC (w.alloc (.cells #[.int .i64 m.c, .int .i64 m.d, .int .i64 m.s, .int .i64 m.a, .int .i64 m.l, .slice A t.length c] 31)) w.heap.size 0 [.int .i64 m.c, .int .i64 m.d, .int .i64 m.s, .int .i64 m.a, .int .i64 m.l, .slice A t.length c] := by simp [BoxC, Go.World.cell?_alloc_at]
  have HCC := Lib.hid (l17Code_any m A c t lim (w.alloc (.cells #[.int .i64 m.c, .int .i64 m.d, .int .i64 m.s, .int .i64 m.a, .int .i64 m.l, .slice A t.length c] 31)) (h.below B0))
  have hs0 := B0.size
  by_cases h1 : limC m t lim = 0
  rotate_left
  · have HN := Lib.hid (countTries_no h1)
    have t1 : (limC m t lim != 0) = true := by simpa using h1
    have H1 := Lib.hid h1; clear h1
    go_enter Try.func32, Try.ntmps32
    go_wp2_with fail
    refine HCC.out.mono ?_
    rintro e w1 ⟨rfl, b1⟩
    go_wp2_with fail
    go_ret2
    exact resNC_of HN.out (B0.trans (b1.mono B0.size))
  obtain ⟨hp, k, rfl, hk⟩ := limC_ok h1
  rw [h1] at HCC
  have HH := fun (W : World) (hW : Below w.heap.size w W) => l17Run_any m A c t k 1000000 hk (by omega) (Nat.le_refl _) W (h.below hW) hp
  obtain ⟨sn, hsn⟩ : ∃ sn, sn = allS m t k (visMost 1000000) [] := ⟨_, rfl⟩
  have HSR := Lib.hid (show srchR m t (k : Int) = sn by unfold srchR; rw [Int.toNat_natCast, hsn])
  rw [← hsn] at HH
  have HHH := Lib.hid HH
  have HSN := Lib.hid hsn
  cases hov : sn.over with
  | true =>
    have HN := Lib.hid (countTries_over h1 (by rw [HSR.out]; exact hov))
    have HOV := Lib.hid hov
    have H1 := Lib.hid h1; clear h1 HH hsn hov
    go_enter Try.func32, Try.ntmps32
    go_wp2_with fail
    refine HCC.out.mono ?_
    rintro e w1 ⟨rfl, b1⟩
    have B1 := B0.trans (b1.mono B0.size)
    obtain ⟨q0, q1, q2, q3, q4, q5, _⟩ := bx.below b1
    go_wp2_with fail
    refine (HHH.out _ B1).mono ?_
    rintro e w2 ⟨X, F, rfl, ⟨v, us, hV⟩, b2⟩
    have HB2 := Lib.hid (B1.trans (b2.mono B1.size))
    have hX := hV.xl
    obtain ⟨x0, x1, x2, x3, x4, x5, x6, x7, x8, x9, x10, _⟩ := hV.box
    simp only [Nat.zero_add] at x8 x9 x10
    rw [HOV.out] at x9
    clear b2 q0 q1 q2 q3 q4 q5 hV x0 x1 x2 x3 x4 x5 x6 x7
    go_wp2_with fail
    go_ret2
    exact resNC_of HN.out HB2.out
  | false =>
    have HN := Lib.hid (countTries_yes h1 (by rw [HSR.out]; exact hov))
    rw [HSR.out] at HN
    have HOV := Lib.hid hov
    have H1 := Lib.hid h1; clear h1 HH hsn hov
    go_enter Try.func32, Try.ntmps32
    go_wp2_with fail
    refine HCC.out.mono ?_
    rintro e w1 ⟨rfl, b1⟩
    have B1 := B0.trans (b1.mono B0.size)
    obtain ⟨q0, q1, q2, q3, q4, q5, _⟩ := bx.below b1
    go_wp2_with fail
    refine (HHH.out _ B1).mono ?_
    rintro e w2 ⟨X, F, rfl, ⟨v, us, hV⟩, b2⟩
    have HB2 := Lib.hid (B1.trans (b2.mono B1.size))
    have hX := hV.xl
    obtain ⟨Av, cv, rfl, hcv, hrv⟩ := hV.own.reads
    have hle := hrv.1
    have HLN := Lib.hid hV.len
    obtain ⟨x0, x1, x2, x3, x4, x5, x6, x7, x8, x9, x10, _⟩ := hV.box
    simp only [Nat.zero_add] at x8 x9 x10
    rw [HOV.out] at x9
    try rw [← HLN.out] at HN
    clear b2 q0 q1 q2 q3 q4 q5 hV hrv x0 x1 x2 x3 x4 x5 x6 x7
    go_wp2_with fail
    go_ret2
    exact resNC_of HN.out HB2.out
set_option maxRecDepth 100000 in
set_option maxHeartbeats 4000000 in
theorem copyLists_any (A : Option Addr) (c : Nat) (xss : List (List Int)) (w : World) (h : RII w A xss) (hn : xss.length ≤ 1000000) (hm : ∀ k (hk : k < xss.length), xss[k].length ≤ 1073741824) :
    Calls Try.prog 89 #[.slice A xss.length c] w (ResII w xss) := by
  have hle := h.le
  have HM := Lib.hid hm; clear hm
  go_enter Try.func89, Try.ntmps89
  go_wp2_with fail
  go_loopw [3, 5, 9] (fun v _ i wr => ∃ (k : Nat) (v0 : Value), k ≤ xss.length ∧ i = .int .i64 k ∧ v = v0 ∧ OII wr w.heap.size wr.heap.size v0 (xss.take k) ∧ Below w.heap.size w wr) (fun _ _ i _ => xss.length - (intOf i).toNat)
  case atStart => exact ⟨0, _, by omega, rfl, rfl, by simpa using (OII.new0 (w := w) (Nat.le_refl _)).wide (Nat.le_refl _) (show w.heap.size + 1 ≤ (w.alloc (.cells #[] 56)).heap.size by simp), (Below.refl _ _).alloc (Nat.le_refl _) _⟩
  case round =>
    obtain ⟨k, v0, hk, rfl, rfl, ho, hb⟩ := hrel
    have HO := Lib.hid ho; clear ho
    have hsz := hb.size
    by_cases hlt : k < xss.length
    · obtain ⟨b, o, A', c', rfl, hc0, hcc, hr⟩ := (h.below hb).at_ hlt
      have HC := Lib.hid (sClone_any A' c' xss[k] wr hr (HM.out k hlt))
      have HS := Lib.hid (show xss.take (k + 1) = xss.take k ++ [xss[k]] from List.take_succ_eq_append_getElem hlt)
      obtain ⟨zs, hzs⟩ : ∃ zs, zs = xss[k] := ⟨_, rfl⟩
      rw [← hzs] at HC HS
      rw [← hzs] at hc0
      have HZ := Lib.hid hzs
      clear hr hzs hcc
      go_wp2_with fail
      refine HC.out.mono ?_
      rintro e w3 ⟨A3, c3, rfl, hc3, r3, o3, b3⟩
      have HO3 := Lib.hid (show OI w3 wr.heap.size w3.heap.size (.slice A3 zs.length c3) zs from o3)
      obtain ⟨us, k1, k2, k3, k4⟩ := HO.out.below b3
      have hul : us.length ≤ 1000000 := by rw [k1, List.length_take]; omega
      have HK := Lib.hid (And.intro k1 (And.intro k3 k4)); clear k1 k3 k4
      have hs3 := b3.size
      clear r3 o3
      go_wp2_with (at_builtin; refine wpList_app1 _ rfl _ _ _ rfl w.heap.size 56 _ 24 Try.underlying24 info_sl rfl (by omega) _ us rfl (k2.1.alloc _) _ _ rfl (one_cell _ _ _) rfl (by omega) (by simp; omega) ?_; intro v' w5 ho5 hg5 hn5 hat5)
      have HN := Lib.hid (OII.push1 (ys := zs) HK.out.1 k2 HK.out.2.1 HK.out.2.2 HO3.out.1 hsz hs3 ho5 hg5)
      have HB5 := Lib.hid ((k2.1.alloc (.cells #[.slice A3 zs.length c3] 56)).own (Nat.le_refl _) ((hb.trans (b3.mono hsz)).alloc (by omega) _) hg5 (by simp; omega))
      clear ho5 hg5 hn5 hat5
      go_roundw
      case rel => exact ⟨k + 1, v', by omega, by go_num, rfl, by rw [HS.out]; exact HN.out, HB5.out⟩
      case measure => simp [intOf]; omega
    · obtain rfl : k = xss.length := by omega
      have hoo := HO.out
      rw [List.take_length] at hoo
      have HOO := Lib.hid hoo; clear hoo
      go_wp2_with fail
      go_ret
      exact resII_own HOO.out (Nat.le_refl _) (Nat.le_refl _) hb
set_option maxRecDepth 100000 in
set_option maxHeartbeats 4000000 in
theorem l15Lists_any (A : Option Addr) (c : Nat) (xss : List (List Int)) (w : World) (h : RII w A xss) (hn : xss.length ≤ 1000000) (hm : ∀ k (hk : k < xss.length), xss[k].length ≤ 1073741824) :
    Calls Try.prog 161 #[.slice A xss.length c] w (ResII w xss) := by
  have hle := h.le
  have HM := Lib.hid hm; clear hm
  go_enter Try.func161, Try.ntmps161
  go_wp2_with fail
  go_loopw [3, 4] (fun v i wr => ∃ (k : Nat) (v0 : Value), k ≤ xss.length ∧ i = .int .i64 k ∧ v = v0 ∧ OII wr w.heap.size wr.heap.size v0 (xss.take k) ∧ Below w.heap.size w wr) (fun _ i _ => xss.length - (intOf i).toNat)
  case atStart => exact ⟨0, _, by omega, rfl, rfl, by simpa using (OII.new0 (w := w) (Nat.le_refl _)).wide (Nat.le_refl _) (show w.heap.size + 1 ≤ (w.alloc (.cells #[] 56)).heap.size by simp), (Below.refl _ _).alloc (Nat.le_refl _) _⟩
  case round =>
    obtain ⟨k, v0, hk, rfl, rfl, ho, hb⟩ := hrel
    have HO := Lib.hid ho; clear ho
    have hsz := hb.size
    by_cases hlt : k < xss.length
    · obtain ⟨b, o, A', c', rfl, hc0, hcc, hr⟩ := (h.below hb).at_ hlt
      have HC := Lib.hid (l01Own_any A' c' xss[k] wr hr (HM.out k hlt))
      have HS := Lib.hid (show xss.take (k + 1) = xss.take k ++ [xss[k]] from List.take_succ_eq_append_getElem hlt)
      obtain ⟨zs, hzs⟩ : ∃ zs, zs = xss[k] := ⟨_, rfl⟩
      rw [← hzs] at HC HS
      rw [← hzs] at hc0
      have HZ := Lib.hid hzs
      clear hr hzs hcc
      go_wp2_with fail
      refine HC.out.mono ?_
      rintro e w3 ⟨A3, c3, rfl, hc3, r3, o3, b3⟩
      have HO3 := Lib.hid (show OI w3 wr.heap.size w3.heap.size (.slice A3 zs.length c3) zs from o3)
      obtain ⟨us, k1, k2, k3, k4⟩ := HO.out.below b3
      have hul : us.length ≤ 1000000 := by rw [k1, List.length_take]; omega
      have HK := Lib.hid (And.intro k1 (And.intro k3 k4)); clear k1 k3 k4
      have hs3 := b3.size
      clear r3 o3
      go_wp2_with (at_builtin; refine wpList_app1 _ rfl _ _ _ rfl w.heap.size 56 _ 24 Try.underlying24 info_sl rfl (by omega) _ us rfl (k2.1.alloc _) _ _ rfl (one_cell _ _ _) rfl (by omega) (by simp; omega) ?_; intro v' w5 ho5 hg5 hn5 hat5)
      have HN := Lib.hid (OII.push1 (ys := zs) HK.out.1 k2 HK.out.2.1 HK.out.2.2 HO3.out.1 hsz hs3 ho5 hg5)
      have HB5 := Lib.hid ((k2.1.alloc (.cells #[.slice A3 zs.length c3] 56)).own (Nat.le_refl _) ((hb.trans (b3.mono hsz)).alloc (by omega) _) hg5 (by simp; omega))
      clear ho5 hg5 hn5 hat5
      go_roundw
      case rel => exact ⟨k + 1, v', by omega, by go_num, rfl, by rw [HS.out]; exact HN.out, HB5.out⟩
      case measure => simp [intOf]; omega
    · obtain rfl : k = xss.length := by omega
      have hoo := HO.out
      rw [List.take_length] at hoo
      have HOO := Lib.hid hoo; clear hoo
      go_wp2_with fail
      go_ret
      exact resII_own HOO.out (Nat.le_refl _) (Nat.le_refl _) hb
/-- the designs found, none or one: the row v in the variable at g -/
def RDes (g B : Nat) : List (List (List Int)) → World → (Nat → Prop) → Prop
  | [], w, F => ∃ v, OV w B 24 v [] ∧ w.cell? ⟨g, 0, none⟩ = some v ∧ w.frozen? ⟨g, 0, none⟩ = false ∧ g < w.heap.size ∧ B ≤ g ∧ v.ownBlock ≠ some g ∧ ∀ x, F x ↔ (x = g ∨ v.ownBlock = some x)
  | [d], w, F => ∃ v A c lo hi, OV w B 24 v [.slice A d.length c] ∧ d.length ≤ c ∧ OII w lo hi (.slice A d.length c) d ∧ w.cell? ⟨g, 0, none⟩ = some v ∧ w.frozen? ⟨g, 0, none⟩ = false ∧ g < w.heap.size ∧ B ≤ g ∧ B ≤ lo ∧ hi ≤ w.heap.size ∧ v.ownBlock ≠ some g ∧ ∀ x, F x ↔ (x = g ∨ v.ownBlock = some x ∨ (lo ≤ x ∧ x < hi))
  | _, _, _ => False
theorem RDes.lt (g B : Nat) : ∀ (s : List (List (List Int))) (w : World) (F : Nat → Prop), RDes g B s w F → ∀ x, F x → x < w.heap.size
  | [], w, F, h, x, hx => by
    obtain ⟨v, h1, _, _, h4, _, _, hF⟩ := h
    rcases (hF x).1 hx with e | e
    · omega
    · exact (h1.lt x e).2
  | [d], w, F, h, x, hx => by
    obtain ⟨v, A, c, lo, hi, h1, _, _, _, _, h6, _, _, h9, _, hF⟩ := h
    rcases (hF x).1 hx with e | e | e
    · omega
    · exact (h1.lt x e).2
    · omega
  | _ :: _ :: _, _, _, h, _, _ => h.elim
theorem RDes.fr (g B : Nat) : ∀ (s : List (List (List Int))) (w w' : World) (F : Nat → Prop), RDes g B s w F → KeepF (fun x => ¬ F x) w w' → RDes g B s w' F
  | [], w, w', F, h, k => by
    obtain ⟨v, h1, h2, h3, h4, h5, h6, hF⟩ := h
    have hn : ¬ ¬ F g := fun e => e ((hF g).2 (.inl rfl))
    exact ⟨v, h1.keepF k (fun x e hx => hx ((hF x).2 (.inr e))), (k.cell (p := ⟨g, 0, none⟩) h4 hn).trans h2, (k.frozen (p := ⟨g, 0, none⟩) h4 hn).trans h3, by have := k.size; omega, h5, h6, hF⟩
  | [d], w, w', F, h, k => by
    obtain ⟨v, A, c, lo, hi, h1, h2, h3, h4, h5, h6, h7, h8, h9, h10, hF⟩ := h
    have hn : ¬ ¬ F g := fun e => e ((hF g).2 (.inl rfl))
    exact ⟨v, A, c, lo, hi, h1.keepF k (fun x e hx => hx ((hF x).2 (.inr (.inl e)))), h2, h3.keep (fun x a b => k.block x (by omega) (fun hx => hx ((hF x).2 (.inr (.inr ⟨a, b⟩))))), (k.cell (p := ⟨g, 0, none⟩) h6 hn).trans h4, (k.frozen (p := ⟨g, 0, none⟩) h6 hn).trans h5, by have := k.size; omega, h7, h8, by have := k.size; omega, h10, hF⟩
  | _ :: _ :: _, _, _, _, h, _ => h.elim
set_option maxRecDepth 100000 in
set_option maxHeartbeats 4000000 in
theorem firstDesClo_any (g gm B : Nat) (A : Option Addr) (c : Nat) (d : List (List Int)) (w : World) (F : Nat → Prop) (h : RDes g B [] w F) (hm : w.cell? ⟨gm, 0, none⟩ = some (.int .i64 1)) (hgm : ¬ F gm)
    (hr : RII w A d) (hn : d.length ≤ 1000000) (hl : ∀ k (hk : k < d.length), d[k].length ≤ 1073741824) :
    Calls Try.prog 225 #[.slice A d.length c, .pointer (some ⟨g, 0, none⟩), .pointer (some ⟨gm, 0, none⟩)] w fun e w' => e = .returned (.bool (visMost 1 [] d).1) ∧ ∃ G', RDes g B (visMost 1 [] d).2 w' G' ∧ KeepF F w w' ∧ ∀ x, G' x → F x ∨ w.heap.size ≤ x := by
  obtain ⟨v, hv, pd, hfz, hgl, hBg, hng, hF⟩ := h
  obtain ⟨Av, cv, rfl, _, _⟩ := hv.reads
  rw [List.length_nil] at *
  have HV := Lib.hid hv
  have HF := Lib.hid hF; have HFZ := Lib.hid hfz; have HNG := Lib.hid hng; have HGM := Lib.hid hgm
  have hgml := World.block_lt_of_cell? w _ hm
  simp only at hgml
  have hBl : B ≤ w.heap.size := by omega
  have KS := Lib.hid (show ∀ w' : World, Below w.heap.size w w' → (w'.cell? ⟨gm, 0, none⟩ = some (.int .i64 1) ∧ True) from fun w' hw => ⟨cell_in hw (by simp only; omega) hm, trivial⟩)
  have HCL := Lib.hid (copyLists_any A c d w.drew hr hn hl)
  clear hv hF hfz hng hgm hm hr hl
  go_enter Try.func225, Try.ntmps225
  go_wp2_with fail
  refine wp_region_held_drew (S := (fun w' => w'.cell? ⟨gm, 0, none⟩ = some (.int .i64 1) ∧ True)) (by kernel_rfl) (KS.out _ (belowDrew0 _)) (fun hHeld => ?_)
  refine takeD (i := 1) (some 6) (.slice A d.length c) rfl (by kernel_rfl) (by kernel_rfl) (by kernel_rfl) (by kernel_rfl) (fun _ _ _ h => h) (by assumption) (Or.inl ⟨by rfl, fun w hSw => by (try dsimp only at hSw); go_simp⟩) ?_
  simp only [Act.put, List.setIfInBounds_toArray, List.set_cons_zero, List.set_cons_succ]
  refine wpAnyH_ready (rs := [0, 2]) (by kernel_rfl) (by simp) (AllReadyH.cons rfl (fun K hK => ?_) (AllReadyH.cons rfl (fun K hK => ?_) AllReadyH.nil))
  · go_simp
    have HHeld := KS.out _ (belowDrew0 _)
    refine hK.out _ _ HHeld (fun _ => ?_)
    clear hK K
    try simp only [Act.put, List.setIfInBounds_toArray, List.set_cons_zero, List.set_cons_succ]
    refine wpAnyH_ready (rs := [2]) (by kernel_rfl) (by simp) (AllReadyH.cons rfl (fun K hK => ?_) AllReadyH.nil)
    go_simp
    refine HCL.out.mono ?_
    rintro e w4 ⟨A4, c4, rfl, hc4, hr4, ho4, b4⟩
    have Hb4 := Lib.hid (belowDrew b4)
    have HHeld := KS.out _ Hb4.out
    refine hK.out _ _ HHeld (fun _ => ?_)
    clear hK K
    try simp only [Act.put, List.setIfInBounds_toArray, List.set_cons_zero, List.set_cons_succ]
    refine wpAnyH_ready (rs := [3]) (by kernel_rfl) (by simp) (AllReadyH.cons rfl (fun K hK => ?_) AllReadyH.nil)
    go_simp
    have HHeld := KS.out _ (Hb4.out.alloc Hb4.out.size (.cells #[.slice A4 d.length c4] 24))
    refine hK.out _ _ HHeld (fun _ => ?_)
    clear hK K
    try simp only [Act.put, List.setIfInBounds_toArray, List.set_cons_zero, List.set_cons_succ]
    refine wpAnyH_ready (rs := [4]) (by kernel_rfl) (by simp) (AllReadyH.cons rfl (fun K hK => ?_) AllReadyH.nil)
    refine step_app1 _ (by rfl) _ _ _ (by rfl) B 24 _ 24 Try.underlying99 info_sl2 rfl (by omega) _ [] (by rfl) ((HV.out.below' Hb4.out).alloc _) _ _ (by rfl) (one_cell _ _ _) rfl (by simp) (by have := Hb4.out.size; simp; omega) ?_
    intro v' w5 ho5 hg5 hn5 hat5
    rw [List.nil_append] at ho5
    obtain ⟨Av2, cv2, hv2, _, _⟩ := ho5.reads
    rw [show [Value.slice A4 d.length c4].length = 1 from rfl] at hv2
    subst hv2
    have k45 : KeepF (fun x => (Value.slice Av 0 cv).ownBlock = some x) w4 w5 := ((KeepF.refl _ _).alloc _).grown hg5 (fun x e => .inl e)
    have hg4 : g < w4.heap.size := by have := Hb4.out.size; omega
    have p5 := (k45.cell (p := ⟨g, 0, none⟩) hg4 HNG.out).trans (cell_in Hb4.out (by simp only; omega) pd)
    have f5 := (k45.frozen (p := ⟨g, 0, none⟩) hg4 HNG.out).trans ((Hb4.out.frozen (p := ⟨g, 0, none⟩) (by simp only; omega)).trans HFZ.out)
    have hks : w5.cell? ⟨gm, 0, none⟩ = some (.int .i64 1) := (k45.cell (p := ⟨gm, 0, none⟩) (by have := Hb4.out.size; simp only; omega) (fun e => HGM.out ((HF.out gm).2 (.inr e)))).trans ((KS.out _ Hb4.out).1)
    have hne : g ≠ gm := fun e => HGM.out ((HF.out gm).2 (.inl e.symm))
    have k6 : KeepF (fun x => x = g) w5 (w5.setCell ⟨g, 0, none⟩ (.slice Av2 1 cv2)) := (KeepF.refl (fun x => x = g) w5).setCell (p := ⟨g, 0, none⟩) (.inl rfl) _
    have K46 := Lib.hid (show KeepF (fun x => (Value.slice Av 0 cv).ownBlock = some x ∨ x = g) w4 (w5.setCell ⟨g, 0, none⟩ (.slice Av2 1 cv2)) from (k45.mono fun x e => .inl e).trans k6 (fun x _ e => .inr e))
    have HV' := Lib.hid (show (Value.slice Av2 1 cv2).ownBlock ≠ some g from fun e => by
      rcases hat5 with h | h
      · exact HNG.out (h.symm.trans e)
      · have := h.symm.trans e; injection this with this; simp only [World.size_alloc] at this; omega)
    have HAT := Lib.hid (show ∀ x, (Value.slice Av2 1 cv2).ownBlock = some x → F x ∨ w.heap.size ≤ x from fun x e => by
      rcases hat5 with h | h
      · exact .inl ((HF.out x).2 (.inr (h.symm.trans e)))
      · have := h.symm.trans e; injection this with this; simp only [World.size_alloc] at this; right; have := Hb4.out.size; omega)
    have HOV := Lib.hid (show OV (w5.setCell ⟨g, 0, none⟩ (.slice Av2 1 cv2)) B 24 (.slice Av2 1 cv2) [.slice A4 d.length c4] from ho5.keepF k6 (fun x e e' => HV'.out (by rw [e, e'])))
    have HSZ := Lib.hid (show w4.heap.size ≤ w5.heap.size from k45.size)
    have F5 := Lib.hid f5
    clear ho5 hg5 hn5 hat5 k45 k6
    have HHeld := And.intro hks trivial
    refine hK.out _ _ HHeld (fun _ => ?_)
    clear hK K
    (try simp only [Act.put]); (try simp only [List.setIfInBounds_toArray]); (try simp only [List.set_cons_zero, List.set_cons_succ])
    refine wpAnyH_ready (rs := [5]) (by kernel_rfl) (by simp) (AllReadyH.cons rfl (fun K hK => ?_) AllReadyH.nil)
    go_simp
    have p7 : (w5.setCell ⟨g, 0, none⟩ (.slice Av2 1 cv2)).cell? ⟨gm, 0, none⟩ = some (.int .i64 1) := by rw [World.cell?_setCell_far _ _ _ _ (by simp only; omega)]; exact hks
    have HHeld := And.intro p7 trivial
    refine hK.out _ _ HHeld (fun _ => ?_)
    clear hK K
    (try simp only [Act.put]); (try simp only [List.setIfInBounds_toArray]); (try simp only [List.set_cons_zero, List.set_cons_succ])
    refine wpAnyH_done (by kernel_rfl) ?_ _
    have p6 : (w5.setCell ⟨g, 0, none⟩ (.slice Av2 1 cv2)).cell? ⟨g, 0, none⟩ = some (.slice Av2 1 cv2) := World.cell?_setCell_same _ _ _ p5
    have f6 := Lib.hid (show (w5.setCell ⟨g, 0, none⟩ (.slice Av2 1 cv2)).frozen? ⟨g, 0, none⟩ = false by simpa using F5.out)
    have s6 := Lib.hid (show (w5.setCell ⟨g, 0, none⟩ (.slice Av2 1 cv2)).heap.size = w5.heap.size by simp)
    generalize hw6 : w5.setCell ⟨g, 0, none⟩ (.slice Av2 1 cv2) = w6 at *
    clear p5 f5 hks hw6
    have P6 := Lib.hid p6
    have hgl6 : g < w6.heap.size := by rw [s6.out]; have := HSZ.out; omega
    have hgm6 : gm < w6.heap.size := by rw [s6.out]; have := HSZ.out; have := Hb4.out.size; omega
    have L6 := Lib.hid (And.intro hgl6 hgm6)
    go_wp2_with fail
    go_ret
    have hK : KeepF F w w6 := (KeepF.ofBelow (F := F) Hb4.out).trans K46.out (fun x _ e => (HF.out x).2 (by rcases e with h | h; exact .inr h; exact .inl h))
    refine ⟨rfl, fun x => x = g ∨ (Value.slice Av2 1 cv2).ownBlock = some x ∨ (w.heap.size ≤ x ∧ x < w4.heap.size), ⟨_, A4, c4, w.heap.size, w4.heap.size, HOV.out, hc4, ?_, P6.out, f6.out, L6.out.1, hBg, by omega, by have := s6.out; have := HSZ.out; omega, HV'.out, fun x => Iff.rfl⟩, hK, fun x hx => ?_⟩
    · refine ho4.keep fun x h1 h2 => K46.out.block x h2 (fun e => ?_)
      have h1' : w.heap.size ≤ x := h1
      rcases e with h | h
      · have := (HV.out.lt x h).2; omega
      · omega
    · rcases hx with h | h | h
      · exact .inl ((HF.out x).2 (.inl h))
      · exact HAT.out x h
      · exact .inr h.1
  · go_simp
    refine HCL.out.mono ?_
    rintro e w4 ⟨A4, c4, rfl, hc4, hr4, ho4, b4⟩
    have Hb4 := Lib.hid (belowDrew b4)
    have HHeld := KS.out _ Hb4.out
    refine hK.out _ _ HHeld (fun _ => ?_)
    clear hK K
    try simp only [Act.put, List.setIfInBounds_toArray, List.set_cons_zero, List.set_cons_succ]
    have pd4 := cell_in Hb4.out (by simp only; omega) pd
    have hgl4 : g < w4.heap.size := by have := Hb4.out.size; omega
    refine wpAnyH_ready (rs := [0, 3]) (by kernel_rfl) (by simp) (AllReadyH.cons rfl (fun K hK => ?_) (AllReadyH.cons rfl (fun K hK => ?_) AllReadyH.nil))
    · go_simp
      have HHeld := KS.out _ Hb4.out
      refine hK.out _ _ HHeld (fun _ => ?_)
      clear hK K
      try simp only [Act.put, List.setIfInBounds_toArray, List.set_cons_zero, List.set_cons_succ]
      refine wpAnyH_ready (rs := [3]) (by kernel_rfl) (by simp) (AllReadyH.cons rfl (fun K hK => ?_) AllReadyH.nil)
      go_simp
      have HHeld := KS.out _ (Hb4.out.alloc Hb4.out.size (.cells #[.slice A4 d.length c4] 24))
      refine hK.out _ _ HHeld (fun _ => ?_)
      clear hK K
      try simp only [Act.put, List.setIfInBounds_toArray, List.set_cons_zero, List.set_cons_succ]
      refine wpAnyH_ready (rs := [4]) (by kernel_rfl) (by simp) (AllReadyH.cons rfl (fun K hK => ?_) AllReadyH.nil)
      refine step_app1 _ (by rfl) _ _ _ (by rfl) B 24 _ 24 Try.underlying99 info_sl2 rfl (by omega) _ [] (by rfl) ((HV.out.below' Hb4.out).alloc _) _ _ (by rfl) (one_cell _ _ _) rfl (by simp) (by have := Hb4.out.size; simp; omega) ?_
      intro v' w5 ho5 hg5 hn5 hat5
      rw [List.nil_append] at ho5
      obtain ⟨Av2, cv2, hv2, _, _⟩ := ho5.reads
      rw [show [Value.slice A4 d.length c4].length = 1 from rfl] at hv2
      subst hv2
      have k45 : KeepF (fun x => (Value.slice Av 0 cv).ownBlock = some x) w4 w5 := ((KeepF.refl _ _).alloc _).grown hg5 (fun x e => .inl e)
      have hg4 : g < w4.heap.size := by have := Hb4.out.size; omega
      have p5 := (k45.cell (p := ⟨g, 0, none⟩) hg4 HNG.out).trans (cell_in Hb4.out (by simp only; omega) pd)
      have f5 := (k45.frozen (p := ⟨g, 0, none⟩) hg4 HNG.out).trans ((Hb4.out.frozen (p := ⟨g, 0, none⟩) (by simp only; omega)).trans HFZ.out)
      have hks : w5.cell? ⟨gm, 0, none⟩ = some (.int .i64 1) := (k45.cell (p := ⟨gm, 0, none⟩) (by have := Hb4.out.size; simp only; omega) (fun e => HGM.out ((HF.out gm).2 (.inr e)))).trans ((KS.out _ Hb4.out).1)
      have hne : g ≠ gm := fun e => HGM.out ((HF.out gm).2 (.inl e.symm))
      have k6 : KeepF (fun x => x = g) w5 (w5.setCell ⟨g, 0, none⟩ (.slice Av2 1 cv2)) := (KeepF.refl (fun x => x = g) w5).setCell (p := ⟨g, 0, none⟩) (.inl rfl) _
      have K46 := Lib.hid (show KeepF (fun x => (Value.slice Av 0 cv).ownBlock = some x ∨ x = g) w4 (w5.setCell ⟨g, 0, none⟩ (.slice Av2 1 cv2)) from (k45.mono fun x e => .inl e).trans k6 (fun x _ e => .inr e))
      have HV' := Lib.hid (show (Value.slice Av2 1 cv2).ownBlock ≠ some g from fun e => by
        rcases hat5 with h | h
        · exact HNG.out (h.symm.trans e)
        · have := h.symm.trans e; injection this with this; simp only [World.size_alloc] at this; omega)
      have HAT := Lib.hid (show ∀ x, (Value.slice Av2 1 cv2).ownBlock = some x → F x ∨ w.heap.size ≤ x from fun x e => by
        rcases hat5 with h | h
        · exact .inl ((HF.out x).2 (.inr (h.symm.trans e)))
        · have := h.symm.trans e; injection this with this; simp only [World.size_alloc] at this; right; have := Hb4.out.size; omega)
      have HOV := Lib.hid (show OV (w5.setCell ⟨g, 0, none⟩ (.slice Av2 1 cv2)) B 24 (.slice Av2 1 cv2) [.slice A4 d.length c4] from ho5.keepF k6 (fun x e e' => HV'.out (by rw [e, e'])))
      have HSZ := Lib.hid (show w4.heap.size ≤ w5.heap.size from k45.size)
      have F5 := Lib.hid f5
      clear ho5 hg5 hn5 hat5 k45 k6
      have HHeld := And.intro hks trivial
      refine hK.out _ _ HHeld (fun _ => ?_)
      clear hK K
      (try simp only [Act.put]); (try simp only [List.setIfInBounds_toArray]); (try simp only [List.set_cons_zero, List.set_cons_succ])
      refine wpAnyH_ready (rs := [5]) (by kernel_rfl) (by simp) (AllReadyH.cons rfl (fun K hK => ?_) AllReadyH.nil)
      go_simp
      have p7 : (w5.setCell ⟨g, 0, none⟩ (.slice Av2 1 cv2)).cell? ⟨gm, 0, none⟩ = some (.int .i64 1) := by rw [World.cell?_setCell_far _ _ _ _ (by simp only; omega)]; exact hks
      have HHeld := And.intro p7 trivial
      refine hK.out _ _ HHeld (fun _ => ?_)
      clear hK K
      (try simp only [Act.put]); (try simp only [List.setIfInBounds_toArray]); (try simp only [List.set_cons_zero, List.set_cons_succ])
      refine wpAnyH_done (by kernel_rfl) ?_ _
      have p6 : (w5.setCell ⟨g, 0, none⟩ (.slice Av2 1 cv2)).cell? ⟨g, 0, none⟩ = some (.slice Av2 1 cv2) := World.cell?_setCell_same _ _ _ p5
      have f6 := Lib.hid (show (w5.setCell ⟨g, 0, none⟩ (.slice Av2 1 cv2)).frozen? ⟨g, 0, none⟩ = false by simpa using F5.out)
      have s6 := Lib.hid (show (w5.setCell ⟨g, 0, none⟩ (.slice Av2 1 cv2)).heap.size = w5.heap.size by simp)
      generalize hw6 : w5.setCell ⟨g, 0, none⟩ (.slice Av2 1 cv2) = w6 at *
      clear p5 f5 hks hw6
      have P6 := Lib.hid p6
      have hgl6 : g < w6.heap.size := by rw [s6.out]; have := HSZ.out; omega
      have hgm6 : gm < w6.heap.size := by rw [s6.out]; have := HSZ.out; have := Hb4.out.size; omega
      have L6 := Lib.hid (And.intro hgl6 hgm6)
      go_wp2_with fail
      go_ret
      have hK : KeepF F w w6 := (KeepF.ofBelow (F := F) Hb4.out).trans K46.out (fun x _ e => (HF.out x).2 (by rcases e with h | h; exact .inr h; exact .inl h))
      refine ⟨rfl, fun x => x = g ∨ (Value.slice Av2 1 cv2).ownBlock = some x ∨ (w.heap.size ≤ x ∧ x < w4.heap.size), ⟨_, A4, c4, w.heap.size, w4.heap.size, HOV.out, hc4, ?_, P6.out, f6.out, L6.out.1, hBg, by omega, by have := s6.out; have := HSZ.out; omega, HV'.out, fun x => Iff.rfl⟩, hK, fun x hx => ?_⟩
      · refine ho4.keep fun x h1 h2 => K46.out.block x h2 (fun e => ?_)
        have h1' : w.heap.size ≤ x := h1
        rcases e with h | h
        · have := (HV.out.lt x h).2; omega
        · omega
      · rcases hx with h | h | h
        · exact .inl ((HF.out x).2 (.inl h))
        · exact HAT.out x h
        · exact .inr h.1
    · go_simp
      have HHeld := KS.out _ (Hb4.out.alloc Hb4.out.size (.cells #[.slice A4 d.length c4] 24))
      refine hK.out _ _ HHeld (fun _ => ?_)
      clear hK K
      try simp only [Act.put, List.setIfInBounds_toArray, List.set_cons_zero, List.set_cons_succ]
      refine wpAnyH_ready (rs := [0]) (by kernel_rfl) (by simp) (AllReadyH.cons rfl (fun K hK => ?_) AllReadyH.nil)
      go_simp
      have HHeld := KS.out _ (Hb4.out.alloc Hb4.out.size (.cells #[.slice A4 d.length c4] 24))
      refine hK.out _ _ HHeld (fun _ => ?_)
      clear hK K
      try simp only [Act.put, List.setIfInBounds_toArray, List.set_cons_zero, List.set_cons_succ]
      refine wpAnyH_ready (rs := [4]) (by kernel_rfl) (by simp) (AllReadyH.cons rfl (fun K hK => ?_) AllReadyH.nil)
      refine step_app1 _ (by rfl) _ _ _ (by rfl) B 24 _ 24 Try.underlying99 info_sl2 rfl (by omega) _ [] (by rfl) ((HV.out.below' Hb4.out).alloc _) _ _ (by rfl) (one_cell _ _ _) rfl (by simp) (by have := Hb4.out.size; simp; omega) ?_
      intro v' w5 ho5 hg5 hn5 hat5
      rw [List.nil_append] at ho5
      obtain ⟨Av2, cv2, hv2, _, _⟩ := ho5.reads
      rw [show [Value.slice A4 d.length c4].length = 1 from rfl] at hv2
      subst hv2
      have k45 : KeepF (fun x => (Value.slice Av 0 cv).ownBlock = some x) w4 w5 := ((KeepF.refl _ _).alloc _).grown hg5 (fun x e => .inl e)
      have hg4 : g < w4.heap.size := by have := Hb4.out.size; omega
      have p5 := (k45.cell (p := ⟨g, 0, none⟩) hg4 HNG.out).trans (cell_in Hb4.out (by simp only; omega) pd)
      have f5 := (k45.frozen (p := ⟨g, 0, none⟩) hg4 HNG.out).trans ((Hb4.out.frozen (p := ⟨g, 0, none⟩) (by simp only; omega)).trans HFZ.out)
      have hks : w5.cell? ⟨gm, 0, none⟩ = some (.int .i64 1) := (k45.cell (p := ⟨gm, 0, none⟩) (by have := Hb4.out.size; simp only; omega) (fun e => HGM.out ((HF.out gm).2 (.inr e)))).trans ((KS.out _ Hb4.out).1)
      have hne : g ≠ gm := fun e => HGM.out ((HF.out gm).2 (.inl e.symm))
      have k6 : KeepF (fun x => x = g) w5 (w5.setCell ⟨g, 0, none⟩ (.slice Av2 1 cv2)) := (KeepF.refl (fun x => x = g) w5).setCell (p := ⟨g, 0, none⟩) (.inl rfl) _
      have K46 := Lib.hid (show KeepF (fun x => (Value.slice Av 0 cv).ownBlock = some x ∨ x = g) w4 (w5.setCell ⟨g, 0, none⟩ (.slice Av2 1 cv2)) from (k45.mono fun x e => .inl e).trans k6 (fun x _ e => .inr e))
      have HV' := Lib.hid (show (Value.slice Av2 1 cv2).ownBlock ≠ some g from fun e => by
        rcases hat5 with h | h
        · exact HNG.out (h.symm.trans e)
        · have := h.symm.trans e; injection this with this; simp only [World.size_alloc] at this; omega)
      have HAT := Lib.hid (show ∀ x, (Value.slice Av2 1 cv2).ownBlock = some x → F x ∨ w.heap.size ≤ x from fun x e => by
        rcases hat5 with h | h
        · exact .inl ((HF.out x).2 (.inr (h.symm.trans e)))
        · have := h.symm.trans e; injection this with this; simp only [World.size_alloc] at this; right; have := Hb4.out.size; omega)
      have HOV := Lib.hid (show OV (w5.setCell ⟨g, 0, none⟩ (.slice Av2 1 cv2)) B 24 (.slice Av2 1 cv2) [.slice A4 d.length c4] from ho5.keepF k6 (fun x e e' => HV'.out (by rw [e, e'])))
      have HSZ := Lib.hid (show w4.heap.size ≤ w5.heap.size from k45.size)
      have F5 := Lib.hid f5
      clear ho5 hg5 hn5 hat5 k45 k6
      have HHeld := And.intro hks trivial
      refine hK.out _ _ HHeld (fun _ => ?_)
      clear hK K
      (try simp only [Act.put]); (try simp only [List.setIfInBounds_toArray]); (try simp only [List.set_cons_zero, List.set_cons_succ])
      refine wpAnyH_ready (rs := [5]) (by kernel_rfl) (by simp) (AllReadyH.cons rfl (fun K hK => ?_) AllReadyH.nil)
      go_simp
      have p7 : (w5.setCell ⟨g, 0, none⟩ (.slice Av2 1 cv2)).cell? ⟨gm, 0, none⟩ = some (.int .i64 1) := by rw [World.cell?_setCell_far _ _ _ _ (by simp only; omega)]; exact hks
      have HHeld := And.intro p7 trivial
      refine hK.out _ _ HHeld (fun _ => ?_)
      clear hK K
      (try simp only [Act.put]); (try simp only [List.setIfInBounds_toArray]); (try simp only [List.set_cons_zero, List.set_cons_succ])
      refine wpAnyH_done (by kernel_rfl) ?_ _
      have p6 : (w5.setCell ⟨g, 0, none⟩ (.slice Av2 1 cv2)).cell? ⟨g, 0, none⟩ = some (.slice Av2 1 cv2) := World.cell?_setCell_same _ _ _ p5
      have f6 := Lib.hid (show (w5.setCell ⟨g, 0, none⟩ (.slice Av2 1 cv2)).frozen? ⟨g, 0, none⟩ = false by simpa using F5.out)
      have s6 := Lib.hid (show (w5.setCell ⟨g, 0, none⟩ (.slice Av2 1 cv2)).heap.size = w5.heap.size by simp)
      generalize hw6 : w5.setCell ⟨g, 0, none⟩ (.slice Av2 1 cv2) = w6 at *
      clear p5 f5 hks hw6
      have P6 := Lib.hid p6
      have hgl6 : g < w6.heap.size := by rw [s6.out]; have := HSZ.out; omega
      have hgm6 : gm < w6.heap.size := by rw [s6.out]; have := HSZ.out; have := Hb4.out.size; omega
      have L6 := Lib.hid (And.intro hgl6 hgm6)
      go_wp2_with fail
      go_ret
      have hK : KeepF F w w6 := (KeepF.ofBelow (F := F) Hb4.out).trans K46.out (fun x _ e => (HF.out x).2 (by rcases e with h | h; exact .inr h; exact .inl h))
      refine ⟨rfl, fun x => x = g ∨ (Value.slice Av2 1 cv2).ownBlock = some x ∨ (w.heap.size ≤ x ∧ x < w4.heap.size), ⟨_, A4, c4, w.heap.size, w4.heap.size, HOV.out, hc4, ?_, P6.out, f6.out, L6.out.1, hBg, by omega, by have := s6.out; have := HSZ.out; omega, HV'.out, fun x => Iff.rfl⟩, hK, fun x hx => ?_⟩
      · refine ho4.keep fun x h1 h2 => K46.out.block x h2 (fun e => ?_)
        have h1' : w.heap.size ≤ x := h1
        rcases e with h | h
        · have := (HV.out.lt x h).2; omega
        · omega
      · rcases hx with h | h | h
        · exact .inl ((HF.out x).2 (.inl h))
        · exact HAT.out x h
        · exact .inr h.1
/-- the designs found in a slice -/
def DesOut (B : Nat) (w' : World) (v : Value) (s : List (List (List Int))) : Prop :=
  (s = [] ∧ ∃ Av cv, v = .slice Av 0 cv) ∨ (∃ d b o cv A c lo hi, s = [d] ∧ v = .slice (some ⟨b, o, none⟩) 1 cv ∧ w'.cell? ⟨b, o, none⟩ = some (.slice A d.length c) ∧ d.length ≤ c ∧ OII w' lo hi (.slice A d.length c) d ∧ B ≤ lo ∧ hi ≤ w'.heap.size)
theorem RDes.out {g B : Nat} : ∀ {s : List (List (List Int))} {w : World} {F : Nat → Prop}, RDes g B s w F → ∃ v, w.cell? ⟨g, 0, none⟩ = some v ∧ g < w.heap.size ∧ DesOut B w v s
  | [], w, F, h => by
    obtain ⟨v, h1, h2, _, h4, _⟩ := h
    obtain ⟨Av, cv, rfl, _, _⟩ := h1.reads
    exact ⟨_, h2, h4, .inl ⟨rfl, Av, cv, rfl⟩⟩
  | [d], w, F, h => by
    obtain ⟨v, A, c, lo, hi, h1, h2, h3, h4, _, h6, _, h8, h9, _⟩ := h
    obtain ⟨Av, cv, rfl, _, hr⟩ := h1.reads
    obtain ⟨b, o, rfl, hc⟩ := hr.at_ (k := 0) (by simp)
    exact ⟨_, h4, h6, .inr ⟨d, b, o, cv, A, c, lo, hi, rfl, rfl, by simpa using hc, h2, h3, h8, h9⟩⟩
  | _ :: _ :: _, _, _, h => h.elim
theorem oneDes (m : Mk) (t : List (List Int)) (g gm B : Nat) (w0 : World) (F0 : Nat → Prop) (hm : w0.cell? ⟨gm, 0, none⟩ = some (.int .i64 1)) (hgm : ¬ F0 gm) :
    DesOK 225 #[.pointer (some ⟨g, 0, none⟩), .pointer (some ⟨gm, 0, none⟩)] (visMost 1) (RDes g B) (fun s => s = []) m t w0 F0 :=
  ⟨enters Try.func225 (by kernel_rfl) rfl, fun s d hs hb => (by subst hs; cases hb), RDes.lt g B, RDes.fr g B, fun s w' G A c cuts hs hk hR hG hc hp => by
    subst hs
    have hl := World.block_lt_of_cell? w0 _ hm
    simp only at hl
    exact firstDesClo_any g gm B A c cuts w' G hR ((hk.cell (p := ⟨gm, 0, none⟩) hl hgm).trans hm) (fun e => by rcases hG gm e with h | h; exact hgm h; omega) hc.rii (by have := hp.le; have := hp.t10; omega) (fun k hk => by have := hp.len hk; have := mk_bounds hp.mak; omega)⟩
set_option maxRecDepth 100000 in
set_option maxHeartbeats 4000000 in
theorem firstDesigns_any (m : Mk) (A : Option Addr) (c : Nat) (t : List (List Int)) (lim : Nat) (hlim : lim ≤ 4000) (w : World) (h : RII w A t) (hp : PartOK m t []) :
    Calls Try.prog 214 #[.agg #[.int .i64 m.c, .int .i64 m.d, .int .i64 m.s, .int .i64 m.a, .int .i64 m.l, .slice A t.length c], .slice none 0 0, .int .i64 1, .int .i64 (lim : Int)] w fun e w' => ∃ X v, e = .returned (.tuple #[v, .pointer (some ⟨X, 0, none⟩)]) ∧ DesOut w.heap.size w' v (allS m t lim (visMost 1) []).vis ∧
      w'.cell? ⟨X, 7, none⟩ = some (.int .i64 ((allS m t lim (visMost 1) []).tries : Int)) ∧ w'.cell? ⟨X, 8, none⟩ = some (.bool (allS m t lim (visMost 1) []).over) ∧ X < w'.heap.size ∧ Below w.heap.size w w' := by
  obtain ⟨w1, hw1⟩ : ∃ w1, w1 = ((((w.alloc (.cells #[.int .i64 m.c, .int .i64 m.d, .int .i64 m.s, .int .i64 m.a, .int .i64 m.l, .slice A t.length c] 31)).alloc (.cells #[.int .i64 1] 2)).alloc (.cells #[] 24)).alloc (.cells #[.slice (some ⟨w.heap.size + 1 + 1, 0, none⟩) 0 0] 99)).alloc (.cells #[.int .i64 m.c, .int .i64 m.d, .int .i64 m.s, .int .i64 m.a, .int .i64 m.l, .slice A t.length c, .int .i64 (lim : Int), .int .i64 0, .bool false, .func (.func 225) #[] #[.pointer (some ⟨w.heap.size + 1 + 1 + 1, 0, none⟩), .pointer (some ⟨w.heap.size + 1, 0, none⟩)]] 107) := ⟨_, rfl⟩
  have B1 : Below w.heap.size w w1 := by
    rw [hw1]; exact (((((Below.refl w.heap.size w).alloc (Nat.le_refl _) _).alloc (by simp only [World.size_alloc]; omega) _).alloc (by simp only [World.size_alloc]; omega) _).alloc (by simp only [World.size_alloc]; omega) _).alloc (by simp only [World.size_alloc]; omega) _
  have hz1 : w1.heap.size = w.heap.size + 5 := by rw [hw1]; simp
  have c1 : w1.cell? ⟨w.heap.size + 1, 0, none⟩ = some (.int .i64 1) := by
    rw [hw1]
    iterate 3 rw [World.cell?_alloc_lt _ _ _ (by simp only [World.size_alloc]; omega)]
    rw [World.cell?_alloc_at (hn := by simp)]; rfl
  have c3 : w1.cell? ⟨w.heap.size + 1 + 1 + 1, 0, none⟩ = some (.slice (some ⟨w.heap.size + 1 + 1, 0, none⟩) 0 0) := by
    rw [hw1]
    iterate 1 rw [World.cell?_alloc_lt _ _ _ (by simp only [World.size_alloc]; omega)]
    rw [World.cell?_alloc_at (hn := by simp)]; rfl
  have f3 : w1.frozen? ⟨w.heap.size + 1 + 1 + 1, 0, none⟩ = false := by
    rw [hw1, World.frozen?_alloc_past _ _ _ (by simp only [World.size_alloc]; omega), World.frozen?_alloc_at (hn := by simp)]
  have ho : OV w1 w.heap.size 24 (.slice (some ⟨w.heap.size + 1 + 1, 0, none⟩) 0 0) [] := by
    have := (((OV.new0 (w := (w.alloc (.cells #[.int .i64 m.c, .int .i64 m.d, .int .i64 m.s, .int .i64 m.a, .int .i64 m.l, .slice A t.length c] 31)).alloc (.cells #[.int .i64 1] 2)) (B := w.heap.size + 2) (e := 24) (by simp)).alloc (.cells #[.slice (some ⟨w.heap.size + 1 + 1, 0, none⟩) 0 0] 99)).alloc (.cells #[.int .i64 m.c, .int .i64 m.d, .int .i64 m.s, .int .i64 m.a, .int .i64 m.l, .slice A t.length c, .int .i64 (lim : Int), .int .i64 0, .bool false, .func (.func 225) #[] #[.pointer (some ⟨w.heap.size + 1 + 1 + 1, 0, none⟩), .pointer (some ⟨w.heap.size + 1, 0, none⟩)]] 107)).mono (show w.heap.size ≤ w.heap.size + 2 by omega)
    rw [hw1]; simpa using this
  have hRD : RDes (w.heap.size + 1 + 1 + 1) w.heap.size [] w1 (fun x => x = w.heap.size + 1 + 1 + 1 ∨ x = w.heap.size + 1 + 1) :=
    ⟨_, ho, c3, f3, by omega, by omega, by simp [Value.ownBlock], fun x => by simp [Value.ownBlock]; omega⟩
  have bX : BoxC w1 (w.heap.size + 1 + 1 + 1 + 1) 0 [.int .i64 m.c, .int .i64 m.d, .int .i64 m.s, .int .i64 m.a, .int .i64 m.l, .slice A t.length c, .int .i64 (lim : Int), .int .i64 ((0 : Nat) : Int), .bool false, .func (.func 225) #[] #[.pointer (some ⟨w.heap.size + 1 + 1 + 1, 0, none⟩), .pointer (some ⟨w.heap.size + 1, 0, none⟩)]] := by
    rw [hw1]; exact BoxC.new [.int .i64 m.c, .int .i64 m.d, .int .i64 m.s, .int .i64 m.a, .int .i64 m.l, .slice A t.length c, .int .i64 (lim : Int), .int .i64 0, .bool false, .func (.func 225) #[] #[.pointer (some ⟨w.heap.size + 1 + 1 + 1, 0, none⟩), .pointer (some ⟨w.heap.size + 1, 0, none⟩)]] (by simp)
  have fX : ∀ i, w1.frozen? ⟨w.heap.size + 1 + 1 + 1 + 1, i, none⟩ = false := fun i => by rw [hw1]; exact World.frozen?_alloc_at _ _ _ _ (by simp)
  have HRS : RS (RDes (w.heap.size + 1 + 1 + 1) w.heap.size) (w.heap.size + 1 + 1 + 1 + 1) m A c t lim 225 #[.pointer (some ⟨w.heap.size + 1 + 1 + 1, 0, none⟩), .pointer (some ⟨w.heap.size + 1, 0, none⟩)] ⟨0, false, []⟩ w1 (fun x => (x = w.heap.size + 1 + 1 + 1 ∨ x = w.heap.size + 1 + 1) ∨ x = w.heap.size + 1 + 1 + 1 + 1) :=
    ⟨_, hRD, fun e => by omega, by omega, bX, fX 7, fX 8, fun x => Iff.rfl⟩
  have hT : RIIn (fun g => ((g = w.heap.size + 1 + 1 + 1 ∨ g = w.heap.size + 1 + 1) ∨ g = w.heap.size + 1 + 1 + 1 + 1) ∨ w1.heap.size ≤ g) w1 A t := ((h.nF (F := fun x => w.heap.size ≤ x) (fun _ h => h)).keepF (KeepF.ofBelow B1)).mono (fun g hg => by omega)
  have HGO := goOn_any (RDes (w.heap.size + 1 + 1 + 1) w.heap.size) (fun s => s = []) (w.heap.size + 1 + 1 + 1 + 1) m A c t lim hlim 225 #[.pointer (some ⟨w.heap.size + 1 + 1 + 1, 0, none⟩), .pointer (some ⟨w.heap.size + 1, 0, none⟩)] (visMost 1) w1 _ (oneDes m t _ _ _ w1 _ c1 (fun e => by omega)) hT t.length [] ⟨0, false, []⟩ w1 _ none 0 hp (by simp) (openPart_none m t) (Nat.le_refl _) (Nat.zero_le _) rfl (KeepF.refl _ _) (fun g hg => .inl hg) HRS RIIn.nil
  obtain ⟨bg, stg, hg⟩ : ∃ bg stg, goF m t lim (visMost 1) t.length [] ⟨0, false, []⟩ = (bg, stg) := ⟨_, _, rfl⟩
  have HS := Lib.hid (show allS m t lim (visMost 1) [] = stg by unfold allS; rw [hg])
  rw [hg] at HGO
  have HGG := Lib.hid HGO
  have HB := Lib.hid B1
  rw [HS.out]
  have hh := h.le
  have l1 : w.heap.size + 1 < w1.heap.size := by omega
  have C1 := Lib.hid c1
  clear HGO hg HRS hT bX fX hRD B1 ho c3 f3 c1
  go_enter Try.func214, Try.ntmps214
  go_wp2_with fail
  rw [← hw1]
  refine HGG.out.mono ?_
  rintro e w2 ⟨rfl, F2, ⟨G2, hR2, _, hX2, b2, _⟩, k2, _⟩
  obtain ⟨_, _, _, _, _, _, _, x7, x8, _⟩ := b2
  obtain ⟨v2, cv2, hg2, hd2⟩ := hR2.out
  have HX := Lib.hid (And.intro x7 (And.intro x8 (And.intro hX2 hd2)))
  have HB2 := Lib.hid (HB.out.trans (k2.toBelow HB.out.size (fun g hg e => by omega)))
  have hv2 : ∃ a b c', v2 = .slice a b c' := by
    rcases hd2 with ⟨_, a, b, e⟩ | ⟨d, b, o, cv, A', c', lo, hi, _, e, _⟩
    · exact ⟨_, _, _, e⟩
    · exact ⟨_, _, _, e⟩
  obtain ⟨a2, n2, k2', rfl⟩ := hv2
  clear x7 x8 k2 hR2 hw1 hd2
  go_wp2_with fail
  go_ret2
  exact ⟨_, _, rfl, HX.out.2.2.2, HX.out.1, HX.out.2.1, HX.out.2.2.1, HB2.out⟩
/-! ### the answer -/
def oneS (m : Mk) (t : List (List Int)) (lim : Int) : SrchL := allS m t lim.toNat (visMost 1) []
def findR (m : Mk) (t : List (List Int)) (lim : Int) : List (List Int) × Int × Int :=
  if limC m t lim = 0 then (match (oneS m t lim).vis with
    | d :: _ => (d, ((oneS m t lim).tries : Int), 0)
    | [] => if (oneS m t lim).over = true then ([], 0, 3) else ([], 0, 4)) else ([], 0, limC m t lim)
theorem find_no {m : Mk} {t : List (List Int)} {lim : Int} (h : limC m t lim ≠ 0) : ([], 0, limC m t lim) = findR m t lim := by unfold findR; rw [if_neg h]
theorem find_some {m : Mk} {t : List (List Int)} {lim : Int} (h : limC m t lim = 0) {d : List (List Int)} {ds : List (List (List Int))} (h2 : (oneS m t lim).vis = d :: ds) : (d, ((oneS m t lim).tries : Int), 0) = findR m t lim := by unfold findR; rw [if_pos h, h2]
theorem find_over {m : Mk} {t : List (List Int)} {lim : Int} (h : limC m t lim = 0) (h2 : (oneS m t lim).vis = []) (h3 : (oneS m t lim).over = true) : ([], 0, 3) = findR m t lim := by unfold findR; rw [if_pos h, h2]; simp only [h3, if_true]
theorem find_none {m : Mk} {t : List (List Int)} {lim : Int} (h : limC m t lim = 0) (h2 : (oneS m t lim).vis = []) (h3 : (oneS m t lim).over = false) : ([], 0, 4) = findR m t lim := by unfold findR; rw [if_pos h, h2]; simp [h3]
def ResFD (w : World) (r : List (List Int) × Int × Int) (e : Ending) (w' : World) : Prop := ∃ A c, e = .returned (.tuple #[.slice A r.1.length c, .int .i64 r.2.1, .int .i64 r.2.2]) ∧ r.1.length ≤ c ∧ RII w' A r.1 ∧ OII w' w.heap.size w'.heap.size (.slice A r.1.length c) r.1 ∧ Below w.heap.size w w'
theorem resFD_nil {w w' : World} {r : List (List Int) × Int × Int} {a b : Int} (h : ([], a, b) = r) (hb : Below w.heap.size w w') : ResFD w r (.returned (.tuple #[.slice none 0 0, .int .i64 a, .int .i64 b])) w' := by
  subst h; exact ⟨none, 0, rfl, Nat.le_refl _, RII.nil, OII.nil, hb⟩
theorem resFD_of {w w' : World} {r : List (List Int) × Int × Int} {A : Option Addr} {c lo hi : Nat} {d : List (List Int)} {a b : Int} (h : (d, a, b) = r) (hc : d.length ≤ c) (ho : OII w' lo hi (.slice A d.length c) d) (hl : w.heap.size ≤ lo) (hh : hi ≤ w'.heap.size) (hb : Below w.heap.size w w') : ResFD w r (.returned (.tuple #[.slice A d.length c, .int .i64 a, .int .i64 b])) w' := by
  subst h; exact ⟨A, c, rfl, hc, ho.rii, ho.wide hl hh, hb⟩
theorem ResFD.mono {w w0 w' : World} {r : List (List Int) × Int × Int} {e : Ending} (h : ResFD w r e w') (hb : Below w0.heap.size w0 w) : ResFD w0 r e w' := by
  obtain ⟨A, c, h1, h2, h3, h4, h5⟩ := h
  exact ⟨A, c, h1, h2, h3, h4.wide hb.size (Nat.le_refl _), hb.trans (h5.mono hb.size)⟩
set_option maxRecDepth 100000 in
set_option maxHeartbeats 4000000 in
theorem findFrom_nil (m : Mk) (A : Option Addr) (c : Nat) (t : List (List Int)) (lim : Int) (w : World) (h : RII w A t) :
    Calls Try.prog 181 #[.agg #[.int .i64 m.c, .int .i64 m.d, .int .i64 m.s, .int .i64 m.a, .int .i64 m.l, .slice A t.length c], .slice none 0 0, .int .i64 lim] w (ResFD w (findR m t lim)) := by
  have B0 := (Below.refl w.heap.size w).alloc (Nat.le_refl _) (.cells #[.int .i64 m.c, .int .i64 m.d, .int .i64 m.s, .int .i64 m.a, .int .i64 m.l, .slice A t.length c] 31)
  have bx : BoxC (w.alloc (.cells #[.int .i64 m.c, .int .i64 m.d, .int .i64 m.s, .int .i64 m.a, .int .i64 m.l, .slice A t.length c] 31)) w.heap.size 0 [.int .i64 m.c, .int .i64 m.d, .int .i64 m.s, .int .i64 m.a, .int .i64 m.l, .slice A t.length c] := by simp [BoxC, Go.World.cell?_alloc_at]
  have HCC := Lib.hid (searchCode_nil m A c t lim (w.alloc (.cells #[.int .i64 m.c, .int .i64 m.d, .int .i64 m.s, .int .i64 m.a, .int .i64 m.l, .slice A t.length c] 31)) (h.below B0))
  have hs0 := B0.size
  by_cases h1 : limC m t lim = 0
  rotate_left
  · have HN := Lib.hid (find_no h1)
    have t1 : (limC m t lim != 0) = true := by simpa using h1
    have H1 := Lib.hid h1; clear h1
    go_enter Try.func181, Try.ntmps181
    go_wp2_with fail
    refine HCC.out.mono ?_
    rintro e w1 ⟨rfl, b1⟩
    go_wp2_with fail
    go_ret3
    exact resFD_nil HN.out (B0.trans (b1.mono B0.size))
  obtain ⟨hp, k, rfl, hk⟩ := limC_ok h1
  rw [h1] at HCC
  have HH := fun (W : World) (hW : Below w.heap.size w W) => firstDesigns_any m A c t k hk W (h.below hW) hp
  obtain ⟨sn, hsn⟩ : ∃ sn, sn = allS m t k (visMost 1) [] := ⟨_, rfl⟩
  have HSR := Lib.hid (show oneS m t (k : Int) = sn by unfold oneS; rw [Int.toNat_natCast, hsn])
  rw [← hsn] at HH
  have HHH := Lib.hid HH
  have HSN := Lib.hid hsn
  have H1 := Lib.hid h1; clear h1 HH hsn
  go_enter Try.func181, Try.ntmps181
  go_wp2_with fail
  refine HCC.out.mono ?_
  rintro e w1 ⟨rfl, b1⟩
  have B1 := B0.trans (b1.mono B0.size)
  obtain ⟨q0, q1, q2, q3, q4, q5, _⟩ := bx.below b1
  have hs1 : w.heap.size ≤ w1.heap.size := B1.size
  go_wp2_with fail
  refine (HHH.out _ B1).mono ?_
  rintro e w2 ⟨X, v, rfl, hd, x7, x8, hX, b2⟩
  have HB2 := Lib.hid (B1.trans (b2.mono B1.size))
  clear b2 q0 q1 q2 q3 q4 q5
  rcases hd with ⟨hn, Av, cv, rfl⟩ | ⟨d, b, o, cv, A', c', lo, hi, hn, rfl, hc, hcl, ho, hlo, hhi⟩
  · cases hov : sn.over with
    | true =>
      have HN := Lib.hid (find_over H1.out (by rw [HSR.out]; exact hn) (by rw [HSR.out]; exact hov))
      rw [hov] at x8
      clear hov hn
      go_wp2_with fail
      go_ret3
      exact resFD_nil HN.out HB2.out
    | false =>
      have HN := Lib.hid (find_none H1.out (by rw [HSR.out]; exact hn) (by rw [HSR.out]; exact hov))
      rw [hov] at x8
      clear hov hn
      go_wp2_with fail
      go_ret3
      exact resFD_nil HN.out HB2.out
  · have HN := Lib.hid (find_some H1.out (by rw [HSR.out]; exact hn))
    rw [HSR.out] at HN
    have HO := Lib.hid ho
    have hb := World.block_lt_of_cell? w2 _ hc
    simp only at hb
    clear hn ho x8
    go_wp2_with fail
    go_quiet (fail)
    go_wp2_with fail
    go_ret3
    exact resFD_of HN.out hcl (show OII (w2.drewN _) lo hi (.slice A' d.length c') d from HO.out) (by omega) hhi (belowD HB2.out _)
set_option maxRecDepth 100000 in
set_option maxHeartbeats 4000000 in
theorem implFindDesign_any (m : Mk) (A : Option Addr) (c : Nat) (t : List (List Int)) (lim : Int) (w : World) (h : RII w A t) (hwf : (Lit.int .i64 lim).wf = true) :
    Calls Try.prog 104 #[.agg #[.int .i64 m.c, .int .i64 m.d, .int .i64 m.s, .int .i64 m.a, .int .i64 m.l, .slice A t.length c], .int .i64 lim] w (ResFD w (findR m t lim)) := by
  have B0 := (Below.refl w.heap.size w).alloc (Nat.le_refl _) (.cells #[.int .i64 m.c, .int .i64 m.d, .int .i64 m.s, .int .i64 m.a, .int .i64 m.l, .slice A t.length c] 31)
  have HF := Lib.hid (findFrom_nil m A c t lim (w.alloc (.cells #[.int .i64 m.c, .int .i64 m.d, .int .i64 m.s, .int .i64 m.a, .int .i64 m.l, .slice A t.length c] 31)) (h.below B0))
  obtain ⟨r, hr⟩ : ∃ r, r = findR m t lim := ⟨_, rfl⟩
  rw [← hr] at HF ⊢
  clear hr
  go_enter Try.func104, Try.ntmps104
  go_wp2_with fail
  refine HF.out.mono ?_
  intro e w1 hR
  have HR := Lib.hid (ResFD.mono hR B0)
  obtain ⟨A1, c1, rfl, _⟩ := hR
  go_wp2_with fail
  go_ret3
  exact HR.out
/-! ### designs found are cuts of all rows -/
theorem goL_all {m : Mk} {t : List (List Int)} {lim r : Nat} {rec : List (List Int) → SrchL → Bool × SrchL} (hrec : ∀ cuts (b : SrchL), PartOK m t cuts → cuts.length + r = t.length → (∀ d ∈ b.vis, PartOK m t d) → ∀ d ∈ (rec cuts b).2.vis, PartOK m t d)
    (cuts : List (List Int)) (hp : PartOK m t cuts) (hl : cuts.length + (r + 1) = t.length) : ∀ (ks : List (List Int)) (b : SrchL), (∀ k ∈ ks, isKey m k = true) → (∀ d ∈ b.vis, PartOK m t d) → ∀ d ∈ (goL m t lim rec cuts ks b).2.vis, PartOK m t d
  | [], _, _, h => h
  | k :: ks, b, hk, h => by
    have hk' : ∀ x ∈ ks, isKey m x = true := fun x hx => hk x (List.mem_cons_of_mem _ hx)
    by_cases h1 : b.tries = lim
    · rw [goL_lim h1]; exact h
    · cases ho : openPart m t (cuts ++ [k]) with
      | true =>
        obtain ⟨x, b', hb⟩ : ∃ x b', rec (cuts ++ [k]) ⟨b.tries + 1, b.over, b.vis⟩ = (x, b') := ⟨_, _, rfl⟩
        have h2 := hrec (cuts ++ [k]) ⟨b.tries + 1, b.over, b.vis⟩ (hp.snoc (by omega) (hk k List.mem_cons_self)) (by simp; omega) h
        rw [hb] at h2
        cases x with
        | true => rw [goL_on h1 ho hb]; exact goL_all hrec cuts hp hl ks b' hk' h2
        | false => rw [goL_end h1 ho hb]; exact h2
      | false => rw [goL_shut h1 ho]; exact goL_all hrec cuts hp hl ks _ hk' h
theorem goF_all {m : Mk} {t : List (List Int)} {lim : Nat} (most : Nat) : ∀ (r : Nat) (cuts : List (List Int)) (b : SrchL), PartOK m t cuts → cuts.length + r = t.length → (∀ d ∈ b.vis, PartOK m t d) → ∀ d ∈ (goF m t lim (visMost most) r cuts b).2.vis, PartOK m t d
  | 0, cuts, b, hp, _, h => fun d hd => by
    have hd : d ∈ b.vis ++ [cuts] := hd
    rcases List.mem_append.1 hd with hd | hd
    · exact h d hd
    · rw [List.mem_singleton] at hd; subst hd; exact hp
  | r + 1, cuts, b, hp, hl, h => goL_all (fun cuts b hp hl h => goF_all most r cuts b hp hl h) cuts hp hl (allK m) b (fun k hk => (allK_is hp.mak).1 hk) h
theorem allS_all {m : Mk} {t : List (List Int)} {lim most : Nat} (hp : PartOK m t []) : ∀ d ∈ (allS m t lim (visMost most) []).vis, PartOK m t d := goF_all most t.length [] ⟨0, false, []⟩ hp (by simp) (fun d hd => by simp at hd)
theorem find_ok {m : Mk} {t : List (List Int)} {lim : Int} : (findR m t lim).1 = [] ∨ PartOK m t (findR m t lim).1 := by
  unfold findR
  by_cases h1 : limC m t lim = 0
  · rw [if_pos h1]
    have hA := allS_all (lim := lim.toNat) (most := 1) (limC_ok h1).1
    cases hv : (oneS m t lim).vis with
    | nil => left; simp only; split <;> rfl
    | cons d ds => right; exact hA d (by show d ∈ (oneS m t lim).vis; rw [hv]; simp)
  · rw [if_neg h1]; left; rfl
set_option maxRecDepth 100000 in
set_option maxHeartbeats 4000000 in
theorem l17First_any (X : Nat) (m : Mk) (A : Option Addr) (c : Nat) (t : List (List Int)) (lim most : Nat) (st : SrchL) (w : World) (F : Nat → Prop) (h : RF X m A c t lim most st w F) (hd : ∀ d ∈ st.vis, PartOK m t d) (r : List (List Int) × Int × Int)
    (hr1 : ∀ d ds, st.vis = d :: ds → (d, (st.tries : Int), 0) = r) (hr2 : st.vis = [] → st.over = true → ([], 0, 3) = r) (hr3 : st.vis = [] → st.over = false → ([], 0, 4) = r) :
    Calls Try.prog 180 #[.pointer (some ⟨X, 0, none⟩)] w (ResFD w r) := by
  obtain ⟨v, us, hV⟩ := h
  have hX := hV.xl
  obtain ⟨Av, cv, rfl, hcv, hrv⟩ := hV.own.reads
  have hle := hrv.1
  obtain ⟨x0, x1, x2, x3, x4, x5, x6, x7, x8, x9, x10, _⟩ := hV.box
  simp only [Nat.zero_add] at x8 x9 x10
  cases hv : st.vis with
  | nil =>
    have hu : us = [] := List.length_eq_zero_iff.1 (by rw [hV.len, hv]; rfl)
    subst hu
    cases hov : st.over with
    | true =>
      have HN := Lib.hid (hr2 hv hov)
      rw [hov] at x9
      clear hr1 hr2 hr3 hd hov hv hV hrv x0 x1 x2 x3 x4 x5 x6 x7
      go_enter Try.func180, Try.ntmps180
      go_wp2_with fail
      go_ret3
      exact resFD_nil HN.out (Below.refl _ _)
    | false =>
      have HN := Lib.hid (hr3 hv hov)
      rw [hov] at x9
      clear hr1 hr2 hr3 hd hov hv hV hrv x0 x1 x2 x3 x4 x5 x6 x7
      go_enter Try.func180, Try.ntmps180
      go_wp2_with fail
      go_ret3
      exact resFD_nil HN.out (Below.refl _ _)
  | cons d ds =>
    have HN := Lib.hid (hr1 d ds hv)
    have h0 : 0 < us.length := by rw [hV.len, hv]; simp
    have hpd := hd d (by rw [hv]; simp)
    obtain ⟨A', c', hu, hcl, hrd⟩ := hV.rows 0 (by rw [hv]; simp)
    have e0 : st.vis[0]'(by rw [hv]; simp) = d := by simp [hv]
    rw [e0] at hu hcl hrd
    obtain ⟨b, o, rfl, hc0⟩ := hrv.at_ h0
    have hu2 : us[0] = .slice A' d.length c' := by rw [List.getElem?_eq_getElem h0] at hu; exact Option.some.inj hu
    rw [hu2, Nat.add_zero] at hc0
    have hb := World.block_lt_of_cell? w _ hc0
    simp only at hb
    have HCL := Lib.hid (fun (W : World) (hW : Below w.heap.size w W) => l15Lists_any A' c' d W (hrd.rii.below hW) (by have := hpd.le; have := hpd.t10; omega) (fun k hk => by have := hpd.len hk; have := mk_bounds hpd.mak; omega))
    have i0 : (0 : Int) < (us.length : Int) := by omega
    have KS := Lib.hid (show ∀ W : World, Below w.heap.size w W → (W.cell? ⟨X, 10, none⟩ = some (.slice (some ⟨b, o, none⟩) us.length cv) ∧ W.cell? ⟨b, o, none⟩ = some (.slice A' d.length c') ∧ W.cell? ⟨X, 8, none⟩ = some (.int .i64 (st.tries : Int))) from fun W hW => ⟨cell_in hW hX x10, cell_in hW hb hc0, cell_in hW hX x8⟩)
    clear hr1 hr2 hr3 hd hu hu2 e0 hV hrv x0 x1 x2 x3 x4 x5 x6 x7 x9 hrd hcl hpd hv
    go_enter Try.func180, Try.ntmps180
    go_wp2_with fail
    refine wp_region_held_drew (S := (fun W => W.cell? ⟨X, 10, none⟩ = some (.slice (some ⟨b, o, none⟩) us.length cv) ∧ W.cell? ⟨b, o, none⟩ = some (.slice A' d.length c') ∧ W.cell? ⟨X, 8, none⟩ = some (.int .i64 (st.tries : Int)))) (by kernel_rfl) (KS.out _ (belowDrew0 _)) (fun hHeld => ?_)
    refine takeD (i := 0) (some 11) (.pointer (some ⟨X, 0, none⟩)) rfl (by kernel_rfl) (by kernel_rfl) (by kernel_rfl) (by kernel_rfl) (fun _ _ _ h => h) (by assumption) (Or.inl ⟨by rfl, fun w hSw => by (try dsimp only at hSw); go_simp⟩) ?_
    simp only [Act.put, List.setIfInBounds_toArray, List.set_cons_zero, List.set_cons_succ]
    refine takeD (i := 1) (some 12) (.pointer (some ⟨X, 0, none⟩)) rfl (by kernel_rfl) (by kernel_rfl) (by kernel_rfl) (by kernel_rfl) (fun _ _ _ h => h) (by assumption) (Or.inl ⟨by rfl, fun w hSw => by (try dsimp only at hSw); go_simp⟩) ?_
    simp only [Act.put, List.setIfInBounds_toArray, List.set_cons_zero, List.set_cons_succ]
    refine takeD (i := 2) (some 13) (.pointer (some ⟨X, 10, none⟩)) rfl (by kernel_rfl) (by kernel_rfl) (by kernel_rfl) (by kernel_rfl) (fun _ _ _ h => h) (by assumption) (Or.inl ⟨by rfl, fun w hSw => by (try dsimp only at hSw); go_simp⟩) ?_
    simp only [Act.put, List.setIfInBounds_toArray, List.set_cons_zero, List.set_cons_succ]
    refine takeD (i := 3) (some 14) (.slice (some ⟨b, o, none⟩) us.length cv) rfl (by kernel_rfl) (by kernel_rfl) (by kernel_rfl) (by kernel_rfl) (fun _ _ _ h => h) (by assumption) (Or.inl ⟨by rfl, fun w hSw => by (try dsimp only at hSw); go_simp⟩) ?_
    simp only [Act.put, List.setIfInBounds_toArray, List.set_cons_zero, List.set_cons_succ]
    refine takeD (i := 4) (some 15) (.pointer (some ⟨b, o, none⟩)) rfl (by kernel_rfl) (by kernel_rfl) (by kernel_rfl) (by kernel_rfl) (fun _ _ _ h => h) (by assumption) (Or.inl ⟨by rfl, fun w hSw => by (try dsimp only at hSw); go_simp⟩) ?_
    simp only [Act.put, List.setIfInBounds_toArray, List.set_cons_zero, List.set_cons_succ]
    refine takeD (i := 5) (some 16) (.slice A' d.length c') rfl (by kernel_rfl) (by kernel_rfl) (by kernel_rfl) (by kernel_rfl) (fun _ _ _ h => h) (by assumption) (Or.inl ⟨by rfl, fun w hSw => by (try dsimp only at hSw); go_simp⟩) ?_
    simp only [Act.put, List.setIfInBounds_toArray, List.set_cons_zero, List.set_cons_succ]
    refine takeD (i := 7) (some 18) (.pointer (some ⟨X, 0, none⟩)) rfl (by kernel_rfl) (by kernel_rfl) (by kernel_rfl) (by kernel_rfl) (fun _ _ _ h => h) (by assumption) (Or.inl ⟨by rfl, fun w hSw => by (try dsimp only at hSw); go_simp⟩) ?_
    simp only [Act.put, List.setIfInBounds_toArray, List.set_cons_zero, List.set_cons_succ]
    refine takeD (i := 8) (some 19) (.pointer (some ⟨X, 0, none⟩)) rfl (by kernel_rfl) (by kernel_rfl) (by kernel_rfl) (by kernel_rfl) (fun _ _ _ h => h) (by assumption) (Or.inl ⟨by rfl, fun w hSw => by (try dsimp only at hSw); go_simp⟩) ?_
    simp only [Act.put, List.setIfInBounds_toArray, List.set_cons_zero, List.set_cons_succ]
    refine takeD (i := 9) (some 20) (.pointer (some ⟨X, 8, none⟩)) rfl (by kernel_rfl) (by kernel_rfl) (by kernel_rfl) (by kernel_rfl) (fun _ _ _ h => h) (by assumption) (Or.inl ⟨by rfl, fun w hSw => by (try dsimp only at hSw); go_simp⟩) ?_
    simp only [Act.put, List.setIfInBounds_toArray, List.set_cons_zero, List.set_cons_succ]
    refine takeD (i := 10) (some 21) (.int .i64 (st.tries : Int)) rfl (by kernel_rfl) (by kernel_rfl) (by kernel_rfl) (by kernel_rfl) (fun _ _ _ h => h) (by assumption) (Or.inl ⟨by rfl, fun w hSw => by (try dsimp only at hSw); go_simp⟩) ?_
    simp only [Act.put, List.setIfInBounds_toArray, List.set_cons_zero, List.set_cons_succ]
    refine wpAnyH_ready (rs := [6]) (by kernel_rfl) (by simp) (AllReadyH.cons rfl (fun K hK => ?_) AllReadyH.nil)
    go_simp
    refine (HCL.out _ (belowDrew0 _)).mono ?_
    rintro e w4 ⟨A4, c4, rfl, hc4, -, ho4, b4⟩
    have Hb4 := Lib.hid (belowDrew b4)
    have HO4 := Lib.hid ho4
    clear ho4 b4
    have HHeld := KS.out _ Hb4.out
    refine hK.out _ _ HHeld (fun _ => ?_)
    clear hK K
    try simp only [Act.put, List.setIfInBounds_toArray, List.set_cons_zero, List.set_cons_succ]
    refine takeD (i := 11) (some 2) (.slice A4 d.length c4) rfl (by kernel_rfl) (by kernel_rfl) (by kernel_rfl) (by kernel_rfl) (fun _ _ _ h => h) (by assumption) (Or.inl ⟨by rfl, fun w hSw => by (try dsimp only at hSw); go_simp⟩) ?_
    simp only [Act.put, List.setIfInBounds_toArray, List.set_cons_zero, List.set_cons_succ]
    refine takeD (i := 12) (some 3) (.int .i64 (st.tries : Int)) rfl (by kernel_rfl) (by kernel_rfl) (by kernel_rfl) (by kernel_rfl) (fun _ _ _ h => h) (by assumption) (Or.inl ⟨by rfl, fun w hSw => by (try dsimp only at hSw); go_simp⟩) ?_
    simp only [Act.put, List.setIfInBounds_toArray, List.set_cons_zero, List.set_cons_succ]
    refine takeD (i := 13) (some 4) (.int .i64 0) rfl (by kernel_rfl) (by kernel_rfl) (by kernel_rfl) (by kernel_rfl) (fun _ _ _ h => h) (by assumption) (Or.inl ⟨by rfl, fun w hSw => by (try dsimp only at hSw); go_simp⟩) ?_
    simp only [Act.put, List.setIfInBounds_toArray, List.set_cons_zero, List.set_cons_succ]
    refine wpAnyH_done (by kernel_rfl) ?_ _
    go_wp2_with fail
    go_ret3
    exact resFD_of HN.out hc4 HO4.out (Nat.le_refl _) (Nat.le_refl _) Hb4.out
set_option maxRecDepth 100000 in
set_option maxHeartbeats 4000000 in
theorem specFindDesign_any (m : Mk) (A : Option Addr) (c : Nat) (t : List (List Int)) (lim : Int) (w : World) (h : RII w A t) (hwf : (Lit.int .i64 lim).wf = true) :
    Calls Try.prog 103 #[.agg #[.int .i64 m.c, .int .i64 m.d, .int .i64 m.s, .int .i64 m.a, .int .i64 m.l, .slice A t.length c], .int .i64 lim] w (ResFD w (findR m t lim)) := by
  have B0 := (Below.refl w.heap.size w).alloc (Nat.le_refl _) (.cells #[.int .i64 m.c, .int .i64 m.d, .int .i64 m.s, .int .i64 m.a, .int .i64 m.l, .slice A t.length c] 31)
  have bx : BoxC (w.alloc (.cells #[.int .i64 m.c, .int .i64 m.d, .int .i64 m.s, .int .i64 m.a, .int .i64 m.l, .slice A t.length c] 31)) w.heap.size 0 [.int .i64 m.c, .int .i64 m.d, .int .i64 m.s, .int .i64 m.a, .int .i64 m.l, .slice A t.length c] := by simp [BoxC, Go.World.cell?_alloc_at]
  have HCC := Lib.hid (l17Code_any m A c t lim (w.alloc (.cells #[.int .i64 m.c, .int .i64 m.d, .int .i64 m.s, .int .i64 m.a, .int .i64 m.l, .slice A t.length c] 31)) (h.below B0))
  have hs0 := B0.size
  by_cases h1 : limC m t lim = 0
  rotate_left
  · have HN := Lib.hid (find_no h1)
    have t1 : (limC m t lim != 0) = true := by simpa using h1
    have H1 := Lib.hid h1; clear h1
    go_enter Try.func103, Try.ntmps103
    go_wp2_with fail
    refine HCC.out.mono ?_
    rintro e w1 ⟨rfl, b1⟩
    go_wp2_with fail
    go_ret3
    exact resFD_nil HN.out (B0.trans (b1.mono B0.size))
  obtain ⟨hp, k, rfl, hk⟩ := limC_ok h1
  rw [h1] at HCC
  have HH := Lib.hid (fun (W : World) (hW : Below w.heap.size w W) => l17Run_any m A c t k 1 hk (by omega) (by omega) W (h.below hW) hp)
  have HR1 := Lib.hid (show ∀ d ds, (allS m t k (visMost 1) []).vis = d :: ds → (d, ((allS m t k (visMost 1) []).tries : Int), 0) = findR m t (k : Int) from fun d ds e => find_some (lim := (k : Int)) h1 (by unfold oneS; rw [Int.toNat_natCast]; exact e) ▸ (by unfold oneS; rw [Int.toNat_natCast]))
  have HR2 := Lib.hid (show (allS m t k (visMost 1) []).vis = [] → (allS m t k (visMost 1) []).over = true → ([], 0, 3) = findR m t (k : Int) from fun e e' => find_over h1 (by unfold oneS; rw [Int.toNat_natCast]; exact e) (by unfold oneS; rw [Int.toNat_natCast]; exact e'))
  have HR3 := Lib.hid (show (allS m t k (visMost 1) []).vis = [] → (allS m t k (visMost 1) []).over = false → ([], 0, 4) = findR m t (k : Int) from fun e e' => find_none h1 (by unfold oneS; rw [Int.toNat_natCast]; exact e) (by unfold oneS; rw [Int.toNat_natCast]; exact e'))
  have HP := Lib.hid (allS_all (lim := k) (most := 1) hp)
  obtain ⟨r, hr⟩ : ∃ r, r = findR m t (k : Int) := ⟨_, rfl⟩
  rw [← hr] at HR1 HR2 HR3 ⊢
  obtain ⟨sn, hsn⟩ : ∃ sn, sn = allS m t k (visMost 1) [] := ⟨_, rfl⟩
  rw [← hsn] at HR1 HR2 HR3 HP HH
  have H1 := Lib.hid (And.intro h1 (And.intro hr hsn)); clear h1 hr hsn
  go_enter Try.func103, Try.ntmps103
  go_wp2_with fail
  refine HCC.out.mono ?_
  rintro e w1 ⟨rfl, b1⟩
  have B1 := B0.trans (b1.mono B0.size)
  obtain ⟨q0, q1, q2, q3, q4, q5, _⟩ := bx.below b1
  go_wp2_with fail
  refine (HH.out _ B1).mono ?_
  rintro e w2 ⟨X, F, rfl, hRF, b2⟩
  have HB2 := Lib.hid (B1.trans (b2.mono B1.size))
  have HF := Lib.hid (l17First_any X m A c t k 1 sn w2 F hRF HP.out r HR1.out HR2.out HR3.out)
  clear b2 q0 q1 q2 q3 q4 q5 hRF
  go_wp2_with fail
  refine HF.out.mono ?_
  intro e w3 hR
  have HR := Lib.hid (ResFD.mono hR HB2.out)
  obtain ⟨A3, c3, rfl, _⟩ := hR
  go_wp2_with fail
  go_ret3
  exact HR.out
/-! ### HasDesign -/
def hasR (m : Mk) (t : List (List Int)) (lim : Int) : Bool × Int := if (findR m t lim).2.2 = 4 then (false, 0) else ((findR m t lim).2.2 == 0, (findR m t lim).2.2)
set_option maxRecDepth 100000 in
set_option maxHeartbeats 4000000 in
theorem implHasDesign_any (m : Mk) (A : Option Addr) (c : Nat) (t : List (List Int)) (lim : Int) (w : World) (h : RII w A t) (hwf : (Lit.int .i64 lim).wf = true) :
    Calls Try.prog 35 #[.agg #[.int .i64 m.c, .int .i64 m.d, .int .i64 m.s, .int .i64 m.a, .int .i64 m.l, .slice A t.length c], .int .i64 lim] w (ResBC w (hasR m t lim)) := by
  have B0 := (Below.refl w.heap.size w).alloc (Nat.le_refl _) (.cells #[.int .i64 m.c, .int .i64 m.d, .int .i64 m.s, .int .i64 m.a, .int .i64 m.l, .slice A t.length c] 31)
  have HF := Lib.hid (implFindDesign_any m A c t lim (w.alloc (.cells #[.int .i64 m.c, .int .i64 m.d, .int .i64 m.s, .int .i64 m.a, .int .i64 m.l, .slice A t.length c] 31)) (h.below B0) hwf)
  have HR := Lib.hid (show hasR m t lim = if (findR m t lim).2.2 = 4 then (false, 0) else ((findR m t lim).2.2 == 0, (findR m t lim).2.2) from rfl)
  obtain ⟨r, hr⟩ : ∃ r, r = findR m t lim := ⟨_, rfl⟩
  rw [← hr] at HF HR
  obtain ⟨d, n, k⟩ := r
  simp only at HR
  have H := Lib.hid hr; clear hr
  by_cases h4 : k = 4
  · subst h4
    have HRR := Lib.hid (show hasR m t lim = (false, 0) by rw [HR.out, if_pos rfl])
    go_enter Try.func35, Try.ntmps35
    go_wp2_with fail
    refine HF.out.mono ?_
    rintro e w1 ⟨A1, c1, rfl, _, _, _, b1⟩
    have HB1 := Lib.hid (B0.trans (b1.mono B0.size))
    clear b1
    go_wp2_with fail
    go_ret2
    rw [HRR.out]
    exact ⟨rfl, HB1.out⟩
  · have t1 : (k == 4) = false := by simpa using h4
    have HRR := Lib.hid (show hasR m t lim = (k == 0, k) by rw [HR.out, if_neg h4])
    clear h4
    cases h0 : (k == 0) with
    | true =>
      go_enter Try.func35, Try.ntmps35
      go_wp2_with fail
      refine HF.out.mono ?_
      rintro e w1 ⟨A1, c1, rfl, _, _, _, b1⟩
      have HB1 := Lib.hid (B0.trans (b1.mono B0.size))
      clear b1
      go_wp2_with fail
      go_ret2
      rw [HRR.out, h0]
      exact ⟨rfl, HB1.out⟩
    | false =>
      go_enter Try.func35, Try.ntmps35
      go_wp2_with fail
      refine HF.out.mono ?_
      rintro e w1 ⟨A1, c1, rfl, _, _, _, b1⟩
      have HB1 := Lib.hid (B0.trans (b1.mono B0.size))
      clear b1
      go_wp2_with fail
      go_ret2
      rw [HRR.out, h0]
      exact ⟨rfl, HB1.out⟩
set_option maxRecDepth 100000 in
set_option maxHeartbeats 4000000 in
theorem specHasDesign_any (m : Mk) (A : Option Addr) (c : Nat) (t : List (List Int)) (lim : Int) (w : World) (h : RII w A t) (hwf : (Lit.int .i64 lim).wf = true) :
    Calls Try.prog 34 #[.agg #[.int .i64 m.c, .int .i64 m.d, .int .i64 m.s, .int .i64 m.a, .int .i64 m.l, .slice A t.length c], .int .i64 lim] w (ResBC w (hasR m t lim)) := by
  have B0 := (Below.refl w.heap.size w).alloc (Nat.le_refl _) (.cells #[.int .i64 m.c, .int .i64 m.d, .int .i64 m.s, .int .i64 m.a, .int .i64 m.l, .slice A t.length c] 31)
  have HF := Lib.hid (specFindDesign_any m A c t lim (w.alloc (.cells #[.int .i64 m.c, .int .i64 m.d, .int .i64 m.s, .int .i64 m.a, .int .i64 m.l, .slice A t.length c] 31)) (h.below B0) hwf)
  have HR := Lib.hid (show hasR m t lim = if (findR m t lim).2.2 = 4 then (false, 0) else ((findR m t lim).2.2 == 0, (findR m t lim).2.2) from rfl)
  obtain ⟨r, hr⟩ : ∃ r, r = findR m t lim := ⟨_, rfl⟩
  rw [← hr] at HF HR
  obtain ⟨d, n, k⟩ := r
  simp only at HR
  have H := Lib.hid hr; clear hr
  by_cases h4 : k = 4
  · subst h4
    have HRR := Lib.hid (show hasR m t lim = (false, 0) by rw [HR.out, if_pos rfl])
    go_enter Try.func34, Try.ntmps34
    go_wp2_with fail
    refine HF.out.mono ?_
    rintro e w1 ⟨A1, c1, rfl, _, _, _, b1⟩
    have HB1 := Lib.hid (B0.trans (b1.mono B0.size))
    clear b1
    go_wp2_with fail
    go_ret2
    rw [HRR.out]
    exact ⟨rfl, HB1.out⟩
  · have t1 : (k == 4) = false := by simpa using h4
    have HRR := Lib.hid (show hasR m t lim = (k == 0, k) by rw [HR.out, if_neg h4])
    clear h4
    cases h0 : (k == 0) with
    | true =>
      go_enter Try.func34, Try.ntmps34
      go_wp2_with fail
      refine HF.out.mono ?_
      rintro e w1 ⟨A1, c1, rfl, _, _, _, b1⟩
      have HB1 := Lib.hid (B0.trans (b1.mono B0.size))
      clear b1
      go_wp2_with fail
      go_ret2
      rw [HRR.out, h0]
      exact ⟨rfl, HB1.out⟩
    | false =>
      go_enter Try.func34, Try.ntmps34
      go_wp2_with fail
      refine HF.out.mono ?_
      rintro e w1 ⟨A1, c1, rfl, _, _, _, b1⟩
      have HB1 := Lib.hid (B0.trans (b1.mono B0.size))
      clear b1
      go_wp2_with fail
      go_ret2
      rw [HRR.out, h0]
      exact ⟨rfl, HB1.out⟩
end Go.Proofs.Ytapocenhmdcfoaa
