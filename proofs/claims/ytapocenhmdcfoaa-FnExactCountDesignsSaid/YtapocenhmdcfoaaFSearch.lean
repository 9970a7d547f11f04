/- Contracts of searchCode, searchAll, l17Code, l17Run; of CountDesigns and CountTries, on both sides. -/
import Derived.Test.YtapocenhmdcfoaaFGoOnI
import Derived.Test.YtapocenhmdcfoaaFFrom
namespace Go.Proofs.Ytapocenhmdcfoaa
set_option linter.unusedVariables false
open Go.RowKit
/-! ### the code -/
def limC (m : Mk) (t : List (List Int)) (lim : Int) : Int := if isSystem m t = true then (if inB lim 0 4000 = true then 0 else 2) else 1
theorem limC_1 {m : Mk} {t : List (List Int)} {lim : Int} (h : isSystem m t = false) : limC m t lim = 1 := by unfold limC; rw [if_neg (by rw [h]; simp)]
theorem limC_2 {m : Mk} {t : List (List Int)} {lim : Int} (h : isSystem m t = true) (h2 : inB lim 0 4000 = false) : limC m t lim = 2 := by unfold limC; rw [if_pos h, if_neg (by rw [h2]; simp)]
theorem limC_0 {m : Mk} {t : List (List Int)} {lim : Int} (h : isSystem m t = true) (h2 : inB lim 0 4000 = true) : limC m t lim = 0 := by unfold limC; rw [if_pos h, if_pos h2]
theorem limC_ok {m : Mk} {t : List (List Int)} {lim : Int} (h : limC m t lim = 0) : PartOK m t [] ∧ ∃ k : Nat, lim = (k : Int) ∧ k ≤ 4000 := by
  unfold limC at h
  by_cases h1 : isSystem m t = true
  · rw [if_pos h1] at h
    by_cases h2 : inB lim 0 4000 = true
    · have := inB_iff.1 h2
      exact ⟨sys_ok h1 (by simp) rfl, lim.toNat, by omega, by omega⟩
    · rw [if_neg h2] at h; cases h
  · rw [if_neg h1] at h; cases h
theorem partC_nil (m : Mk) (t : List (List Int)) : partC m t [] = if isSystem m t = true then 0 else 1 := by
  unfold partC
  by_cases h : isSystem m t = true
  · rw [if_pos h, if_pos h, if_pos (by simp [areKeysF])]
  · rw [if_neg h, if_neg h]
theorem openPart_none (m : Mk) (t : List (List Int)) : openPart m t [] = true := openPart_nil (cuts := [])
set_option maxRecDepth 100000 in
set_option maxHeartbeats 2000000 in
theorem searchCode_nil (m : Mk) (A : Option Addr) (c : Nat) (t : List (List Int)) (lim : Int) (w : World) (h : RII w A t) :
    Calls Try.prog 101 #[.agg #[.int .i64 m.c, .int .i64 m.d, .int .i64 m.s, .int .i64 m.a, .int .i64 m.l, .slice A t.length c], .slice none 0 0, .int .i64 lim] w fun e w' => e = .returned (.int .i64 (limC m t lim)) ∧ Below w.heap.size w w' := by
  have B0 := (Below.refl w.heap.size w).alloc (Nat.le_refl _) (.cells #[.int .i64 m.c, .int .i64 m.d, .int .i64 m.s, .int .i64 m.a, .int .i64 m.l, .slice A t.length c] 31)
  have bx : BoxC (w.alloc (.cells #[.int .i64 m.c, .int .i64 m.d, .int .i64 m.s, .int .i64 m.a, .int .i64 m.l, .slice A t.length c] 31)) w.heap.size 0 [.int .i64 m.c, .int .i64 m.d, .int .i64 m.s, .int .i64 m.a, .int .i64 m.l, .slice A t.length c] := by simp [BoxC, Go.World.cell?_alloc_at]
  have HCC := partCode_any m A c t none 0 [] (w.alloc (.cells #[.int .i64 m.c, .int .i64 m.d, .int .i64 m.s, .int .i64 m.a, .int .i64 m.l, .slice A t.length c] 31)) (h.below B0) RII.nil
  rw [partC_nil] at HCC
  have hs0 := B0.size
  have HLI : ∀ W, Calls Try.prog 177 #[.int .i64 lim] W fun e w' => e = .returned (.bool (inB lim 0 4000)) ∧ W = w' := fun W => by
    have HI := within_any lim 0 4000
    cases hq : inB lim 0 4000 with
    | true =>
      rw [hq] at HI
      have HII := Lib.hid HI; clear HI hq
      go_enter Try.func177, Try.ntmps177
      go_wp2_with fail
      refine (HII.out _).mono ?_
      rintro e w1 ⟨rfl, rfl⟩
      go_wp2_with fail
      go_ret
      exact ⟨rfl, rfl⟩
    | false =>
      rw [hq] at HI
      have HII := Lib.hid HI; clear HI hq
      go_enter Try.func177, Try.ntmps177
      go_wp2_with fail
      refine (HII.out _).mono ?_
      rintro e w1 ⟨rfl, rfl⟩
      go_wp2_with fail
      go_ret
      exact ⟨rfl, rfl⟩
  cases h1 : isSystem m t with
  | false =>
    have HN := Lib.hid (limC_1 (lim := lim) h1)
    rw [if_neg (by rw [h1]; simp)] at HCC
    have HCX := Lib.hid HCC
    have H1 := Lib.hid h1; clear h1 HCC HLI
    go_enter Try.func101, Try.ntmps101
    go_wp2_with fail
    refine HCX.out.mono ?_
    rintro e w1 ⟨rfl, b1⟩
    go_wp2_with fail
    go_ret
    exact ⟨retI HN.out.symm, B0.trans (b1.mono B0.size)⟩
  | true =>
    rw [if_pos h1] at HCC
    have HCX := Lib.hid HCC; clear HCC
    cases h2 : inB lim 0 4000 with
    | false =>
      have HN := Lib.hid (limC_2 h1 h2)
      rw [h2] at HLI
      have HL := Lib.hid HLI
      have H1 := Lib.hid (And.intro h1 h2); clear h1 h2 HLI
      go_enter Try.func101, Try.ntmps101
      go_wp2_with fail
      refine HCX.out.mono ?_
      rintro e w1 ⟨rfl, b1⟩
      go_wp2_with fail
      refine (HL.out _).mono ?_
      rintro e w2 ⟨rfl, rfl⟩
      go_wp2_with fail
      go_ret
      exact ⟨retI HN.out.symm, B0.trans (b1.mono B0.size)⟩
    | true =>
      have HN := Lib.hid (limC_0 h1 h2)
      have HP := Lib.hid (limC_ok HN.out).1
      rw [h2] at HLI
      have HL := Lib.hid HLI
      have HO := Lib.hid (fun (W : World) (hW : Below w.heap.size w W) => isOpenPart_any m A c t none 0 [] W (h.below hW) RII.nil HP.out)
      rw [openPart_none] at HO
      have H1 := Lib.hid (And.intro h1 h2); clear h1 h2 HLI
      go_enter Try.func101, Try.ntmps101
      go_wp2_with fail
      refine HCX.out.mono ?_
      rintro e w1 ⟨rfl, b1⟩
      have B1 := B0.trans (b1.mono B0.size)
      obtain ⟨q0, q1, q2, q3, q4, q5, _⟩ := bx.below b1
      have hws : w.heap.size < w1.heap.size := by have := b1.size; simp only [World.size_alloc] at this; omega
      go_wp2_with fail
      refine (HL.out _).mono ?_
      rintro e w2 ⟨rfl, rfl⟩
      go_wp2_with fail
      refine (HO.out _ B1).mono ?_
      rintro e w2 ⟨rfl, b2⟩
      go_wp2_with fail
      go_ret
      exact ⟨retI HN.out.symm, B1.trans (b2.mono B1.size)⟩
set_option maxRecDepth 100000 in
set_option maxHeartbeats 2000000 in
theorem l17Code_any (m : Mk) (A : Option Addr) (c : Nat) (t : List (List Int)) (lim : Int) (w : World) (h : RII w A t) :
    Calls Try.prog 99 #[.agg #[.int .i64 m.c, .int .i64 m.d, .int .i64 m.s, .int .i64 m.a, .int .i64 m.l, .slice A t.length c], .int .i64 lim] w fun e w' => e = .returned (.int .i64 (limC m t lim)) ∧ Below w.heap.size w w' := by
  have B0 := (Below.refl w.heap.size w).alloc (Nat.le_refl _) (.cells #[.int .i64 m.c, .int .i64 m.d, .int .i64 m.s, .int .i64 m.a, .int .i64 m.l, .slice A t.length c] 31)
  have HCC := specIsSystem_any m A c t (w.alloc (.cells #[.int .i64 m.c, .int .i64 m.d, .int .i64 m.s, .int .i64 m.a, .int .i64 m.l, .slice A t.length c] 31)) (h.below B0)
  have HLI := l01In_any lim 0 4000
  have hs0 := B0.size
  cases h1 : isSystem m t with
  | false =>
    have HN := Lib.hid (limC_1 (lim := lim) h1)
    rw [h1] at HCC
    have HCX := Lib.hid HCC
    have H1 := Lib.hid h1; clear h1 HCC HLI
    go_enter Try.func99, Try.ntmps99
    go_wp2_with fail
    refine HCX.out.mono ?_
    rintro e w1 ⟨rfl, b1⟩
    go_wp2_with fail
    go_ret
    exact ⟨retI HN.out.symm, B0.trans (b1.mono B0.size)⟩
  | true =>
    rw [h1] at HCC
    have HCX := Lib.hid HCC; clear HCC
    cases h2 : inB lim 0 4000 with
    | false =>
      have HN := Lib.hid (limC_2 h1 h2)
      rw [h2] at HLI
      have HL := Lib.hid HLI
      have H1 := Lib.hid (And.intro h1 h2); clear h1 h2 HLI
      go_enter Try.func99, Try.ntmps99
      go_wp2_with fail
      refine HCX.out.mono ?_
      rintro e w1 ⟨rfl, b1⟩
      go_wp2_with fail
      refine (HL.out _).mono ?_
      rintro e w2 ⟨rfl, rfl⟩
      go_wp2_with fail
      go_ret
      exact ⟨retI HN.out.symm, B0.trans (b1.mono B0.size)⟩
    | true =>
      have HN := Lib.hid (limC_0 h1 h2)
      rw [h2] at HLI
      have HL := Lib.hid HLI
      have H1 := Lib.hid (And.intro h1 h2); clear h1 h2 HLI
      go_enter Try.func99, Try.ntmps99
      go_wp2_with fail
      refine HCX.out.mono ?_
      rintro e w1 ⟨rfl, b1⟩
      go_wp2_with fail
      refine (HL.out _).mono ?_
      rintro e w2 ⟨rfl, rfl⟩
      go_wp2_with fail
      go_ret
      exact ⟨retI HN.out.symm, B0.trans (b1.mono B0.size)⟩
/-! ### counting designs -/
def RNum (g : Nat) (n : Int) (w : World) (F : Nat → Prop) : Prop := (∀ x, F x ↔ x = g) ∧ w.cell? ⟨g, 0, none⟩ = some (.int .i64 n) ∧ w.frozen? ⟨g, 0, none⟩ = false
theorem RNum.lt (g : Nat) (s : Int) (w : World) (F : Nat → Prop) (h : RNum g s w F) : ∀ x, F x → x < w.heap.size := fun x hx => by
  have := (h.1 x).1 hx; subst this; exact World.block_lt_of_cell? w _ h.2.1
theorem RNum.fr (g : Nat) (s : Int) (w w' : World) (F : Nat → Prop) (h : RNum g s w F) (k : KeepF (fun x => ¬ F x) w w') : RNum g s w' F := by
  have hg := World.block_lt_of_cell? w _ h.2.1
  have hn : ¬ ¬ F g := fun e => e ((h.1 g).2 rfl)
  exact ⟨h.1, (k.cell (p := ⟨g, 0, none⟩) hg hn).trans h.2.1, (k.frozen (p := ⟨g, 0, none⟩) hg hn).trans h.2.2⟩
theorem RIIn.nil {F : Nat → Prop} {w : World} {A : Option Addr} : RIIn F w A [] := ⟨[], rfl, ⟨by simp, fun h => absurd rfl h⟩, fun h0 => by simp at h0, fun j hj => by simp at hj⟩
/-- the whole search -/
def allS {τ : Type} (m : Mk) (t : List (List Int)) (lim : Nat) (visD : τ → List (List Int) → Bool × τ) (s : τ) : Srch τ := (goF m t lim visD t.length [] ⟨0, false, s⟩).2
set_option maxHeartbeats 1000000 in
theorem numClo_any (g : Nat) (n : Int) (A : Option Addr) (k c : Nat) (w : World) (F : Nat → Prop) (h : RNum g n w F) :
    Calls Try.prog 178 #[.slice A k c, .pointer (some ⟨g, 0, none⟩)] w fun e w' => e = .returned (.bool true) ∧ ∃ G', RNum g (wrap64 (n + 1)) w' G' ∧ KeepF F w w' ∧ ∀ x, G' x → F x ∨ w.heap.size ≤ x := by
  obtain ⟨h1, h2, h3⟩ := h
  have H1 := Lib.hid h1; clear h1
  have H2 := Lib.hid h2
  go_enter Try.func178, Try.ntmps178
  go_wp2_with fail
  go_ret
  exact ⟨rfl, F, ⟨H1.out, World.cell?_setCell_same _ _ _ H2.out, by simpa using h3⟩, (KeepF.refl F w).setCell (p := ⟨g, 0, none⟩) (.inl ((H1.out g).2 rfl)) _, fun x hx => .inl hx⟩
theorem numDes (m : Mk) (t : List (List Int)) (g : Nat) (w0 : World) (F0 : Nat → Prop) : DesOK 178 #[.pointer (some ⟨g, 0, none⟩)] visNum (RNum g) m t w0 F0 :=
  ⟨enters Try.func178 (by kernel_rfl) rfl, RNum.lt g, RNum.fr g, fun s w' G A c cuts _ hR _ _ _ => numClo_any g s A cuts.length c w' G hR⟩
set_option maxRecDepth 100000 in
set_option maxHeartbeats 4000000 in
theorem searchAll_any (m : Mk) (A : Option Addr) (c : Nat) (t : List (List Int)) (lim : Nat) (hlim : lim ≤ 4000) (w : World) (h : RII w A t) (hp : PartOK m t []) :
    Calls Try.prog 102 #[.agg #[.int .i64 m.c, .int .i64 m.d, .int .i64 m.s, .int .i64 m.a, .int .i64 m.l, .slice A t.length c], .int .i64 (lim : Int)] w fun e w' => ∃ X, e = .returned (.tuple #[.int .i64 (allS m t lim visNum 0).vis, .pointer (some ⟨X, 0, none⟩)]) ∧
      w'.cell? ⟨X, 7, none⟩ = some (.int .i64 ((allS m t lim visNum 0).tries : Int)) ∧ w'.cell? ⟨X, 8, none⟩ = some (.bool (allS m t lim visNum 0).over) ∧ X < w'.heap.size ∧ Below w.heap.size w w' := by
  obtain ⟨w1, hw1⟩ : ∃ w1, w1 = ((w.alloc (.cells #[.int .i64 m.c, .int .i64 m.d, .int .i64 m.s, .int .i64 m.a, .int .i64 m.l, .slice A t.length c] 31)).alloc (.cells #[.int .i64 0] 2)).alloc (.cells #[.int .i64 m.c, .int .i64 m.d, .int .i64 m.s, .int .i64 m.a, .int .i64 m.l, .slice A t.length c, .int .i64 (lim : Int), .int .i64 0, .bool false, .func (.func 178) #[] #[.pointer (some ⟨w.heap.size + 1, 0, none⟩)]] 107) := ⟨_, rfl⟩
  have B1 : Below w.heap.size w w1 := by rw [hw1]; exact (((Below.refl w.heap.size w).alloc (Nat.le_refl _) _).alloc (by simp only [World.size_alloc]; omega) _).alloc (by simp only [World.size_alloc]; omega) _
  have hz1 : w1.heap.size = w.heap.size + 3 := by rw [hw1]; simp
  have hR : RNum (w.heap.size + 1) 0 w1 (fun x => x = w.heap.size + 1) := by
    refine ⟨fun x => Iff.rfl, ?_, ?_⟩
    · rw [hw1, World.cell?_alloc_lt _ _ _ (by simp only [World.size_alloc]; omega), World.cell?_alloc_at (hn := by simp)]; rfl
    · rw [hw1, World.frozen?_alloc_past _ _ _ (by simp only [World.size_alloc]; omega), World.frozen?_alloc_at (hn := by simp)]
  have bX : BoxC w1 (w.heap.size + 1 + 1) 0 [.int .i64 m.c, .int .i64 m.d, .int .i64 m.s, .int .i64 m.a, .int .i64 m.l, .slice A t.length c, .int .i64 (lim : Int), .int .i64 ((0 : Nat) : Int), .bool false, .func (.func 178) #[] #[.pointer (some ⟨w.heap.size + 1, 0, none⟩)]] := by
    rw [hw1]; exact BoxC.new [.int .i64 m.c, .int .i64 m.d, .int .i64 m.s, .int .i64 m.a, .int .i64 m.l, .slice A t.length c, .int .i64 (lim : Int), .int .i64 0, .bool false, .func (.func 178) #[] #[.pointer (some ⟨w.heap.size + 1, 0, none⟩)]] (by simp)
  have fX : ∀ i, w1.frozen? ⟨w.heap.size + 1 + 1, i, none⟩ = false := fun i => by rw [hw1]; exact World.frozen?_alloc_at _ _ _ _ (by simp)
  have HRS : RS (RNum (w.heap.size + 1)) (w.heap.size + 1 + 1) m A c t lim 178 #[.pointer (some ⟨w.heap.size + 1, 0, none⟩)] ⟨0, false, 0⟩ w1 (fun x => x = w.heap.size + 1 ∨ x = w.heap.size + 1 + 1) :=
    ⟨_, hR, by simp, by omega, bX, fX 7, fX 8, fun x => Iff.rfl⟩
  have hT : RIIn (fun g => (g = w.heap.size + 1 ∨ g = w.heap.size + 1 + 1) ∨ w1.heap.size ≤ g) w1 A t := ((h.nF (F := fun x => w.heap.size ≤ x) (fun _ h => h)).keepF (KeepF.ofBelow B1)).mono (fun g hg => by omega)
  have HGO := goOn_any (RNum (w.heap.size + 1)) (w.heap.size + 1 + 1) m A c t lim hlim 178 #[.pointer (some ⟨w.heap.size + 1, 0, none⟩)] visNum w1 _ (numDes m t _ w1 _) hT t.length [] ⟨0, false, 0⟩ w1 _ none 0 hp (by simp) (openPart_none m t) (Nat.le_refl _) (Nat.zero_le _) (KeepF.refl _ _) (fun g hg => .inl hg) HRS RIIn.nil
  obtain ⟨bg, stg, hg⟩ : ∃ bg stg, goF m t lim visNum t.length [] ⟨0, false, 0⟩ = (bg, stg) := ⟨_, _, rfl⟩
  have HS := Lib.hid (show allS m t lim visNum 0 = stg by unfold allS; rw [hg])
  rw [hg] at HGO
  have HGG := Lib.hid HGO
  have HB := Lib.hid B1
  have bS : BoxC w1 w.heap.size 0 [.int .i64 m.c, .int .i64 m.d, .int .i64 m.s, .int .i64 m.a, .int .i64 m.l, .slice A t.length c] := by
    have : BoxC (w.alloc (.cells #[.int .i64 m.c, .int .i64 m.d, .int .i64 m.s, .int .i64 m.a, .int .i64 m.l, .slice A t.length c] 31)) w.heap.size 0 [.int .i64 m.c, .int .i64 m.d, .int .i64 m.s, .int .i64 m.a, .int .i64 m.l, .slice A t.length c] := by simp [BoxC, Go.World.cell?_alloc_at]
    rw [hw1]; exact (this.below ((Below.refl _ _).alloc (Nat.le_refl _) _)).below ((Below.refl _ _).alloc (Nat.le_refl _) _)
  rw [HS.out]
  have hh := h.le
  clear HGO hg HRS hT bX fX hR B1 bS
  go_enter Try.func102, Try.ntmps102
  go_wp2_with fail
  rw [← hw1]
  refine HGG.out.mono ?_
  rintro e w2 ⟨rfl, F2, ⟨G2, hR2, _, hX2, b2, _⟩, k2, _⟩
  obtain ⟨_, _, _, _, _, _, _, x7, x8, _⟩ := b2
  have cn := hR2.2.1
  have HX := Lib.hid (And.intro x7 (And.intro x8 hX2))
  have HB2 := Lib.hid (HB.out.trans (k2.toBelow HB.out.size (fun g hg e => by omega)))
  clear x7 x8 k2 hR2 hw1
  go_wp2_with fail
  go_ret2
  exact ⟨_, rfl, HX.out.1, HX.out.2.1, HX.out.2.2, HB2.out⟩
theorem allS_alike {m : Mk} {t : List (List Int)} {lim : Nat} (hlim : lim ≤ 4000) (hp : PartOK m t []) : Alike (allS m t lim visNum 0) (allS m t lim (visMost 1000000) []) :=
  (goF_alike hlim t.length [] ⟨0, false, 0⟩ ⟨0, false, []⟩ ⟨rfl, rfl, rfl, Nat.le_refl _⟩ (by have := hp.t1; rw [if_neg (by omega)]; exact Nat.le_refl _) (Nat.zero_le _)).2
theorem l17From_any (X : Nat) (m : Mk) (A : Option Addr) (c : Nat) (t : List (List Int)) (lim most : Nat) (hlim : lim ≤ 4000) (hmost : most ≤ 1000000) (hm : isMaker m = true) : ∀ r, FromIH X m A c t lim most 176 r
  | 0 => l17From_zero X m A c t lim most hlim hmost
  | r + 1 => l17From_succ X m A c t lim most hlim hmost r hm (l17From_any X m A c t lim most hlim hmost hm r)
set_option maxRecDepth 100000 in
set_option maxHeartbeats 4000000 in
theorem l17Run_any (m : Mk) (A : Option Addr) (c : Nat) (t : List (List Int)) (lim most : Nat) (hlim : lim ≤ 4000) (h0 : 0 < most) (hmost : most ≤ 1000000) (w : World) (h : RII w A t) (hp : PartOK m t []) :
    Calls Try.prog 100 #[.agg #[.int .i64 m.c, .int .i64 m.d, .int .i64 m.s, .int .i64 m.a, .int .i64 m.l, .slice A t.length c], .slice none 0 0, .int .i64 (most : Int), .int .i64 (lim : Int)] w fun e w' => ∃ X F, e = .returned (.pointer (some ⟨X, 0, none⟩)) ∧ RF X m A c t lim most (allS m t lim (visMost most) []) w' F ∧ Below w.heap.size w w' := by
  obtain ⟨w1, hw1⟩ : ∃ w1, w1 = (w.alloc (.cells #[.int .i64 m.c, .int .i64 m.d, .int .i64 m.s, .int .i64 m.a, .int .i64 m.l, .slice A t.length c] 31)).alloc (.cells #[.int .i64 m.c, .int .i64 m.d, .int .i64 m.s, .int .i64 m.a, .int .i64 m.l, .slice A t.length c, .int .i64 (lim : Int), .int .i64 (most : Int), .int .i64 0, .bool false, .slice none 0 0] 101) := ⟨_, rfl⟩
  have B1 : Below w.heap.size w w1 := by rw [hw1]; exact ((Below.refl w.heap.size w).alloc (Nat.le_refl _) _).alloc (by simp only [World.size_alloc]; omega) _
  have hz1 : w1.heap.size = w.heap.size + 2 := by rw [hw1]; simp
  have bX : BoxC w1 (w.heap.size + 1) 0 [.int .i64 m.c, .int .i64 m.d, .int .i64 m.s, .int .i64 m.a, .int .i64 m.l, .slice A t.length c, .int .i64 (lim : Int), .int .i64 (most : Int), .int .i64 ((0 : Nat) : Int), .bool false, .slice none 0 0] := by
    rw [hw1]; exact BoxC.new [.int .i64 m.c, .int .i64 m.d, .int .i64 m.s, .int .i64 m.a, .int .i64 m.l, .slice A t.length c, .int .i64 (lim : Int), .int .i64 (most : Int), .int .i64 0, .bool false, .slice none 0 0] (by simp)
  have fX : ∀ i, w1.frozen? ⟨w.heap.size + 1, i, none⟩ = false := fun i => by rw [hw1]; exact World.frozen?_alloc_at _ _ _ _ (by simp)
  have hRF : RF (w.heap.size + 1) m A c t lim most ⟨0, false, []⟩ w1 (fun x => x = w.heap.size + 1) :=
    ⟨.slice none 0 0, [], rfl, OV.nil, fun j hj => by simp at hj, by omega, bX, fX 8, fX 9, fX 10, fun x => by simp [Value.ownBlock]⟩
  have hT : RIIn (fun g => g = w.heap.size + 1) w1 A t := ((h.nF (F := fun x => w.heap.size ≤ x) (fun _ h => h)).keepF (KeepF.ofBelow B1)).mono (fun g hg => by omega)
  have HGO := l17From_any (w.heap.size + 1) m A c t lim most hlim hmost hp.mak t.length [] ⟨0, false, []⟩ w1 _ none 0 hp (by simp) (Nat.le_refl _) (Nat.zero_le _) (by have := hp.t1; rw [if_neg (by omega)]; exact Nat.le_refl _) hRF hT RIIn.nil
  obtain ⟨bg, stg, hg⟩ : ∃ bg stg, goF m t lim (visMost most) t.length [] ⟨0, false, []⟩ = (bg, stg) := ⟨_, _, rfl⟩
  have HS := Lib.hid (show allS m t lim (visMost most) [] = stg by unfold allS; rw [hg])
  rw [hg] at HGO
  have HGG := Lib.hid HGO
  have HB := Lib.hid B1
  rw [HS.out]
  have hh := h.le
  have h0' : (0 : Int) < (most : Int) := by omega
  clear HGO hg hRF hT bX fX B1
  go_enter Try.func100, Try.ntmps100
  go_wp2_with fail
  rw [← hw1]
  refine HGG.out.mono ?_
  rintro e w2 ⟨rfl, F2, hR2, k2, _⟩
  have HR := Lib.hid hR2
  have HB2 := Lib.hid (HB.out.trans (k2.toBelow HB.out.size (fun g hg e => by omega)))
  clear hR2 k2 hw1
  go_wp2_with fail
  go_ret
  exact ⟨_, F2, rfl, HR.out, HB2.out⟩
/-! ### CountDesigns, CountTries -/
def srchR (m : Mk) (t : List (List Int)) (lim : Int) : SrchL := allS m t lim.toNat (visMost 1000000) []
def countDesR (m : Mk) (t : List (List Int)) (lim : Int) : Int × Int := if limC m t lim = 0 then (if (srchR m t lim).over = true then (0, 3) else (((srchR m t lim).vis.length : Int), 0)) else (0, limC m t lim)
def countTriesR (m : Mk) (t : List (List Int)) (lim : Int) : Int × Int := if limC m t lim = 0 then (if (srchR m t lim).over = true then (0, 3) else (((srchR m t lim).tries : Int), 0)) else (0, limC m t lim)
theorem countDes_no {m : Mk} {t : List (List Int)} {lim : Int} (h : limC m t lim ≠ 0) : (0, limC m t lim) = countDesR m t lim := by unfold countDesR; rw [if_neg h]
theorem countDes_over {m : Mk} {t : List (List Int)} {lim : Int} (h : limC m t lim = 0) (h2 : (srchR m t lim).over = true) : (0, 3) = countDesR m t lim := by unfold countDesR; rw [if_pos h, if_pos h2]
theorem countDes_yes {m : Mk} {t : List (List Int)} {lim : Int} (h : limC m t lim = 0) (h2 : (srchR m t lim).over = false) : (((srchR m t lim).vis.length : Int), 0) = countDesR m t lim := by unfold countDesR; rw [if_pos h, if_neg (by rw [h2]; simp)]
theorem countTries_no {m : Mk} {t : List (List Int)} {lim : Int} (h : limC m t lim ≠ 0) : (0, limC m t lim) = countTriesR m t lim := by unfold countTriesR; rw [if_neg h]
theorem countTries_over {m : Mk} {t : List (List Int)} {lim : Int} (h : limC m t lim = 0) (h2 : (srchR m t lim).over = true) : (0, 3) = countTriesR m t lim := by unfold countTriesR; rw [if_pos h, if_pos h2]
theorem countTries_yes {m : Mk} {t : List (List Int)} {lim : Int} (h : limC m t lim = 0) (h2 : (srchR m t lim).over = false) : (((srchR m t lim).tries : Int), 0) = countTriesR m t lim := by unfold countTriesR; rw [if_pos h, if_neg (by rw [h2]; simp)]
set_option maxRecDepth 100000 in
set_option maxHeartbeats 4000000 in
theorem implCountDesigns_any (m : Mk) (A : Option Addr) (c : Nat) (t : List (List Int)) (lim : Int) (w : World) (h : RII w A t) (hwf : (Lit.int .i64 lim).wf = true) :
    Calls Try.prog 31 #[.agg #[.int .i64 m.c, .int .i64 m.d, .int .i64 m.s, .int .i64 m.a, .int .i64 m.l, .slice A t.length c], .int .i64 lim] w (ResNC w (countDesR m t lim)) := by
  have B0 := (Below.refl w.heap.size w).alloc (Nat.le_refl _) (.cells #[.int .i64 m.c, .int .i64 m.d, .int .i64 m.s, .int .i64 m.a, .int .i64 m.l, .slice A t.length c] 31)
  have bx : BoxC (w.alloc (.cells #[.int .i64 m.c, .int .i64 m.d, .int .i64 m.s, .int .i64 m.a, .int .i64 m.l, .slice A t.length c] 31)) w.heap.size 0 [.int .i64 m.c, .int .i64 m.d, .int .i64 m.s, .int .i64 m.a, .int .i64 m.l, .slice A t.length c] := by simp [BoxC, Go.World.cell?_alloc_at]
  have HCC := Lib.hid (searchCode_nil m A c t lim (w.alloc (.cells #[.int .i64 m.c, .int .i64 m.d, .int .i64 m.s, .int .i64 m.a, .int .i64 m.l, .slice A t.length c] 31)) (h.below B0))
  have hs0 := B0.size
  by_cases h1 : limC m t lim = 0
  rotate_left
  · have HN := Lib.hid (countDes_no h1)
    have t1 : (limC m t lim != 0) = true := by simpa using h1
    have H1 := Lib.hid h1; clear h1
    go_enter Try.func31, Try.ntmps31
    go_wp2_with fail
    refine HCC.out.mono ?_
    rintro e w1 ⟨rfl, b1⟩
    go_wp2_with fail
    go_ret2
    exact resNC_of HN.out (B0.trans (b1.mono B0.size))
  obtain ⟨hp, k, rfl, hk⟩ := limC_ok h1
  rw [h1] at HCC
  have HA := Lib.hid (allS_alike hk hp)
  have HH := fun (W : World) (hW : Below w.heap.size w W) => searchAll_any m A c t k hk W (h.below hW) hp
  obtain ⟨sn, hsn⟩ : ∃ sn, sn = allS m t k visNum 0 := ⟨_, rfl⟩
  have HSR := Lib.hid (show srchR m t (k : Int) = allS m t k (visMost 1000000) [] by unfold srchR; rw [Int.toNat_natCast])
  rw [← hsn] at HA HH
  have HHH := Lib.hid HH
  have HSN := Lib.hid hsn
  have HOV := Lib.hid (show sn.over = (srchR m t (k : Int)).over by rw [HSR.out]; exact HA.out.ov)
  have HVL := Lib.hid (show sn.vis = ((srchR m t (k : Int)).vis.length : Int) by rw [HSR.out]; exact HA.out.nu)
  cases hov : sn.over with
  | true =>
    have HN := Lib.hid (countDes_over h1 (by rw [← HOV.out]; exact hov))
    have H1 := Lib.hid (And.intro h1 hov); clear h1 HH hsn
    go_enter Try.func31, Try.ntmps31
    go_wp2_with fail
    refine HCC.out.mono ?_
    rintro e w1 ⟨rfl, b1⟩
    have B1 := B0.trans (b1.mono B0.size)
    obtain ⟨q0, q1, q2, q3, q4, q5, _⟩ := bx.below b1
    go_wp2_with fail
    refine (HHH.out _ B1).mono ?_
    rw [hov]
    rintro e w2 ⟨X, rfl, x7, x8, hX, b2⟩
    have HB2 := Lib.hid (B1.trans (b2.mono B1.size))
    clear b2 q0 q1 q2 q3 q4 q5 hov
    go_wp2_with fail
    go_ret2
    exact resNC_of HN.out HB2.out
  | false =>
    have HN := Lib.hid (countDes_yes h1 (by rw [← HOV.out]; exact hov))
    have H1 := Lib.hid (And.intro h1 hov); clear h1 HH hsn
    go_enter Try.func31, Try.ntmps31
    go_wp2_with fail
    refine HCC.out.mono ?_
    rintro e w1 ⟨rfl, b1⟩
    have B1 := B0.trans (b1.mono B0.size)
    obtain ⟨q0, q1, q2, q3, q4, q5, _⟩ := bx.below b1
    go_wp2_with fail
    refine (HHH.out _ B1).mono ?_
    rw [hov]
    rintro e w2 ⟨X, rfl, x7, x8, hX, b2⟩
    have HB2 := Lib.hid (B1.trans (b2.mono B1.size))
    clear b2 q0 q1 q2 q3 q4 q5 hov
    go_wp2_with fail
    go_ret2
    rw [HVL.out]
    exact resNC_of HN.out HB2.out
set_option maxRecDepth 100000 in
set_option maxHeartbeats 4000000 in
theorem implCountTries_any (m : Mk) (A : Option Addr) (c : Nat) (t : List (List Int)) (lim : Int) (w : World) (h : RII w A t) (hwf : (Lit.int .i64 lim).wf = true) :
    Calls Try.prog 33 #[.agg #[.int .i64 m.c, .int .i64 m.d, .int .i64 m.s, .int .i64 m.a, .int .i64 m.l, .slice A t.length c], .int .i64 lim] w (ResNC w (countTriesR m t lim)) := by
  have B0 := (Below.refl w.heap.size w).alloc (Nat.le_refl _) (.cells #[.int .i64 m.c, .int .i64 m.d, .int .i64 m.s, .int .i64 m.a, .int .i64 m.l, .slice A t.length c] 31)
  have bx : BoxC (w.alloc (.cells #[.int .i64 m.c, .int .i64 m.d, .int .i64 m.s, .int .i64 m.a, .int .i64 m.l, .slice A t.length c] 31)) w.heap.size 0 [.int .i64 m.c, .int .i64 m.d, .int .i64 m.s, .int .i64 m.a, .int .i64 m.l, .slice A t.length c] := by simp [BoxC, Go.World.cell?_alloc_at]
  have HCC := Lib.hid (searchCode_nil m A c t lim (w.alloc (.cells #[.int .i64 m.c, .int .i64 m.d, .int .i64 m.s, .int .i64 m.a, .int .i64 m.l, .slice A t.length c] 31)) (h.below B0))
  have hs0 := B0.size
  by_cases h1 : limC m t lim = 0
  rotate_left
  · have HN := Lib.hid (countTries_no h1)
    have t1 : (limC m t lim != 0) = true := by simpa using h1
    have H1 := Lib.hid h1; clear h1
    go_enter Try.func33, Try.ntmps33
    go_wp2_with fail
    refine HCC.out.mono ?_
    rintro e w1 ⟨rfl, b1⟩
    go_wp2_with fail
    go_ret2
    exact resNC_of HN.out (B0.trans (b1.mono B0.size))
  obtain ⟨hp, k, rfl, hk⟩ := limC_ok h1
  rw [h1] at HCC
  have HA := Lib.hid (allS_alike hk hp)
  have HH := fun (W : World) (hW : Below w.heap.size w W) => searchAll_any m A c t k hk W (h.below hW) hp
  obtain ⟨sn, hsn⟩ : ∃ sn, sn = allS m t k visNum 0 := ⟨_, rfl⟩
  have HSR := Lib.hid (show srchR m t (k : Int) = allS m t k (visMost 1000000) [] by unfold srchR; rw [Int.toNat_natCast])
  rw [← hsn] at HA HH
  have HHH := Lib.hid HH
  have HSN := Lib.hid hsn
  have HOV := Lib.hid (show sn.over = (srchR m t (k : Int)).over by rw [HSR.out]; exact HA.out.ov)
  have HVL := Lib.hid (show (sn.tries : Int) = ((srchR m t (k : Int)).tries : Int) by rw [HSR.out]; rw [HA.out.tr])
  cases hov : sn.over with
  | true =>
    have HN := Lib.hid (countTries_over h1 (by rw [← HOV.out]; exact hov))
    have H1 := Lib.hid (And.intro h1 hov); clear h1 HH hsn
    go_enter Try.func33, Try.ntmps33
    go_wp2_with fail
    refine HCC.out.mono ?_
    rintro e w1 ⟨rfl, b1⟩
    have B1 := B0.trans (b1.mono B0.size)
    obtain ⟨q0, q1, q2, q3, q4, q5, _⟩ := bx.below b1
    go_wp2_with fail
    refine (HHH.out _ B1).mono ?_
    rw [hov]
    rintro e w2 ⟨X, rfl, x7, x8, hX, b2⟩
    have HB2 := Lib.hid (B1.trans (b2.mono B1.size))
    clear b2 q0 q1 q2 q3 q4 q5 hov
    go_wp2_with fail
    go_ret2
    exact resNC_of HN.out HB2.out
  | false =>
    have HN := Lib.hid (countTries_yes h1 (by rw [← HOV.out]; exact hov))
    have H1 := Lib.hid (And.intro h1 hov); clear h1 HH hsn
    go_enter Try.func33, Try.ntmps33
    go_wp2_with fail
    refine HCC.out.mono ?_
    rintro e w1 ⟨rfl, b1⟩
    have B1 := B0.trans (b1.mono B0.size)
    obtain ⟨q0, q1, q2, q3, q4, q5, _⟩ := bx.below b1
    go_wp2_with fail
    refine (HHH.out _ B1).mono ?_
    rw [hov]
    rintro e w2 ⟨X, rfl, x7, x8, hX, b2⟩
    have HB2 := Lib.hid (B1.trans (b2.mono B1.size))
    clear b2 q0 q1 q2 q3 q4 q5 hov
    go_wp2_with fail
    go_ret2
    rw [HVL.out]
    exact resNC_of HN.out HB2.out
set_option maxRecDepth 100000 in
set_option maxHeartbeats 4000000 in
theorem specCountDesigns_any (m : Mk) (A : Option Addr) (c : Nat) (t : List (List Int)) (lim : Int) (w : World) (h : RII w A t) (hwf : (Lit.int .i64 lim).wf = true) :
    Calls Try.prog 30 #[.agg #[.int .i64 m.c, .int .i64 m.d, .int .i64 m.s, .int .i64 m.a, .int .i64 m.l, .slice A t.length c], .int .i64 lim] w (ResNC w (countDesR m t lim)) := by
  have B0 := (Below.refl w.heap.size w).alloc (Nat.le_refl _) (.cells #[.int .i64 m.c, .int .i64 m.d, .int .i64 m.s, .int .i64 m.a, .int .i64 m.l, .slice A t.length c] 31)
  have bx : BoxC (w.alloc (.cells #[.int .i64 m.c, .int .i64 m.d, .int .i64 m.s, .int .i64 m.a, .int .i64 m.l, .slice A t.length c] 31)) w.heap.size 0 [.int .i64 m.c, .int .i64 m.d, .int .i64 m.s, .int .i64 m.a, .int .i64 m.l, .slice A t.length c] := by simp [BoxC, Go.World.cell?_alloc_at]
  have HCC := Lib.hid (l17Code_any m A c t lim (w.alloc (.cells #[.int .i64 m.c, .int .i64 m.d, .int .i64 m.s, .int .i64 m.a, .int .i64 m.l, .slice A t.length c] 31)) (h.below B0))
  have hs0 := B0.size
  by_cases h1 : limC m t lim = 0
  rotate_left
  · have HN := Lib.hid (countDes_no h1)
    have t1 : (limC m t lim != 0) = true := by simpa using h1
    have H1 := Lib.hid h1; clear h1
    go_enter Try.func30, Try.ntmps30
    go_wp2_with fail
    refine HCC.out.mono ?_
    rintro e w1 ⟨rfl, b1⟩
    go_wp2_with fail
    go_ret2
    exact resNC_of HN.out (B0.trans (b1.mono B0.size))
  obtain ⟨hp, k, rfl, hk⟩ := limC_ok h1
  rw [h1] at HCC
  have HH := fun (W : World) (hW : Below w.heap.size w W) => l17Run_any m A c t k 1000000 hk (by omega) (Nat.le_refl _) W (h.below hW) hp
  obtain ⟨sn, hsn⟩ : ∃ sn, sn = allS m t k (visMost 1000000) [] := ⟨_, rfl⟩
  have HSR := Lib.hid (show srchR m t (k : Int) = sn by unfold srchR; rw [Int.toNat_natCast, hsn])
  rw [← hsn] at HH
  have HHH := Lib.hid HH
  have HSN := Lib.hid hsn
  cases hov : sn.over with
  | true =>
    have HN := Lib.hid (countDes_over h1 (by rw [HSR.out]; exact hov))
    have HOV := Lib.hid hov
    have H1 := Lib.hid h1; clear h1 HH hsn hov
    go_enter Try.func30, Try.ntmps30
    go_wp2_with fail
    refine HCC.out.mono ?_
    rintro e w1 ⟨rfl, b1⟩
    have B1 := B0.trans (b1.mono B0.size)
    obtain ⟨q0, q1, q2, q3, q4, q5, _⟩ := bx.below b1
    go_wp2_with fail
    refine (HHH.out _ B1).mono ?_
    rintro e w2 ⟨X, F, rfl, ⟨v, us, hV⟩, b2⟩
    have HB2 := Lib.hid (B1.trans (b2.mono B1.size))
    have hX := hV.xl
    obtain ⟨x0, x1, x2, x3, x4, x5, x6, x7, x8, x9, x10, _⟩ := hV.box
    simp only [Nat.zero_add] at x8 x9 x10
    rw [HOV.out] at x9
    clear b2 q0 q1 q2 q3 q4 q5 hV x0 x1 x2 x3 x4 x5 x6 x7
    go_wp2_with fail
    go_ret2
    exact resNC_of HN.out HB2.out
  | false =>
    have HN := Lib.hid (countDes_yes h1 (by rw [HSR.out]; exact hov))
    rw [HSR.out] at HN
    have HOV := Lib.hid hov
    have H1 := Lib.hid h1; clear h1 HH hsn hov
    go_enter Try.func30, Try.ntmps30
    go_wp2_with fail
    refine HCC.out.mono ?_
    rintro e w1 ⟨rfl, b1⟩
    have B1 := B0.trans (b1.mono B0.size)
    obtain ⟨q0, q1, q2, q3, q4, q5, _⟩ := bx.below b1
    go_wp2_with fail
    refine (HHH.out _ B1).mono ?_
    rintro e w2 ⟨X, F, rfl, ⟨v, us, hV⟩, b2⟩
    have HB2 := Lib.hid (B1.trans (b2.mono B1.size))
    have hX := hV.xl
    obtain ⟨Av, cv, rfl, hcv, hrv⟩ := hV.own.reads
    have hle := hrv.1
    have HLN := Lib.hid hV.len
    obtain ⟨x0, x1, x2, x3, x4, x5, x6, x7, x8, x9, x10, _⟩ := hV.box
    simp only [Nat.zero_add] at x8 x9 x10
    rw [HOV.out] at x9
    try rw [← HLN.out] at HN
    clear b2 q0 q1 q2 q3 q4 q5 hV hrv x0 x1 x2 x3 x4 x5 x6 x7
    go_wp2_with fail
    go_ret2
    exact resNC_of HN.out HB2.out
set_option maxRecDepth 100000 in
set_option maxHeartbeats 4000000 in
theorem specCountTries_any (m : Mk) (A : Option Addr) (c : Nat) (t : List (List Int)) (lim : Int) (w : World) (h : RII w A t) (hwf : (Lit.int .i64 lim).wf = true) :
    Calls Try.prog 32 #[.agg #[.int .i64 m.c, .int .i64 m.d, .int .i64 m.s, .int .i64 m.a, .int .i64 m.l, .slice A t.length c], .int .i64 lim] w (ResNC w (countTriesR m t lim)) := by
  have B0 := (Below.refl w.heap.size w).alloc (Nat.le_refl _) (.cells #[.int .i64 m.c, .int .i64 m.d, .int .i64 m.s, .int .i64 m.a, .int .i64 m.l, .slice A t.length c] 31)
  have bx : BoxC (w.alloc (.cells #[.int .i64 m.c, .int .i64 m.d, .int .i64 m.s, .int .i64 m.a, .int .i64 m.l, .slice A t.length c] 31)) w.heap.size 0 [.int .i64 m.c, .int .i64 m.d, .int .i64 m.s, .int .i64 m.a, .int .i64 m.l, .slice A t.length c] := by simp [BoxC, Go.World.cell?_alloc_at]
  have HCC := Lib.hid (l17Code_any m A c t lim (w.alloc (.cells #[.int .i64 m.c, .int .i64 m.d, .int .i64 m.s, .int .i64 m.a, .int .i64 m.l, .slice A t.length c] 31)) (h.below B0))
  have hs0 := B0.size
  by_cases h1 : limC m t lim = 0
  rotate_left
  · have HN := Lib.hid (countTries_no h1)
    have t1 : (limC m t lim != 0) = true := by simpa using h1
    have H1 := Lib.hid h1; clear h1
    go_enter Try.func32, Try.ntmps32
    go_wp2_with fail
    refine HCC.out.mono ?_
    rintro e w1 ⟨rfl, b1⟩
    go_wp2_with fail
    go_ret2
    exact resNC_of HN.out (B0.trans (b1.mono B0.size))
  obtain ⟨hp, k, rfl, hk⟩ := limC_ok h1
  rw [h1] at HCC
  have HH := fun (W : World) (hW : Below w.heap.size w W) => l17Run_any m A c t k 1000000 hk (by omega) (Nat.le_refl _) W (h.below hW) hp
  obtain ⟨sn, hsn⟩ : ∃ sn, sn = allS m t k (visMost 1000000) [] := ⟨_, rfl⟩
  have HSR := Lib.hid (show srchR m t (k : Int) = sn by unfold srchR; rw [Int.toNat_natCast, hsn])
  rw [← hsn] at HH
  have HHH := Lib.hid HH
  have HSN := Lib.hid hsn
  cases hov : sn.over with
  | true =>
    have HN := Lib.hid (countTries_over h1 (by rw [HSR.out]; exact hov))
    have HOV := Lib.hid hov
    have H1 := Lib.hid h1; clear h1 HH hsn hov
    go_enter Try.func32, Try.ntmps32
    go_wp2_with fail
    refine HCC.out.mono ?_
    rintro e w1 ⟨rfl, b1⟩
    have B1 := B0.trans (b1.mono B0.size)
    obtain ⟨q0, q1, q2, q3, q4, q5, _⟩ := bx.below b1
    go_wp2_with fail
    refine (HHH.out _ B1).mono ?_
    rintro e w2 ⟨X, F, rfl, ⟨v, us, hV⟩, b2⟩
    have HB2 := Lib.hid (B1.trans (b2.mono B1.size))
    have hX := hV.xl
    obtain ⟨x0, x1, x2, x3, x4, x5, x6, x7, x8, x9, x10, _⟩ := hV.box
    simp only [Nat.zero_add] at x8 x9 x10
    rw [HOV.out] at x9
    clear b2 q0 q1 q2 q3 q4 q5 hV x0 x1 x2 x3 x4 x5 x6 x7
    go_wp2_with fail
    go_ret2
    exact resNC_of HN.out HB2.out
  | false =>
    have HN := Lib.hid (countTries_yes h1 (by rw [HSR.out]; exact hov))
    rw [HSR.out] at HN
    have HOV := Lib.hid hov
    have H1 := Lib.hid h1; clear h1 HH hsn hov
    go_enter Try.func32, Try.ntmps32
    go_wp2_with fail
    refine HCC.out.mono ?_
    rintro e w1 ⟨rfl, b1⟩
    have B1 := B0.trans (b1.mono B0.size)
    obtain ⟨q0, q1, q2, q3, q4, q5, _⟩ := bx.below b1
    go_wp2_with fail
    refine (HHH.out _ B1).mono ?_
    rintro e w2 ⟨X, F, rfl, ⟨v, us, hV⟩, b2⟩
    have HB2 := Lib.hid (B1.trans (b2.mono B1.size))
    have hX := hV.xl
    obtain ⟨Av, cv, rfl, hcv, hrv⟩ := hV.own.reads
    have hle := hrv.1
    have HLN := Lib.hid hV.len
    obtain ⟨x0, x1, x2, x3, x4, x5, x6, x7, x8, x9, x10, _⟩ := hV.box
    simp only [Nat.zero_add] at x8 x9 x10
    rw [HOV.out] at x9
    try rw [← HLN.out] at HN
    clear b2 q0 q1 q2 q3 q4 q5 hV hrv x0 x1 x2 x3 x4 x5 x6 x7
    go_wp2_with fail
    go_ret2
    exact resNC_of HN.out HB2.out
end Go.Proofs.Ytapocenhmdcfoaa
