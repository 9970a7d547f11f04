/- Contracts of partCode and l16Code; isOpenPart, l16Open; the laws' functions that read false openings. -/
import Derived.Test.YtapocenhmdcfoaaFFaultsS
import Derived.Test.YtapocenhmdcfoaaFIsGhost
namespace Go.Proofs.Ytapocenhmdcfoaa
set_option linter.unusedVariables false
open Go.RowKit
def partC (m : Mk) (t cuts : List (List Int)) : Int := if isSystem m t = true then (if (decide (cuts.length ≤ t.length) && areKeysF m cuts) = true then 0 else 2) else 1
theorem sys_ok {m : Mk} {t cuts : List (List Int)} (h : isSystem m t = true) (hl : cuts.length ≤ t.length) (hk : areKeysF m cuts = true) : PartOK m t cuts := by
  unfold isSystem at h; rw [Bool.and_eq_true, Bool.and_eq_true] at h
  have h2 := isTable_get h.1.2
  exact ⟨h.1.1, h2.1, h2.2.1, fun k hk => ⟨(h2.2.2 k hk).1, (h2.2.2 k hk).2.1, (h2.2.2 k hk).2.2.1⟩, hl, fun k hk2 => by unfold areKeysF at hk; rw [List.all_eq_true] at hk; exact hk _ (List.getElem_mem hk2)⟩
theorem partC_0 {m : Mk} {t cuts : List (List Int)} (h : partC m t cuts = 0) : PartOK m t cuts := by
  unfold partC at h
  by_cases h1 : isSystem m t = true
  · rw [if_pos h1] at h
    by_cases h2 : (decide (cuts.length ≤ t.length) && areKeysF m cuts) = true
    · rw [Bool.and_eq_true, decide_eq_true_eq] at h2
      exact sys_ok h1 h2.1 h2.2
    · rw [if_neg h2] at h; cases h
  · rw [if_neg h1] at h; cases h
theorem cutsC_ok {m : Mk} {t cuts : List (List Int)} (h : cutsC m t cuts = 0) : PartOK m t cuts := by
  obtain ⟨h1, h2, h3⟩ := cutsC_0 h
  exact sys_ok h1 (by omega) h3
set_option maxRecDepth 100000 in
set_option maxHeartbeats 2000000 in
theorem partCode_any (m : Mk) (A : Option Addr) (c : Nat) (t : List (List Int)) (B : Option Addr) (d : Nat) (cuts : List (List Int)) (w : World) (h : RII w A t) (g : RII w B cuts) :
    Calls Try.prog 171 #[.agg #[.int .i64 m.c, .int .i64 m.d, .int .i64 m.s, .int .i64 m.a, .int .i64 m.l, .slice A t.length c], .slice B cuts.length d] w fun e w' => e = .returned (.int .i64 (partC m t cuts)) ∧ Below w.heap.size w w' := by
  have B0 := (Below.refl w.heap.size w).alloc (Nat.le_refl _) (.cells #[.int .i64 m.c, .int .i64 m.d, .int .i64 m.s, .int .i64 m.a, .int .i64 m.l, .slice A t.length c] 31)
  have bx : BoxC (w.alloc (.cells #[.int .i64 m.c, .int .i64 m.d, .int .i64 m.s, .int .i64 m.a, .int .i64 m.l, .slice A t.length c] 31)) w.heap.size 0 [.int .i64 m.c, .int .i64 m.d, .int .i64 m.s, .int .i64 m.a, .int .i64 m.l, .slice A t.length c] := by simp [BoxC, Go.World.cell?_alloc_at]
  have HS := implIsSystem_any m A c t (w.alloc (.cells #[.int .i64 m.c, .int .i64 m.d, .int .i64 m.s, .int .i64 m.a, .int .i64 m.l, .slice A t.length c] 31)) (h.below B0)
  have hle := g.le
  have hle2 := h.le
  cases h1 : isSystem m t with
  | false =>
    have HR := Lib.hid (show partC m t cuts = 1 by simp [partC, h1])
    rw [h1] at HS
    have HSS := Lib.hid HS; clear HS
    go_enter Try.func171, Try.ntmps171
    go_wp2_with fail
    refine HSS.out.mono ?_
    rintro e w1 ⟨rfl, b1⟩
    go_wp2_with fail
    go_ret
    exact ⟨retI HR.out.symm, B0.trans (b1.mono B0.size)⟩
  | true =>
  rw [h1] at HS
  have HSS := Lib.hid HS; clear HS
  have HF := Lib.hid (sys_facts h1)
  have H1 := Lib.hid h1; clear h1
  by_cases h2 : t.length < cuts.length
  · have HR := Lib.hid (show partC m t cuts = 2 by unfold partC; rw [if_pos H1.out, if_neg (by simp; omega)])
    go_enter Try.func171, Try.ntmps171
    go_wp2_with fail
    refine HSS.out.mono ?_
    rintro e w1 ⟨rfl, b1⟩
    obtain ⟨q0, q1, q2, q3, q4, q5, _⟩ := bx.below b1
    go_wp2_with fail
    go_ret
    exact ⟨retI HR.out.symm, B0.trans (b1.mono B0.size)⟩
  · have hnd : decide (t.length < cuts.length) = false := decide_eq_false h2
    have HL := Lib.hid (show cuts.length ≤ t.length by omega)
    clear h2
    have HAK := fun W hW => areKeys_any m B d cuts W (g.below hW) HF.out.1
    cases h3 : areKeysF m cuts with
    | true =>
      have HR := Lib.hid (show partC m t cuts = 0 by unfold partC; rw [if_pos H1.out, if_pos (by rw [h3]; simpa using HL.out)])
      rw [h3] at HAK
      have HA := Lib.hid HAK; clear HAK h3
      go_enter Try.func171, Try.ntmps171
      go_wp2_with fail
      refine HSS.out.mono ?_
      rintro e w1 ⟨rfl, b1⟩
      have B1 := B0.trans (b1.mono B0.size)
      obtain ⟨q0, q1, q2, q3, q4, q5, _⟩ := bx.below b1
      go_wp2_with fail
      refine (HA.out _ B1).mono ?_
      rintro e w2 ⟨rfl, b2⟩
      go_wp2_with fail
      go_ret
      exact ⟨retI HR.out.symm, B1.trans (b2.mono B1.size)⟩
    | false =>
      have HR := Lib.hid (show partC m t cuts = 2 by unfold partC; rw [if_pos H1.out, if_neg (by rw [h3]; simp)])
      rw [h3] at HAK
      have HA := Lib.hid HAK; clear HAK h3
      go_enter Try.func171, Try.ntmps171
      go_wp2_with fail
      refine HSS.out.mono ?_
      rintro e w1 ⟨rfl, b1⟩
      have B1 := B0.trans (b1.mono B0.size)
      obtain ⟨q0, q1, q2, q3, q4, q5, _⟩ := bx.below b1
      go_wp2_with fail
      refine (HA.out _ B1).mono ?_
      rintro e w2 ⟨rfl, b2⟩
      go_wp2_with fail
      go_ret
      exact ⟨retI HR.out.symm, B1.trans (b2.mono B1.size)⟩
set_option maxRecDepth 100000 in
set_option maxHeartbeats 2000000 in
theorem l16Code_any (m : Mk) (A : Option Addr) (c : Nat) (t : List (List Int)) (B : Option Addr) (d : Nat) (cuts : List (List Int)) (w : World) (h : RII w A t) (g : RII w B cuts) :
    Calls Try.prog 94 #[.agg #[.int .i64 m.c, .int .i64 m.d, .int .i64 m.s, .int .i64 m.a, .int .i64 m.l, .slice A t.length c], .slice B cuts.length d] w fun e w' => e = .returned (.int .i64 (partC m t cuts)) ∧ Below w.heap.size w w' := by
  have B0 := (Below.refl w.heap.size w).alloc (Nat.le_refl _) (.cells #[.int .i64 m.c, .int .i64 m.d, .int .i64 m.s, .int .i64 m.a, .int .i64 m.l, .slice A t.length c] 31)
  have bx : BoxC (w.alloc (.cells #[.int .i64 m.c, .int .i64 m.d, .int .i64 m.s, .int .i64 m.a, .int .i64 m.l, .slice A t.length c] 31)) w.heap.size 0 [.int .i64 m.c, .int .i64 m.d, .int .i64 m.s, .int .i64 m.a, .int .i64 m.l, .slice A t.length c] := by simp [BoxC, Go.World.cell?_alloc_at]
  have HS := specIsSystem_any m A c t (w.alloc (.cells #[.int .i64 m.c, .int .i64 m.d, .int .i64 m.s, .int .i64 m.a, .int .i64 m.l, .slice A t.length c] 31)) (h.below B0)
  have hle := g.le
  have hle2 := h.le
  cases h1 : isSystem m t with
  | false =>
    have HR := Lib.hid (show partC m t cuts = 1 by simp [partC, h1])
    rw [h1] at HS
    have HSS := Lib.hid HS; clear HS
    go_enter Try.func94, Try.ntmps94
    go_wp2_with fail
    refine HSS.out.mono ?_
    rintro e w1 ⟨rfl, b1⟩
    go_wp2_with fail
    go_ret
    exact ⟨retI HR.out.symm, B0.trans (b1.mono B0.size)⟩
  | true =>
  rw [h1] at HS
  have HSS := Lib.hid HS; clear HS
  have HF := Lib.hid (sys_facts h1)
  have H1 := Lib.hid h1; clear h1
  by_cases h2 : t.length < cuts.length
  · have HR := Lib.hid (show partC m t cuts = 2 by unfold partC; rw [if_pos H1.out, if_neg (by simp; omega)])
    go_enter Try.func94, Try.ntmps94
    go_wp2_with fail
    refine HSS.out.mono ?_
    rintro e w1 ⟨rfl, b1⟩
    obtain ⟨q0, q1, q2, q3, q4, q5, _⟩ := bx.below b1
    go_wp2_with fail
    go_ret
    exact ⟨retI HR.out.symm, B0.trans (b1.mono B0.size)⟩
  · have hnd : decide (t.length < cuts.length) = false := decide_eq_false h2
    have HL := Lib.hid (show cuts.length ≤ t.length by omega)
    have hl300 : cuts.length ≤ 300 := by have := HF.out.2.2; omega
    clear h2
    have HAK := fun W hW => l04Keys_any m B d cuts W (g.below hW) HF.out.1
    cases h3 : areKeysF m cuts with
    | true =>
      have HR := Lib.hid (show partC m t cuts = 0 by unfold partC; rw [if_pos H1.out, if_pos (by rw [h3]; simpa using HL.out)])
      rw [h3, decide_eq_true hl300, Bool.and_true] at HAK
      have HA := Lib.hid HAK; clear HAK h3
      go_enter Try.func94, Try.ntmps94
      go_wp2_with fail
      refine HSS.out.mono ?_
      rintro e w1 ⟨rfl, b1⟩
      have B1 := B0.trans (b1.mono B0.size)
      obtain ⟨q0, q1, q2, q3, q4, q5, _⟩ := bx.below b1
      go_wp2_with fail
      refine (HA.out _ B1).mono ?_
      rintro e w2 ⟨rfl, b2⟩
      go_wp2_with fail
      go_ret
      exact ⟨retI HR.out.symm, B1.trans (b2.mono B1.size)⟩
    | false =>
      have HR := Lib.hid (show partC m t cuts = 2 by unfold partC; rw [if_pos H1.out, if_neg (by rw [h3]; simp)])
      rw [h3, Bool.false_and] at HAK
      have HA := Lib.hid HAK; clear HAK h3
      go_enter Try.func94, Try.ntmps94
      go_wp2_with fail
      refine HSS.out.mono ?_
      rintro e w1 ⟨rfl, b1⟩
      have B1 := B0.trans (b1.mono B0.size)
      obtain ⟨q0, q1, q2, q3, q4, q5, _⟩ := bx.below b1
      go_wp2_with fail
      refine (HA.out _ B1).mono ?_
      rintro e w2 ⟨rfl, b2⟩
      go_wp2_with fail
      go_ret
      exact ⟨retI HR.out.symm, B1.trans (b2.mono B1.size)⟩
/-! ### open parts -/
def openPart (m : Mk) (t cuts : List (List Int)) : Bool := (((faultsF m t cuts).length : Int) == 0)
set_option maxRecDepth 100000 in
set_option maxHeartbeats 2000000 in
theorem isOpenPart_any (m : Mk) (A : Option Addr) (c : Nat) (t : List (List Int)) (B : Option Addr) (d : Nat) (cuts : List (List Int)) (w : World) (h : RII w A t) (g : RII w B cuts) (hp : PartOK m t cuts) :
    Calls Try.prog 172 #[.agg #[.int .i64 m.c, .int .i64 m.d, .int .i64 m.s, .int .i64 m.a, .int .i64 m.l, .slice A t.length c], .slice B cuts.length d] w fun e w' => e = .returned (.bool (openPart m t cuts)) ∧ Below w.heap.size w w' := by
  have B0 := (Below.refl w.heap.size w).alloc (Nat.le_refl _) (.cells #[.int .i64 m.c, .int .i64 m.d, .int .i64 m.s, .int .i64 m.a, .int .i64 m.l, .slice A t.length c] 31)
  have HH := partFaults_any m A c t B d cuts (w.alloc (.cells #[.int .i64 m.c, .int .i64 m.d, .int .i64 m.s, .int .i64 m.a, .int .i64 m.l, .slice A t.length c] 31)) (h.below B0) (g.below B0) hp
  obtain ⟨fs, hfs⟩ : ∃ fs, fs = faultsF m t cuts := ⟨_, rfl⟩
  have HR := Lib.hid (show ((fs.length : Int) == 0) = openPart m t cuts by rw [hfs]; rfl)
  rw [← hfs] at HH
  have HHH := Lib.hid HH
  clear HH hfs
  go_enter Try.func172, Try.ntmps172
  go_wp2_with fail
  refine HHH.out.mono ?_
  rintro e w1 ⟨A1, c1, rfl, _, hr1, _, b1⟩
  have hl1 := hr1.le
  clear hr1
  cases hq : ((fs.length : Int) == 0) with
  | true =>
    go_wp2_with fail
    go_ret
    exact ⟨retB (by rw [← HR.out, hq]), B0.trans (b1.mono B0.size)⟩
  | false =>
    go_wp2_with fail
    go_ret
    exact ⟨retB (by rw [← HR.out, hq]), B0.trans (b1.mono B0.size)⟩
set_option maxRecDepth 100000 in
set_option maxHeartbeats 2000000 in
theorem l16Open_any (m : Mk) (A : Option Addr) (c : Nat) (t : List (List Int)) (B : Option Addr) (d : Nat) (cuts : List (List Int)) (w : World) (h : RII w A t) (g : RII w B cuts) (hp : PartOK m t cuts) :
    Calls Try.prog 168 #[.agg #[.int .i64 m.c, .int .i64 m.d, .int .i64 m.s, .int .i64 m.a, .int .i64 m.l, .slice A t.length c], .slice B cuts.length d] w fun e w' => e = .returned (.bool (openPart m t cuts)) ∧ Below w.heap.size w w' := by
  have B0 := (Below.refl w.heap.size w).alloc (Nat.le_refl _) (.cells #[.int .i64 m.c, .int .i64 m.d, .int .i64 m.s, .int .i64 m.a, .int .i64 m.l, .slice A t.length c] 31)
  have HH := l15False_any m A c t B d cuts (w.alloc (.cells #[.int .i64 m.c, .int .i64 m.d, .int .i64 m.s, .int .i64 m.a, .int .i64 m.l, .slice A t.length c] 31)) (h.below B0) (g.below B0) hp
  obtain ⟨fs, hfs⟩ : ∃ fs, fs = faultsF m t cuts := ⟨_, rfl⟩
  have HR := Lib.hid (show ((fs.length : Int) == 0) = openPart m t cuts by rw [hfs]; rfl)
  rw [← hfs] at HH
  have HHH := Lib.hid HH
  clear HH hfs
  go_enter Try.func168, Try.ntmps168
  go_wp2_with fail
  refine HHH.out.mono ?_
  rintro e w1 ⟨A1, c1, rfl, _, hr1, _, b1⟩
  have hl1 := hr1.le
  clear hr1
  cases hq : ((fs.length : Int) == 0) with
  | true =>
    go_wp2_with fail
    go_ret
    exact ⟨retB (by rw [← HR.out, hq]), B0.trans (b1.mono B0.size)⟩
  | false =>
    go_wp2_with fail
    go_ret
    exact ⟨retB (by rw [← HR.out, hq]), B0.trans (b1.mono B0.size)⟩
end Go.Proofs.Ytapocenhmdcfoaa
