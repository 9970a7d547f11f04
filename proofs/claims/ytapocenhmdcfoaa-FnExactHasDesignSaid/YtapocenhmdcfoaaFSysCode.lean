/- Contracts of areKeys, cutsCode, l15Cuts, l15Code, l02Code. -/
import Derived.Test.YtapocenhmdcfoaaFSystem
import Derived.Test.YtapocenhmdcfoaaFCodes
import Derived.Test.YtapocenhmdcfoaaRegion
namespace Go.Proofs.Ytapocenhmdcfoaa
set_option linter.unusedVariables false
open Go.RowKit
def cutsC (m : Mk) (t cuts : List (List Int)) : Int := if isSystem m t = true then (if (decide (cuts.length = t.length) && areKeysF m cuts) = true then 0 else 2) else 1
theorem sys_facts {m : Mk} {t : List (List Int)} (h : isSystem m t = true) : isMaker m = true ∧ 0 < t.length ∧ t.length ≤ 10 := by
  unfold isSystem at h; rw [Bool.and_eq_true, Bool.and_eq_true] at h
  have := isTable_get h.1.2
  exact ⟨h.1.1, by have := this.1; omega, this.2.1⟩
theorem cutsC_0 {m : Mk} {t cuts : List (List Int)} (h : cutsC m t cuts = 0) : isSystem m t = true ∧ cuts.length = t.length ∧ areKeysF m cuts = true := by
  unfold cutsC at h
  split at h
  · rename_i h1
    split at h
    · rename_i h2; rw [Bool.and_eq_true, decide_eq_true_eq] at h2; exact ⟨h1, h2.1, h2.2⟩
    · cases h
  · cases h
theorem not_any_not (m : Mk) : ∀ ks : List (List Int), (!(ks.any fun k => !isKey m k)) = areKeysF m ks
  | [] => rfl
  | k :: r => by
    have := not_any_not m r
    unfold areKeysF at *
    rw [List.any_cons, List.all_cons, ← this]
    cases isKey m k <;> simp
set_option maxHeartbeats 1000000 in
theorem areKeysClo_any (m : Mk) (g : Nat) (A : Option Addr) (c : Nat) (xs : List Int) (w : World) (h : RI w A xs) (hcap : xs.length ≤ c) (hm : isMaker m = true) (hb : BoxC w g 0 [.int .i64 m.c, .int .i64 m.d, .int .i64 m.s, .int .i64 m.a, .int .i64 m.l]) :
    Calls Try.prog 201 #[.slice A xs.length c, .pointer (some ⟨g, 0, none⟩)] w fun e w' => e = .returned (.bool (!isKey m xs)) ∧ Below w.heap.size w w' := by
  obtain ⟨q0, q1, q2, q3, q4, _⟩ := hb
  have HK := Lib.hid (isKey_any m A c xs w h hcap hm)
  go_enter Try.func201, Try.ntmps201
  go_wp2_with fail
  refine HK.out.mono ?_
  rintro e w1 ⟨rfl, b1⟩
  go_wp2_with fail
  go_ret
  exact ⟨rfl, b1⟩
set_option maxHeartbeats 1000000 in
theorem areKeys_any (m : Mk) (A : Option Addr) (c : Nat) (ks : List (List Int)) (w : World) (h : RII w A ks) (hm : isMaker m = true) :
    Calls Try.prog 164 #[.agg #[.int .i64 m.c, .int .i64 m.d, .int .i64 m.s, .int .i64 m.a, .int .i64 m.l], .slice A ks.length c] w fun e w' => e = .returned (.bool (areKeysF m ks)) ∧ Below w.heap.size w w' := by
  have B0 := (Below.refl w.heap.size w).alloc (Nat.le_refl _) (.cells #[.int .i64 m.c, .int .i64 m.d, .int .i64 m.s, .int .i64 m.a, .int .i64 m.l] 29)
  have bm : BoxC (w.alloc (.cells #[.int .i64 m.c, .int .i64 m.d, .int .i64 m.s, .int .i64 m.a, .int .i64 m.l] 29)) w.heap.size 0 [.int .i64 m.c, .int .i64 m.d, .int .i64 m.s, .int .i64 m.a, .int .i64 m.l] := by simp [BoxC, Go.World.cell?_alloc_at]
  have HC := Lib.hid (sContainsFuncL_any 201 #[.pointer (some ⟨w.heap.size, 0, none⟩)] A c ks (fun k => !isKey m k) (w.alloc (.cells #[.int .i64 m.c, .int .i64 m.d, .int .i64 m.s, .int .i64 m.a, .int .i64 m.l] 29)) (h.below B0) (enters Try.func201 (by kernel_rfl) rfl)
    (fun j hj W A' c' hW hcc hr => areKeysClo_any m w.heap.size A' c' ks[j] W hr hcc hm (bm.below hW)))
  have HN := Lib.hid (not_any_not m ks)
  clear bm
  go_enter Try.func164, Try.ntmps164
  go_wp2_with fail
  refine HC.out.mono ?_
  rintro e w1 ⟨rfl, b1⟩
  go_wp2_with fail
  go_ret
  exact ⟨retB HN.out, B0.trans (b1.mono B0.size)⟩
set_option maxRecDepth 100000 in
set_option maxHeartbeats 2000000 in
theorem cutsCode_any (m : Mk) (A : Option Addr) (c : Nat) (t : List (List Int)) (B : Option Addr) (d : Nat) (cuts : List (List Int)) (w : World) (h : RII w A t) (g : RII w B cuts) :
    Calls Try.prog 87 #[.agg #[.int .i64 m.c, .int .i64 m.d, .int .i64 m.s, .int .i64 m.a, .int .i64 m.l, .slice A t.length c], .slice B cuts.length d] w fun e w' => e = .returned (.int .i64 (cutsC m t cuts)) ∧ Below w.heap.size w w' := by
  have B0 := (Below.refl w.heap.size w).alloc (Nat.le_refl _) (.cells #[.int .i64 m.c, .int .i64 m.d, .int .i64 m.s, .int .i64 m.a, .int .i64 m.l, .slice A t.length c] 31)
  have bx : BoxC (w.alloc (.cells #[.int .i64 m.c, .int .i64 m.d, .int .i64 m.s, .int .i64 m.a, .int .i64 m.l, .slice A t.length c] 31)) w.heap.size 0 [.int .i64 m.c, .int .i64 m.d, .int .i64 m.s, .int .i64 m.a, .int .i64 m.l, .slice A t.length c] := by simp [BoxC, Go.World.cell?_alloc_at]
  have HS := implIsSystem_any m A c t (w.alloc (.cells #[.int .i64 m.c, .int .i64 m.d, .int .i64 m.s, .int .i64 m.a, .int .i64 m.l, .slice A t.length c] 31)) (h.below B0)
  have hle := g.le
  have hle2 := h.le
  cases h1 : isSystem m t with
  | false =>
    have HR := Lib.hid (show cutsC m t cuts = 1 by simp [cutsC, h1])
    rw [h1] at HS
    have HSS := Lib.hid HS; clear HS
    go_enter Try.func87, Try.ntmps87
    go_wp2_with fail
    refine HSS.out.mono ?_
    rintro e w1 ⟨rfl, b1⟩
    go_wp2_with fail
    go_ret
    exact ⟨retI HR.out.symm, B0.trans (b1.mono B0.size)⟩
  | true =>
  rw [h1] at HS
  have HSS := Lib.hid HS; clear HS
  have HF := Lib.hid (sys_facts h1)
  have H1 := Lib.hid h1; clear h1
  by_cases h2 : cuts.length = t.length
  · have hne : ((cuts.length : Int) != (t.length : Int)) = false := by simp [h2]
    have HL := Lib.hid h2; clear h2
    have HAK := fun W hW => areKeys_any m B d cuts W (g.below hW) HF.out.1
    cases h3 : areKeysF m cuts with
    | true =>
      have HR := Lib.hid (show cutsC m t cuts = 0 by unfold cutsC; rw [if_pos H1.out, if_pos (by rw [h3]; simpa using HL.out)])
      rw [h3] at HAK
      have HA := Lib.hid HAK; clear HAK h3
      go_enter Try.func87, Try.ntmps87
      go_wp2_with fail
      refine HSS.out.mono ?_
      rintro e w1 ⟨rfl, b1⟩
      have B1 := B0.trans (b1.mono B0.size)
      obtain ⟨q0, q1, q2, q3, q4, q5, _⟩ := bx.below b1
      go_wp2_with fail
      refine (HA.out _ B1).mono ?_
      rintro e w2 ⟨rfl, b2⟩
      go_wp2_with fail
      go_ret
      exact ⟨retI HR.out.symm, B1.trans (b2.mono B1.size)⟩
    | false =>
      have HR := Lib.hid (show cutsC m t cuts = 2 by unfold cutsC; rw [if_pos H1.out, if_neg (by rw [h3]; simp)])
      rw [h3] at HAK
      have HA := Lib.hid HAK; clear HAK h3
      go_enter Try.func87, Try.ntmps87
      go_wp2_with fail
      refine HSS.out.mono ?_
      rintro e w1 ⟨rfl, b1⟩
      have B1 := B0.trans (b1.mono B0.size)
      obtain ⟨q0, q1, q2, q3, q4, q5, _⟩ := bx.below b1
      go_wp2_with fail
      refine (HA.out _ B1).mono ?_
      rintro e w2 ⟨rfl, b2⟩
      go_wp2_with fail
      go_ret
      exact ⟨retI HR.out.symm, B1.trans (b2.mono B1.size)⟩
  · have hne : ((cuts.length : Int) != (t.length : Int)) = true := by simp; omega
    have HR := Lib.hid (show cutsC m t cuts = 2 by unfold cutsC; rw [if_pos H1.out, if_neg (by simp [h2])])
    have HL := Lib.hid h2; clear h2
    go_enter Try.func87, Try.ntmps87
    go_wp2_with fail
    refine HSS.out.mono ?_
    rintro e w1 ⟨rfl, b1⟩
    obtain ⟨q0, q1, q2, q3, q4, q5, _⟩ := bx.below b1
    go_wp2_with fail
    go_ret
    exact ⟨retI HR.out.symm, B0.trans (b1.mono B0.size)⟩
set_option maxRecDepth 100000 in
set_option maxHeartbeats 2000000 in
theorem l15Cuts_any (m : Mk) (A : Option Addr) (c : Nat) (t : List (List Int)) (B : Option Addr) (d : Nat) (cuts : List (List Int)) (w : World) (h : RII w A t) (g : RII w B cuts) (hm : isMaker m = true) (ht : t.length ≤ 300) :
    Calls Try.prog 160 #[.agg #[.int .i64 m.c, .int .i64 m.d, .int .i64 m.s, .int .i64 m.a, .int .i64 m.l, .slice A t.length c], .slice B cuts.length d] w fun e w' => e = .returned (.bool (decide (cuts.length = t.length) && areKeysF m cuts)) ∧ Below w.heap.size w w' := by
  have B0 := (Below.refl w.heap.size w).alloc (Nat.le_refl _) (.cells #[.int .i64 m.c, .int .i64 m.d, .int .i64 m.s, .int .i64 m.a, .int .i64 m.l, .slice A t.length c] 31)
  have hle := g.le
  have hle2 := h.le
  by_cases h2 : cuts.length = t.length
  · have hne : ((cuts.length : Int) == (t.length : Int)) = true := by simp [h2]
    have HK := l04Keys_any m B d cuts (w.alloc (.cells #[.int .i64 m.c, .int .i64 m.d, .int .i64 m.s, .int .i64 m.a, .int .i64 m.l, .slice A t.length c] 31)) (g.below B0) hm
    rw [show decide (cuts.length ≤ 300) = true from decide_eq_true (by omega), Bool.and_true] at HK
    have HR := Lib.hid (show (decide (cuts.length = t.length) && areKeysF m cuts) = areKeysF m cuts by rw [decide_eq_true h2]; rfl)
    have HKK := Lib.hid HK
    have HL := Lib.hid h2; clear h2 HK
    go_enter Try.func160, Try.ntmps160
    go_wp2_with fail
    refine HKK.out.mono ?_
    rintro e w1 ⟨rfl, b1⟩
    go_wp2_with fail
    go_ret
    exact ⟨retB HR.out.symm, B0.trans (b1.mono B0.size)⟩
  · have hne : ((cuts.length : Int) == (t.length : Int)) = false := by simp; omega
    have HR := Lib.hid (show (decide (cuts.length = t.length) && areKeysF m cuts) = false by rw [decide_eq_false h2]; rfl)
    have HL := Lib.hid h2; clear h2
    go_enter Try.func160, Try.ntmps160
    go_wp2_with fail
    go_ret
    exact ⟨retB HR.out.symm, B0⟩
set_option maxRecDepth 100000 in
set_option maxHeartbeats 2000000 in
theorem l15Code_any (m : Mk) (A : Option Addr) (c : Nat) (t : List (List Int)) (B : Option Addr) (d : Nat) (cuts : List (List Int)) (w : World) (h : RII w A t) (g : RII w B cuts) :
    Calls Try.prog 82 #[.agg #[.int .i64 m.c, .int .i64 m.d, .int .i64 m.s, .int .i64 m.a, .int .i64 m.l, .slice A t.length c], .slice B cuts.length d] w fun e w' => e = .returned (.int .i64 (cutsC m t cuts)) ∧ Below w.heap.size w w' := by
  have B0 := (Below.refl w.heap.size w).alloc (Nat.le_refl _) (.cells #[.int .i64 m.c, .int .i64 m.d, .int .i64 m.s, .int .i64 m.a, .int .i64 m.l, .slice A t.length c] 31)
  have bx : BoxC (w.alloc (.cells #[.int .i64 m.c, .int .i64 m.d, .int .i64 m.s, .int .i64 m.a, .int .i64 m.l, .slice A t.length c] 31)) w.heap.size 0 [.int .i64 m.c, .int .i64 m.d, .int .i64 m.s, .int .i64 m.a, .int .i64 m.l, .slice A t.length c] := by simp [BoxC, Go.World.cell?_alloc_at]
  have HS := specIsSystem_any m A c t (w.alloc (.cells #[.int .i64 m.c, .int .i64 m.d, .int .i64 m.s, .int .i64 m.a, .int .i64 m.l, .slice A t.length c] 31)) (h.below B0)
  have hle := g.le
  have hle2 := h.le
  cases h1 : isSystem m t with
  | false =>
    have HR := Lib.hid (show cutsC m t cuts = 1 by simp [cutsC, h1])
    rw [h1] at HS
    have HSS := Lib.hid HS; clear HS
    go_enter Try.func82, Try.ntmps82
    go_wp2_with fail
    refine HSS.out.mono ?_
    rintro e w1 ⟨rfl, b1⟩
    go_wp2_with fail
    go_ret
    exact ⟨retI HR.out.symm, B0.trans (b1.mono B0.size)⟩
  | true =>
  rw [h1] at HS
  have HSS := Lib.hid HS; clear HS
  have HF := Lib.hid (sys_facts h1)
  have H1 := Lib.hid h1; clear h1
  have HAK := fun W hW => l15Cuts_any m A c t B d cuts W (h.below hW) (g.below hW) HF.out.1 (by have := HF.out.2.2; omega)
  cases h3 : (decide (cuts.length = t.length) && areKeysF m cuts) with
  | true =>
    have HR := Lib.hid (show cutsC m t cuts = 0 by unfold cutsC; rw [if_pos H1.out, h3]; rfl)
    rw [h3] at HAK
    have HA := Lib.hid HAK; clear HAK h3
    go_enter Try.func82, Try.ntmps82
    go_wp2_with fail
    refine HSS.out.mono ?_
    rintro e w1 ⟨rfl, b1⟩
    have B1 := B0.trans (b1.mono B0.size)
    obtain ⟨q0, q1, q2, q3, q4, q5, _⟩ := bx.below b1
    go_wp2_with fail
    refine (HA.out _ B1).mono ?_
    rintro e w2 ⟨rfl, b2⟩
    go_wp2_with fail
    go_ret
    exact ⟨retI HR.out.symm, B1.trans (b2.mono B1.size)⟩
  | false =>
    have HR := Lib.hid (show cutsC m t cuts = 2 by unfold cutsC; rw [if_pos H1.out, h3]; rfl)
    rw [h3] at HAK
    have HA := Lib.hid HAK; clear HAK h3
    go_enter Try.func82, Try.ntmps82
    go_wp2_with fail
    refine HSS.out.mono ?_
    rintro e w1 ⟨rfl, b1⟩
    have B1 := B0.trans (b1.mono B0.size)
    obtain ⟨q0, q1, q2, q3, q4, q5, _⟩ := bx.below b1
    go_wp2_with fail
    refine (HA.out _ B1).mono ?_
    rintro e w2 ⟨rfl, b2⟩
    go_wp2_with fail
    go_ret
    exact ⟨retI HR.out.symm, B1.trans (b2.mono B1.size)⟩
end Go.Proofs.Ytapocenhmdcfoaa
