/- Contracts of areKeys, cutsCode, l15Cuts, l15Code, l02Code. -/
import Derived.Test.YtapocenhmdcfoaaGreatFSystem
import Derived.Test.YtapocenhmdcfoaaGreatFCodes
import Derived.Test.YtapocenhmdcfoaaGreatRegion
namespace Go.Proofs.YtapocenhmdcfoaaGreat
set_option linter.unusedVariables false
open Go.RowKit
def cutsC (m : Mk) (t cuts : List (List Int)) : Int := if isSystem m t = true then (if (decide (cuts.length = t.length) && areKeysF m cuts) = true then 0 else 2) else 1
theorem sys_facts {m : Mk} {t : List (List Int)} (h : isSystem m t = true) : isMaker m = true ∧ 0 < t.length ∧ t.length ≤ 10 := by
  unfold isSystem at h; rw [Bool.and_eq_true, Bool.and_eq_true] at h
  have := isTable_get h.1.2
  exact ⟨h.1.1, by have := this.1; omega, this.2.1⟩
theorem cutsC_0 {m : Mk} {t cuts : List (List Int)} (h : cutsC m t cuts = 0) : isSystem m t = true ∧ cuts.length = t.length ∧ areKeysF m cuts = true := by
  unfold cutsC at h
  split at h
  · rename_i h1
    split at h
    · rename_i h2; rw [Bool.and_eq_true, decide_eq_true_eq] at h2; exact ⟨h1, h2.1, h2.2⟩
    · cases h
  · cases h
theorem not_any_not (m : Mk) : ∀ ks : List (List Int), (!(ks.any fun k => !isKey m k)) = areKeysF m ks
  | [] => rfl
  | k :: r => by
    have := not_any_not m r
    unfold areKeysF at *
    rw [List.any_cons, List.all_cons, ← this]
    cases isKey m k <;> simp
set_option maxHeartbeats 1000000 in
theorem areKeysClo_any (m : Mk) (g : Nat) (A : Option Addr) (c : Nat) (xs : List Int) (w : World) (h : RI w A xs) (hcap : xs.length ≤ c) (hm : isMaker m = true) (hb : BoxC w g 0 [.int .i64 m.c, .int .i64 m.d, .int .i64 m.s, .int .i64 m.a, .int .i64 m.l]) :
    Calls Tryz.prog 66 #[.slice A xs.length c, .pointer (some ⟨g, 0, none⟩)] w fun e w' => e = .returned (.bool (!isKey m xs)) ∧ Below w.heap.size w w' := by
  obtain ⟨q0, q1, q2, q3, q4, _⟩ := hb
  have HK := Lib.hid (isKey_any m A c xs w h hcap hm)
  go_enter Tryz.func66, Tryz.ntmps66
  go_wp2_with fail
  refine HK.out.mono ?_
  rintro e w1 ⟨rfl, b1⟩
  go_wp2_with fail
  go_ret
  exact ⟨rfl, b1⟩
set_option maxHeartbeats 1000000 in
theorem areKeys_any (m : Mk) (A : Option Addr) (c : Nat) (ks : List (List Int)) (w : World) (h : RII w A ks) (hm : isMaker m = true) :
    Calls Tryz.prog 49 #[.agg #[.int .i64 m.c, .int .i64 m.d, .int .i64 m.s, .int .i64 m.a, .int .i64 m.l], .slice A ks.length c] w fun e w' => e = .returned (.bool (areKeysF m ks)) ∧ Below w.heap.size w w' := by
  have B0 := (Below.refl w.heap.size w).alloc (Nat.le_refl _) (.cells #[.int .i64 m.c, .int .i64 m.d, .int .i64 m.s, .int .i64 m.a, .int .i64 m.l] 30)
  have bm : BoxC (w.alloc (.cells #[.int .i64 m.c, .int .i64 m.d, .int .i64 m.s, .int .i64 m.a, .int .i64 m.l] 30)) w.heap.size 0 [.int .i64 m.c, .int .i64 m.d, .int .i64 m.s, .int .i64 m.a, .int .i64 m.l] := by simp [BoxC, Go.World.cell?_alloc_at]
  have HC := Lib.hid (sContainsFuncL_any 66 #[.pointer (some ⟨w.heap.size, 0, none⟩)] A c ks (fun k => !isKey m k) (w.alloc (.cells #[.int .i64 m.c, .int .i64 m.d, .int .i64 m.s, .int .i64 m.a, .int .i64 m.l] 30)) (h.below B0) (enters Tryz.func66 (by kernel_rfl) rfl)
    (fun j hj W A' c' hW hcc hr => areKeysClo_any m w.heap.size A' c' ks[j] W hr hcc hm (bm.below hW)))
  have HN := Lib.hid (not_any_not m ks)
  clear bm
  go_enter Tryz.func49, Tryz.ntmps49
  go_wp2_with fail
  refine HC.out.mono ?_
  rintro e w1 ⟨rfl, b1⟩
  go_wp2_with fail
  go_ret
  exact ⟨retB HN.out, B0.trans (b1.mono B0.size)⟩
end Go.Proofs.YtapocenhmdcfoaaGreat
