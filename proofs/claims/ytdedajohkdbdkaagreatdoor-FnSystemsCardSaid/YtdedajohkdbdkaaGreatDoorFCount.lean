/- Contract of countKeys. -/
import Derived.Test.YtdedajohkdbdkaaGreatDoorFEach2
namespace Go.Proofs.YtdedajohkdbdkaaGreatDoor
set_option linter.unusedVariables false
open Go.RowKit
/-- what tells which cuts are allowed, in every world that keeps what was there -/
structure AlB (ka : FuncId) (capA : Array Value) (al : Nat → Int → Bool) (m : Mk) (w : World) : Prop where
  ent : Enters Tryz.prog ka
  call : ∀ w', Below w.heap.size w w' → ∀ (ch : Nat) (d : Int), (ch : Int) < m.c → 0 ≤ d → d < m.d → Calls Tryz.prog ka (#[.int .i64 (ch : Int), .int .i64 d] ++ capA) w' fun e w'' => e = .returned (.bool (al ch d)) ∧ Below w'.heap.size w' w''
theorem AlB.ok {ka : FuncId} {capA : Array Value} {al : Nat → Int → Bool} {m : Mk} {w W : World} {F : Nat → Prop} (h : AlB ka capA al m w) (hb : Below w.heap.size w W) (hF : ∀ g, F g → w.heap.size ≤ g) : AlOK ka capA al m W F :=
  ⟨h.ent, fun w' hk => h.call w' (hb.trans (hk.toBelow hb.size (fun g hg e => by have := hF g e; omega)))⟩
theorem AlB.below {ka : FuncId} {capA : Array Value} {al : Nat → Int → Bool} {m : Mk} {w W : World} (h : AlB ka capA al m w) (hb : Below w.heap.size w W) : AlB ka capA al m W :=
  ⟨h.ent, fun w' hk => h.call w' (hb.trans (hk.mono hb.size))⟩
def visCnt (s : Int) (k : List Int) : Bool × Int := (true, wrap64 (s + 1))
theorem runVis_cnt : ∀ (ks : List (List Int)) (n : Nat), n + ks.length ≤ 1000000000 → runVis visCnt (n : Int) ks = (true, ((n + ks.length : Nat) : Int))
  | [], n, h => by simp [runVis]
  | k :: ks, n, h => by
    rw [List.length_cons] at h
    have e : wrap64 ((n : Int) + 1) = ((n + 1 : Nat) : Int) := by unfold wrap64; omega
    rw [runVis, visCnt, if_pos rfl]
    simp only [e]
    rw [runVis_cnt ks (n + 1) (by omega), List.length_cons]
    congr 2; omega
/-- the count lies in block g -/
def RCnt (g : Nat) (n : Int) (w : World) (F : Nat → Prop) : Prop := (∀ x, F x ↔ x = g) ∧ w.cell? ⟨g, 0, none⟩ = some (.int .i64 n) ∧ w.frozen? ⟨g, 0, none⟩ = false
theorem RCnt.lt (g : Nat) (s : Int) (w : World) (F : Nat → Prop) (h : RCnt g s w F) : ∀ x, F x → x < w.heap.size := fun x hx => by
  have := (h.1 x).1 hx; subst this; exact World.block_lt_of_cell? w _ h.2.1
theorem RCnt.fr (g : Nat) (s : Int) (w w' : World) (F : Nat → Prop) (h : RCnt g s w F) (k : KeepF (fun x => ¬ F x) w w') : RCnt g s w' F := by
  have hg := World.block_lt_of_cell? w _ h.2.1
  have hn : ¬ ¬ F g := fun e => e ((h.1 g).2 rfl)
  exact ⟨h.1, (k.cell (p := ⟨g, 0, none⟩) hg hn).trans h.2.1, (k.frozen (p := ⟨g, 0, none⟩) hg hn).trans h.2.2⟩
theorem keys_few (m : Mk) (hm : isMaker m = true) (al : Nat → Int → Bool) : (keysG m al [] m.c.toNat [] false).length ≤ 262144 := by
  have h := keysG_len m al [] (mk_bounds hm).2.2.2.1 (fun k => by simp) m.c.toNat [] false
  have h6 : 8 ^ m.c.toNat ≤ 8 ^ 6 := Nat.pow_le_pow_right (by omega) (by have := (mk_bounds hm).2.1; omega)
  omega
end Go.Proofs.YtdedajohkdbdkaaGreatDoor
