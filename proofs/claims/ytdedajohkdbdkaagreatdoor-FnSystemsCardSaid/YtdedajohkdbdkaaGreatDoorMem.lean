/- Words for memory: a slice that reads as a list, a row of the call's own, append. No dump. -/
import Derived.WalkKit
import Derived.WalkSpells
import Derived.WalkLawsBesides
import Derived.Lib.Hide
import Derived.Deep.Draws
import Derived.Deep.AppendLies
import Derived.Maps.AppendAt
import Derived.Deep.QuietTactic
import Derived.BigQuiet
import Derived.Deep.RegionHeld3
import Derived.Test.YtdedajohkdbdkaaGreatDoorRows
import Derived.Shelf.Abstract
import Derived.Lib.SlicesCompact
namespace Go.Proofs.YtdedajohkdbdkaaGreatDoor
set_option linter.unusedVariables false
open Go.RowKit

theorem retB {a b : Bool} (h : a = b) : Ending.returned (.bool a) = .returned (.bool b) := by rw [h]
theorem retI {k : IntKind} {a b : Int} (h : a = b) : Ending.returned (.int k a) = .returned (.int k b) := by rw [h]
theorem drewEx {w : World} {n m : Nat} : ∃ k, (w.drewN n).drewN m = w.drewN k := ⟨_, World.drewN_drewN _ _ _⟩
theorem belowD {B : Nat} {a w : World} (h : Below B a w) (n : Nat) : Below B a (w.drewN n) := ⟨h.os, h.tape, h.output, h.size, h.block⟩
theorem bcell {W w1 : World} (hb : Below W.heap.size W w1) : (∀ b o, b < W.heap.size → w1.cell? ⟨b, o, none⟩ = W.cell? ⟨b, o, none⟩) ∧ (∀ b o, b < W.heap.size → w1.frozen? ⟨b, o, none⟩ = W.frozen? ⟨b, o, none⟩) :=
  ⟨fun b o h => hb.cell (p := ⟨b, o, none⟩) h, fun b o h => hb.frozen (p := ⟨b, o, none⟩) h⟩

theorem cell_in {B : Nat} {W w : World} {a : Addr} {v : Value} (hb : Below B W w) (ha : a.block < B) (h : W.cell? a = some v) : w.cell? a = some v := (hb.cell ha).trans h
/-! quiet calls: of contracts that state 'w = w'' (S) or draws (Q); the caller's world bare, or drawn already (A) -/
section
variable {P : Program} {f : FuncId} {args : Array Value} {w : World} {a n : Nat} {v : Value}
theorem quietS (h : Calls P f args (w.drewN n) fun e w' => e = .returned v ∧ w.drewN n = w') : Calls P f args (w.drewN n) fun e w'' => e = .returned v ∧ ∃ m, w'' = w.drewN m :=
  h.mono fun _ _ ⟨he, hm⟩ => ⟨he, n, hm.symm⟩
theorem quietSA (h : Calls P f args (w.drewN (a + n)) fun e w' => e = .returned v ∧ w.drewN (a + n) = w') : Calls P f args (w.drewN (a + n)) fun e w'' => e = .returned v ∧ ∃ m, w'' = w.drewN (a + m) :=
  h.mono fun _ _ ⟨he, hm⟩ => ⟨he, n, hm.symm⟩
theorem quietQ (h : Calls P f args (w.drewN n) fun e w' => e = .returned v ∧ ∃ m, w' = (w.drewN n).drewN m) : Calls P f args (w.drewN n) fun e w'' => e = .returned v ∧ ∃ m, w'' = w.drewN m :=
  h.mono fun _ _ ⟨he, m, hm⟩ => ⟨he, n + m, by rw [hm, World.drewN_drewN]⟩
theorem quietQA (h : Calls P f args (w.drewN (a + n)) fun e w' => e = .returned v ∧ ∃ m, w' = (w.drewN (a + n)).drewN m) : Calls P f args (w.drewN (a + n)) fun e w'' => e = .returned v ∧ ∃ m, w'' = w.drewN (a + m) :=
  h.mono fun _ _ ⟨he, m, hm⟩ => ⟨he, n + m, by rw [hm, World.drewN_drewN, Nat.add_assoc]⟩
end

/-- the cells of a row of int64 -/
def ints (xs : List Int) : List Value := xs.map (Value.int .i64)
theorem ints_length (xs : List Int) : (ints xs).length = xs.length := by simp [ints]
theorem ints_get {xs : List Int} {j : Nat} {x : Int} (h : xs[j]? = some x) : (ints xs)[j]? = some (.int .i64 x) := by simp [ints, h]
theorem ints_one (xs : List Int) : ∀ u ∈ ints xs, u.oneCell' = true := ints_oneCell _ _
theorem ints_append (xs ys : List Int) : ints (xs ++ ys) = ints xs ++ ints ys := by simp [ints]
theorem ints_take (xs : List Int) (k : Nat) : ints (xs.take k) = (ints xs).take k := by simp [ints]

/-- A slice's address A and the cells us that it reads in w. -/
def RV (w : World) (A : Option Addr) (us : List Value) : Prop :=
  us.length ≤ 9223372036854775807 ∧ (us ≠ [] → ∃ b o, A = some ⟨b, o, none⟩ ∧ ∀ j u, us[j]? = some u → w.cell? ⟨b, o + j, none⟩ = some u)
/-- A slice of int64 that reads as xs. -/
def RI (w : World) (A : Option Addr) (xs : List Int) : Prop := RV w A (ints xs)
/-- A slice of slices of int64. -/
def RII (w : World) (A : Option Addr) (xss : List (List Int)) : Prop :=
  ∃ us, us.length = xss.length ∧ RV w A us ∧ ∀ j (hj : j < xss.length), ∃ A' c, us[j]? = some (.slice A' xss[j].length c) ∧ xss[j].length ≤ c ∧ RI w A' xss[j]

section
variable {w w' : World} {A : Option Addr} {us : List Value} {xs : List Int} {xss : List (List Int)}
theorem RV.keep (h : RV w A us) (hk : ∀ b o, b < w.heap.size → w'.cell? ⟨b, o, none⟩ = w.cell? ⟨b, o, none⟩) : RV w' A us := by
  refine ⟨h.1, fun hn => ?_⟩
  obtain ⟨b, o, rfl, hc⟩ := h.2 hn
  exact ⟨b, o, rfl, fun j u hu => (hk b _ (World.block_lt_of_cell? w _ (hc j u hu))).trans (hc j u hu)⟩
theorem RV.below (h : RV w A us) (hb : Below w.heap.size w w') : RV w' A us := h.keep (bcell hb).1
theorem RI.below (h : RI w A xs) (hb : Below w.heap.size w w') : RI w' A xs := RV.below h hb
theorem RII.below (h : RII w A xss) (hb : Below w.heap.size w w') : RII w' A xss := by
  obtain ⟨us, h1, h2, h3⟩ := h
  exact ⟨us, h1, h2.below hb, fun j hj => by obtain ⟨A', c, a, b, d⟩ := h3 j hj; exact ⟨A', c, a, b, d.below hb⟩⟩
theorem RV.alloc (h : RV w A us) (o : Obj) : RV (w.alloc o) A us := h.below ((Below.refl _ _).alloc (Nat.le_refl _) o)
theorem RI.alloc (h : RI w A xs) (o : Obj) : RI (w.alloc o) A xs := RV.alloc h o
theorem RII.alloc (h : RII w A xss) (o : Obj) : RII (w.alloc o) A xss := h.below ((Below.refl _ _).alloc (Nat.le_refl _) o)
theorem RV.drewN (h : RV w A us) (n : Nat) : RV (w.drewN n) A us := h
theorem RI.drewN (h : RI w A xs) (n : Nat) : RI (w.drewN n) A xs := h
theorem RII.drewN (h : RII w A xss) (n : Nat) : RII (w.drewN n) A xss := h
theorem RI.le (h : RI w A xs) : xs.length ≤ 9223372036854775807 := by have := h.1; simpa [ints] using this
theorem RII.le (h : RII w A xss) : xss.length ≤ 9223372036854775807 := by obtain ⟨us, h1, h2, _⟩ := h; have := h2.1; omega
theorem RV.at_ (h : RV w A us) {k : Nat} (hk : k < us.length) : ∃ b o, A = some ⟨b, o, none⟩ ∧ w.cell? ⟨b, o + k, none⟩ = some us[k] := by
  obtain ⟨b, o, rfl, hc⟩ := h.2 (by intro e; subst e; simp at hk)
  exact ⟨b, o, rfl, hc k _ (List.getElem?_eq_getElem hk)⟩
/-- In a round: the address and the cell. -/
theorem RI.at_ (h : RI w A xs) {k : Nat} (hk : k < xs.length) : ∃ b o, A = some ⟨b, o, none⟩ ∧ w.cell? ⟨b, o + k, none⟩ = some (.int .i64 xs[k]) := by
  obtain ⟨b, o, rfl, hc⟩ := RV.at_ h (k := k) (by rw [ints_length]; exact hk)
  exact ⟨b, o, rfl, by rw [hc]; simp [ints]⟩
theorem RII.at_ (h : RII w A xss) {k : Nat} (hk : k < xss.length) :
    ∃ b o A' c, A = some ⟨b, o, none⟩ ∧ w.cell? ⟨b, o + k, none⟩ = some (.slice A' xss[k].length c) ∧ xss[k].length ≤ c ∧ RI w A' xss[k] := by
  obtain ⟨us, h1, h2, h3⟩ := h
  obtain ⟨A', c, hu, hc, hr⟩ := h3 k hk
  obtain ⟨b, o, rfl, hcell⟩ := h2.at_ (k := k) (by omega)
  refine ⟨b, o, A', c, rfl, ?_, hc, hr⟩
  rw [hcell, ← hu, List.getElem?_eq_getElem]
/-- Two rows of one table. -/
theorem RII.at2 (h : RII w A xss) {k j : Nat} (hk : k < xss.length) (hj : j < xss.length) :
    ∃ b o A1 c1 A2 c2, A = some ⟨b, o, none⟩ ∧ w.cell? ⟨b, o + k, none⟩ = some (.slice A1 xss[k].length c1) ∧ xss[k].length ≤ c1 ∧ RI w A1 xss[k] ∧
      w.cell? ⟨b, o + j, none⟩ = some (.slice A2 xss[j].length c2) ∧ xss[j].length ≤ c2 ∧ RI w A2 xss[j] := by
  obtain ⟨b, o, A1, c1, rfl, h1, h2, h3⟩ := h.at_ hk
  obtain ⟨b', o', A2, c2, e, g1, g2, g3⟩ := h.at_ hj
  injection e with e
  injection e with e1 e2
  subst e1 e2
  exact ⟨b, o, A1, c1, A2, c2, rfl, h1, h2, h3, g1, g2, g3⟩
theorem RI.nil : RI w A [] := ⟨by simp [ints], fun h => absurd rfl h⟩
theorem RII.nil : RII w A [] := ⟨[], rfl, ⟨by simp, fun h => absurd rfl h⟩, fun j hj => by simp at hj⟩
theorem RV.take (h : RV w A us) (k : Nat) : RV w A (us.take k) := by
  refine ⟨by have := h.1; simp; omega, fun hn => ?_⟩
  obtain ⟨b, o, rfl, hc⟩ := h.2 (by rintro rfl; simp at hn)
  refine ⟨b, o, rfl, fun j u hu => ?_⟩
  rw [List.getElem?_take] at hu
  split at hu
  · exact hc j u hu
  · cases hu
theorem RI.take (h : RI w A xs) (k : Nat) : RI w A (xs.take k) := by unfold RI; rw [ints_take]; exact RV.take h k
end

/-! ### rows of the call's own -/
/-- The slice v is nil, or lies at the head of a block from B on, unfrozen, of type e: its cells are us. -/
def OV (w : World) (B : Nat) (e : TypeId) (v : Value) (us : List Value) : Prop := w.ownsRow B e 1 v us.length us

section
variable {w w' : World} {B e : Nat} {v : Value} {us : List Value}
theorem OV.reads (h : OV w B e v us) : ∃ A c, v = .slice A us.length c ∧ us.length ≤ c ∧ RV w A us := by
  rcases h.2 with ⟨rfl, hn⟩ | ⟨g, cap, cur, rfl, hb, hh, hc, hm, hs, ht⟩
  · have : us = [] := List.eq_nil_of_length_eq_zero hn
    subst this
    exact ⟨none, 0, rfl, by simp, by simp, fun h => absurd rfl h⟩
  · refine ⟨some ⟨g, 0, none⟩, cap, rfl, hc, by simp only [maxLen] at hm; omega, fun _ => ⟨g, 0, rfl, fun j u hu => ?_⟩⟩
    have := h.cells (g := g) rfl j u hu
    rw [Addr.add_lit] at this
    exact this
theorem OV.below {C : Nat} (h : OV w B e v us) (hb : Below C w w') (hC : ∀ g, v.ownBlock = some g → g < C) : OV w' B e v us := by
  refine ⟨h.1, ?_⟩
  rcases h.2 with hn | ⟨g, cap, cur, rfl, hB, hh, r⟩
  · exact .inl hn
  · exact .inr ⟨g, cap, cur, rfl, hB, (hb.block g (hC g rfl)).trans hh, r⟩
theorem OV.below' (h : OV w B e v us) (hb : Below w.heap.size w w') : OV w' B e v us := h.below hb fun g hg => (h.lt g hg).2
theorem OV.alloc (h : OV w B e v us) (o : Obj) : OV (w.alloc o) B e v us := h.below' ((Below.refl _ _).alloc (Nat.le_refl _) o)
theorem OV.drewN (h : OV w B e v us) (n : Nat) : OV (w.drewN n) B e v us := h
theorem OV.own {C : Nat} {a : World} (h : OV w B e v us) (hC : C ≤ B) (hb : Below C a w) (hg : w.grownBy w' v.ownBlock) (hs : C ≤ w.heap.size) : Below C a w' :=
  hb.grown hg hs fun k hk => Nat.le_trans hC (h.lt k hk).1
theorem OV.mono {B' : Nat} (h : OV w B e v us) (hB : B' ≤ B) : OV w B' e v us := by
  refine ⟨h.1, ?_⟩
  rcases h.2 with hn | ⟨g, cap, cur, rfl, hB2, r⟩
  · exact .inl hn
  · exact .inr ⟨g, cap, cur, rfl, by omega, r⟩
theorem OV.nil : OV w B e (.slice none 0 0) [] := World.ownsRow_nil _ _ _ _
theorem OV.new (cs : Array Value) (hB : B ≤ w.heap.size) (hm : cs.size ≤ maxLen) : OV (w.alloc (.cells cs e)) B e (.slice (some ⟨w.heap.size, 0, none⟩) cs.size cs.size) cs.toList := by
  have h := World.ownsRow_lit (base := B) (e := e) (size := 1) w cs cs.size hB hm (by simp)
  unfold OV; simpa using h
theorem OV.new0 {w : World} {B e : Nat} (hB : B ≤ w.heap.size) : OV (w.alloc (.cells #[] e)) B e (.slice (some ⟨w.heap.size, 0, none⟩) 0 0) [] := OV.new (w := w) #[] hB (by simp)
theorem OV.drew (h : OV w B e v us) : OV w.drew B e v us := h
theorem belowG {a : World} {C : Nat} {row : Option Nat} (h : Below C a w) (hg : w.grownBy w' row) (hC : C ≤ w.heap.size) (hr : ∀ k, row = some k → C ≤ k) : Below C a w' := h.grown hg hC hr
end

/-! ### append of whatever reads as news, onto a row of the call's own -/
section
variable {P : Program} (w : World)
theorem run_app (B : Nat) (t ty e : TypeId) (i : TypeInfo) (z : Value) (bytes : Nat) (ht : P.underlying t = some (.slice e)) (hi : P.info? e = some i) (hz : i.zero = some z)
    (hsize : i.size = 1) (hby : i.bytes = bytes) (hzs : z.cells.size = 1) (v : Value) (us : List Value) (hown : OV w B e v us)
    (A : Option Addr) (c : Nat) (news : List Value) (hr : RV w A news) (h1 : ∀ u ∈ news, u.oneCell' = true)
    (hb : (us.length + news.length) * bytes ≤ 140737488355328) (hb2 : us.length + news.length ≤ 140737488355328) (hB : B ≤ w.heap.size) :
    ∃ v' w', (Builtin.append_ #[t, t] ty #[v, .slice A news.length c]).run P w = .ok v' w' ∧ OV w' B e v' (us ++ news) ∧ w.grownBy w' v.ownBlock ∧
      (v' = .slice none 0 0 ↔ v = .slice none 0 0 ∧ news = []) ∧ (v'.ownBlock = v.ownBlock ∨ v'.ownBlock = some w.heap.size) := by
  by_cases hn : news = []
  · subst hn
    have hrun : (Builtin.append_ #[t, t] ty #[v, .slice A 0 c]).run P w = .ok v w := by
      rcases hown.2 with ⟨rfl, hl⟩ | ⟨g, cap, cur, rfl, _, _, hnc, _⟩
      · cases A <;> simp [Builtin.append_, run_underlying ht, sizeOf, typeInfo, hi, Builtin.lenOf, Builtin.firstCells, loadCells, loadCellsFrom]
      · cases A <;> simp [Builtin.append_, run_underlying ht, sizeOf, typeInfo, hi, Builtin.lenOf, Builtin.firstCells, hnc, storeCells, loadCells, loadCellsFrom]
    exact ⟨v, w, hrun, by simpa [OV] using hown, World.grownBy.refl w _, by simp, .inl rfl⟩
  · obtain ⟨b, o, rfl, hc⟩ := hr.2 hn
    have hlen : 0 < news.length := List.length_pos_iff.2 hn
    obtain ⟨v', w', hrun, h2, h3, h4, h5⟩ := run_append_own_at (P := P) w B t ty e i z 1 bytes ht hi hz hsize hby hzs (by omega) v us.length us hown ⟨b, o, none⟩ news.length c news (by omega)
      (fun j u hu => by rw [Addr.add_lit]; exact hc j u hu) h1 (by simp only [maxLen]; omega) hb hB
    refine ⟨v', w', hrun, by unfold OV; rw [List.length_append]; exact h2, h3, ?_, h5⟩
    rw [h4]
    constructor
    · rintro ⟨_, h⟩; omega
    · rintro ⟨_, h⟩; exact absurd h hn

theorem wpList_app {ops : Array Oper} {rest : List Oper} {o : Oper} {a : Act} {Q : Exit → Act → World → Prop} (hgd : o.guard = none) (s x : Operand) (t : TypeId)
    (ho : o.op = .call { callee := .builtin .append, args := #[s, x], argTypes := #[t, t] })
    (B : Nat) (e : TypeId) (z : Value) (bytes : Nat) (ht : P.underlying t = some (.slice e)) (hinf : (P.info? e).map (fun i => (i.zero, i.size, i.bytes)) = some (some z, 1, bytes)) (hzs : z.cells.size = 1)
    (v : Value) (us : List Value) (hs : a.eval s = v) (hown : OV w B e v us)
    (A : Option Addr) (m c : Nat) (news : List Value) (hx : a.eval x = .slice A m c) (hm : m = news.length) (hr : RV w A news) (h1 : ∀ u ∈ news, u.oneCell' = true)
    (hb : (us.length + news.length) * bytes ≤ 140737488355328) (hb2 : us.length + news.length ≤ 140737488355328) (hB : B ≤ w.heap.size)
    (h : ∀ v' w', OV w' B e v' (us ++ news) → w.grownBy w' v.ownBlock → (v' = .slice none 0 0 ↔ v = .slice none 0 0 ∧ news = []) → (v'.ownBlock = v.ownBlock ∨ v'.ownBlock = some w.heap.size) → wpList P ops Q rest (a.put o.dst v') w') :
    wpList P ops Q (o :: rest) a w := by
  subst hm
  refine wpList_plain hgd fun K hK => ?_
  obtain ⟨i, hi, hz, hsz, hby⟩ := info_parts hinf
  obtain ⟨v', w', hrun, h2, h3, h4, h5⟩ := run_app (P := P) w B t o.type e i z bytes ht hi hz hsz hby hzs v us hown A c news hr h1 hb hb2 hB
  unfold Oper.wp execOp
  simp only [ho, resolve, invoke, builtin, Sem.run_bind, Sem.run_pure, Result.andThen_ok, List.map_toArray, List.map_cons, List.map_nil, hs, hx, hrun]
  exact hK _ _ (h v' w' h2 h3 h4 h5)
end

section
variable {P : Program} (w : World)
theorem step_app {ops : Array Oper} {o : Oper} {a : Act} {K : Act → World → Prop} {Q : Exit → Act → World → Prop} {E : Prop} (hgd : o.guard = none) (s x : Operand) (t : TypeId)
    (ho : o.op = .call { callee := .builtin .append, args := #[s, x], argTypes := #[t, t] })
    (B : Nat) (e : TypeId) (z : Value) (bytes : Nat) (ht : P.underlying t = some (.slice e)) (hinf : (P.info? e).map (fun i => (i.zero, i.size, i.bytes)) = some (some z, 1, bytes)) (hzs : z.cells.size = 1)
    (v : Value) (us : List Value) (hs : a.eval s = v) (hown : OV w B e v us)
    (A : Option Addr) (m c : Nat) (news : List Value) (hx : a.eval x = .slice A m c) (hm : m = news.length) (hr : RV w A news) (h1 : ∀ u ∈ news, u.oneCell' = true)
    (hb : (us.length + news.length) * bytes ≤ 140737488355328) (hb2 : us.length + news.length ≤ 140737488355328) (hB : B ≤ w.heap.size)
    (h : ∀ v' w', OV w' B e v' (us ++ news) → w.grownBy w' v.ownBlock → (v' = .slice none 0 0 ↔ v = .slice none 0 0 ∧ news = []) → (v'.ownBlock = v.ownBlock ∨ v'.ownBlock = some w.heap.size) → K (a.put o.dst v') w') :
    if Region.wanted o (yielded ops a.tmps) = true then Oper.wp P o a w K Q else E := by
  subst hm
  have hw : Region.wanted o (yielded ops a.tmps) = true := by simp [Region.wanted, hgd]
  rw [if_pos hw]
  obtain ⟨i, hi, hz, hsz, hby⟩ := info_parts hinf
  obtain ⟨v', w', hrun, h2, h3, h4, h5⟩ := run_app (P := P) w B t o.type e i z bytes ht hi hz hsz hby hzs v us hown A c news hr h1 hb hb2 hB
  unfold Oper.wp execOp
  simp only [ho, resolve, invoke, builtin, Sem.run_bind, Sem.run_pure, Result.andThen_ok, List.map_toArray, List.map_cons, List.map_nil, hs, hx, hrun]
  exact h v' w' h2 h3 h4 h5
end
theorem one_cell (w : World) (x : Value) (t : TypeId) : (w.alloc (.cells #[x] t)).cell? ⟨w.heap.size, 0, none⟩ = some x := by simp
theorem one_cell' {w : World} {x : Value} {t : TypeId} {g : Nat} (hg : g = w.heap.size) : (w.alloc (.cells #[x] t)).cell? ⟨g, 0, none⟩ = some x := by subst hg; simp
/-- the one new cell of 'append(out, x)' -/
theorem RV.one (w : World) (x : Value) (t : TypeId) : RV (w.alloc (.cells #[x] t)) (some ⟨w.heap.size, 0, none⟩) [x] := by
  refine ⟨by simp, fun _ => ⟨w.heap.size, 0, rfl, fun j u hu => ?_⟩⟩
  match j, hu with
  | 0, hu => simp at hu; subst hu; simp
  | j + 1, hu => simp at hu

/-! ### a made row that is filled cell by cell -/
/-- what a made row of n int64 looks like when its first k cells have been filled -/
def fill (xs : List Int) (k : Nat) : Array Value := (ints (xs.take k) ++ List.replicate (xs.length - k) (Value.int .i64 0)).toArray
theorem fill_zero (xs : List Int) : madeCells #[.int .i64 0] xs.length = fill xs 0 := by
  apply Array.toList_inj.1
  rw [toList_madeCells_one]; simp [fill, ints]
theorem fill_step {xs : List Int} {k : Nat} (hk : k < xs.length) : (fill xs k).setIfInBounds k (.int .i64 xs[k]) = fill xs (k + 1) := by
  apply Array.toList_inj.1
  have hl : (ints (xs.take k)).length = k := by simp [ints]; omega
  simp only [fill, Array.toList_setIfInBounds, List.set_append, hl, Nat.lt_irrefl, if_false, Nat.sub_self]
  obtain ⟨m, hm⟩ : ∃ m, xs.length - k = m + 1 := ⟨xs.length - k - 1, by omega⟩
  rw [hm, List.replicate_succ, List.set_cons_zero, show xs.length - (k + 1) = m by omega, List.take_succ_eq_append_getElem hk]
  simp only [ints, List.map_append, List.map_cons, List.map_nil, List.append_assoc, List.cons_append, List.nil_append]
theorem fill_size (xs : List Int) (k : Nat) (hk : k ≤ xs.length) : (fill xs k).size = xs.length := by simp [fill, ints]; omega
theorem fill_all (xs : List Int) : fill xs xs.length = (ints xs).toArray := by simp [fill]

/-- append(out, y) of one number, of one slice -/
theorem RV.of_cell {w : World} {g : Nat} {x : Value} (h : w.cell? ⟨g, 0, none⟩ = some x) : RV w (some ⟨g, 0, none⟩) [x] := by
  refine ⟨by simp, fun _ => ⟨g, 0, rfl, fun j u hu => ?_⟩⟩
  match j, hu with
  | 0, hu => simp at hu; subst hu; exact h
  | j + 1, hu => simp at hu
section
variable {P : Program} (w : World) {ops : Array Oper} {rest : List Oper} {o : Oper} {a : Act} {Q : Exit → Act → World → Prop}
theorem wpList_app1 (hgd : o.guard = none) (s x : Operand) (t : TypeId) (ho : o.op = .call { callee := .builtin .append, args := #[s, x], argTypes := #[t, t] })
    (B : Nat) (e : TypeId) (z : Value) (bytes : Nat) (ht : P.underlying t = some (.slice e)) (hinf : (P.info? e).map (fun i => (i.zero, i.size, i.bytes)) = some (some z, 1, bytes)) (hzs : z.cells.size = 1) (hby : bytes ≤ 64)
    (v : Value) (us : List Value) (hs : a.eval s = v) (hown : OV w B e v us) (g : Nat) (y : Value) (hx : a.eval x = .slice (some ⟨g, 0, none⟩) 1 1) (hc : w.cell? ⟨g, 0, none⟩ = some y) (h1 : y.oneCell' = true)
    (hl : us.length ≤ 1073741824) (hB : B ≤ w.heap.size)
    (h : ∀ v' w', OV w' B e v' (us ++ [y]) → w.grownBy w' v.ownBlock → ¬ v' = .slice none 0 0 → (v'.ownBlock = v.ownBlock ∨ v'.ownBlock = some w.heap.size) → wpList P ops Q rest (a.put o.dst v') w') : wpList P ops Q (o :: rest) a w :=
  wpList_app w hgd s x t ho B e z bytes ht hinf hzs v us hs hown _ 1 1 [y] hx rfl (RV.of_cell hc) (by simpa using h1)
    (Nat.le_trans (Nat.mul_le_mul (show us.length + [y].length ≤ 1073741825 by simp; omega) hby) (by omega)) (by simp; omega) hB fun v' w' a b c d => h v' w' a b (by rw [c]; simp) d
theorem step_app1 {K : Act → World → Prop} {E : Prop} (hgd : o.guard = none) (s x : Operand) (t : TypeId) (ho : o.op = .call { callee := .builtin .append, args := #[s, x], argTypes := #[t, t] })
    (B : Nat) (e : TypeId) (z : Value) (bytes : Nat) (ht : P.underlying t = some (.slice e)) (hinf : (P.info? e).map (fun i => (i.zero, i.size, i.bytes)) = some (some z, 1, bytes)) (hzs : z.cells.size = 1) (hby : bytes ≤ 64)
    (v : Value) (us : List Value) (hs : a.eval s = v) (hown : OV w B e v us) (g : Nat) (y : Value) (hx : a.eval x = .slice (some ⟨g, 0, none⟩) 1 1) (hc : w.cell? ⟨g, 0, none⟩ = some y) (h1 : y.oneCell' = true)
    (hl : us.length ≤ 1073741824) (hB : B ≤ w.heap.size)
    (h : ∀ v' w', OV w' B e v' (us ++ [y]) → w.grownBy w' v.ownBlock → ¬ v' = .slice none 0 0 → (v'.ownBlock = v.ownBlock ∨ v'.ownBlock = some w.heap.size) → K (a.put o.dst v') w') :
    if Region.wanted o (yielded ops a.tmps) = true then Oper.wp P o a w K Q else E :=
  step_app w hgd s x t ho B e z bytes ht hinf hzs v us hs hown _ 1 1 [y] hx rfl (RV.of_cell hc) (by simpa using h1)
    (Nat.le_trans (Nat.mul_le_mul (show us.length + [y].length ≤ 1073741825 by simp; omega) hby) (by omega)) (by simp; omega) hB fun v' w' a b c d => h v' w' a b (by rw [c]; simp) d
end

/-! ### ranges of blocks -/
/-- Only blocks from lo to hi - 1, and new ones, may have turned. -/
structure Only (lo hi : Nat) (w w' : World) : Prop where
  os : w'.os = w.os
  tape : w'.tape = w.tape
  output : w'.output = w.output
  size : w.heap.size ≤ w'.heap.size
  block : ∀ k, k < w.heap.size → (k < lo ∨ hi ≤ k) → w'.heap[k]? = w.heap[k]?
theorem Only.refl (lo hi : Nat) (w : World) : Only lo hi w w := ⟨rfl, rfl, rfl, Nat.le_refl _, fun _ _ _ => rfl⟩
theorem Only.trans {lo hi : Nat} {a b c : World} (h : Only lo hi a b) (k : Only lo hi b c) : Only lo hi a c :=
  ⟨k.os.trans h.os, k.tape.trans h.tape, k.output.trans h.output, Nat.le_trans h.size k.size, fun i hi hj => (k.block i (Nat.lt_of_lt_of_le hi h.size) hj).trans (h.block i hi hj)⟩
theorem Only.grown {lo hi : Nat} {a w w' : World} {row : Option Nat} (h : Only lo hi a w) (hg : w.grownBy w' row) (hr : ∀ g, row = some g → lo ≤ g ∧ g < hi) : Only lo hi a w' :=
  h.trans ⟨hg.os, hg.tape, hg.output, hg.size, fun k hk hj => hg.block k hk (fun e => by have := hr k e.symm; omega)⟩
theorem Only.below {lo hi : Nat} {w w' : World} (h : Only lo hi w w') (hl : lo ≤ w.heap.size) : Below lo w w' := ⟨h.os, h.tape, h.output, h.size, fun k hk => h.block k (by omega) (.inl hk)⟩
theorem Only.drewN {lo hi : Nat} {a w : World} (h : Only lo hi a w) (n : Nat) : Only lo hi a (w.drewN n) := ⟨h.os, h.tape, h.output, h.size, h.block⟩

/-- The slice v owns the cells us, in a block from B to C - 1. -/
def OR (w : World) (B C e : Nat) (v : Value) (us : List Value) : Prop := OV w B e v us ∧ ∀ g, v.ownBlock = some g → g < C
/-- The slice v owns a row of slices, each of which owns its numbers; no two of them share a block; all in blocks from B to C - 1. -/
def OII (w : World) (B C : Nat) (v : Value) (xss : List (List Int)) : Prop :=
  ∃ us, us.length = xss.length ∧ OR w B C 44 v us ∧ (∀ j (hj : j < xss.length), ∃ u, us[j]? = some u ∧ OR w B C 2 u (ints xss[j])) ∧
    ∀ (i j : Nat) (u u' : Value), i ≠ j → us[i]? = some u → us[j]? = some u' → ∀ g, u.ownBlock = some g → u'.ownBlock ≠ some g
/-- The same with the rows' values named. -/
def OIIu (w : World) (B C : Nat) (v : Value) (us : List Value) (xss : List (List Int)) : Prop :=
  us.length = xss.length ∧ OR w B C 44 v us ∧ (∀ j (hj : j < xss.length), ∃ u, us[j]? = some u ∧ OR w B C 2 u (ints xss[j])) ∧
    ∀ (i j : Nat) (u u' : Value), i ≠ j → us[i]? = some u → us[j]? = some u' → ∀ g, u.ownBlock = some g → u'.ownBlock ≠ some g
theorem OIIu.ex {w : World} {B C : Nat} {v : Value} {us : List Value} {xss : List (List Int)} (h : OIIu w B C v us xss) : OII w B C v xss := ⟨us, h⟩
/-- The slice v owns the numbers xs. -/
abbrev OI (w : World) (B C : Nat) (v : Value) (xs : List Int) : Prop := OR w B C 2 v (ints xs)

section
variable {w w' : World} {B C e lo hi : Nat} {v : Value} {us : List Value} {xs : List Int} {xss : List (List Int)}
theorem OR.keep (h : OR w B C e v us) (hk : ∀ g, B ≤ g → g < C → w'.heap[g]? = w.heap[g]?) : OR w' B C e v us := by
  obtain ⟨h, hC⟩ := h
  refine ⟨⟨h.1, ?_⟩, hC⟩
  rcases h.2 with hn | ⟨g, cap, cur, rfl, hB, hh, r⟩
  · exact .inl hn
  · exact .inr ⟨g, cap, cur, rfl, hB, (hk g hB (hC g rfl)).trans hh, r⟩
theorem OR.below (h : OR w B C e v us) (hb : Below C w w') : OR w' B C e v us := h.keep fun g _ hg => hb.block g hg
theorem OR.only (h : OR w B C e v us) (ho : Only lo hi w w') (hd : C ≤ lo ∨ hi ≤ B) : OR w' B C e v us := by
  obtain ⟨h, hC⟩ := h
  refine ⟨⟨h.1, ?_⟩, hC⟩
  rcases h.2 with hn | ⟨g, cap, cur, rfl, hB, hh, r⟩
  · exact .inl hn
  · have hg := hC g rfl
    exact .inr ⟨g, cap, cur, rfl, hB, (ho.block g (Array.getElem?_eq_some_iff.1 hh).1 (by omega)).trans hh, r⟩
theorem OV.toOR (h : OV w B e v us) : OR w B w.heap.size e v us := ⟨h, fun g hg => (h.lt g hg).2⟩
theorem OR.wide {B' C' : Nat} (h : OR w B C e v us) (hB : B' ≤ B) (hC : C ≤ C') : OR w B' C' e v us := ⟨h.1.mono hB, fun g hg => Nat.lt_of_lt_of_le (h.2 g hg) hC⟩
theorem OII.keep (h : OII w B C v xss) (hk : ∀ g, B ≤ g → g < C → w'.heap[g]? = w.heap[g]?) : OII w' B C v xss := by
  obtain ⟨us, h1, h2, h3, h4⟩ := h
  exact ⟨us, h1, h2.keep hk, fun j hj => by obtain ⟨u, a, b⟩ := h3 j hj; exact ⟨u, a, b.keep hk⟩, h4⟩
theorem OII.below (h : OII w B C v xss) (hb : Below C w w') : OII w' B C v xss := h.keep fun g _ hg => hb.block g hg
theorem OII.only (h : OII w B C v xss) (ho : Only lo hi w w') (hd : C ≤ lo ∨ hi ≤ B) : OII w' B C v xss := by
  obtain ⟨us, h1, h2, h3, h4⟩ := h
  exact ⟨us, h1, h2.only ho hd, fun j hj => by obtain ⟨u, a, b⟩ := h3 j hj; exact ⟨u, a, b.only ho hd⟩, h4⟩
theorem OII.wide {B' C' : Nat} (h : OII w B C v xss) (hB : B' ≤ B) (hC : C ≤ C') : OII w B' C' v xss := by
  obtain ⟨us, h1, h2, h3, h4⟩ := h
  exact ⟨us, h1, h2.wide hB hC, fun j hj => by obtain ⟨u, a, b⟩ := h3 j hj; exact ⟨u, a, b.wide hB hC⟩, h4⟩
/-- What is owned reads. -/
theorem OR.readsI (h : OI w B C v xs) : ∃ A c, v = .slice A xs.length c ∧ xs.length ≤ c ∧ RI w A xs := by
  obtain ⟨A, c, rfl, hc, hr⟩ := h.1.reads
  rw [ints_length] at hc
  exact ⟨A, c, by rw [ints_length], hc, hr⟩
theorem OII.reads (h : OII w B C v xss) : ∃ A c, v = .slice A xss.length c ∧ xss.length ≤ c ∧ RII w A xss := by
  obtain ⟨us, h1, h2, h3, h4⟩ := h
  obtain ⟨A, c, rfl, hc, hr⟩ := h2.1.reads
  refine ⟨A, c, by rw [h1], by omega, us, h1, hr, fun j hj => ?_⟩
  obtain ⟨u, hu, ho⟩ := h3 j hj
  obtain ⟨A', c', rfl, hc', hr'⟩ := ho.readsI
  exact ⟨A', c', hu, hc', hr'⟩
end
theorem OI.ri {w : World} {B C c n : Nat} {A : Option Addr} {xs : List Int} (h : OI w B C (.slice A n c) xs) : RI w A xs := by
  obtain ⟨A', c', he, _, hr⟩ := h.readsI
  injection he with e1; subst e1; exact hr
theorem OII.rii {w : World} {B C c n : Nat} {A : Option Addr} {xss : List (List Int)} (h : OII w B C (.slice A n c) xss) : RII w A xss := by
  obtain ⟨A', c', he, _, hr⟩ := h.reads
  injection he with e1; subst e1; exact hr
/-- One row of a nest has been written: the others, and the row of rows, are as they were. -/
theorem OIIu.set {w w' : World} {B C : Nat} {v u : Value} {us : List Value} {xss : List (List Int)} (h : OIIu w B C v us xss) {k : Nat} (hk : k < xss.length) (hu : us[k]? = some u) {ys : List Int}
    (ho : OI w' B C u ys) (hg : w.grownBy w' u.ownBlock) : OIIu w' B C v us (xss.set k ys) := by
  obtain ⟨h1, h2, h3, h4⟩ := h
  have old : ∀ g, g < w.heap.size → u.ownBlock ≠ some g → w'.heap[g]? = w.heap[g]? := fun g hl hn => hg.block g hl (Ne.symm hn)
  obtain ⟨u0, hu0, hou⟩ := h3 k hk
  rw [hu] at hu0; injection hu0 with hu0; subst hu0
  have keep : ∀ e vv uu, OR w B C e vv uu → (∀ g, vv.ownBlock = some g → u.ownBlock ≠ some g) → OR w' B C e vv uu := by
    intro e vv uu hov hd
    obtain ⟨hov, hC⟩ := hov
    refine ⟨⟨hov.1, ?_⟩, hC⟩
    rcases hov.2 with hn | ⟨g, cap, cur, rfl, hB, hh, r⟩
    · exact .inl hn
    · exact .inr ⟨g, cap, cur, rfl, hB, (old g (Array.getElem?_eq_some_iff.1 hh).1 (hd g rfl)).trans hh, r⟩
  refine ⟨by simp [h1], keep _ _ _ h2 ?_, fun j hj => ?_, h4⟩
  · intro g hg1 hg2
    rcases h2.1.2 with ⟨rfl, _⟩ | ⟨g', cap, cur, rfl, _, hh, _⟩
    · simp [Value.ownBlock] at hg1
    · rcases hou.1.2 with ⟨rfl, _⟩ | ⟨g2, cap2, cur2, rfl, _, hh2, _⟩
      · simp [Value.ownBlock] at hg2
      · simp [Value.ownBlock] at hg1 hg2
        subst hg1 hg2
        rw [hh] at hh2
        injection hh2 with hh2
        injection hh2 with _ ht
        exact absurd ht (by decide)
  · rw [List.length_set] at hj
    by_cases hjk : j = k
    · subst hjk
      exact ⟨u, hu, by simpa using ho⟩
    · obtain ⟨u', hu', ho'⟩ := h3 j hj
      refine ⟨u', hu', ?_⟩
      have e : (xss.set k ys)[j]'(by simpa using hj) = xss[j] := by rw [List.getElem_set]; simp [Ne.symm hjk]
      rw [e]
      exact keep _ _ _ ho' (fun g hg1 => h4 j k u' u hjk hu' hu g hg1)
theorem OII.setLow {w : World} {B C : Nat} {v : Value} {xss : List (List Int)} {p : Addr} {u : Value} (hp : p.block < B) (h : OII w B C v xss) : OII (w.setCell p u) B C v xss :=
  h.keep fun g hg _ => Below.heap_setCell w p u g (by omega)
theorem OR.setLow {w : World} {B C e : Nat} {v : Value} {us : List Value} {p : Addr} {u : Value} (hp : p.block < B) (h : OR w B C e v us) : OR (w.setCell p u) B C e v us :=
  h.keep fun g hg _ => Below.heap_setCell w p u g (by omega)
/-- k, k + 1, .. -/
def seqI (k : Int) (n : Nat) : List Int := (List.range n).map fun (i : Nat) => k + (i : Int)
theorem seqI_length (k : Int) (n : Nat) : (seqI k n).length = n := by simp [seqI]
theorem seqI_get (k : Int) (n j : Nat) (h : j < n) : (seqI k n)[j]? = some (k + j) := by simp [seqI, List.getElem?_range h]
theorem seqI_succ (k : Int) (n : Nat) : seqI k (n + 1) = seqI k n ++ [k + n] := by simp [seqI, List.range_succ]
theorem seqI_set (k : Int) (xs : List Int) (j : Nat) (h : j < xs.length) : (ints (seqI k j ++ xs.drop j)).set j (.int .i64 (k + j)) = ints (seqI k (j + 1) ++ xs.drop (j + 1)) := by
  have hl : (ints (seqI k j)).length = j := by simp [ints, seqI]
  rw [ints_append, List.set_append, hl, if_neg (by omega), Nat.sub_self, List.drop_eq_getElem_cons h, seqI_succ, ints_append, ints_append]
  simp only [ints, List.map_cons, List.map_nil, List.set_cons_zero, List.append_assoc, List.cons_append, List.nil_append]
theorem grownT {a b c : World} {row : Option Nat} (h : a.grownBy b row) (k : b.grownBy c row) : a.grownBy c row :=
  ⟨k.os.trans h.os, k.tape.trans h.tape, k.output.trans h.output, Nat.le_trans h.size k.size, fun i hi hj => (k.block i (Nat.lt_of_lt_of_le hi h.size) hj).trans (h.block i hi hj)⟩
def numII : Int → List (List Int) → List (List Int)
  | _, [] => []
  | k, xs :: r => seqI k xs.length :: numII (k + xs.length) r
def sumLen (xss : List (List Int)) : Nat := (xss.map List.length).sum
theorem sumLen_succ (xss : List (List Int)) (k : Nat) (h : k < xss.length) : sumLen (xss.take (k + 1)) = sumLen (xss.take k) + xss[k].length := by
  unfold sumLen; rw [List.take_succ_eq_append_getElem h]; simp only [List.map_append, List.sum_append, List.map_cons, List.map_nil, List.sum_cons, List.sum_nil, Nat.add_zero]
theorem sumLen_le (xss : List (List Int)) (k : Nat) (h : k < xss.length) : sumLen (xss.take k) + xss[k].length ≤ sumLen xss := by
  rw [← sumLen_succ xss k h]
  conv => rhs; rw [← List.take_append_drop (k + 1) xss]
  unfold sumLen; simp only [List.map_append, List.sum_append]; omega
theorem numII_length : ∀ (xss : List (List Int)) (k : Int), (numII k xss).length = xss.length
  | [], _ => rfl
  | xs :: r, k => by simp [numII, numII_length r]
theorem numII_append : ∀ (a b : List (List Int)) (k : Int), numII k (a ++ b) = numII k a ++ numII (k + sumLen a) b
  | [], b, k => by simp [numII, sumLen]
  | xs :: r, b, k => by
    simp only [List.cons_append, numII, numII_append r b]
    rw [show k + (xs.length : Int) + (sumLen r : Int) = k + (sumLen (xs :: r) : Int) by simp [sumLen]; omega]
theorem numII_at (xss : List (List Int)) (k : Int) (j : Nat) (h : j < xss.length) : (numII k xss)[j]? = some (seqI (k + sumLen (xss.take j)) xss[j].length) := by
  conv => lhs; rw [← List.take_append_drop j xss, numII_append, List.drop_eq_getElem_cons h]
  rw [List.getElem?_append_right (by rw [numII_length]; simp; omega), numII_length]
  simp [numII, show j - min j xss.length = 0 by omega]
theorem numII_set (xss : List (List Int)) (K : Int) (k : Nat) (h : k < xss.length) :
    (numII K (xss.take k) ++ xss.drop k).set k (seqI (K + sumLen (xss.take k)) xss[k].length) = numII K (xss.take (k + 1)) ++ xss.drop (k + 1) := by
  have hl : (numII K (xss.take k)).length = k := by rw [numII_length]; simp; omega
  rw [List.set_append, hl, if_neg (by omega), Nat.sub_self, List.drop_eq_getElem_cons h, List.set_cons_zero, List.take_succ_eq_append_getElem h, numII_append]
  simp only [numII, List.append_assoc, List.cons_append, List.nil_append]
theorem mem_sumLen {xss : List (List Int)} {k : Nat} (h : k < xss.length) : xss[k].length ≤ sumLen xss := by have := sumLen_le xss k h; omega

/-! ### variables that hold a struct -/
/-- The block b holds the cells vs from i on. -/
def BoxC (w : World) (b : Nat) : Nat → List Value → Prop
  | _, [] => True
  | i, v :: r => w.cell? ⟨b, i, none⟩ = some v ∧ BoxC w b (i + 1) r
theorem BoxC.keep {w w' : World} {b : Nat} (hk : ∀ i v, w.cell? ⟨b, i, none⟩ = some v → w'.cell? ⟨b, i, none⟩ = some v) : ∀ {i : Nat} {vs : List Value}, BoxC w b i vs → BoxC w' b i vs
  | _, [], _ => trivial
  | i, v :: r, h => ⟨hk i v h.1, BoxC.keep hk h.2⟩
theorem BoxC.below {w w' : World} {b i : Nat} {vs : List Value} (h : BoxC w b i vs) (hb : Below w.heap.size w w') : BoxC w' b i vs :=
  h.keep fun _ _ hv => (hb.cell (World.block_lt_of_cell? w _ hv)).trans hv
theorem BoxC.only {w w' : World} {b i lo hi : Nat} {vs : List Value} (h : BoxC w b i vs) (ho : Only lo hi w w') (hd : b < lo ∨ hi ≤ b) : BoxC w' b i vs :=
  h.keep fun _ _ hv => by
    have hl := World.block_lt_of_cell? w _ hv
    have := ho.block b hl hd
    simpa [World.cell?, this] using hv
theorem BoxC.of_cells {w : World} {b : Nat} {cs : List Value} : ∀ (vs : List Value) (i : Nat), (∀ j v, cs[j]? = some v → w.cell? ⟨b, j, none⟩ = some v) → cs.drop i = vs → BoxC w b i vs
  | [], _, _, _ => trivial
  | v :: r, i, h, hd => by
    have h0 : cs[i]? = some v := by
      have := congrArg (·[0]?) hd
      simpa using this
    refine ⟨h i v h0, BoxC.of_cells r (i + 1) h ?_⟩
    have := congrArg List.tail hd
    simpa using this
theorem BoxC.new {w : World} {b T : Nat} (vs : List Value) (h : b = w.heap.size) : BoxC (w.alloc (.cells vs.toArray T)) b 0 vs := by
  subst h
  refine BoxC.of_cells (cs := vs) vs 0 (fun j v hv => ?_) rfl
  rw [World.cell?_alloc_at (hn := rfl)]
  simpa using hv
theorem belowDrew {w w' : World} (h : Below w.drew.heap.size w.drew w') : Below w.heap.size w w' := ⟨h.os, h.tape, h.output, h.size, h.block⟩
theorem belowDrew0 (w : World) : Below w.heap.size w w.drew := belowD (Below.refl _ _) 1

/-! ### results -/
/-- a list of numbers in new memory -/
def ResI (w : World) (xs : List Int) (e : Ending) (w' : World) : Prop := ∃ A c, e = .returned (.slice A xs.length c) ∧ xs.length ≤ c ∧ RI w' A xs ∧ OI w' w.heap.size w'.heap.size (.slice A xs.length c) xs ∧ Below w.heap.size w w'
/-- a list of numbers in new memory, and a code -/
def ResIC (w : World) (r : List Int × Int) (e : Ending) (w' : World) : Prop :=
  ∃ A c, e = .returned (.tuple #[.slice A r.1.length c, .int .i64 r.2]) ∧ r.1.length ≤ c ∧ RI w' A r.1 ∧ OI w' w.heap.size w'.heap.size (.slice A r.1.length c) r.1 ∧ Below w.heap.size w w'
theorem OI.nil {w : World} {B C : Nat} : OI w B C (.slice none 0 0) [] := ⟨OV.nil, fun g h => by simp [Value.ownBlock] at h⟩
theorem resI_own {w w' : World} {v : Value} {xs : List Int} {B : Nat} (ho : OV w' B 2 v (ints xs)) (hB : w.heap.size ≤ B) (hb : Below w.heap.size w w') : ResI w xs (.returned v) w' := by
  have h := (ho.mono hB).toOR
  obtain ⟨A, c, rfl, hc, hr⟩ := OR.readsI (xs := xs) h
  exact ⟨A, c, rfl, hc, hr, h, hb⟩
theorem resIC_nil {w w' : World} {r : List Int × Int} {c : Int} (h : ([], c) = r) (hb : Below w.heap.size w w') : ResIC w r (.returned (.tuple #[.slice none 0 0, .int .i64 c])) w' := by
  subst h; exact ⟨none, 0, rfl, Nat.le_refl _, RI.nil, OI.nil, hb⟩
theorem resIC_own {w w' : World} {r : List Int × Int} {v : Value} {xs : List Int} {B : Nat} (h : (xs, 0) = r) (ho : OV w' B 2 v (ints xs)) (hB : w.heap.size ≤ B) (hb : Below w.heap.size w w') : ResIC w r (.returned (.tuple #[v, .int .i64 0])) w' := by
  subst h
  have h := (ho.mono hB).toOR
  obtain ⟨A, c, rfl, hc, hr⟩ := OR.readsI (xs := xs) h
  exact ⟨A, c, rfl, hc, hr, h, hb⟩
end Go.Proofs.YtdedajohkdbdkaaGreatDoor

/- Contracts of the small functions on numbers and lists of numbers, of the program and of the reference. No condition but that the lists are readable. -/
namespace Go.Proofs.YtdedajohkdbdkaaGreatDoor
set_option linter.unusedVariables false
open Go.RowKit

/-! ### plain words -/
def inB (a b c : Int) : Bool := decide (b ≤ a ∧ a ≤ c)
def allW (lo hi : Int) (xs : List Int) : Bool := xs.all fun x => inB x lo hi
/-- does the list hold the number? (a plain word: the walk's simp does not open it) -/
def hasI (xs : List Int) (x : Int) : Bool := xs.contains x
theorem hasI_iff {xs : List Int} {x : Int} : hasI xs x = true ↔ x ∈ xs := by simp [hasI]
theorem hasI_not {xs : List Int} {x : Int} : hasI xs x = false ↔ x ∉ xs := by rw [← hasI_iff, Bool.not_eq_true]
def sumI (xs : List Int) : Int := xs.foldl (fun a x => wrap64 (a + x)) 0
theorem take_succ_all {α : Type} (p : α → Bool) (xs : List α) (k : Nat) (h : k < xs.length) : (xs.take (k + 1)).all p = ((xs.take k).all p && p xs[k]) := by
  rw [List.take_succ_eq_append_getElem h]; simp only [List.all_append, List.all_cons, List.all_nil, Bool.and_true]
theorem all_false_at {α : Type} (p : α → Bool) (xs : List α) (k : Nat) (h : k < xs.length) (hp : p xs[k] = false) : xs.all p = false := by
  rw [Bool.eq_false_iff]; intro ha; rw [List.all_eq_true] at ha; have := ha _ (List.getElem_mem h); rw [hp] at this; cases this

set_option maxHeartbeats 400000 in
theorem within_any (a b c : Int) (w : World) :
    Calls Tryz.prog 47 #[.int .i64 a, .int .i64 b, .int .i64 c] w fun e w' => e = .returned (.bool (inB a b c)) ∧ w = w' := by
  by_cases h1 : b ≤ a
  · by_cases h2 : a ≤ c
    · go_enter Tryz.func47, Tryz.ntmps47
      go_wp2
      go_ret
      simp [inB, h1, h2]
    · go_enter Tryz.func47, Tryz.ntmps47
      go_wp2
      go_ret
      simp [inB, h1]; omega
  · go_enter Tryz.func47, Tryz.ntmps47
    go_wp2
    go_ret
    simp [inB]; omega
set_option maxHeartbeats 400000 in
theorem l01In_any (a b c : Int) (w : World) :
    Calls Tryz.prog 49 #[.int .i64 a, .int .i64 b, .int .i64 c] w fun e w' => e = .returned (.bool (inB a b c)) ∧ w = w' := by
  by_cases h1 : b ≤ a
  · by_cases h2 : a ≤ c
    · go_enter Tryz.func49, Tryz.ntmps49
      go_wp2
      go_ret
      simp [inB, h1, h2]
    · go_enter Tryz.func49, Tryz.ntmps49
      go_wp2
      go_ret
      simp [inB, h1]; omega
  · go_enter Tryz.func49, Tryz.ntmps49
    go_wp2
    go_ret
    simp [inB]; omega
set_option maxHeartbeats 400000 in
theorem allWithin_any (A : Option Addr) (c : Nat) (xs : List Int) (lo hi : Int) (w : World) (h : RI w A xs) :
    Calls Tryz.prog 48 #[.slice A xs.length c, .int .i64 lo, .int .i64 hi] w fun e w' => e = .returned (.bool (allW lo hi xs)) ∧ w = w' := by
  have hle := h.le
  go_enter Tryz.func48, Tryz.ntmps48
  go_wp2
  go_loop [11] (fun i => ∃ k : Nat, k ≤ xs.length ∧ i = .int .i64 k ∧ allW lo hi (xs.take k) = true) (fun i => xs.length - (intOf i).toNat)
  case atStart => exact ⟨0, by omega, rfl, rfl⟩
  case round =>
    obtain ⟨k, hk, rfl, hrel⟩ := hrel
    have Hrel := Lib.hid hrel; clear hrel
    by_cases hlt : k < xs.length
    · obtain ⟨b, o, rfl, hc⟩ := h.at_ hlt
      cases hp : inB xs[k] lo hi with
      | true =>
        go_wp2_with (go_at_call 47; refine (within_any _ _ _ _).mono ?_; rintro e w' ⟨rfl, rfl⟩)
        go_round
        case rel => exact ⟨k + 1, by omega, by go_num, by unfold allW at *; rw [take_succ_all _ _ _ hlt, Hrel.out, hp]; rfl⟩
        case measure => simp [intOf]; omega
      | false =>
        have hf := Lib.hid (all_false_at (fun x => inB x lo hi) xs k hlt hp)
        go_wp2_with (go_at_call 47; refine (within_any _ _ _ _).mono ?_; rintro e w' ⟨rfl, rfl⟩)
        go_ret
        exact ⟨retB hf.out.symm, rfl⟩
    · obtain rfl : k = xs.length := by omega
      go_wp2
      go_ret
      exact ⟨retB (by have := Hrel.out; rw [List.take_length] at this; exact this.symm), rfl⟩
set_option maxHeartbeats 400000 in
theorem l01Has_any (A : Option Addr) (c : Nat) (xs : List Int) (x : Int) (w : World) (h : RI w A xs) :
    Calls Tryz.prog 110 #[.slice A xs.length c, .int .i64 x] w fun e w' => e = .returned (.bool (hasI xs x)) ∧ w = w' := by
  have hle := h.le
  go_enter Tryz.func110, Tryz.ntmps110
  go_wp2
  go_loop [5] (fun i => ∃ k : Nat, k ≤ xs.length ∧ i = .int .i64 k ∧ x ∉ xs.take k) (fun i => xs.length - (intOf i).toNat)
  case atStart => exact ⟨0, by omega, rfl, by simp⟩
  case round =>
    obtain ⟨k, hk, rfl, hrel⟩ := hrel
    have Hrel := Lib.hid hrel; clear hrel
    by_cases hlt : k < xs.length
    · obtain ⟨b, o, rfl, hc⟩ := h.at_ hlt
      cases hp : (xs[k] == x) with
      | true =>
        go_wp2
        go_ret
        refine ⟨?_, rfl⟩
        have : x ∈ xs := by rw [← beq_iff_eq.1 hp]; exact List.getElem_mem hlt
        exact retB (hasI_iff.2 this).symm
      | false =>
        go_wp2
        go_round
        case rel => exact ⟨k + 1, by omega, by go_num, by
          have h1 := beq_eq_false_iff_ne.1 hp
          rw [List.take_succ_eq_append_getElem hlt, List.mem_append, List.mem_singleton]; exact fun h => h.elim Hrel.out fun h => h1 h.symm⟩
        case measure => simp [intOf]; omega
    · obtain rfl : k = xs.length := by omega
      have H2 : x ∉ xs := by have := Hrel.out; rwa [List.take_length] at this
      go_wp2
      go_ret
      exact ⟨retB (hasI_not.2 H2).symm, rfl⟩

/-! ### a search, a sum, a power -/
def idx (x : Int) (xs : List Int) : Int := if x ∈ xs then (xs.idxOf x : Int) else -1
def powW (b : Int) : Nat → Int
  | 0 => 1
  | n + 1 => wrap64 (powW b n * b)
theorem sumI_succ (xs : List Int) (k : Nat) (h : k < xs.length) : sumI (xs.take (k + 1)) = wrap64 (sumI (xs.take k) + xs[k]) := by
  unfold sumI; rw [List.take_succ_eq_append_getElem h, List.foldl_append]; rfl
theorem idx_hit {x : Int} {xs : List Int} {k : Nat} (h : k < xs.length) (hn : x ∉ xs.take k) (hk : xs[k] = x) : idx x xs = k := by
  have hm : x ∈ xs := by rw [← hk]; exact List.getElem_mem h
  unfold idx; rw [if_pos hm]
  have e : xs = xs.take k ++ (x :: xs.drop (k + 1)) := by
    conv => lhs; rw [← List.take_append_drop k xs, List.drop_eq_getElem_cons h, hk]
  have : List.idxOf x xs = k := by
    rw [e, List.idxOf_append, if_neg hn, List.idxOf_cons_self]; simp; omega
  omega
theorem idx_none {x : Int} {xs : List Int} (h : x ∉ xs) : idx x xs = -1 := by unfold idx; rw [if_neg h]
theorem idx_ge (x : Int) (xs : List Int) : (decide (idx x xs ≥ 0) : Bool) = hasI xs x := by
  unfold idx hasI
  by_cases h : x ∈ xs
  · rw [if_pos h]; simp [h]
  · rw [if_neg h]; simp [h]
set_option maxHeartbeats 400000 in
theorem sIndex_any (A : Option Addr) (c : Nat) (xs : List Int) (x : Int) (w : World) (h : RI w A xs) :
    Calls Tryz.prog 72 #[.slice A xs.length c, .int .i64 x] w fun e w' => e = .returned (.int .i64 (idx x xs)) ∧ w = w' := by
  have hle := h.le
  go_enter Tryz.func72, Tryz.ntmps72
  go_wp2
  go_loop [8] (fun i => ∃ k : Nat, k ≤ xs.length ∧ i = .int .i64 k ∧ x ∉ xs.take k) (fun i => xs.length - (intOf i).toNat)
  case atStart => exact ⟨0, by omega, rfl, by simp⟩
  case round =>
    obtain ⟨k, hk, rfl, hrel⟩ := hrel
    have Hrel := Lib.hid hrel; clear hrel
    by_cases hlt : k < xs.length
    · obtain ⟨b, o, rfl, hc⟩ := h.at_ hlt
      cases hp : (x == xs[k]) with
      | true =>
        have hi := Lib.hid (idx_hit hlt Hrel.out (beq_iff_eq.1 hp).symm)
        go_wp2
        go_ret
        exact ⟨retI hi.out.symm, rfl⟩
      | false =>
        go_wp2
        go_round
        case rel => exact ⟨k + 1, by omega, by go_num, by
          have h1 := beq_eq_false_iff_ne.1 hp
          rw [List.take_succ_eq_append_getElem hlt, List.mem_append, List.mem_singleton]; exact fun h => h.elim Hrel.out h1⟩
        case measure => simp [intOf]; omega
    · obtain rfl : k = xs.length := by omega
      have H2 := Lib.hid (idx_none (x := x) (xs := xs) (by have := Hrel.out; rwa [List.take_length] at this))
      go_wp2
      go_ret
      exact ⟨retI H2.out.symm, rfl⟩
set_option maxHeartbeats 400000 in
theorem sContains_any (A : Option Addr) (c : Nat) (xs : List Int) (x : Int) (w : World) (h : RI w A xs) :
    Calls Tryz.prog 52 #[.slice A xs.length c, .int .i64 x] w fun e w' => e = .returned (.bool (hasI xs x)) ∧ w = w' := by
  have hg := Lib.hid (idx_ge x xs)
  go_enter Tryz.func52, Tryz.ntmps52
  go_wp2_with (go_at_call 72; refine (sIndex_any _ _ _ _ _ h).mono ?_; rintro e w' ⟨rfl, rfl⟩)
  go_ret
  exact ⟨retB hg.out, rfl⟩
end Go.Proofs.YtdedajohkdbdkaaGreatDoor

/- Contracts of the statements' own helpers: copies, comparisons, marks. -/
namespace Go.Proofs.YtdedajohkdbdkaaGreatDoor
set_option linter.unusedVariables false
open Go.RowKit

theorem info_int : (Tryz.prog.info? 2).map (fun i => (i.zero, i.size, i.bytes)) = some (some (.int .i64 0), 1, 8) := by kernel_rfl
theorem make_ints (n : Nat) (hn : n ≤ 1048576) (w : World) : (Instr.makeSlice 44 (.int .i64 (n : Int)) (.int .i64 (n : Int))).run Tryz.prog w = .ok (.slice (some ⟨w.heap.size, 0, none⟩) n n) (w.alloc (.cells (madeCells #[.int .i64 0] n) 2)) := by
  obtain ⟨i0, hi0, hz0, hz1, hz2⟩ := info_parts info_int
  have hr := run_make (P := Tryz.prog) w 44 2 i0 _ Tryz.underlying44 hi0 hz0 .i64 .i64 n n (by omega) (by omega) (by rw [hz2]; omega) (by omega)
  simpa [hz1, Value.cells] using hr
/-! ### forms for the laws: worlds as letters -/
theorem info_sl : (Tryz.prog.info? 44).map (fun i => (i.zero, i.size, i.bytes)) = some (some (.slice none 0 0), 1, 24) := by kernel_rfl
/-- What is left of a bound: the sum has been taken off, or it is below 0. -/
def Left (L r n : Int) : Prop := r ≤ L ∧ (0 ≤ r → r = L - n)
def ResLeft (w : World) (L n : Int) (e : Ending) (w' : World) : Prop := ∃ r : Int, e = .returned (.int .i64 r) ∧ Left L r n ∧ w = w' ∧ -1 ≤ r
def ResLeftB (w : World) (L n : Int) (e : Ending) (w' : World) : Prop := ∃ r : Int, e = .returned (.int .i64 r) ∧ Left L r n ∧ Below w.heap.size w w' ∧ -1 ≤ r
end Go.Proofs.YtdedajohkdbdkaaGreatDoor

/- More words for memory: a row of the call's own that is written in place; copies. -/
namespace Go.Proofs.YtdedajohkdbdkaaGreatDoor
set_option linter.unusedVariables false
open Go.RowKit
/-- What a row of the call's own gives the walk. -/
theorem OV.open1 {w : World} {B : Nat} {v : Value} {xs : List Int} (h : OV w B 2 v (ints xs)) (h0 : 0 < xs.length) :
    ∃ g c, v = .slice (some ⟨g, 0, none⟩) xs.length c ∧ B ≤ g ∧ g < w.heap.size ∧ xs.length ≤ c ∧ (∀ k (hk : k < xs.length), w.cell? ⟨g, k, none⟩ = some (.int .i64 xs[k])) ∧ (∀ k, w.frozen? ⟨g, k, none⟩ = false) := by
  unfold OV at h
  rw [ints_length] at h
  obtain ⟨g, c, rfl, hB, hg⟩ := h.form h0
  refine ⟨g, c, rfl, hB, hg, ?_, fun k hk => ?_, fun k => h.frozenAt k⟩
  · rcases h.2 with ⟨h', _⟩ | ⟨g', cap', cur, h', _, _, hc, _⟩
    · simp at h'
    · simp only [Value.slice.injEq, Option.some.injEq, Addr.mk.injEq, and_true, true_and] at h'
      omega
  · rw [h.cellAt k (by omega)]
    simp [ints, List.getElem?_eq_getElem hk]
/-- One number of it is written. -/
theorem OV.put {w : World} {B g c n : Nat} {xs : List Int} (h : OV w B 2 (.slice (some ⟨g, 0, none⟩) n c) (ints xs)) (hn : n = xs.length) (k : Nat) (x : Int) :
    OV (w.setCell ⟨g, k, none⟩ (.int .i64 x)) B 2 (.slice (some ⟨g, 0, none⟩) n c) (ints (xs.set k x)) := by
  subst hn
  unfold OV at h ⊢
  rw [ints_length] at h
  rw [ints_length, List.length_set]
  have := (h.stored k (.int .i64 x)).1
  have e : (ints xs).set k (.int .i64 x) = ints (xs.set k x) := by simp only [ints, List.map_set]
  rw [e] at this
  exact this
theorem resI_mono {w a w' : World} {xs : List Int} {e : Ending} (h : ResI a xs e w') (hb : Below w.heap.size w a) : ResI w xs e w' := by
  obtain ⟨A, c, h1, h2, h3, h4, h5⟩ := h
  exact ⟨A, c, h1, h2, h3, h4.wide hb.size (Nat.le_refl _), hb.trans (h5.mono hb.size)⟩
/-- a code behind a list -/
theorem resIC_of {w a w' : World} {r : List Int × Int} {A : Option Addr} {c : Nat} {xs : List Int} {k : Int} (h : (xs, k) = r) (hc : xs.length ≤ c) (hr : RI w' A xs) (ho : OI w' a.heap.size w'.heap.size (.slice A xs.length c) xs) (hb : Below w.heap.size w a) (hb2 : Below a.heap.size a w') :
    ResIC w r (.returned (.tuple #[.slice A xs.length c, .int .i64 k])) w' := by
  subst h
  exact ⟨A, c, rfl, hc, hr, ho.wide hb.size (Nat.le_refl _), hb.trans (hb2.mono hb.size)⟩
set_option maxHeartbeats 400000 in
theorem l01Own_any (A : Option Addr) (c : Nat) (xs : List Int) (w : World) (h : RI w A xs) (hn : xs.length ≤ 1073741824) :
    Calls Tryz.prog 84 #[.slice A xs.length c] w (ResI w xs) := by
  have B0 : Below w.heap.size w (w.alloc (.cells #[] 2)) := (Below.refl w.heap.size w).alloc (Nat.le_refl _) _
  have ho := OV.new0 (w := w) (e := 2) (B := w.heap.size) (Nat.le_refl _)
  go_enter Tryz.func84, Tryz.ntmps84
  go_wp2_with (at_builtin; refine wpList_app _ rfl _ _ _ rfl w.heap.size 2 _ 8 Tryz.underlying44 info_int rfl _ _ rfl ho A xs.length c (ints xs) rfl (ints_length xs).symm (h.alloc _) (ints_one xs) (by simp [ints_length]; omega) (by simp [ints_length]; omega) (by simp) ?_; intro v' w3 ho3 hg3 hn3 hat3)
  go_ret
  exact resI_own ho3 (Nat.le_refl _) (ho.own (Nat.le_refl _) B0 hg3 (by simp))
end Go.Proofs.YtdedajohkdbdkaaGreatDoor

/- Nests of rows: one more row; results that are nests; calls of a closure that is a letter. -/
namespace Go.Proofs.YtdedajohkdbdkaaGreatDoor
set_option linter.unusedVariables false
open Go.RowKit
theorem OV.block_ty {w : World} {B e : Nat} {v : Value} {us : List Value} (h : OV w B e v us) {g : Nat} (hg : v.ownBlock = some g) : ∃ cs fr, w.heap[g]? = some (.cells cs e fr) ∧ B ≤ g := by
  rcases h.2 with ⟨rfl, _⟩ | ⟨g', cap, cur, rfl, hB, hh, _⟩
  · simp [Value.ownBlock] at hg
  · simp [Value.ownBlock] at hg
    subst hg
    exact ⟨cur, (0, 0), hh, hB⟩
/-- A row is as it was if its block is as it was. -/
theorem OV.same {w w' : World} {B e : Nat} {v : Value} {us : List Value} (h : OV w B e v us) (hk : ∀ g, v.ownBlock = some g → w'.heap[g]? = w.heap[g]?) : OV w' B e v us := by
  refine ⟨h.1, ?_⟩
  rcases h.2 with hn | ⟨g, cap, cur, rfl, hB, hh, r⟩
  · exact .inl hn
  · exact .inr ⟨g, cap, cur, rfl, hB, (hk g rfl).trans hh, r⟩
/-- One more row: its value has been appended to the row of rows. -/
theorem OII.push {w w' : World} {B C D : Nat} {v v' u : Value} {us : List Value} {xss : List (List Int)} {ys : List Int}
    (h1 : us.length = xss.length) (h2 : OR w B C 44 v us) (h3 : ∀ j (hj : j < xss.length), ∃ u, us[j]? = some u ∧ OR w B C 2 u (ints xss[j]))
    (h4 : ∀ (i j : Nat) (u u' : Value), i ≠ j → us[i]? = some u → us[j]? = some u' → ∀ g, u.ownBlock = some g → u'.ownBlock ≠ some g)
    (hu : OI w C D u ys) (hBC : B ≤ C) (hC : C ≤ w.heap.size) (hD : D ≤ w.heap.size) (ho : OV w' B 44 v' (us ++ [u])) (hg : w.grownBy w' v.ownBlock) : OII w' B w'.heap.size v' (xss ++ [ys]) := by
  have keep : ∀ (B' : Nat) (u0 : Value) (zs : List Value), OV w B' 2 u0 zs → OV w' B' 2 u0 zs := by
    intro B' u0 zs h0
    refine h0.same fun g hg0 => ?_
    obtain ⟨cs, fr, hh, _⟩ := h0.block_ty hg0
    refine hg.block g (Array.getElem?_eq_some_iff.1 hh).1 fun e => ?_
    obtain ⟨cs2, fr2, hh2, _⟩ := h2.1.block_ty e.symm
    rw [hh] at hh2
    injection hh2 with hh2
    injection hh2 with _ ht
    exact absurd ht (by decide)
  have hsz := hg.size
  refine ⟨us ++ [u], by simp [h1], ho.toOR, fun j hj => ?_, fun i j a b hij ha hb g hga hgb => ?_⟩
  · by_cases hjl : j < xss.length
    · obtain ⟨a, ha, hoa⟩ := h3 j hjl
      refine ⟨a, by rw [List.getElem?_append_left (by omega)]; exact ha, ?_⟩
      rw [List.getElem_append_left hjl]
      exact ⟨keep _ _ _ hoa.1, fun g hgg => by have := hoa.2 g hgg; omega⟩
    · have hje : j = xss.length := by simp at hj; omega
      subst hje
      refine ⟨u, by rw [List.getElem?_append_right (by omega)]; simp [h1], ?_⟩
      rw [List.getElem_append_right (by omega)]
      simp only [Nat.sub_self, List.getElem_cons_zero]
      exact ⟨(keep _ _ _ hu.1).mono hBC, fun g hgg => by have := hu.2 g hgg; omega⟩
  · have lt_of : ∀ (k : Nat) (x : Value), (us ++ [u])[k]? = some x → (k < us.length ∧ us[k]? = some x) ∨ (k = us.length ∧ x = u) := by
      intro k x hx
      by_cases hk : k < us.length
      · rw [List.getElem?_append_left hk] at hx; exact .inl ⟨hk, hx⟩
      · rw [List.getElem?_append_right (by omega)] at hx
        by_cases hk0 : k - us.length = 0
        · rw [hk0] at hx; simp at hx; exact .inr ⟨by omega, hx.symm⟩
        · rw [List.getElem?_eq_none (by simp; omega)] at hx; cases hx
    have old : ∀ (k : Nat) (x : Value), k < us.length → us[k]? = some x → ∀ g, x.ownBlock = some g → g < C := by
      intro k x hk hx g hgx
      obtain ⟨y, hy, hoy⟩ := h3 k (by omega)
      rw [hx] at hy; injection hy with hy; subst hy
      exact hoy.2 g hgx
    have new : ∀ g, u.ownBlock = some g → C ≤ g := fun g hgu => (hu.1.lt g hgu).1
    rcases lt_of i a ha with ⟨hi, ha'⟩ | ⟨hi, rfl⟩
    · rcases lt_of j b hb with ⟨hj, hb'⟩ | ⟨hj, rfl⟩
      · exact h4 i j a b hij ha' hb' g hga hgb
      · have := old i a hi ha' g hga; have := new g hgb; omega
    · rcases lt_of j b hb with ⟨hj, hb'⟩ | ⟨hj, rfl⟩
      · have := new g hga; have := old j b hj hb' g hgb; omega
      · omega
/-- The same behind 'append(v, u)', whose one new element lies in a block o of its own. -/
theorem OII.push1 {w w' : World} {B C : Nat} {v v' u : Value} {us : List Value} {xss : List (List Int)} {ys : List Int} {o : Obj}
    (h1 : us.length = xss.length) (h2 : OR w B C 44 v us) (h3 : ∀ j (hj : j < xss.length), ∃ u, us[j]? = some u ∧ OR w B C 2 u (ints xss[j]))
    (h4 : ∀ (i j : Nat) (u u' : Value), i ≠ j → us[i]? = some u → us[j]? = some u' → ∀ g, u.ownBlock = some g → u'.ownBlock ≠ some g)
    (hu : OV w C 2 u (ints ys)) (hBC : B ≤ C) (hC : C ≤ w.heap.size) (ho : OV w' B 44 v' (us ++ [u])) (hg : (w.alloc o).grownBy w' v.ownBlock) : OII w' B w'.heap.size v' (xss ++ [ys]) := by
  have al := (Below.refl C w).alloc hC o
  have al2 := (Below.refl w.heap.size w).alloc (Nat.le_refl _) o
  exact OII.push (C := C) (D := w.heap.size) h1 (h2.below al) (fun j hj => by obtain ⟨u, a, b⟩ := h3 j hj; exact ⟨u, a, b.below al⟩) h4 (hu.toOR.below al2) hBC (by simp; omega) (by simp) ho hg
theorem OII.grown {w w' : World} {B C : Nat} {v : Value} {xss : List (List Int)} {row : Option Nat} (h : OII w B C v xss) (hg : w.grownBy w' row) (hC : C ≤ w.heap.size) (hr : ∀ g, row = some g → g < B ∨ C ≤ g) : OII w' B C v xss :=
  h.keep fun g h1 h2 => hg.block g (by omega) fun e => by have := hr g e.symm; omega
theorem OII.nil {w : World} {B C : Nat} : OII w B C (.slice none 0 0) [] :=
  ⟨[], rfl, ⟨OV.nil, fun g h => by simp [Value.ownBlock] at h⟩, fun j hj => by simp at hj, fun i j u u' _ h => by simp at h⟩
theorem OII.new0 {w : World} {B : Nat} (hB : B ≤ w.heap.size) : OII (w.alloc (.cells #[] 44)) B (w.heap.size + 1) (.slice (some ⟨w.heap.size, 0, none⟩) 0 0) [] :=
  ⟨[], rfl, ⟨OV.new0 hB, fun g h => by simp [Value.ownBlock] at h; omega⟩, fun j hj => by simp at hj, fun i j u u' _ h => by simp at h⟩
theorem OII.one0 {w : World} : OII ((w.alloc (.cells #[] 2)).alloc (.cells #[.slice (some ⟨w.heap.size, 0, none⟩) 0 0] 44)) w.heap.size (w.heap.size + 2) (.slice (some ⟨w.heap.size + 1, 0, none⟩) 1 1) [[]] := by
  have h1 := OV.new (w := w.alloc (.cells #[] 2)) (B := w.heap.size) (e := 44) #[.slice (some ⟨w.heap.size, 0, none⟩) 0 0] (by simp) (by simp [maxLen])
  have h2 := (OV.new0 (w := w) (B := w.heap.size) (e := 2) (Nat.le_refl _)).alloc (.cells #[.slice (some ⟨w.heap.size, 0, none⟩) 0 0] 44)
  refine ⟨[.slice (some ⟨w.heap.size, 0, none⟩) 0 0], rfl, ⟨by simpa using h1, fun g hg => by simp [Value.ownBlock] at hg; omega⟩, fun j hj => ?_, fun i j u u' hij hi hj => ?_⟩
  · have : j = 0 := by simp at hj; omega
    subst this
    exact ⟨_, rfl, by simpa [ints] using h2, fun g hg => by simp [Value.ownBlock] at hg; omega⟩
  · have h1 := (List.getElem?_eq_some_iff.1 hi).1
    have h2 := (List.getElem?_eq_some_iff.1 hj).1
    simp at h1 h2; omega
/-- a list of lists in new memory -/
def ResII (w : World) (xss : List (List Int)) (e : Ending) (w' : World) : Prop := ∃ A c, e = .returned (.slice A xss.length c) ∧ xss.length ≤ c ∧ RII w' A xss ∧ OII w' w.heap.size w'.heap.size (.slice A xss.length c) xss ∧ Below w.heap.size w w'
/-- a list of lists in new memory, and a code -/
def ResIIC (w : World) (r : List (List Int) × Int) (e : Ending) (w' : World) : Prop :=
  ∃ A c, e = .returned (.tuple #[.slice A r.1.length c, .int .i64 r.2]) ∧ r.1.length ≤ c ∧ RII w' A r.1 ∧ OII w' w.heap.size w'.heap.size (.slice A r.1.length c) r.1 ∧ Below w.heap.size w w'
theorem resII_own {w w' : World} {v : Value} {xss : List (List Int)} {B C : Nat} (ho : OII w' B C v xss) (hB : w.heap.size ≤ B) (hC : C ≤ w'.heap.size) (hb : Below w.heap.size w w') : ResII w xss (.returned v) w' := by
  have h := ho.wide hB hC
  obtain ⟨A, c, rfl, hc, hr⟩ := h.reads
  exact ⟨A, c, rfl, hc, hr, h, hb⟩
theorem resIIC_nil {w w' : World} {r : List (List Int) × Int} {c : Int} (h : ([], c) = r) (hb : Below w.heap.size w w') : ResIIC w r (.returned (.tuple #[.slice none 0 0, .int .i64 c])) w' := by
  subst h; exact ⟨none, 0, rfl, Nat.le_refl _, RII.nil, OII.nil, hb⟩
theorem resIIC_own {w w' : World} {r : List (List Int) × Int} {v : Value} {xss : List (List Int)} {B C : Nat} (h : (xss, 0) = r) (ho : OII w' B C v xss) (hB : w.heap.size ≤ B) (hC : C ≤ w'.heap.size) (hb : Below w.heap.size w w') : ResIIC w r (.returned (.tuple #[v, .int .i64 0])) w' := by
  subst h
  have h := ho.wide hB hC
  obtain ⟨A, c, rfl, hc, hr⟩ := h.reads
  exact ⟨A, c, rfl, hc, hr, h, hb⟩
/-- lists of lists that read (of the reference) -/
def RdII (w : World) (xss : List (List Int)) (e : Ending) (w' : World) : Prop := ∃ A c, e = .returned (.slice A xss.length c) ∧ xss.length ≤ c ∧ RII w' A xss ∧ Below w.heap.size w w'
def RdI (w : World) (xs : List Int) (e : Ending) (w' : World) : Prop := ∃ A c, e = .returned (.slice A xs.length c) ∧ xs.length ≤ c ∧ RI w' A xs ∧ Below w.heap.size w w'
def RdIC (w : World) (r : List Int × Int) (e : Ending) (w' : World) : Prop := ∃ A c, e = .returned (.tuple #[.slice A r.1.length c, .int .i64 r.2]) ∧ r.1.length ≤ c ∧ RI w' A r.1 ∧ Below w.heap.size w w'
def RdIIC (w : World) (r : List (List Int) × Int) (e : Ending) (w' : World) : Prop := ∃ A c, e = .returned (.tuple #[.slice A r.1.length c, .int .i64 r.2]) ∧ r.1.length ≤ c ∧ RII w' A r.1 ∧ Below w.heap.size w w'
theorem rdIC_nil {w w' : World} {r : List Int × Int} {c : Int} (h : ([], c) = r) (hb : Below w.heap.size w w') : RdIC w r (.returned (.tuple #[.slice none 0 0, .int .i64 c])) w' := by
  subst h; exact ⟨none, 0, rfl, Nat.le_refl _, RI.nil, hb⟩
theorem rdIC_of {w w' : World} {r : List Int × Int} {xs : List Int} {A : Option Addr} {c : Nat} (h : (xs, 0) = r) (hc : xs.length ≤ c) (hr : RI w' A xs) (hb : Below w.heap.size w w') : RdIC w r (.returned (.tuple #[.slice A xs.length c, .int .i64 0])) w' := by
  subst h; exact ⟨A, c, rfl, hc, hr, hb⟩
theorem rdIIC_nil {w w' : World} {r : List (List Int) × Int} {c : Int} (h : ([], c) = r) (hb : Below w.heap.size w w') : RdIIC w r (.returned (.tuple #[.slice none 0 0, .int .i64 c])) w' := by
  subst h; exact ⟨none, 0, rfl, Nat.le_refl _, RII.nil, hb⟩
theorem rdIIC_of {w w' : World} {r : List (List Int) × Int} {xss : List (List Int)} {A : Option Addr} {c : Nat} (h : (xss, 0) = r) (hc : xss.length ≤ c) (hr : RII w' A xss) (hb : Below w.heap.size w w') : RdIIC w r (.returned (.tuple #[.slice A xss.length c, .int .i64 0])) w' := by
  subst h; exact ⟨A, c, rfl, hc, hr, hb⟩
/-- a table whose address is known: the cell and the row -/
theorem RII.cell {w : World} {b o : Nat} {xss : List (List Int)} (h : RII w (some ⟨b, o, none⟩) xss) {k : Nat} (hk : k < xss.length) : ∃ A' c, w.cell? ⟨b, o + k, none⟩ = some (.slice A' xss[k].length c) ∧ xss[k].length ≤ c ∧ RI w A' xss[k] := by
  obtain ⟨b', o', A', c, e, hc, hcc, hr⟩ := h.at_ hk
  injection e with e
  injection e with e1 e2
  subst e1 e2
  exact ⟨A', c, hc, hcc, hr⟩
theorem RI.cell' {w : World} {b o : Nat} {xs : List Int} (h : RI w (some ⟨b, o, none⟩) xs) {k : Nat} (hk : k < xs.length) : w.cell? ⟨b, o + k, none⟩ = some (.int .i64 xs[k]) := by
  obtain ⟨b', o', e, hc⟩ := h.at_ hk
  injection e with e
  injection e with e1 e2
  subst e1 e2
  exact hc
/-- a call of a function of the program -/
theorem enters {f : FuncId} {fn : Func} {c : Code} (hf : Tryz.prog.funcs[f]? = some fn) (hname : (fn.name == "runtime.NumGoroutine") = false) (hb : fn.body = some c) : Go.Proofs.Enters Tryz.prog f := Go.Proofs.enters_of hf hname hb
end Go.Proofs.YtdedajohkdbdkaaGreatDoor

/- A region that draws, walked by hand: one operation is taken first, its place in the state told. -/
namespace Go.Proofs.YtdedajohkdbdkaaGreatDoor
set_option linter.unusedVariables false
section
variable {P : Program} {ops : Array Oper} {Q : Exit → Act → World → Prop} {md : Region.Mode} {S : World → Prop}
/-- taken first: it yields v in whatever world that meets S -/
theorem takeD {i : Nat} {oi : Oper} (d : Option Tmp) (v : Value) {fuel : Nat} {listed : Array Bool} {a : Act} {w : World} (hi : ops[i]? = some oi) (hd : oi.dst = d)
    (hs : Region.noSelect ops = true) (hf : Region.free md ops listed i = true) (hr : (Region.ready md ops listed).contains i = true)
    (hQ : ∀ c a w, Q (.panic c) (a.put oi.dst v) w → Q (.panic c) a w) (hS : S w) (hy : YieldsIf P ops S oi v a)
    (h : wpAnyH P md ops Q S fuel (listed.setIfInBounds i true) (a.put d v) w) : wpAnyH P md ops Q S (fuel + 1) listed a w := by
  subst hd; exact wpAnyH_take hi hs hf hr hQ hy hS h
/-- skipped: its guard says no -/
theorem skipD {i : Nat} {oi : Oper} (d : Option Tmp) {fuel : Nat} {listed : Array Bool} {a : Act} {w : World} (hi : ops[i]? = some oi) (hd : oi.dst = d)
    (hs : Region.noSelect ops = true) (hf : Region.free md ops listed i = true) (hr : (Region.ready md ops listed).contains i = true)
    (hQ : ∀ c a w, Q (.panic c) (a.put oi.dst undef) w → Q (.panic c) a w) (hS : S w) (hy : Region.wanted oi (yielded ops a.tmps) = false)
    (h : wpAnyH P md ops Q S fuel (listed.setIfInBounds i true) (a.put d undef) w) : wpAnyH P md ops Q S (fuel + 1) listed a w := by
  subst hd; exact wpAnyH_take hi hs hf hr hQ (.inr ⟨hy, rfl⟩) hS h
end
end Go.Proofs.YtdedajohkdbdkaaGreatDoor

/- Plain laws for hulls: what Sort and Compact make of a column is the rising list of its different numbers. No program. -/
namespace Go.Proofs.YtdedajohkdbdkaaGreatDoor
open Go.RowKit
/-- Two strictly rising lists with the same elements are one. -/
theorem sorted_ext : ∀ {xs ys : List Int}, xs.Pairwise (· < ·) → ys.Pairwise (· < ·) → (∀ x, x ∈ xs ↔ x ∈ ys) → xs = ys
  | [], [], _, _, _ => rfl
  | [], y :: _, _, _, h => absurd ((h y).2 List.mem_cons_self) (by simp)
  | x :: _, [], _, _, h => absurd ((h x).1 List.mem_cons_self) (by simp)
  | x :: r, y :: s, h1, h2, h => by
    rw [List.pairwise_cons] at h1 h2
    have hxy : x = y := by
      rcases List.mem_cons.1 ((h x).1 List.mem_cons_self) with e | e
      · exact e
      · rcases List.mem_cons.1 ((h y).2 List.mem_cons_self) with e' | e'
        · exact e'.symm
        · have a := h2.1 x e; have b := h1.1 y e'; omega
    subst hxy
    rw [sorted_ext h1.2 h2.2 fun z => ?_]
    constructor
    · intro hz
      rcases List.mem_cons.1 ((h z).1 (List.mem_cons_of_mem _ hz)) with e | e
      · subst e; have := h1.1 z hz; omega
      · exact e
    · intro hz
      rcases List.mem_cons.1 ((h z).2 (List.mem_cons_of_mem _ hz)) with e | e
      · subst e; have := h2.1 z hz; omega
      · exact e
theorem bang_at {zs : List Int} {j : Nat} (h : j < zs.length) : zs.toArray[j]! = zs[j] := by simp [getElem!_pos, h]
/-- Compact of a rising list: strictly rising, the same elements. -/
theorem compact_sorted {zs : List Int} (hs : zs.Pairwise (· ≤ ·)) : (Lib.compact zs).Pairwise (· < ·) := by
  have hle : ∀ i j, i ≤ j → j < zs.length → zs.toArray[i]! ≤ zs.toArray[j]! := by
    intro i j hij hj
    rw [bang_at (by omega), bang_at hj]
    by_cases e : i = j
    · subst e; omega
    · exact List.pairwise_iff_getElem.1 hs i j (by omega) hj (by omega)
  unfold Lib.compact Lib.compactUpTo
  have h0 : ((List.range zs.length).filter (Lib.keeps zs.toArray)).Pairwise (· < ·) := List.Pairwise.filter _ List.pairwise_lt_range
  refine List.pairwise_map.2 (h0.imp_of_mem fun {a b} ha hb hab => ?_)
  have hb1 := List.mem_filter.1 hb
  have hbl := List.mem_range.1 hb1.1
  have hk := hb1.2
  simp only [Lib.keeps, decide_eq_true_eq] at hk
  have h1 := hle a (b - 1) (by omega) (by omega)
  have h2 := hle (b - 1) b (by omega) hbl
  have h3 : zs.toArray[b]! ≠ zs.toArray[b - 1]! := hk.resolve_left (by omega)
  omega
theorem mem_compact {zs : List Int} {x : Int} : x ∈ Lib.compact zs ↔ x ∈ zs := by
  unfold Lib.compact Lib.compactUpTo
  rw [List.mem_map]
  constructor
  · rintro ⟨j, hj, rfl⟩
    have := List.mem_range.1 (List.mem_filter.1 hj).1
    rw [bang_at this]; exact List.getElem_mem this
  · intro h
    obtain ⟨j, hj, e⟩ := List.getElem_of_mem h
    clear h
    induction j with
    | zero => exact ⟨0, List.mem_filter.2 ⟨List.mem_range.2 hj, by simp [Lib.keeps]⟩, by rw [bang_at hj, e]⟩
    | succ j ih =>
      by_cases hd : zs[j + 1] = zs[j]
      · exact ih (by omega) (by rw [← hd]; exact e)
      · exact ⟨j + 1, List.mem_filter.2 ⟨List.mem_range.2 hj, by
          simp only [Lib.keeps, decide_eq_true_eq]; right; rw [bang_at hj, show j + 1 - 1 = j by omega, bang_at (by omega)]; exact hd⟩, by rw [bang_at hj, e]⟩
/-- the depths that stand in a column -/
def hullSet (n : Nat) (xs : List Int) : List Int := (seqI 0 n).filter (hasI xs)
theorem mem_seqI {n : Nat} {x : Int} : x ∈ seqI 0 n ↔ 0 ≤ x ∧ x < n := by
  unfold seqI
  rw [List.mem_map]
  constructor
  · rintro ⟨j, hj, rfl⟩; have := List.mem_range.1 hj; omega
  · rintro ⟨h1, h2⟩; exact ⟨x.toNat, List.mem_range.2 (by omega), by omega⟩
theorem seqI_rising (n : Nat) : (seqI 0 n).Pairwise (· < ·) := by
  unfold seqI
  refine List.pairwise_map.2 (List.pairwise_lt_range.imp fun {a b} h => ?_)
  omega
theorem hullSet_rising (n : Nat) (xs : List Int) : (hullSet n xs).Pairwise (· < ·) := List.Pairwise.filter _ (seqI_rising n)
theorem mem_hullSet {n : Nat} {xs : List Int} {x : Int} : x ∈ hullSet n xs ↔ (0 ≤ x ∧ x < n) ∧ x ∈ xs := by
  unfold hullSet; rw [List.mem_filter, mem_seqI, hasI_iff]
theorem hullSet_succ (n : Nat) (xs : List Int) : hullSet (n + 1) xs = hullSet n xs ++ (if hasI xs n = true then [(n : Int)] else []) := by
  unfold hullSet
  rw [seqI_succ, List.filter_append]
  congr 1
  by_cases h : hasI xs n = true
  · simp [h]
  · simp [h]
theorem hullSet_len (n : Nat) (xs : List Int) : (hullSet n xs).length ≤ n := by
  have := List.length_filter_le (hasI xs) (seqI 0 n)
  rw [seqI_length] at this; exact this
/-- Sort, then Compact. -/
theorem hull_sort {n : Nat} {xs : List Int} (h : ∀ x ∈ xs, 0 ≤ x ∧ x < n) : Lib.compact (xs.mergeSort fun x y => decide (x ≤ y)) = hullSet n xs := by
  have hs : (xs.mergeSort fun x y => decide (x ≤ y)).Pairwise (· ≤ ·) :=
    (List.pairwise_mergeSort (le := fun x y : Int => decide (x ≤ y)) (fun a b c h1 h2 => by simp only [decide_eq_true_eq] at *; omega) (fun a b => by simp only [Bool.or_eq_true, decide_eq_true_eq]; omega) xs).imp (fun {a b} h => by simpa using h)
  refine sorted_ext (compact_sorted hs) (hullSet_rising n xs) fun x => ?_
  rw [mem_compact, List.mem_mergeSort, mem_hullSet]
  exact ⟨fun hx => ⟨h x hx, hx⟩, fun hx => hx.2⟩
/-- the column of some lists -/
def colI (ks : List (List Int)) (i : Nat) : List Int := ks.map fun k => k.getD i 0
theorem colI_succ (ks : List (List Int)) (i k : Nat) (h : k < ks.length) : colI (ks.take (k + 1)) i = colI (ks.take k) i ++ [ks[k].getD i 0] := by
  unfold colI; rw [List.take_succ_eq_append_getElem h, List.map_append]; rfl
theorem colI_length (ks : List (List Int)) (i : Nat) : (colI ks i).length = ks.length := by simp [colI]
/-- the hull of keys: c chambers, n depths -/
def hullF (c n : Nat) (ks : List (List Int)) : List (List Int) := (List.range c).map fun i => hullSet n (colI ks i)
theorem hullF_succ (c n : Nat) (ks : List (List Int)) : hullF (c + 1) n ks = hullF c n ks ++ [hullSet n (colI ks c)] := by
  unfold hullF; rw [List.range_succ, List.map_append]; rfl
theorem hullF_length (c n : Nat) (ks : List (List Int)) : (hullF c n ks).length = c := by simp [hullF]
theorem hullF_at {c n i : Nat} {ks : List (List Int)} (h : i < c) : (hullF c n ks)[i]'(by rw [hullF_length]; exact h) = hullSet n (colI ks i) := by simp [hullF]
theorem hullF_row {c n : Nat} {ks : List (List Int)} {i : Nat} (h : i < (hullF c n ks).length) : (hullF c n ks)[i].length ≤ n := by
  rw [hullF_length] at h; rw [hullF_at h]; exact hullSet_len _ _
/-- the hull of two numbers -/
theorem hullSet_two {n : Nat} {a b : Int} (ha : 0 ≤ a ∧ a < n) (hb : 0 ≤ b ∧ b < n) : hullSet n [a, b] = if b < a then [b, a] else if a < b then [a, b] else [a] := by
  by_cases h1 : b < a
  · rw [if_pos h1]
    refine sorted_ext (hullSet_rising _ _) (by simpa using h1) fun x => ?_
    rw [mem_hullSet]; simp only [List.mem_cons, List.mem_nil_iff, or_false]
    constructor
    · rintro ⟨_, h | h⟩ <;> simp [h]
    · rintro (h | h) <;> subst h <;> simp [ha, hb]
  · rw [if_neg h1]
    by_cases h2 : a < b
    · rw [if_pos h2]
      refine sorted_ext (hullSet_rising _ _) (by simpa using h2) fun x => ?_
      rw [mem_hullSet]; simp only [List.mem_cons, List.mem_nil_iff, or_false]
      constructor
      · rintro ⟨_, h⟩; exact h
      · rintro (h | h) <;> subst h <;> simp [ha, hb]
    · rw [if_neg h2]
      have e : a = b := by omega
      subst e
      refine sorted_ext (hullSet_rising _ _) (by simp) fun x => ?_
      rw [mem_hullSet]; simp only [List.mem_cons, List.mem_nil_iff, or_false, or_self]
      constructor
      · rintro ⟨_, h⟩; exact h
      · rintro h; subst h; exact ⟨ha, rfl⟩
end Go.Proofs.YtdedajohkdbdkaaGreatDoor

/- Words for memory: lists of locks, read and owned. No dump but the types' numbers. -/
namespace Go.Proofs.YtdedajohkdbdkaaGreatDoor
set_option linter.unusedVariables false
open Go.RowKit
/-- A slice of locks. -/
def RLS (w : World) (A : Option Addr) (ls : List (List (List Int))) : Prop :=
  ∃ us, us.length = ls.length ∧ RV w A us ∧ ∀ j (hj : j < ls.length), ∃ A' c, us[j]? = some (.slice A' ls[j].length c) ∧ ls[j].length ≤ c ∧ RII w A' ls[j]
/-- The slice v owns a row of locks; lock j lies in blocks from (f j).1 to (f j).2 - 1. -/
def OLSf (w : World) (B C : Nat) (v : Value) (us : List Value) (f : Nat → Nat × Nat) (ls : List (List (List Int))) : Prop :=
  us.length = ls.length ∧ OR w B C 41 v us ∧ (∀ j (hj : j < ls.length), ∃ u, us[j]? = some u ∧ OII w (f j).1 (f j).2 u ls[j] ∧ B ≤ (f j).1 ∧ (f j).2 ≤ C) ∧
    (∀ i j, i < j → j < ls.length → (f i).2 ≤ (f j).1) ∧ ∀ g, v.ownBlock = some g → ∀ j, j < ls.length → g < (f j).1 ∨ (f j).2 ≤ g
def OLS (w : World) (B C : Nat) (v : Value) (ls : List (List (List Int))) : Prop := ∃ us f, OLSf w B C v us f ls
section
variable {w w' : World} {A : Option Addr} {B C lo hi : Nat} {v : Value} {us : List Value} {f : Nat → Nat × Nat} {ls : List (List (List Int))}
theorem RLS.below (h : RLS w A ls) (hb : Below w.heap.size w w') : RLS w' A ls := by
  obtain ⟨us, h1, h2, h3⟩ := h
  exact ⟨us, h1, h2.below hb, fun j hj => by obtain ⟨A', c, a, b, d⟩ := h3 j hj; exact ⟨A', c, a, b, d.below hb⟩⟩
theorem RLS.le (h : RLS w A ls) : ls.length ≤ 9223372036854775807 := by obtain ⟨us, h1, h2, _⟩ := h; have := h2.1; omega
theorem RLS.at_ (h : RLS w A ls) {k : Nat} (hk : k < ls.length) :
    ∃ b o A' c, A = some ⟨b, o, none⟩ ∧ w.cell? ⟨b, o + k, none⟩ = some (.slice A' ls[k].length c) ∧ ls[k].length ≤ c ∧ RII w A' ls[k] := by
  obtain ⟨us, h1, h2, h3⟩ := h
  obtain ⟨A', c, hu, hc, hr⟩ := h3 k hk
  obtain ⟨b, o, rfl, hcell⟩ := h2.at_ (k := k) (by omega)
  refine ⟨b, o, A', c, rfl, ?_, hc, hr⟩
  rw [hcell, ← hu, List.getElem?_eq_getElem]
theorem RLS.nil : RLS w A [] := ⟨[], rfl, ⟨by simp, fun h => absurd rfl h⟩, fun j hj => by simp at hj⟩
theorem OLSf.keep (h : OLSf w B C v us f ls) (hk : ∀ g, B ≤ g → g < C → w'.heap[g]? = w.heap[g]?) : OLSf w' B C v us f ls := by
  obtain ⟨h1, h2, h3, h4, h5⟩ := h
  exact ⟨h1, h2.keep hk, fun j hj => by obtain ⟨u, a, b, c, d⟩ := h3 j hj; exact ⟨u, a, b.keep fun g hg1 hg2 => hk g (by omega) (by omega), c, d⟩, h4, h5⟩
theorem OLS.keep (h : OLS w B C v ls) (hk : ∀ g, B ≤ g → g < C → w'.heap[g]? = w.heap[g]?) : OLS w' B C v ls := by
  obtain ⟨us, f, h⟩ := h; exact ⟨us, f, h.keep hk⟩
theorem OLS.below (h : OLS w B C v ls) (hb : Below C w w') : OLS w' B C v ls := h.keep fun g _ hg => hb.block g hg
theorem OR.only_lt {e : Nat} (h : OR w B C e v us) (g : Nat) (hg : v.ownBlock = some g) : g < w.heap.size := (h.1.lt g hg).2
theorem OLSf.only (h : OLSf w B C v us f ls) (ho : Only lo hi w w') (hd : C ≤ lo ∨ hi ≤ B) : OLSf w' B C v us f ls := by
  obtain ⟨h1, h2, h3, h4, h5⟩ := h
  exact ⟨h1, h2.only ho hd, fun j hj => by obtain ⟨u, a, b, c, d⟩ := h3 j hj; exact ⟨u, a, b.only ho (by omega), c, d⟩, h4, h5⟩
theorem OLS.only (h : OLS w B C v ls) (ho : Only lo hi w w') (hd : C ≤ lo ∨ hi ≤ B) : OLS w' B C v ls := by
  obtain ⟨us, f, h⟩ := h; exact ⟨us, f, h.only ho hd⟩
theorem OLSf.wide {B' C' : Nat} (h : OLSf w B C v us f ls) (hB : B' ≤ B) (hC : C ≤ C') : OLSf w B' C' v us f ls := by
  obtain ⟨h1, h2, h3, h4, h5⟩ := h
  exact ⟨h1, h2.wide hB hC, fun j hj => by obtain ⟨u, a, b, c, d⟩ := h3 j hj; exact ⟨u, a, b, by omega, by omega⟩, h4, h5⟩
theorem OLS.wide {B' C' : Nat} (h : OLS w B C v ls) (hB : B' ≤ B) (hC : C ≤ C') : OLS w B' C' v ls := by
  obtain ⟨us, f, h⟩ := h; exact ⟨us, f, h.wide hB hC⟩
theorem OLS.reads (h : OLS w B C v ls) : ∃ A c, v = .slice A ls.length c ∧ ls.length ≤ c ∧ RLS w A ls := by
  obtain ⟨us, f, h1, h2, h3, _⟩ := h
  obtain ⟨A, c, rfl, hc, hr⟩ := h2.1.reads
  refine ⟨A, c, by rw [h1], by omega, us, h1, hr, fun j hj => ?_⟩
  obtain ⟨u, hu, ho, _⟩ := h3 j hj
  obtain ⟨A', c', rfl, hc', hr'⟩ := ho.reads
  exact ⟨A', c', hu, hc', hr'⟩
end
theorem OLS.rls {w : World} {B C c n : Nat} {A : Option Addr} {ls : List (List (List Int))} (h : OLS w B C (.slice A n c) ls) : RLS w A ls := by
  obtain ⟨A', c', he, _, hr⟩ := h.reads
  injection he with e1; subst e1; exact hr
theorem OLS.new0 {w : World} {B : Nat} (hB : B ≤ w.heap.size) : OLS (w.alloc (.cells #[] 41)) B (w.heap.size + 1) (.slice (some ⟨w.heap.size, 0, none⟩) 0 0) [] :=
  ⟨[], fun _ => (0, 0), rfl, ⟨OV.new0 hB, fun g h => by simp [Value.ownBlock] at h; omega⟩, fun j hj => by simp at hj, fun i j _ h => by simp at h, fun g _ j h => by simp at h⟩
theorem OLS.nil {w : World} {B C : Nat} : OLS w B C (.slice none 0 0) [] :=
  ⟨[], fun _ => (0, 0), rfl, ⟨OV.nil, fun g h => by simp [Value.ownBlock] at h⟩, fun j hj => by simp at hj, fun i j _ h => by simp at h, fun g _ j h => by simp at h⟩
/-- Behind 'append(v, u)' of one lock, whose one new element lies in a block o of its own. -/
theorem OLSf.push1 {w w' : World} {B C D : Nat} {v v' u : Value} {us : List Value} {f : Nat → Nat × Nat} {ls : List (List (List Int))} {l : List (List Int)} {o : Obj} (h : OLSf w B C v us f ls)
    (hu : OII w C D u l) (hBC : B ≤ C) (hC : C ≤ w.heap.size) (hD : D ≤ w.heap.size) (hCD : C ≤ D) (ho : OV w' B 41 v' (us ++ [u])) (hg : (w.alloc o).grownBy w' v.ownBlock)
    (hat : v'.ownBlock = v.ownBlock ∨ v'.ownBlock = some (w.alloc o).heap.size) : OLS w' B w'.heap.size v' (ls ++ [l]) := by
  obtain ⟨h1, h2, h3, h4, h5⟩ := h
  have hsz := hg.size
  simp only [World.size_alloc] at hsz
  have keep : ∀ g, g < w.heap.size → v.ownBlock ≠ some g → w'.heap[g]? = w.heap[g]? := fun g hl hn =>
    (hg.block g (by simp; omega) (Ne.symm hn)).trans (Below.heap_alloc w o g hl)
  have hvC : ∀ g, v.ownBlock = some g → g < C := h2.2
  refine ⟨us ++ [u], fun j => if j < ls.length then f j else (C, D), by simp [h1], ho.toOR, fun j hj => ?_, fun i j hij hj => ?_, fun g hgv j hj => ?_⟩
  · by_cases hjl : j < ls.length
    · obtain ⟨a, ha, hoa, hb1, hb2⟩ := h3 j hjl
      refine ⟨a, by rw [List.getElem?_append_left (by omega)]; exact ha, ?_⟩
      simp only [if_pos hjl]
      rw [List.getElem_append_left hjl]
      refine ⟨hoa.keep fun g hg1 hg2 => keep g (by omega) fun e => ?_, hb1, by omega⟩
      have := h5 g e j hjl; omega
    · have hje : j = ls.length := by simp at hj; omega
      subst hje
      refine ⟨u, by rw [List.getElem?_append_right (by omega)]; simp [h1], ?_⟩
      simp only [Nat.lt_irrefl, if_false]
      rw [List.getElem_append_right (by omega)]
      simp only [Nat.sub_self, List.getElem_cons_zero]
      exact ⟨hu.keep fun g hg1 hg2 => keep g (by omega) fun e => by have := hvC g e; omega, hBC, by omega⟩
  · simp only [List.length_append, List.length_cons, List.length_nil] at hj
    by_cases hjl : j < ls.length
    · simp only [if_pos hjl, if_pos (show i < ls.length by omega)]; exact h4 i j hij hjl
    · obtain ⟨a, ha, hoa, hb1, hb2⟩ := h3 i (by omega)
      simp only [if_neg hjl, if_pos (show i < ls.length by omega)]; exact hb2
  · simp only [List.length_append, List.length_cons, List.length_nil] at hj
    by_cases hjl : j < ls.length
    · obtain ⟨a, ha, hoa, hb1, hb2⟩ := h3 j hjl
      simp only [if_pos hjl]
      rcases hat with e | e
      · exact h5 g (e.symm.trans hgv) j hjl
      · rw [hgv] at e; injection e with e; simp at e; omega
    · simp only [if_neg hjl]
      rcases hat with e | e
      · have := hvC g (e.symm.trans hgv); omega
      · rw [hgv] at e; injection e with e; simp at e; omega
/-- a list of locks in new memory; one that reads -/
def ResLS (w : World) (ls : List (List (List Int))) (e : Ending) (w' : World) : Prop := ∃ A c, e = .returned (.slice A ls.length c) ∧ ls.length ≤ c ∧ RLS w' A ls ∧ OLS w' w.heap.size w'.heap.size (.slice A ls.length c) ls ∧ Below w.heap.size w w'
def RdLS (w : World) (ls : List (List (List Int))) (e : Ending) (w' : World) : Prop := ∃ A c, e = .returned (.slice A ls.length c) ∧ ls.length ≤ c ∧ RLS w' A ls ∧ Below w.heap.size w w'
/-- rows of slices that read in a world w (a call's first world: so they read on in all that keep it) -/
def RowsW (w : World) (us : List Value) (xss : List (List Int)) : Prop := us.length = xss.length ∧ ∀ j (hj : j < xss.length), ∃ A' c, us[j]? = some (.slice A' xss[j].length c) ∧ xss[j].length ≤ c ∧ RI w A' xss[j]
theorem RowsW.nil {w : World} : RowsW w [] [] := ⟨rfl, fun j hj => by simp at hj⟩
theorem RowsW.snoc {w : World} {us : List Value} {xss : List (List Int)} {A : Option Addr} {c : Nat} {xs : List Int} (h : RowsW w us xss) (hc : xs.length ≤ c) (hr : RI w A xs) : RowsW w (us ++ [.slice A xs.length c]) (xss ++ [xs]) := by
  obtain ⟨h1, h2⟩ := h
  refine ⟨by simp [h1], fun j hj => ?_⟩
  by_cases hjl : j < xss.length
  · obtain ⟨A', c', a, b, d⟩ := h2 j hjl
    refine ⟨A', c', ?_, ?_, ?_⟩
    · rw [List.getElem?_append_left (by omega), List.getElem_append_left hjl]; exact a
    · rw [List.getElem_append_left hjl]; exact b
    · rw [List.getElem_append_left hjl]; exact d
  · have hje : j = xss.length := by simp at hj; omega
    subst hje
    refine ⟨A, c, ?_, ?_, ?_⟩
    · rw [List.getElem?_append_right (by omega), List.getElem_append_right (by omega)]; simp [h1]
    · rw [List.getElem_append_right (by omega)]; simpa using hc
    · rw [List.getElem_append_right (by omega)]; simpa using hr
theorem RowsW.rii {w w' : World} {us : List Value} {xss : List (List Int)} {A : Option Addr} (h : RowsW w us xss) (hb : Below w.heap.size w w') (hv : RV w' A us) : RII w' A xss :=
  ⟨us, h.1, hv, fun j hj => by obtain ⟨A', c, a, b, d⟩ := h.2 j hj; exact ⟨A', c, a, b, d.below hb⟩⟩
theorem info_lock : (Tryz.prog.info? 41).map (fun i => (i.zero, i.size, i.bytes)) = some (some (.agg #[.slice none 0 0]), 1, 24) := by kernel_rfl
end Go.Proofs.YtdedajohkdbdkaaGreatDoor
