/- Words for memory: a slice that reads as a list, a row of the call's own, append. No dump. -/
import Derived.WalkKit
import Derived.WalkSpells
import Derived.WalkLawsBesides
import Derived.Lib.Hide
import Derived.Deep.Draws
import Derived.Deep.AppendLies
import Derived.Maps.AppendAt
import Derived.Deep.QuietTactic
import Derived.BigQuiet
import Derived.Deep.RegionHeld3
namespace Go.Proofs.YtapocenhmdcfoaaGreat
set_option linter.unusedVariables false
open Go.RowKit

theorem retB {a b : Bool} (h : a = b) : Ending.returned (.bool a) = .returned (.bool b) := by rw [h]
theorem retI {k : IntKind} {a b : Int} (h : a = b) : Ending.returned (.int k a) = .returned (.int k b) := by rw [h]
theorem drewEx {w : World} {n m : Nat} : ∃ k, (w.drewN n).drewN m = w.drewN k := ⟨_, World.drewN_drewN _ _ _⟩
theorem belowD {B : Nat} {a w : World} (h : Below B a w) (n : Nat) : Below B a (w.drewN n) := ⟨h.os, h.tape, h.output, h.size, h.block⟩
theorem bcell {W w1 : World} (hb : Below W.heap.size W w1) : (∀ b o, b < W.heap.size → w1.cell? ⟨b, o, none⟩ = W.cell? ⟨b, o, none⟩) ∧ (∀ b o, b < W.heap.size → w1.frozen? ⟨b, o, none⟩ = W.frozen? ⟨b, o, none⟩) :=
  ⟨fun b o h => hb.cell (p := ⟨b, o, none⟩) h, fun b o h => hb.frozen (p := ⟨b, o, none⟩) h⟩

theorem cell_in {B : Nat} {W w : World} {a : Addr} {v : Value} (hb : Below B W w) (ha : a.block < B) (h : W.cell? a = some v) : w.cell? a = some v := (hb.cell ha).trans h
/-! quiet calls: of contracts that state 'w = w'' (S) or draws (Q); the caller's world bare, or drawn already (A) -/
section
variable {P : Program} {f : FuncId} {args : Array Value} {w : World} {a n : Nat} {v : Value}
theorem quietS (h : Calls P f args (w.drewN n) fun e w' => e = .returned v ∧ w.drewN n = w') : Calls P f args (w.drewN n) fun e w'' => e = .returned v ∧ ∃ m, w'' = w.drewN m :=
  h.mono fun _ _ ⟨he, hm⟩ => ⟨he, n, hm.symm⟩
theorem quietSA (h : Calls P f args (w.drewN (a + n)) fun e w' => e = .returned v ∧ w.drewN (a + n) = w') : Calls P f args (w.drewN (a + n)) fun e w'' => e = .returned v ∧ ∃ m, w'' = w.drewN (a + m) :=
  h.mono fun _ _ ⟨he, hm⟩ => ⟨he, n, hm.symm⟩
theorem quietQ (h : Calls P f args (w.drewN n) fun e w' => e = .returned v ∧ ∃ m, w' = (w.drewN n).drewN m) : Calls P f args (w.drewN n) fun e w'' => e = .returned v ∧ ∃ m, w'' = w.drewN m :=
  h.mono fun _ _ ⟨he, m, hm⟩ => ⟨he, n + m, by rw [hm, World.drewN_drewN]⟩
theorem quietQA (h : Calls P f args (w.drewN (a + n)) fun e w' => e = .returned v ∧ ∃ m, w' = (w.drewN (a + n)).drewN m) : Calls P f args (w.drewN (a + n)) fun e w'' => e = .returned v ∧ ∃ m, w'' = w.drewN (a + m) :=
  h.mono fun _ _ ⟨he, m, hm⟩ => ⟨he, n + m, by rw [hm, World.drewN_drewN, Nat.add_assoc]⟩
end

/-- the cells of a row of int64 -/
def ints (xs : List Int) : List Value := xs.map (Value.int .i64)
theorem ints_length (xs : List Int) : (ints xs).length = xs.length := by simp [ints]
theorem ints_get {xs : List Int} {j : Nat} {x : Int} (h : xs[j]? = some x) : (ints xs)[j]? = some (.int .i64 x) := by simp [ints, h]
theorem ints_one (xs : List Int) : ∀ u ∈ ints xs, u.oneCell' = true := ints_oneCell _ _
theorem ints_append (xs ys : List Int) : ints (xs ++ ys) = ints xs ++ ints ys := by simp [ints]
theorem ints_take (xs : List Int) (k : Nat) : ints (xs.take k) = (ints xs).take k := by simp [ints]

/-- A slice's address A and the cells us that it reads in w. -/
def RV (w : World) (A : Option Addr) (us : List Value) : Prop :=
  us.length ≤ 9223372036854775807 ∧ (us ≠ [] → ∃ b o, A = some ⟨b, o, none⟩ ∧ ∀ j u, us[j]? = some u → w.cell? ⟨b, o + j, none⟩ = some u)
/-- A slice of int64 that reads as xs. -/
def RI (w : World) (A : Option Addr) (xs : List Int) : Prop := RV w A (ints xs)
/-- A slice of slices of int64. -/
def RII (w : World) (A : Option Addr) (xss : List (List Int)) : Prop :=
  ∃ us, us.length = xss.length ∧ RV w A us ∧ ∀ j (hj : j < xss.length), ∃ A' c, us[j]? = some (.slice A' xss[j].length c) ∧ xss[j].length ≤ c ∧ RI w A' xss[j]

section
variable {w w' : World} {A : Option Addr} {us : List Value} {xs : List Int} {xss : List (List Int)}
theorem RV.keep (h : RV w A us) (hk : ∀ b o, b < w.heap.size → w'.cell? ⟨b, o, none⟩ = w.cell? ⟨b, o, none⟩) : RV w' A us := by
  refine ⟨h.1, fun hn => ?_⟩
  obtain ⟨b, o, rfl, hc⟩ := h.2 hn
  exact ⟨b, o, rfl, fun j u hu => (hk b _ (World.block_lt_of_cell? w _ (hc j u hu))).trans (hc j u hu)⟩
theorem RV.below (h : RV w A us) (hb : Below w.heap.size w w') : RV w' A us := h.keep (bcell hb).1
theorem RI.below (h : RI w A xs) (hb : Below w.heap.size w w') : RI w' A xs := RV.below h hb
theorem RII.below (h : RII w A xss) (hb : Below w.heap.size w w') : RII w' A xss := by
  obtain ⟨us, h1, h2, h3⟩ := h
  exact ⟨us, h1, h2.below hb, fun j hj => by obtain ⟨A', c, a, b, d⟩ := h3 j hj; exact ⟨A', c, a, b, d.below hb⟩⟩
theorem RV.alloc (h : RV w A us) (o : Obj) : RV (w.alloc o) A us := h.below ((Below.refl _ _).alloc (Nat.le_refl _) o)
theorem RI.alloc (h : RI w A xs) (o : Obj) : RI (w.alloc o) A xs := RV.alloc h o
theorem RII.alloc (h : RII w A xss) (o : Obj) : RII (w.alloc o) A xss := h.below ((Below.refl _ _).alloc (Nat.le_refl _) o)
theorem RV.drewN (h : RV w A us) (n : Nat) : RV (w.drewN n) A us := h
theorem RI.drewN (h : RI w A xs) (n : Nat) : RI (w.drewN n) A xs := h
theorem RII.drewN (h : RII w A xss) (n : Nat) : RII (w.drewN n) A xss := h
theorem RI.le (h : RI w A xs) : xs.length ≤ 9223372036854775807 := by have := h.1; simpa [ints] using this
theorem RII.le (h : RII w A xss) : xss.length ≤ 9223372036854775807 := by obtain ⟨us, h1, h2, _⟩ := h; have := h2.1; omega
theorem RV.at_ (h : RV w A us) {k : Nat} (hk : k < us.length) : ∃ b o, A = some ⟨b, o, none⟩ ∧ w.cell? ⟨b, o + k, none⟩ = some us[k] := by
  obtain ⟨b, o, rfl, hc⟩ := h.2 (by intro e; subst e; simp at hk)
  exact ⟨b, o, rfl, hc k _ (List.getElem?_eq_getElem hk)⟩
/-- In a round: the address and the cell. -/
theorem RI.at_ (h : RI w A xs) {k : Nat} (hk : k < xs.length) : ∃ b o, A = some ⟨b, o, none⟩ ∧ w.cell? ⟨b, o + k, none⟩ = some (.int .i64 xs[k]) := by
  obtain ⟨b, o, rfl, hc⟩ := RV.at_ h (k := k) (by rw [ints_length]; exact hk)
  exact ⟨b, o, rfl, by rw [hc]; simp [ints]⟩
theorem RII.at_ (h : RII w A xss) {k : Nat} (hk : k < xss.length) :
    ∃ b o A' c, A = some ⟨b, o, none⟩ ∧ w.cell? ⟨b, o + k, none⟩ = some (.slice A' xss[k].length c) ∧ xss[k].length ≤ c ∧ RI w A' xss[k] := by
  obtain ⟨us, h1, h2, h3⟩ := h
  obtain ⟨A', c, hu, hc, hr⟩ := h3 k hk
  obtain ⟨b, o, rfl, hcell⟩ := h2.at_ (k := k) (by omega)
  refine ⟨b, o, A', c, rfl, ?_, hc, hr⟩
  rw [hcell, ← hu, List.getElem?_eq_getElem]
/-- Two rows of one table. -/
theorem RII.at2 (h : RII w A xss) {k j : Nat} (hk : k < xss.length) (hj : j < xss.length) :
    ∃ b o A1 c1 A2 c2, A = some ⟨b, o, none⟩ ∧ w.cell? ⟨b, o + k, none⟩ = some (.slice A1 xss[k].length c1) ∧ xss[k].length ≤ c1 ∧ RI w A1 xss[k] ∧
      w.cell? ⟨b, o + j, none⟩ = some (.slice A2 xss[j].length c2) ∧ xss[j].length ≤ c2 ∧ RI w A2 xss[j] := by
  obtain ⟨b, o, A1, c1, rfl, h1, h2, h3⟩ := h.at_ hk
  obtain ⟨b', o', A2, c2, e, g1, g2, g3⟩ := h.at_ hj
  injection e with e
  injection e with e1 e2
  subst e1 e2
  exact ⟨b, o, A1, c1, A2, c2, rfl, h1, h2, h3, g1, g2, g3⟩
theorem RI.nil : RI w A [] := ⟨by simp [ints], fun h => absurd rfl h⟩
theorem RII.nil : RII w A [] := ⟨[], rfl, ⟨by simp, fun h => absurd rfl h⟩, fun j hj => by simp at hj⟩
theorem RV.take (h : RV w A us) (k : Nat) : RV w A (us.take k) := by
  refine ⟨by have := h.1; simp; omega, fun hn => ?_⟩
  obtain ⟨b, o, rfl, hc⟩ := h.2 (by rintro rfl; simp at hn)
  refine ⟨b, o, rfl, fun j u hu => ?_⟩
  rw [List.getElem?_take] at hu
  split at hu
  · exact hc j u hu
  · cases hu
theorem RI.take (h : RI w A xs) (k : Nat) : RI w A (xs.take k) := by unfold RI; rw [ints_take]; exact RV.take h k
end

/-! ### rows of the call's own -/
/-- The slice v is nil, or lies at the head of a block from B on, unfrozen, of type e: its cells are us. -/
def OV (w : World) (B : Nat) (e : TypeId) (v : Value) (us : List Value) : Prop := w.ownsRow B e 1 v us.length us

section
variable {w w' : World} {B e : Nat} {v : Value} {us : List Value}
theorem OV.reads (h : OV w B e v us) : ∃ A c, v = .slice A us.length c ∧ us.length ≤ c ∧ RV w A us := by
  rcases h.2 with ⟨rfl, hn⟩ | ⟨g, cap, cur, rfl, hb, hh, hc, hm, hs, ht⟩
  · have : us = [] := List.eq_nil_of_length_eq_zero hn
    subst this
    exact ⟨none, 0, rfl, by simp, by simp, fun h => absurd rfl h⟩
  · refine ⟨some ⟨g, 0, none⟩, cap, rfl, hc, by simp only [maxLen] at hm; omega, fun _ => ⟨g, 0, rfl, fun j u hu => ?_⟩⟩
    have := h.cells (g := g) rfl j u hu
    rw [Addr.add_lit] at this
    exact this
theorem OV.below {C : Nat} (h : OV w B e v us) (hb : Below C w w') (hC : ∀ g, v.ownBlock = some g → g < C) : OV w' B e v us := by
  refine ⟨h.1, ?_⟩
  rcases h.2 with hn | ⟨g, cap, cur, rfl, hB, hh, r⟩
  · exact .inl hn
  · exact .inr ⟨g, cap, cur, rfl, hB, (hb.block g (hC g rfl)).trans hh, r⟩
theorem OV.below' (h : OV w B e v us) (hb : Below w.heap.size w w') : OV w' B e v us := h.below hb fun g hg => (h.lt g hg).2
theorem OV.alloc (h : OV w B e v us) (o : Obj) : OV (w.alloc o) B e v us := h.below' ((Below.refl _ _).alloc (Nat.le_refl _) o)
theorem OV.drewN (h : OV w B e v us) (n : Nat) : OV (w.drewN n) B e v us := h
theorem OV.own {C : Nat} {a : World} (h : OV w B e v us) (hC : C ≤ B) (hb : Below C a w) (hg : w.grownBy w' v.ownBlock) (hs : C ≤ w.heap.size) : Below C a w' :=
  hb.grown hg hs fun k hk => Nat.le_trans hC (h.lt k hk).1
theorem OV.mono {B' : Nat} (h : OV w B e v us) (hB : B' ≤ B) : OV w B' e v us := by
  refine ⟨h.1, ?_⟩
  rcases h.2 with hn | ⟨g, cap, cur, rfl, hB2, r⟩
  · exact .inl hn
  · exact .inr ⟨g, cap, cur, rfl, by omega, r⟩
theorem OV.nil : OV w B e (.slice none 0 0) [] := World.ownsRow_nil _ _ _ _
theorem OV.new (cs : Array Value) (hB : B ≤ w.heap.size) (hm : cs.size ≤ maxLen) : OV (w.alloc (.cells cs e)) B e (.slice (some ⟨w.heap.size, 0, none⟩) cs.size cs.size) cs.toList := by
  have h := World.ownsRow_lit (base := B) (e := e) (size := 1) w cs cs.size hB hm (by simp)
  unfold OV; simpa using h
theorem OV.new0 {w : World} {B e : Nat} (hB : B ≤ w.heap.size) : OV (w.alloc (.cells #[] e)) B e (.slice (some ⟨w.heap.size, 0, none⟩) 0 0) [] := OV.new (w := w) #[] hB (by simp)
theorem OV.drew (h : OV w B e v us) : OV w.drew B e v us := h
theorem belowG {a : World} {C : Nat} {row : Option Nat} (h : Below C a w) (hg : w.grownBy w' row) (hC : C ≤ w.heap.size) (hr : ∀ k, row = some k → C ≤ k) : Below C a w' := h.grown hg hC hr
end

/-! ### append of whatever reads as news, onto a row of the call's own -/
section
variable {P : Program} (w : World)
theorem run_app (B : Nat) (t ty e : TypeId) (i : TypeInfo) (z : Value) (bytes : Nat) (ht : P.underlying t = some (.slice e)) (hi : P.info? e = some i) (hz : i.zero = some z)
    (hsize : i.size = 1) (hby : i.bytes = bytes) (hzs : z.cells.size = 1) (v : Value) (us : List Value) (hown : OV w B e v us)
    (A : Option Addr) (c : Nat) (news : List Value) (hr : RV w A news) (h1 : ∀ u ∈ news, u.oneCell' = true)
    (hb : (us.length + news.length) * bytes ≤ 140737488355328) (hb2 : us.length + news.length ≤ 140737488355328) (hB : B ≤ w.heap.size) :
    ∃ v' w', (Builtin.append_ #[t, t] ty #[v, .slice A news.length c]).run P w = .ok v' w' ∧ OV w' B e v' (us ++ news) ∧ w.grownBy w' v.ownBlock ∧
      (v' = .slice none 0 0 ↔ v = .slice none 0 0 ∧ news = []) ∧ (v'.ownBlock = v.ownBlock ∨ v'.ownBlock = some w.heap.size) := by
  by_cases hn : news = []
  · subst hn
    have hrun : (Builtin.append_ #[t, t] ty #[v, .slice A 0 c]).run P w = .ok v w := by
      rcases hown.2 with ⟨rfl, hl⟩ | ⟨g, cap, cur, rfl, _, _, hnc, _⟩
      · cases A <;> simp [Builtin.append_, run_underlying ht, sizeOf, typeInfo, hi, Builtin.lenOf, Builtin.firstCells, loadCells, loadCellsFrom]
      · cases A <;> simp [Builtin.append_, run_underlying ht, sizeOf, typeInfo, hi, Builtin.lenOf, Builtin.firstCells, hnc, storeCells, loadCells, loadCellsFrom]
    exact ⟨v, w, hrun, by simpa [OV] using hown, World.grownBy.refl w _, by simp, .inl rfl⟩
  · obtain ⟨b, o, rfl, hc⟩ := hr.2 hn
    have hlen : 0 < news.length := List.length_pos_iff.2 hn
    obtain ⟨v', w', hrun, h2, h3, h4, h5⟩ := run_append_own_at (P := P) w B t ty e i z 1 bytes ht hi hz hsize hby hzs (by omega) v us.length us hown ⟨b, o, none⟩ news.length c news (by omega)
      (fun j u hu => by rw [Addr.add_lit]; exact hc j u hu) h1 (by simp only [maxLen]; omega) hb hB
    refine ⟨v', w', hrun, by unfold OV; rw [List.length_append]; exact h2, h3, ?_, h5⟩
    rw [h4]
    constructor
    · rintro ⟨_, h⟩; omega
    · rintro ⟨_, h⟩; exact absurd h hn

theorem wpList_app {ops : Array Oper} {rest : List Oper} {o : Oper} {a : Act} {Q : Exit → Act → World → Prop} (hgd : o.guard = none) (s x : Operand) (t : TypeId)
    (ho : o.op = .call { callee := .builtin .append, args := #[s, x], argTypes := #[t, t] })
    (B : Nat) (e : TypeId) (z : Value) (bytes : Nat) (ht : P.underlying t = some (.slice e)) (hinf : (P.info? e).map (fun i => (i.zero, i.size, i.bytes)) = some (some z, 1, bytes)) (hzs : z.cells.size = 1)
    (v : Value) (us : List Value) (hs : a.eval s = v) (hown : OV w B e v us)
    (A : Option Addr) (m c : Nat) (news : List Value) (hx : a.eval x = .slice A m c) (hm : m = news.length) (hr : RV w A news) (h1 : ∀ u ∈ news, u.oneCell' = true)
    (hb : (us.length + news.length) * bytes ≤ 140737488355328) (hb2 : us.length + news.length ≤ 140737488355328) (hB : B ≤ w.heap.size)
    (h : ∀ v' w', OV w' B e v' (us ++ news) → w.grownBy w' v.ownBlock → (v' = .slice none 0 0 ↔ v = .slice none 0 0 ∧ news = []) → (v'.ownBlock = v.ownBlock ∨ v'.ownBlock = some w.heap.size) → wpList P ops Q rest (a.put o.dst v') w') :
    wpList P ops Q (o :: rest) a w := by
  subst hm
  refine wpList_plain hgd fun K hK => ?_
  obtain ⟨i, hi, hz, hsz, hby⟩ := info_parts hinf
  obtain ⟨v', w', hrun, h2, h3, h4, h5⟩ := run_app (P := P) w B t o.type e i z bytes ht hi hz hsz hby hzs v us hown A c news hr h1 hb hb2 hB
  unfold Oper.wp execOp
  simp only [ho, resolve, invoke, builtin, Sem.run_bind, Sem.run_pure, Result.andThen_ok, List.map_toArray, List.map_cons, List.map_nil, hs, hx, hrun]
  exact hK _ _ (h v' w' h2 h3 h4 h5)
end

section
variable {P : Program} (w : World)
theorem step_app {ops : Array Oper} {o : Oper} {a : Act} {K : Act → World → Prop} {Q : Exit → Act → World → Prop} {E : Prop} (hgd : o.guard = none) (s x : Operand) (t : TypeId)
    (ho : o.op = .call { callee := .builtin .append, args := #[s, x], argTypes := #[t, t] })
    (B : Nat) (e : TypeId) (z : Value) (bytes : Nat) (ht : P.underlying t = some (.slice e)) (hinf : (P.info? e).map (fun i => (i.zero, i.size, i.bytes)) = some (some z, 1, bytes)) (hzs : z.cells.size = 1)
    (v : Value) (us : List Value) (hs : a.eval s = v) (hown : OV w B e v us)
    (A : Option Addr) (m c : Nat) (news : List Value) (hx : a.eval x = .slice A m c) (hm : m = news.length) (hr : RV w A news) (h1 : ∀ u ∈ news, u.oneCell' = true)
    (hb : (us.length + news.length) * bytes ≤ 140737488355328) (hb2 : us.length + news.length ≤ 140737488355328) (hB : B ≤ w.heap.size)
    (h : ∀ v' w', OV w' B e v' (us ++ news) → w.grownBy w' v.ownBlock → (v' = .slice none 0 0 ↔ v = .slice none 0 0 ∧ news = []) → (v'.ownBlock = v.ownBlock ∨ v'.ownBlock = some w.heap.size) → K (a.put o.dst v') w') :
    if Region.wanted o (yielded ops a.tmps) = true then Oper.wp P o a w K Q else E := by
  subst hm
  have hw : Region.wanted o (yielded ops a.tmps) = true := by simp [Region.wanted, hgd]
  rw [if_pos hw]
  obtain ⟨i, hi, hz, hsz, hby⟩ := info_parts hinf
  obtain ⟨v', w', hrun, h2, h3, h4, h5⟩ := run_app (P := P) w B t o.type e i z bytes ht hi hz hsz hby hzs v us hown A c news hr h1 hb hb2 hB
  unfold Oper.wp execOp
  simp only [ho, resolve, invoke, builtin, Sem.run_bind, Sem.run_pure, Result.andThen_ok, List.map_toArray, List.map_cons, List.map_nil, hs, hx, hrun]
  exact h v' w' h2 h3 h4 h5
end
theorem one_cell (w : World) (x : Value) (t : TypeId) : (w.alloc (.cells #[x] t)).cell? ⟨w.heap.size, 0, none⟩ = some x := by simp
theorem one_cell' {w : World} {x : Value} {t : TypeId} {g : Nat} (hg : g = w.heap.size) : (w.alloc (.cells #[x] t)).cell? ⟨g, 0, none⟩ = some x := by subst hg; simp
/-- the one new cell of 'append(out, x)' -/
theorem RV.one (w : World) (x : Value) (t : TypeId) : RV (w.alloc (.cells #[x] t)) (some ⟨w.heap.size, 0, none⟩) [x] := by
  refine ⟨by simp, fun _ => ⟨w.heap.size, 0, rfl, fun j u hu => ?_⟩⟩
  match j, hu with
  | 0, hu => simp at hu; subst hu; simp
  | j + 1, hu => simp at hu

/-! ### a made row that is filled cell by cell -/
/-- what a made row of n int64 looks like when its first k cells have been filled -/
def fill (xs : List Int) (k : Nat) : Array Value := (ints (xs.take k) ++ List.replicate (xs.length - k) (Value.int .i64 0)).toArray
theorem fill_zero (xs : List Int) : madeCells #[.int .i64 0] xs.length = fill xs 0 := by
  apply Array.toList_inj.1
  rw [toList_madeCells_one]; simp [fill, ints]
theorem fill_step {xs : List Int} {k : Nat} (hk : k < xs.length) : (fill xs k).setIfInBounds k (.int .i64 xs[k]) = fill xs (k + 1) := by
  apply Array.toList_inj.1
  have hl : (ints (xs.take k)).length = k := by simp [ints]; omega
  simp only [fill, Array.toList_setIfInBounds, List.set_append, hl, Nat.lt_irrefl, if_false, Nat.sub_self]
  obtain ⟨m, hm⟩ : ∃ m, xs.length - k = m + 1 := ⟨xs.length - k - 1, by omega⟩
  rw [hm, List.replicate_succ, List.set_cons_zero, show xs.length - (k + 1) = m by omega, List.take_succ_eq_append_getElem hk]
  simp only [ints, List.map_append, List.map_cons, List.map_nil, List.append_assoc, List.cons_append, List.nil_append]
theorem fill_size (xs : List Int) (k : Nat) (hk : k ≤ xs.length) : (fill xs k).size = xs.length := by simp [fill, ints]; omega
theorem fill_all (xs : List Int) : fill xs xs.length = (ints xs).toArray := by simp [fill]

/-- append(out, y) of one number, of one slice -/
theorem RV.of_cell {w : World} {g : Nat} {x : Value} (h : w.cell? ⟨g, 0, none⟩ = some x) : RV w (some ⟨g, 0, none⟩) [x] := by
  refine ⟨by simp, fun _ => ⟨g, 0, rfl, fun j u hu => ?_⟩⟩
  match j, hu with
  | 0, hu => simp at hu; subst hu; exact h
  | j + 1, hu => simp at hu
section
variable {P : Program} (w : World) {ops : Array Oper} {rest : List Oper} {o : Oper} {a : Act} {Q : Exit → Act → World → Prop}
theorem wpList_app1 (hgd : o.guard = none) (s x : Operand) (t : TypeId) (ho : o.op = .call { callee := .builtin .append, args := #[s, x], argTypes := #[t, t] })
    (B : Nat) (e : TypeId) (z : Value) (bytes : Nat) (ht : P.underlying t = some (.slice e)) (hinf : (P.info? e).map (fun i => (i.zero, i.size, i.bytes)) = some (some z, 1, bytes)) (hzs : z.cells.size = 1) (hby : bytes ≤ 64)
    (v : Value) (us : List Value) (hs : a.eval s = v) (hown : OV w B e v us) (g : Nat) (y : Value) (hx : a.eval x = .slice (some ⟨g, 0, none⟩) 1 1) (hc : w.cell? ⟨g, 0, none⟩ = some y) (h1 : y.oneCell' = true)
    (hl : us.length ≤ 1073741824) (hB : B ≤ w.heap.size)
    (h : ∀ v' w', OV w' B e v' (us ++ [y]) → w.grownBy w' v.ownBlock → ¬ v' = .slice none 0 0 → (v'.ownBlock = v.ownBlock ∨ v'.ownBlock = some w.heap.size) → wpList P ops Q rest (a.put o.dst v') w') : wpList P ops Q (o :: rest) a w :=
  wpList_app w hgd s x t ho B e z bytes ht hinf hzs v us hs hown _ 1 1 [y] hx rfl (RV.of_cell hc) (by simpa using h1)
    (Nat.le_trans (Nat.mul_le_mul (show us.length + [y].length ≤ 1073741825 by simp; omega) hby) (by omega)) (by simp; omega) hB fun v' w' a b c d => h v' w' a b (by rw [c]; simp) d
theorem step_app1 {K : Act → World → Prop} {E : Prop} (hgd : o.guard = none) (s x : Operand) (t : TypeId) (ho : o.op = .call { callee := .builtin .append, args := #[s, x], argTypes := #[t, t] })
    (B : Nat) (e : TypeId) (z : Value) (bytes : Nat) (ht : P.underlying t = some (.slice e)) (hinf : (P.info? e).map (fun i => (i.zero, i.size, i.bytes)) = some (some z, 1, bytes)) (hzs : z.cells.size = 1) (hby : bytes ≤ 64)
    (v : Value) (us : List Value) (hs : a.eval s = v) (hown : OV w B e v us) (g : Nat) (y : Value) (hx : a.eval x = .slice (some ⟨g, 0, none⟩) 1 1) (hc : w.cell? ⟨g, 0, none⟩ = some y) (h1 : y.oneCell' = true)
    (hl : us.length ≤ 1073741824) (hB : B ≤ w.heap.size)
    (h : ∀ v' w', OV w' B e v' (us ++ [y]) → w.grownBy w' v.ownBlock → ¬ v' = .slice none 0 0 → (v'.ownBlock = v.ownBlock ∨ v'.ownBlock = some w.heap.size) → K (a.put o.dst v') w') :
    if Region.wanted o (yielded ops a.tmps) = true then Oper.wp P o a w K Q else E :=
  step_app w hgd s x t ho B e z bytes ht hinf hzs v us hs hown _ 1 1 [y] hx rfl (RV.of_cell hc) (by simpa using h1)
    (Nat.le_trans (Nat.mul_le_mul (show us.length + [y].length ≤ 1073741825 by simp; omega) hby) (by omega)) (by simp; omega) hB fun v' w' a b c d => h v' w' a b (by rw [c]; simp) d
end

/-! ### ranges of blocks -/
/-- Only blocks from lo to hi - 1, and new ones, may have turned. -/
structure Only (lo hi : Nat) (w w' : World) : Prop where
  os : w'.os = w.os
  tape : w'.tape = w.tape
  output : w'.output = w.output
  size : w.heap.size ≤ w'.heap.size
  block : ∀ k, k < w.heap.size → (k < lo ∨ hi ≤ k) → w'.heap[k]? = w.heap[k]?
theorem Only.refl (lo hi : Nat) (w : World) : Only lo hi w w := ⟨rfl, rfl, rfl, Nat.le_refl _, fun _ _ _ => rfl⟩
theorem Only.trans {lo hi : Nat} {a b c : World} (h : Only lo hi a b) (k : Only lo hi b c) : Only lo hi a c :=
  ⟨k.os.trans h.os, k.tape.trans h.tape, k.output.trans h.output, Nat.le_trans h.size k.size, fun i hi hj => (k.block i (Nat.lt_of_lt_of_le hi h.size) hj).trans (h.block i hi hj)⟩
theorem Only.grown {lo hi : Nat} {a w w' : World} {row : Option Nat} (h : Only lo hi a w) (hg : w.grownBy w' row) (hr : ∀ g, row = some g → lo ≤ g ∧ g < hi) : Only lo hi a w' :=
  h.trans ⟨hg.os, hg.tape, hg.output, hg.size, fun k hk hj => hg.block k hk (fun e => by have := hr k e.symm; omega)⟩
theorem Only.below {lo hi : Nat} {w w' : World} (h : Only lo hi w w') (hl : lo ≤ w.heap.size) : Below lo w w' := ⟨h.os, h.tape, h.output, h.size, fun k hk => h.block k (by omega) (.inl hk)⟩
theorem Only.drewN {lo hi : Nat} {a w : World} (h : Only lo hi a w) (n : Nat) : Only lo hi a (w.drewN n) := ⟨h.os, h.tape, h.output, h.size, h.block⟩

/-- The slice v owns the cells us, in a block from B to C - 1. -/
def OR (w : World) (B C e : Nat) (v : Value) (us : List Value) : Prop := OV w B e v us ∧ ∀ g, v.ownBlock = some g → g < C
/-- The slice v owns a row of slices, each of which owns its numbers; no two of them share a block; all in blocks from B to C - 1. -/
def OII (w : World) (B C : Nat) (v : Value) (xss : List (List Int)) : Prop :=
  ∃ us, us.length = xss.length ∧ OR w B C 47 v us ∧ (∀ j (hj : j < xss.length), ∃ u, us[j]? = some u ∧ OR w B C 2 u (ints xss[j])) ∧
    ∀ (i j : Nat) (u u' : Value), i ≠ j → us[i]? = some u → us[j]? = some u' → ∀ g, u.ownBlock = some g → u'.ownBlock ≠ some g
/-- The same with the rows' values named. -/
def OIIu (w : World) (B C : Nat) (v : Value) (us : List Value) (xss : List (List Int)) : Prop :=
  us.length = xss.length ∧ OR w B C 47 v us ∧ (∀ j (hj : j < xss.length), ∃ u, us[j]? = some u ∧ OR w B C 2 u (ints xss[j])) ∧
    ∀ (i j : Nat) (u u' : Value), i ≠ j → us[i]? = some u → us[j]? = some u' → ∀ g, u.ownBlock = some g → u'.ownBlock ≠ some g
theorem OIIu.ex {w : World} {B C : Nat} {v : Value} {us : List Value} {xss : List (List Int)} (h : OIIu w B C v us xss) : OII w B C v xss := ⟨us, h⟩
/-- The slice v owns the numbers xs. -/
abbrev OI (w : World) (B C : Nat) (v : Value) (xs : List Int) : Prop := OR w B C 2 v (ints xs)

section
variable {w w' : World} {B C e lo hi : Nat} {v : Value} {us : List Value} {xs : List Int} {xss : List (List Int)}
theorem OR.keep (h : OR w B C e v us) (hk : ∀ g, B ≤ g → g < C → w'.heap[g]? = w.heap[g]?) : OR w' B C e v us := by
  obtain ⟨h, hC⟩ := h
  refine ⟨⟨h.1, ?_⟩, hC⟩
  rcases h.2 with hn | ⟨g, cap, cur, rfl, hB, hh, r⟩
  · exact .inl hn
  · exact .inr ⟨g, cap, cur, rfl, hB, (hk g hB (hC g rfl)).trans hh, r⟩
theorem OR.below (h : OR w B C e v us) (hb : Below C w w') : OR w' B C e v us := h.keep fun g _ hg => hb.block g hg
theorem OR.only (h : OR w B C e v us) (ho : Only lo hi w w') (hd : C ≤ lo ∨ hi ≤ B) : OR w' B C e v us := by
  obtain ⟨h, hC⟩ := h
  refine ⟨⟨h.1, ?_⟩, hC⟩
  rcases h.2 with hn | ⟨g, cap, cur, rfl, hB, hh, r⟩
  · exact .inl hn
  · have hg := hC g rfl
    exact .inr ⟨g, cap, cur, rfl, hB, (ho.block g (Array.getElem?_eq_some_iff.1 hh).1 (by omega)).trans hh, r⟩
theorem OV.toOR (h : OV w B e v us) : OR w B w.heap.size e v us := ⟨h, fun g hg => (h.lt g hg).2⟩
theorem OR.wide {B' C' : Nat} (h : OR w B C e v us) (hB : B' ≤ B) (hC : C ≤ C') : OR w B' C' e v us := ⟨h.1.mono hB, fun g hg => Nat.lt_of_lt_of_le (h.2 g hg) hC⟩
theorem OII.keep (h : OII w B C v xss) (hk : ∀ g, B ≤ g → g < C → w'.heap[g]? = w.heap[g]?) : OII w' B C v xss := by
  obtain ⟨us, h1, h2, h3, h4⟩ := h
  exact ⟨us, h1, h2.keep hk, fun j hj => by obtain ⟨u, a, b⟩ := h3 j hj; exact ⟨u, a, b.keep hk⟩, h4⟩
theorem OII.below (h : OII w B C v xss) (hb : Below C w w') : OII w' B C v xss := h.keep fun g _ hg => hb.block g hg
theorem OII.only (h : OII w B C v xss) (ho : Only lo hi w w') (hd : C ≤ lo ∨ hi ≤ B) : OII w' B C v xss := by
  obtain ⟨us, h1, h2, h3, h4⟩ := h
  exact ⟨us, h1, h2.only ho hd, fun j hj => by obtain ⟨u, a, b⟩ := h3 j hj; exact ⟨u, a, b.only ho hd⟩, h4⟩
theorem OII.wide {B' C' : Nat} (h : OII w B C v xss) (hB : B' ≤ B) (hC : C ≤ C') : OII w B' C' v xss := by
  obtain ⟨us, h1, h2, h3, h4⟩ := h
  exact ⟨us, h1, h2.wide hB hC, fun j hj => by obtain ⟨u, a, b⟩ := h3 j hj; exact ⟨u, a, b.wide hB hC⟩, h4⟩
/-- What is owned reads. -/
theorem OR.readsI (h : OI w B C v xs) : ∃ A c, v = .slice A xs.length c ∧ xs.length ≤ c ∧ RI w A xs := by
  obtain ⟨A, c, rfl, hc, hr⟩ := h.1.reads
  rw [ints_length] at hc
  exact ⟨A, c, by rw [ints_length], hc, hr⟩
theorem OII.reads (h : OII w B C v xss) : ∃ A c, v = .slice A xss.length c ∧ xss.length ≤ c ∧ RII w A xss := by
  obtain ⟨us, h1, h2, h3, h4⟩ := h
  obtain ⟨A, c, rfl, hc, hr⟩ := h2.1.reads
  refine ⟨A, c, by rw [h1], by omega, us, h1, hr, fun j hj => ?_⟩
  obtain ⟨u, hu, ho⟩ := h3 j hj
  obtain ⟨A', c', rfl, hc', hr'⟩ := ho.readsI
  exact ⟨A', c', hu, hc', hr'⟩
end
theorem OI.ri {w : World} {B C c n : Nat} {A : Option Addr} {xs : List Int} (h : OI w B C (.slice A n c) xs) : RI w A xs := by
  obtain ⟨A', c', he, _, hr⟩ := h.readsI
  injection he with e1; subst e1; exact hr
theorem OII.rii {w : World} {B C c n : Nat} {A : Option Addr} {xss : List (List Int)} (h : OII w B C (.slice A n c) xss) : RII w A xss := by
  obtain ⟨A', c', he, _, hr⟩ := h.reads
  injection he with e1; subst e1; exact hr
/-- One row of a nest has been written: the others, and the row of rows, are as they were. -/
theorem OIIu.set {w w' : World} {B C : Nat} {v u : Value} {us : List Value} {xss : List (List Int)} (h : OIIu w B C v us xss) {k : Nat} (hk : k < xss.length) (hu : us[k]? = some u) {ys : List Int}
    (ho : OI w' B C u ys) (hg : w.grownBy w' u.ownBlock) : OIIu w' B C v us (xss.set k ys) := by
  obtain ⟨h1, h2, h3, h4⟩ := h
  have old : ∀ g, g < w.heap.size → u.ownBlock ≠ some g → w'.heap[g]? = w.heap[g]? := fun g hl hn => hg.block g hl (Ne.symm hn)
  obtain ⟨u0, hu0, hou⟩ := h3 k hk
  rw [hu] at hu0; injection hu0 with hu0; subst hu0
  have keep : ∀ e vv uu, OR w B C e vv uu → (∀ g, vv.ownBlock = some g → u.ownBlock ≠ some g) → OR w' B C e vv uu := by
    intro e vv uu hov hd
    obtain ⟨hov, hC⟩ := hov
    refine ⟨⟨hov.1, ?_⟩, hC⟩
    rcases hov.2 with hn | ⟨g, cap, cur, rfl, hB, hh, r⟩
    · exact .inl hn
    · exact .inr ⟨g, cap, cur, rfl, hB, (old g (Array.getElem?_eq_some_iff.1 hh).1 (hd g rfl)).trans hh, r⟩
  refine ⟨by simp [h1], keep _ _ _ h2 ?_, fun j hj => ?_, h4⟩
  · intro g hg1 hg2
    rcases h2.1.2 with ⟨rfl, _⟩ | ⟨g', cap, cur, rfl, _, hh, _⟩
    · simp [Value.ownBlock] at hg1
    · rcases hou.1.2 with ⟨rfl, _⟩ | ⟨g2, cap2, cur2, rfl, _, hh2, _⟩
      · simp [Value.ownBlock] at hg2
      · simp [Value.ownBlock] at hg1 hg2
        subst hg1 hg2
        rw [hh] at hh2
        injection hh2 with hh2
        injection hh2 with _ ht
        exact absurd ht (by decide)
  · rw [List.length_set] at hj
    by_cases hjk : j = k
    · subst hjk
      exact ⟨u, hu, by simpa using ho⟩
    · obtain ⟨u', hu', ho'⟩ := h3 j hj
      refine ⟨u', hu', ?_⟩
      have e : (xss.set k ys)[j]'(by simpa using hj) = xss[j] := by rw [List.getElem_set]; simp [Ne.symm hjk]
      rw [e]
      exact keep _ _ _ ho' (fun g hg1 => h4 j k u' u hjk hu' hu g hg1)
theorem OII.setLow {w : World} {B C : Nat} {v : Value} {xss : List (List Int)} {p : Addr} {u : Value} (hp : p.block < B) (h : OII w B C v xss) : OII (w.setCell p u) B C v xss :=
  h.keep fun g hg _ => Below.heap_setCell w p u g (by omega)
theorem OR.setLow {w : World} {B C e : Nat} {v : Value} {us : List Value} {p : Addr} {u : Value} (hp : p.block < B) (h : OR w B C e v us) : OR (w.setCell p u) B C e v us :=
  h.keep fun g hg _ => Below.heap_setCell w p u g (by omega)
/-- k, k + 1, .. -/
def seqI (k : Int) (n : Nat) : List Int := (List.range n).map fun (i : Nat) => k + (i : Int)
theorem seqI_length (k : Int) (n : Nat) : (seqI k n).length = n := by simp [seqI]
theorem seqI_get (k : Int) (n j : Nat) (h : j < n) : (seqI k n)[j]? = some (k + j) := by simp [seqI, List.getElem?_range h]
theorem seqI_succ (k : Int) (n : Nat) : seqI k (n + 1) = seqI k n ++ [k + n] := by simp [seqI, List.range_succ]
theorem seqI_set (k : Int) (xs : List Int) (j : Nat) (h : j < xs.length) : (ints (seqI k j ++ xs.drop j)).set j (.int .i64 (k + j)) = ints (seqI k (j + 1) ++ xs.drop (j + 1)) := by
  have hl : (ints (seqI k j)).length = j := by simp [ints, seqI]
  rw [ints_append, List.set_append, hl, if_neg (by omega), Nat.sub_self, List.drop_eq_getElem_cons h, seqI_succ, ints_append, ints_append]
  simp only [ints, List.map_cons, List.map_nil, List.set_cons_zero, List.append_assoc, List.cons_append, List.nil_append]
theorem grownT {a b c : World} {row : Option Nat} (h : a.grownBy b row) (k : b.grownBy c row) : a.grownBy c row :=
  ⟨k.os.trans h.os, k.tape.trans h.tape, k.output.trans h.output, Nat.le_trans h.size k.size, fun i hi hj => (k.block i (Nat.lt_of_lt_of_le hi h.size) hj).trans (h.block i hi hj)⟩
def numII : Int → List (List Int) → List (List Int)
  | _, [] => []
  | k, xs :: r => seqI k xs.length :: numII (k + xs.length) r
def sumLen (xss : List (List Int)) : Nat := (xss.map List.length).sum
theorem sumLen_succ (xss : List (List Int)) (k : Nat) (h : k < xss.length) : sumLen (xss.take (k + 1)) = sumLen (xss.take k) + xss[k].length := by
  unfold sumLen; rw [List.take_succ_eq_append_getElem h]; simp only [List.map_append, List.sum_append, List.map_cons, List.map_nil, List.sum_cons, List.sum_nil, Nat.add_zero]
theorem sumLen_le (xss : List (List Int)) (k : Nat) (h : k < xss.length) : sumLen (xss.take k) + xss[k].length ≤ sumLen xss := by
  rw [← sumLen_succ xss k h]
  conv => rhs; rw [← List.take_append_drop (k + 1) xss]
  unfold sumLen; simp only [List.map_append, List.sum_append]; omega
theorem numII_length : ∀ (xss : List (List Int)) (k : Int), (numII k xss).length = xss.length
  | [], _ => rfl
  | xs :: r, k => by simp [numII, numII_length r]
theorem numII_append : ∀ (a b : List (List Int)) (k : Int), numII k (a ++ b) = numII k a ++ numII (k + sumLen a) b
  | [], b, k => by simp [numII, sumLen]
  | xs :: r, b, k => by
    simp only [List.cons_append, numII, numII_append r b]
    rw [show k + (xs.length : Int) + (sumLen r : Int) = k + (sumLen (xs :: r) : Int) by simp [sumLen]; omega]
theorem numII_at (xss : List (List Int)) (k : Int) (j : Nat) (h : j < xss.length) : (numII k xss)[j]? = some (seqI (k + sumLen (xss.take j)) xss[j].length) := by
  conv => lhs; rw [← List.take_append_drop j xss, numII_append, List.drop_eq_getElem_cons h]
  rw [List.getElem?_append_right (by rw [numII_length]; simp; omega), numII_length]
  simp [numII, show j - min j xss.length = 0 by omega]
theorem numII_set (xss : List (List Int)) (K : Int) (k : Nat) (h : k < xss.length) :
    (numII K (xss.take k) ++ xss.drop k).set k (seqI (K + sumLen (xss.take k)) xss[k].length) = numII K (xss.take (k + 1)) ++ xss.drop (k + 1) := by
  have hl : (numII K (xss.take k)).length = k := by rw [numII_length]; simp; omega
  rw [List.set_append, hl, if_neg (by omega), Nat.sub_self, List.drop_eq_getElem_cons h, List.set_cons_zero, List.take_succ_eq_append_getElem h, numII_append]
  simp only [numII, List.append_assoc, List.cons_append, List.nil_append]
theorem mem_sumLen {xss : List (List Int)} {k : Nat} (h : k < xss.length) : xss[k].length ≤ sumLen xss := by have := sumLen_le xss k h; omega

/-! ### variables that hold a struct -/
/-- The block b holds the cells vs from i on. -/
def BoxC (w : World) (b : Nat) : Nat → List Value → Prop
  | _, [] => True
  | i, v :: r => w.cell? ⟨b, i, none⟩ = some v ∧ BoxC w b (i + 1) r
theorem BoxC.keep {w w' : World} {b : Nat} (hk : ∀ i v, w.cell? ⟨b, i, none⟩ = some v → w'.cell? ⟨b, i, none⟩ = some v) : ∀ {i : Nat} {vs : List Value}, BoxC w b i vs → BoxC w' b i vs
  | _, [], _ => trivial
  | i, v :: r, h => ⟨hk i v h.1, BoxC.keep hk h.2⟩
theorem BoxC.below {w w' : World} {b i : Nat} {vs : List Value} (h : BoxC w b i vs) (hb : Below w.heap.size w w') : BoxC w' b i vs :=
  h.keep fun _ _ hv => (hb.cell (World.block_lt_of_cell? w _ hv)).trans hv
theorem BoxC.only {w w' : World} {b i lo hi : Nat} {vs : List Value} (h : BoxC w b i vs) (ho : Only lo hi w w') (hd : b < lo ∨ hi ≤ b) : BoxC w' b i vs :=
  h.keep fun _ _ hv => by
    have hl := World.block_lt_of_cell? w _ hv
    have := ho.block b hl hd
    simpa [World.cell?, this] using hv
theorem BoxC.of_cells {w : World} {b : Nat} {cs : List Value} : ∀ (vs : List Value) (i : Nat), (∀ j v, cs[j]? = some v → w.cell? ⟨b, j, none⟩ = some v) → cs.drop i = vs → BoxC w b i vs
  | [], _, _, _ => trivial
  | v :: r, i, h, hd => by
    have h0 : cs[i]? = some v := by
      have := congrArg (·[0]?) hd
      simpa using this
    refine ⟨h i v h0, BoxC.of_cells r (i + 1) h ?_⟩
    have := congrArg List.tail hd
    simpa using this
theorem BoxC.new {w : World} {b T : Nat} (vs : List Value) (h : b = w.heap.size) : BoxC (w.alloc (.cells vs.toArray T)) b 0 vs := by
  subst h
  refine BoxC.of_cells (cs := vs) vs 0 (fun j v hv => ?_) rfl
  rw [World.cell?_alloc_at (hn := rfl)]
  simpa using hv
theorem belowDrew {w w' : World} (h : Below w.drew.heap.size w.drew w') : Below w.heap.size w w' := ⟨h.os, h.tape, h.output, h.size, h.block⟩
theorem belowDrew0 (w : World) : Below w.heap.size w w.drew := belowD (Below.refl _ _) 1

/-! ### results -/
/-- a list of numbers in new memory -/
def ResI (w : World) (xs : List Int) (e : Ending) (w' : World) : Prop := ∃ A c, e = .returned (.slice A xs.length c) ∧ xs.length ≤ c ∧ RI w' A xs ∧ OI w' w.heap.size w'.heap.size (.slice A xs.length c) xs ∧ Below w.heap.size w w'
/-- a list of numbers in new memory, and a code -/
def ResIC (w : World) (r : List Int × Int) (e : Ending) (w' : World) : Prop :=
  ∃ A c, e = .returned (.tuple #[.slice A r.1.length c, .int .i64 r.2]) ∧ r.1.length ≤ c ∧ RI w' A r.1 ∧ OI w' w.heap.size w'.heap.size (.slice A r.1.length c) r.1 ∧ Below w.heap.size w w'
theorem OI.nil {w : World} {B C : Nat} : OI w B C (.slice none 0 0) [] := ⟨OV.nil, fun g h => by simp [Value.ownBlock] at h⟩
theorem resI_own {w w' : World} {v : Value} {xs : List Int} {B : Nat} (ho : OV w' B 2 v (ints xs)) (hB : w.heap.size ≤ B) (hb : Below w.heap.size w w') : ResI w xs (.returned v) w' := by
  have h := (ho.mono hB).toOR
  obtain ⟨A, c, rfl, hc, hr⟩ := OR.readsI (xs := xs) h
  exact ⟨A, c, rfl, hc, hr, h, hb⟩
theorem resIC_nil {w w' : World} {r : List Int × Int} {c : Int} (h : ([], c) = r) (hb : Below w.heap.size w w') : ResIC w r (.returned (.tuple #[.slice none 0 0, .int .i64 c])) w' := by
  subst h; exact ⟨none, 0, rfl, Nat.le_refl _, RI.nil, OI.nil, hb⟩
theorem resIC_own {w w' : World} {r : List Int × Int} {v : Value} {xs : List Int} {B : Nat} (h : (xs, 0) = r) (ho : OV w' B 2 v (ints xs)) (hB : w.heap.size ≤ B) (hb : Below w.heap.size w w') : ResIC w r (.returned (.tuple #[v, .int .i64 0])) w' := by
  subst h
  have h := (ho.mono hB).toOR
  obtain ⟨A, c, rfl, hc, hr⟩ := OR.readsI (xs := xs) h
  exact ⟨A, c, rfl, hc, hr, h, hb⟩
end Go.Proofs.YtapocenhmdcfoaaGreat
