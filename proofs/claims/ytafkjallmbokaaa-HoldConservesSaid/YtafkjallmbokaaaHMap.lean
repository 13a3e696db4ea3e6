/- A map from places to holds that a call makes: what it holds, place by place; made, written, read, deleted from. -/
import Derived.Test.YtafkjallmbokaaaHFunc
import Derived.Maps.OwnSet
import Derived.Maps.Views
namespace Go.Proofs.Ytafkjallmbokaaa.Q
open Go.RowKit Go.Maps Go.Proofs.YtafkjallmbokaaaW.PrintWords Go.Proofs.YtafkjallmbokaaaW.PrintLast Go.Proofs.YtafkjallmbokaaaW.PrintMore
set_option linter.unusedVariables false
set_option linter.unusedSimpArgs false

def Rv : Value → Option (DataW Value × List MemPlace) := fun v => some (.held v, [])
/-- Block b of w is a map of at most n entries in which place j leads to f j. -/
def Mp (w : World) (b n : Nat) (f : Nat → Option S26) : Prop :=
  ∃ D : DataW Value, w.ownsMap Try.prog 3 Rv b n D ∧ IsMap D ∧ ∀ j : Nat, has D (.int .i64 (j : Int)) = (f j).isSome ∧ D.atKey (.int .i64 (j : Int)) (.held (enc26 z26)) = .held (enc26 ((f j).getD z26))

theorem Mp.made (w : World) : Mp (w.alloc (.map #[] 0)) w.heap.size 0 (fun _ => none) :=
  ⟨_, World.ownsMap_made w _ _ _, isMap_empty, fun j => ⟨rfl, rfl⟩⟩
theorem Mp.mono {w : World} {b n n' : Nat} {f : Nat → Option S26} (h : Mp w b n f) (hn : n ≤ n') : Mp w b n' f := by
  obtain ⟨D, h1, h2⟩ := h
  exact ⟨D, h1.mono hn, h2⟩
theorem Mp.lt {w : World} {b n : Nat} {f : Nat → Option S26} (h : Mp w b n f) : b < w.heap.size := by
  obtain ⟨D, h1, _⟩ := h
  exact h1.lt
theorem Mp.kept {w w' : World} {b n : Nat} {f : Nat → Option S26} {row : Option Nat} (h : Mp w b n f) (hg : w.grownBy w' row) (hne : some b ≠ row) : Mp w' b n f := by
  obtain ⟨D, h1, h2⟩ := h
  exact ⟨D, h1.kept hg hne, h2⟩
theorem Mp.below {w w' : World} {b n : Nat} {f : Nat → Option S26} (h : Mp w b n f) (hb : Below w.heap.size w w') : Mp w' b n f := h.kept (grown_of_below hb none) (by simp)
theorem Mp.ext {w : World} {b n : Nat} {f g : Nat → Option S26} (h : Mp w b n f) (he : ∀ j, f j = g j) : Mp w b n g := by
  rw [show g = f from funext fun j => (he j).symm]; exact h
/-- No row of cells is the map's block. -/
theorem Mp.row {w : World} {b n : Nat} {f : Nat → Option S26} (h : Mp w b n f) {base e size m : Nat} {v : Value} {xs : List Value} (ho : w.ownsRow base e size v m xs) : some b ≠ v.ownBlock := by
  obtain ⟨D, ⟨es, clock, hb, _⟩, _⟩ := h
  intro e0
  rcases ho.2 with ⟨rfl, _⟩ | ⟨g, cap, cur, rfl, _, hh, _⟩
  · simp [Value.ownBlock] at e0
  · have : b = g := by simpa [Value.ownBlock] using e0
    subst this
    rw [hh] at hb
    cases hb

theorem lit_ne {i j : Nat} (h : i ≠ j) : (Lit.int .i64 (i : Int)) ≠ .int .i64 (j : Int) := fun e => h (by injection e with _ e; omega)
section
variable {P : Program} (w : World) {ops : Array Oper} {rest : List Oper} {o : Oper} {a : Act} {Q : Exit → Act → World → Prop}
theorem key_at (j : Nat) (hj : j ≤ 9223372036854775807) : keyOf Try.prog 3 (.int .i64 (j : Int)) = some (.int .i64 (j : Int)) := keyOf_int_mk Try.underlying3 (WalkArith.wf_i64 (by omega))
theorem Mp.update (hg : o.guard = none) (m x v : Operand) (hop : o.op = Op.mapUpdate 60 m x v) {b n : Nat} {f : Nat → Option S26} (j : Nat) (hj : j ≤ 9223372036854775807) (y : S26)
    (hm : a.eval m = .map (some b)) (h : Mp w b n f) (hn : n < maxLen) (hx : a.eval x = .int .i64 (j : Int)) (hv : a.eval v = enc26 y)
    (hK : ∀ w', Mp w' b (n + 1) (fun i => if i = j then some y else f i) → w.grownBy w' (some b) → wpList Try.prog ops Q rest (a.put o.dst undef) w') : wpList Try.prog ops Q (o :: rest) a w := by
  obtain ⟨D, h1, h2, h3⟩ := h
  refine wpList_mapUpdate_own w hg m x v 60 hop 3 26 (int_keyed Try.underlying3) Try.underlying60 Rv b n D hm h1 hn _ _ (.int .i64 (j : Int)) hx hv (key_at j hj) (.held (enc26 y)) [] rfl ?_
  intro w' h4 h5
  refine hK w' ⟨_, h4, h2.put _ _, fun i => ?_⟩ h5
  by_cases e : i = j
  · subst e
    dsimp only
    rw [if_pos rfl]
    exact ⟨has_put_same h2 (by simp [WideAt.IsKeyLit]) _, atKey_put_same h2 (by simp [WideAt.IsKeyLit]) _ _⟩
  · dsimp only
    rw [if_neg e, has_put_other (lit_ne e), atKey_put_other (lit_ne e)]
    exact h3 i
theorem Mp.delete (hg : o.guard = none) (m x : Operand) (hop : o.op = Op.call { callee := Callee.builtin Builtin.delete, args := #[m, x], argTypes := #[60, 3] }) {b n : Nat} {f : Nat → Option S26} (j : Nat) (hj : j ≤ 9223372036854775807)
    (hm : a.eval m = .map (some b)) (h : Mp w b n f) (hx : a.eval x = .int .i64 (j : Int))
    (hK : ∀ w', Mp w' b n (fun i => if i = j then none else f i) → w.grownBy w' (some b) → wpList Try.prog ops Q rest (a.put o.dst (.tuple #[])) w') : wpList Try.prog ops Q (o :: rest) a w := by
  obtain ⟨D, h1, h2, h3⟩ := h
  refine wpList_delete_own w hg m x 60 3 hop 26 (int_keyed Try.underlying3) Try.underlying60 Rv b n D hm h1 _ (.int .i64 (j : Int)) hx (key_at j hj) ?_
  intro w' h4 h5
  refine hK w' ⟨_, h4, h2.del _, fun i => ?_⟩ h5.grown
  by_cases e : i = j
  · subst e
    dsimp only
    rw [if_pos rfl]
    exact ⟨has_del_same, atKey_del_same _⟩
  · dsimp only
    rw [if_neg e, has_del_other (lit_ne e), atKey_del_other (lit_ne e)]
    exact h3 i
theorem zero26' : ∀ w, (zeroValue 26).run Try.prog w = .ok (enc26 z26) w := fun w => by kernel_rfl
theorem Mp.look (hg : o.guard = none) (m x : Operand) (hop : o.op = Op.lookup 60 m x true) {b n : Nat} {f : Nat → Option S26} (j : Nat) (hj : j ≤ 9223372036854775807)
    (hm : a.eval m = .map (some b)) (h : Mp w b n f) (hx : a.eval x = .int .i64 (j : Int))
    (hK : wpList Try.prog ops Q rest (a.put o.dst (.tuple #[enc26 ((f j).getD z26), .bool (f j).isSome])) w) : wpList Try.prog ops Q (o :: rest) a w := by
  obtain ⟨D, h1, h2, h3⟩ := h
  refine wpList_lookup_own_ok w hg m x 60 hop 3 26 (int_keyed Try.underlying3) Try.underlying60 Rv (zero26' w) (.held (enc26 z26)) [] rfl b n D hm h1 _ (.int .i64 (j : Int)) hx (key_at j hj) ?_
  intro v ps hv
  obtain ⟨e1, e2⟩ := h3 j
  rw [e2] at hv
  simp only [Rv, Option.some.injEq, Prod.mk.injEq, DataW.held.injEq] at hv
  rw [hv.1, e1]
  exact hK
end

/-- A row of plain elements stays where another block is written. -/
theorem flat_other {α : Type} {d : Kd α} (hE : d.E = []) {e base : Nat} {W w1 : World} {v : Value} {xs : List α} (h : d.R e W base (fun _ => True) v xs) {row : Option Nat} (hg : W.grownBy w1 row) (hne : ∀ k, v.ownBlock = some k → some k ≠ row) : d.R e w1 base (fun _ => True) v xs :=
  Kd.R_mono (Kd.R_grown (Kd.R_tight hE h) hg (fun k hk => hne k hk.symm)) (fun _ _ => trivial)

end Go.Proofs.Ytafkjallmbokaaa.Q
