/- clear of the elements behind a row of the call's own: the row stays as it is. -/
import Derived.Test.YtafkjallmbokaaaWWords
import Derived.Laws.IdiomCopy
namespace Go.Proofs.Ytafkjallmbokaaa.Clr
open Go.RowKit Go.Proofs.YtafkjallmbokaaaW.PrintWords
set_option linter.unusedVariables false

theorem setCells_keep (b : Nat) : ∀ (vs : List Value) (o : Nat) (w : World), (w.setCells b o vs).os = w.os ∧ (w.setCells b o vs).tape = w.tape ∧ (w.setCells b o vs).output = w.output ∧ (w.setCells b o vs).heap.size = w.heap.size ∧ ∀ k, k ≠ b → (w.setCells b o vs).heap[k]? = w.heap[k]?
  | [], _, w => ⟨rfl, rfl, rfl, rfl, fun _ _ => rfl⟩
  | v :: r, o, w => by
    obtain ⟨h1, h2, h3, h4, h5⟩ := setCells_keep b r (o + 1) (w.setCell ⟨b, o, none⟩ v)
    exact ⟨h1.trans rfl, h2.trans rfl, h3.trans rfl, h4.trans (by simp [World.setCell]), fun k hk => (h5 k hk).trans (Below.heap_setCell w ⟨b, o, none⟩ v k hk)⟩
theorem setCells_row (b e : Nat) : ∀ (vs : List Value) (o : Nat) (w : World) (cur : Array Value), w.heap[b]? = some (.cells cur e (0, 0)) →
    ∃ cur' : Array Value, (w.setCells b o vs).heap[b]? = some (.cells cur' e (0, 0)) ∧ cur'.size = cur.size ∧ ∀ j, j < o → cur'[j]? = cur[j]?
  | [], _, w, cur, h => ⟨cur, h, rfl, fun _ _ => rfl⟩
  | v :: r, o, w, cur, h => by
    obtain ⟨cur', h1, h2, h3⟩ := setCells_row b e r (o + 1) (w.setCell ⟨b, o, none⟩ v) _ (blk_set h o v)
    refine ⟨cur', h1, h2.trans (by simp), fun j hj => (h3 j (by omega)).trans ?_⟩
    rw [Array.getElem?_setIfInBounds_ne (by omega)]

theorem clear_tail {P : Program} {α : Type} (d : Kd α) {W : World} (base : Nat) (t ty e : TypeId) (z : Value) (ht : P.underlying t = some (.slice e)) (hv : ∀ w, (zeroValue e).run P w = .ok z w) (hz : z.cells.size = d.sz) (h1 : ∀ u ∈ z.cells.toList, u.oneCell' = true) (hs0 : 0 < d.sz)
    {g n c c2 : Nat} {xs : List α} {ok : Nat → Prop} (HO : d.R e W base ok (.slice (some ⟨g, 0, none⟩) n c) xs) (hroom : n < c) :
    ∃ w1, (Builtin.clear_ #[t] ty #[.slice (some ⟨g, n * d.sz, none⟩) 1 c2]).run P W = .ok (.tuple #[]) w1 ∧ d.R e w1 base ok (.slice (some ⟨g, 0, none⟩) n c) xs ∧ W.grownBy w1 (some g) := by
  obtain ⟨hok, inner, hown, hr⟩ := HO
  rcases hown.2 with ⟨hv', _⟩ | ⟨g', cap', cur, hv', hb, hh, hnc, hcm, hcs, htake⟩
  · cases hv'
  injection hv' with ha hn hc
  injection ha with ha
  injection ha with hg
  subst hg; subst hc
  obtain ⟨vs, hvs⟩ : ∃ vs, vs = (Builtin.zeroCells z.cells 1).toList := ⟨_, rfl⟩
  have hvl : vs.length = d.sz := by rw [hvs]; simp [Builtin.zeroCells, hz]
  have hv1 : ∀ u ∈ vs, u.oneCell' = true := by
    intro u hu
    rw [hvs] at hu
    simp only [Builtin.zeroCells, Array.toList_map, List.mem_map, Array.mem_toList_iff, Array.mem_range] at hu
    obtain ⟨i, hi, rfl⟩ := hu
    rw [hz, Nat.one_mul] at hi
    refine h1 _ ?_
    rw [hz, Nat.mod_eq_of_lt hi, getElem!_pos z.cells i (by rw [hz]; exact hi)]
    exact Array.getElem_mem_toList _
  have hle : (n + 1) * d.sz ≤ c * d.sz := Nat.mul_le_mul_right _ hroom
  have hns : (n + 1) * d.sz = n * d.sz + d.sz := Nat.succ_mul _ _
  have hst := run_storeCells_cells (P := P) g (n * d.sz) vs 0 W
    (fun j hj => by
      rw [blk_cell hh, Nat.add_zero, Array.getElem?_eq_getElem (by rw [hcs]; omega)]
      rfl)
    (fun j hj => blk_frozen hh _) hv1
  rw [Nat.add_zero] at hst
  obtain ⟨k1, k2, k3, k4, k5⟩ := setCells_keep g vs (n * d.sz) W
  obtain ⟨cur', m1, m2, m3⟩ := setCells_row g e vs (n * d.sz) W cur hh
  have hg : W.grownBy (W.setCells g (n * d.sz) vs) (some g) := ⟨k1, k2, k3, by rw [k4]; exact Nat.le_refl _, fun k _ hk => k5 k (fun e => hk (by rw [e]))⟩
  refine ⟨W.setCells g (n * d.sz) vs, ?_, ⟨hok, inner, ⟨hown.1, .inr ⟨g, c, cur', by rw [hn], hb, m1, hnc, hcm, m2.trans hcs, ?_⟩⟩, ?_⟩, hg⟩
  · simp [Builtin.clear_, run_underlying ht, hv, ← hvs, hst]
  · rw [← htake, ← hn]
    refine List.ext_getElem? fun j => ?_
    rw [List.getElem?_take, List.getElem?_take]
    split
    · rename_i hj
      have := m3 j hj
      simpa using this
    · rfl
  · exact hr.imp_ (fun p cs hp => d.M_move (fun k hk => k5 k (fun e => hk.2 (by rw [e]; rfl))) hp)

end Go.Proofs.Ytafkjallmbokaaa.Clr
