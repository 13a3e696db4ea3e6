/- What is held in a list; how each call changes it. -/
import Derived.Test.YtafkjallmbokaaaPureV
import Derived.Test.YtafkjallmbokaaaQx12
namespace Go.Proofs.Ytafkjallmbokaaa.Q
open Go.RowKit Go.Proofs.YtafkjallmbokaaaW.PrintWords Go.Proofs.YtafkjallmbokaaaW.PrintLast Go.Proofs.YtafkjallmbokaaaW.PrintMore
set_option linter.unusedVariables false
set_option linter.unusedSimpArgs false

def sumL : List S26 → Int
  | [] => 0
  | x :: l => x.f2 + sumL l
theorem sum_app (a b : List S26) : sumL (a ++ b) = sumL a + sumL b := by
  induction a with
  | nil => simp [sumL]
  | cons x a ih => simp only [List.cons_append, sumL, ih]; omega
theorem sum_range (l : List S26) (h : ∀ x ∈ l, 1 ≤ x.f2 ∧ x.f2 ≤ 1000000000000) : 0 ≤ sumL l ∧ sumL l ≤ 1000000000000 * (l.length : Int) := by
  induction l with
  | nil => simp [sumL]
  | cons x l ih =>
    have h1 := h x (by simp)
    have h2 := ih (fun y hy => h y (by simp [hy]))
    simp only [sumL, List.length_cons]
    omega
theorem amounts {l : List S26} (h : checkL l = 0) : ∀ x ∈ l, 1 ≤ x.f2 ∧ x.f2 ≤ 1000000000000 := fun x hx => by
  have := of_decide_eq_true (((check_iff l).1 h).2.1 x hx).1
  exact ⟨this.2.2.1, this.2.2.2.1⟩
theorem split26 (l : List S26) (p : Nat) (hp : p < l.length) : l = l.take p ++ [l.getD p z26] ++ l.drop (p + 1) := by
  rw [← take_snoc26 l p hp, List.take_append_drop]
theorem sum_erase (l : List S26) (p : Nat) (hp : p < l.length) : sumL (l.eraseIdx p) = sumL l - (l.getD p z26).f2 := by
  have h : sumL l = sumL (l.take p) + (l.getD p z26).f2 + sumL (l.drop (p + 1)) := by
    conv => lhs; rw [split26 l p hp]
    rw [sum_app, sum_app]
    simp [sumL]
  rw [h, List.eraseIdx_eq_take_drop_succ, sum_app]
  omega
theorem sum_set (l : List S26) (p : Nat) (y : S26) (hp : p < l.length) : sumL (l.set p y) = sumL l - (l.getD p z26).f2 + y.f2 := by
  have h : sumL l = sumL (l.take p) + (l.getD p z26).f2 + sumL (l.drop (p + 1)) := by
    conv => lhs; rw [split26 l p hp]
    rw [sum_app, sum_app]
    simp [sumL]
  rw [h, List.set_eq_take_append_cons_drop, if_pos hp, sum_app]
  simp only [sumL]
  omega
theorem sum_filter (l : List S26) (q : S26 → Bool) : sumL l = sumL (l.filter (fun x => !q x)) + sumL (l.filter q) := by
  induction l with
  | nil => simp [sumL]
  | cons x l ih =>
    rw [List.filter_cons, List.filter_cons]
    cases h : q x <;> simp [sumL] <;> omega
theorem sum_from (l : List S26) (h : ∀ x ∈ l, 1 ≤ x.f2 ∧ x.f2 ≤ 1000000000000) (hl : l.length ≤ 100) (d : Nat) : ∀ (k i : Nat), i + d = l.length → d < k → corebanklaw22_sum.l0 k l (sumL (l.take i)) (i : Int) = some (sumL l) := by
  induction d with
  | zero =>
    intro k i hi hk
    obtain ⟨k, rfl, _⟩ := succ_of hk
    simp only [corebanklaw22_sum.l0]
    rw [if_neg (by omega), List.take_of_length_le (by omega)]
  | succ d ih =>
    intro k i hi hk
    obtain ⟨k, rfl, hk2⟩ := succ_of hk
    have hi' : i < l.length := by omega
    have ih' := ih k (i + 1) (by omega) (by omega)
    have hr := sum_range (l.take (i + 1)) (fun x hx => h x (List.mem_of_mem_take hx))
    have hlen : (l.take (i + 1)).length = i + 1 := by rw [List.length_take]; omega
    have e : sumL (l.take (i + 1)) = sumL (l.take i) + (l.getD i z26).f2 := by
      rw [take_snoc26 l i hi', sum_app]
      simp [sumL]
    simp only [corebanklaw22_sum.l0]
    rw [hlen] at hr
    rw [if_pos (by omega), if_pos (by omega), rd_at, next_nat hi' (by omega), show wrap64 (sumL (l.take i) + (l.getD i z26).f2) = sumL (l.take (i + 1)) from by rw [e] at hr ⊢; unfold wrap64; omega]
    exact ih'
theorem sum_eq {l : List S26} (h : checkL l = 0) : corebanklaw22_sum.f 200 l = some (sumL l) := by
  have h64 := checkL_len h
  exact sum_from l (amounts h) (by omega) l.length 200 0 (by omega) (by omega)

theorem wrap_add (a b : Int) : wrap64 (wrap64 a + b) = wrap64 (a + b) := by unfold wrap64; omega
theorem wrap_add2 (a b : Int) : wrap64 (a + wrap64 b) = wrap64 (a + b) := by unfold wrap64; omega
theorem place_sum {l : List S26} {b : S26} (h : (placeL l b).2 = 0) : sumL (placeL l b).1 = sumL l + b.f2 := by
  rcases place_all l b with ⟨e, _⟩ | ⟨_, e⟩
  · rw [e, sum_app]; simp [sumL]
  · exact absurd h e
theorem use_sum {l : List S26} (hl : checkL l = 0) {id n d : Int} (h : (useL l id n d).2 = 0) : sumL (useL l id n d).1 = sumL l - n := by
  rcases use_all l id n d with ⟨_, e⟩ | ⟨p, hp, hid, h1, ⟨h2, e⟩ | ⟨h2, e⟩⟩
  · exact absurd h e
  · rw [e, sum_erase l p hp, h2]
  · rw [e, sum_set l p _ hp]
    have := amounts hl _ (getD_mem l p hp)
    have hw : wrap64 ((l.getD p z26).f2 - n) = (l.getD p z26).f2 - n := by unfold wrap64; omega
    unfold lessAt
    dsimp only
    rw [hw]
    omega
/-- Release: nothing is found and there is an error; or the hold that Find finds goes. -/
theorem release_find (l : List S26) (hl : checkL l = 0) (id : Int) : (releaseL l id = ([], 11) ∧ findL l id = none) ∨ ∃ y, findL l id = some y ∧ (releaseL l id).2 = 0 ∧ sumL (releaseL l id).1 = sumL l - y.f2 := by
  rcases release_all l id with ⟨e, h⟩ | ⟨p, hp, hid, hm, e⟩
  · refine .inl ⟨e, ?_⟩
    unfold findL
    rw [List.find?_eq_none]
    intro x hx
    simpa using h x hx
  · refine .inr ⟨l.getD p z26, ?_, by rw [e], by rw [e, sum_erase l p hp]⟩
    have := find_in l ((check_iff l).1 hl).2.2 _ (getD_mem l p hp)
    rw [hid] at this
    exact this
theorem ended_find {l : List S26} (hl : checkL l = 0) (d : Int) (k : Nat) (hk : k < (l.filter (endedB d)).length) : findL l ((l.filter (endedB d)).getD k z26).f0 = some ((l.filter (endedB d)).getD k z26) ∧ ((l.filter (endedB d)).getD k z26).f4 < d := by
  have hm := List.mem_filter.1 (getD_mem _ k hk)
  exact ⟨find_in l ((check_iff l).1 hl).2.2 _ hm.1, of_decide_eq_true hm.2⟩
theorem sum_snoc (l : List S26) (k : Nat) (hk : k < l.length) : sumL (l.take (k + 1)) = sumL (l.take k) + (l.getD k z26).f2 := by
  rw [take_snoc26 l k hk, sum_app]
  simp [sumL]
theorem rd_ids (l : List S26) (k : Nat) (hk : k < l.length) : rd (l.map (·.f0)) (k : Int) = (l.getD k z26).f0 := by
  show (l.map (·.f0)).getD k 0 = _
  rw [List.getD_eq_getElem?_getD, List.getD_eq_getElem?_getD, List.getElem?_map, List.getElem?_eq_getElem hk]
  rfl
end Go.Proofs.Ytafkjallmbokaaa.Q
