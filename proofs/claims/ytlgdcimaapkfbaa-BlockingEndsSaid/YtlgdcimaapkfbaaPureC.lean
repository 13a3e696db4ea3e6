/- BlockingActs: Active, Denies and Reserved agree with the reference's. -/
import Derived.Test.YtlgdcimaapkfbaaQx12
import Derived.Test.YtlgdcimaapkfbaaQx11
import Derived.Test.YtlgdcimaapkfbaaPureB
namespace Go.Proofs.Ytlgdcimaapkfbaa.Q
open Go.RowKit Go.Proofs.YtlgdcimaapkfbaaW.PrintWords Go.Proofs.YtlgdcimaapkfbaaW.PrintLast Go.Proofs.YtlgdcimaapkfbaaW.PrintMore
set_option linter.unusedVariables false
set_option linter.unusedSimpArgs false

theorem same_from (l : List S28) (hl : l.length ≤ 9223372036854775807) (d : Nat) : ∀ (k i : Nat), i + d = l.length → d < k → corebankref23_SameAll.l0 k l l (i : Int) = some true := by
  induction d with
  | zero =>
    intro k i hi hk
    obtain ⟨k, rfl, _⟩ := succ_of hk
    simp only [corebankref23_SameAll.l0]
    rw [if_neg (by omega)]
  | succ d ih =>
    intro k i hi hk
    obtain ⟨k, rfl, hk2⟩ := succ_of hk
    simp only [corebankref23_SameAll.l0]
    rw [if_pos (by omega), if_pos (by omega), if_pos (by omega), if_neg (by simp), next_nat (show i < l.length by omega) hl]
    exact ih k (i + 1) (by omega) (by omega)
theorem same_refl (l : List S28) (hl : l.length ≤ 9223372036854775807) (k : Nat) (hk : l.length < k) : corebankref23_SameAll.f k l l = some true := by
  unfold corebankref23_SameAll.f
  rw [if_pos rfl]
  exact same_from l hl l.length k 0 (by omega) hk

theorem ractive_from (l : List S28) (a d : Int) (hl : l.length < 2199023255552) (n : Nat) : ∀ (k i : Nat), i + n = l.length → n < k →
    corebankref23_Active.l0 k l a d ((l.take i).filter (actB a d)) (i : Int) = some (l.filter (actB a d)) := by
  induction n with
  | zero =>
    intro k i hi hk
    obtain ⟨k, rfl, _⟩ := succ_of hk
    simp only [corebankref23_Active.l0]
    rw [if_neg (by omega), List.take_of_length_le (by omega)]
  | succ n ih =>
    intro k i hi hk
    obtain ⟨k, rfl, hk2⟩ := succ_of hk
    simp only [corebankref23_Active.l0]
    have e : rd_T28 l (i : Int) = l.getD i z28 := rfl
    have hlen : ((l.take i).filter (actB a d)).length ≤ l.length := Nat.le_trans (List.length_filter_le _ _) (by rw [List.length_take]; omega)
    have ih' := ih k (i + 1) (by omega) (by omega)
    rw [take_snoc28 l i (by omega), List.filter_append, List.filter_cons, List.filter_nil] at ih'
    rw [if_pos (by omega), if_pos (by omega), e, next_nat (show i < l.length by omega) (by omega)]
    by_cases h1 : (l.getD i z28).f1 = a
    · rw [if_pos h1]
      by_cases h2 : (l.getD i z28).f4 ≤ d
      · rw [if_pos h2]
        by_cases h3 : d ≤ (l.getD i z28).f5
        · rw [if_pos h3, if_pos (by omega)]
          rw [show actB a d (l.getD i z28) = true from decide_eq_true ⟨h1, h2, h3⟩, if_pos rfl] at ih'
          exact ih'
        · rw [if_neg h3]
          rw [show actB a d (l.getD i z28) = false from decide_eq_false (fun h => h3 h.2.2), if_neg (by simp), List.append_nil] at ih'
          exact ih'
      · rw [if_neg h2]
        rw [show actB a d (l.getD i z28) = false from decide_eq_false (fun h => h2 h.2.1), if_neg (by simp), List.append_nil] at ih'
        exact ih'
    · rw [if_neg h1]
      rw [show actB a d (l.getD i z28) = false from decide_eq_false (fun h => h1 h.1), if_neg (by simp), List.append_nil] at ih'
      exact ih'
theorem ractive_eq (l : List S28) (a d : Int) (hl : l.length < 2199023255552) (k : Nat) (hk : l.length < k) : corebankref23_Active.f k l a d = some (l.filter (actB a d)) := by
  have := ractive_from l a d hl l.length k 0 (by omega) hk
  rw [List.take_zero, List.filter_nil] at this
  exact this

theorem rden_from (l : List S28) (m : Int) (hl : l.length ≤ 9223372036854775807) (n : Nat) : ∀ (k i : Nat), i + n = l.length → n < k →
    corebankref23_Denies.l0 k m l (i : Int) = some ((l.drop i).any (denB m)) := by
  induction n with
  | zero =>
    intro k i hi hk
    obtain ⟨k, rfl, _⟩ := succ_of hk
    simp only [corebankref23_Denies.l0]
    rw [if_neg (by omega), List.drop_eq_nil_of_le (by omega)]
    rfl
  | succ n ih =>
    intro k i hi hk
    obtain ⟨k, rfl, hk2⟩ := succ_of hk
    have hi' : i < l.length := by omega
    have e : l.getD i z28 = l[i] := by rw [List.getD_eq_getElem?_getD, List.getElem?_eq_getElem hi']; rfl
    have ih' := ih k (i + 1) (by omega) (by omega)
    simp only [corebankref23_Denies.l0]
    rw [if_pos (by omega), if_pos (by omega), List.drop_eq_getElem_cons hi', List.any_cons, rd_at, e, next_nat hi' hl, ih']
    unfold denB
    by_cases h1 : l[i].f2 = 1
    · rw [if_pos h1, if_pos h1, Bool.true_or]
    · rw [if_neg h1, if_neg h1]
      by_cases h2 : l[i].f2 = 2
      · rw [if_pos h2, if_pos h2, if_neg (show ¬ l[i].f2 = 3 by omega)]
        by_cases h3 : m > 0
        · rw [if_pos h3, decide_eq_true h3, Bool.true_or]
        · rw [if_neg h3, decide_eq_false h3, Bool.false_or]
      · rw [if_neg h2, if_neg h2]
        by_cases h3 : l[i].f2 = 3
        · rw [if_pos h3, if_pos h3]
          by_cases h4 : m < 0
          · rw [if_pos h4, decide_eq_true h4, Bool.true_or]
          · rw [if_neg h4, decide_eq_false h4, Bool.false_or]
        · rw [if_neg h3, if_neg h3, Bool.false_or]
theorem rden_eq (l : List S28) (a d m : Int) (hl : l.length < 2199023255552) (k : Nat) (hk : l.length < k) : corebankref23_Denies.f k l a d m = some ((l.filter (actB a d)).any (denB m)) := by
  unfold corebankref23_Denies.f
  rw [ractive_eq l a d hl k hk]
  have h1 : (l.filter (actB a d)).length ≤ l.length := List.length_filter_le _ _
  have := rden_from (l.filter (actB a d)) m (by omega) _ k 0 (Nat.zero_add _) (by omega)
  rw [List.drop_zero] at this
  exact this
theorem rres_from (l : List S28) (hl : l.length ≤ 9223372036854775807) (n : Nat) : ∀ (k i : Nat) (acc : Int), i + n = l.length → n < k →
    corebankref23_Reserved.l0 k l acc (i : Int) = some ((l.drop i).foldl resStep acc) := by
  induction n with
  | zero =>
    intro k i acc hi hk
    obtain ⟨k, rfl, _⟩ := succ_of hk
    simp only [corebankref23_Reserved.l0]
    rw [if_neg (by omega), List.drop_eq_nil_of_le (by omega)]
    rfl
  | succ n ih =>
    intro k i acc hi hk
    obtain ⟨k, rfl, hk2⟩ := succ_of hk
    have hi' : i < l.length := by omega
    have e : l.getD i z28 = l[i] := by rw [List.getD_eq_getElem?_getD, List.getElem?_eq_getElem hi']; rfl
    simp only [corebankref23_Reserved.l0]
    rw [if_pos (by omega), if_pos (by omega), List.drop_eq_getElem_cons hi', List.foldl_cons, rd_at, e, next_nat hi' hl, ih k (i + 1) _ (by omega) (by omega), ih k (i + 1) _ (by omega) (by omega)]
    unfold resStep
    by_cases h1 : l[i].f2 = 4
    · rw [if_pos h1, if_pos h1]
    · rw [if_neg h1, if_neg h1]
theorem rres_eq (l : List S28) (a d : Int) (hl : l.length < 2199023255552) (k : Nat) (hk : l.length < k) : corebankref23_Reserved.f k l a d = some ((l.filter (actB a d)).foldl resStep 0) := by
  unfold corebankref23_Reserved.f
  rw [ractive_eq l a d hl k hk]
  have h1 : (l.filter (actB a d)).length ≤ l.length := List.length_filter_le _ _
  have := rres_from (l.filter (actB a d)) (by omega) _ k 0 0 (Nat.zero_add _) (by omega)
  rw [List.drop_zero] at this
  exact this

end Go.Proofs.Ytlgdcimaapkfbaa.Q
