/- blocking.Active in closed form. -/
import Derived.Test.YtlgdcimaapkfbaaQx7
namespace Go.Proofs.Ytlgdcimaapkfbaa.Q
open Go.RowKit Go.Proofs.YtlgdcimaapkfbaaW.PrintWords Go.Proofs.YtlgdcimaapkfbaaW.PrintLast Go.Proofs.YtlgdcimaapkfbaaW.PrintMore
set_option linter.unusedVariables false
set_option linter.unusedSimpArgs false
theorem succ_of {k d : Nat} (h : d < k) : ∃ m, k = m + 1 ∧ d ≤ m := ⟨k - 1, by omega, by omega⟩
theorem next_nat {i n : Nat} (h : i < n) (hn : n ≤ 9223372036854775807) : wrap64 ((i : Int) + 1) = ((i + 1 : Nat) : Int) := by unfold wrap64; omega
def actB (account day : Int) (x : S28) : Bool := decide (x.f1 = account ∧ x.f4 ≤ day ∧ day ≤ x.f5)
theorem take_snoc28 (l : List S28) (k : Nat) (h : k < l.length) : l.take (k + 1) = l.take k ++ [l.getD k z28] := by
  rw [List.take_succ_eq_append_getElem h, List.getD_eq_getElem?_getD, List.getElem?_eq_getElem h]; rfl
theorem active_from (l : List S28) (a d : Int) (hl : l.length < 2199023255552) (n : Nat) : ∀ (k i : Nat), i + n = l.length → n < k →
    blocking_Active.l0 k a d ((l.take i).filter (actB a d)) l (l.length : Int) (i : Int) = some (l.filter (actB a d)) := by
  induction n with
  | zero =>
    intro k i hi hk
    obtain ⟨k, rfl, _⟩ := succ_of hk
    simp only [blocking_Active.l0]
    rw [if_neg (by omega), List.take_of_length_le (by omega)]
  | succ n ih =>
    intro k i hi hk
    obtain ⟨k, rfl, hk2⟩ := succ_of hk
    simp only [blocking_Active.l0]
    have e : rd_T28 l (i : Int) = l.getD i z28 := rfl
    have hlen : ((l.take i).filter (actB a d)).length ≤ l.length := Nat.le_trans (List.length_filter_le _ _) (by rw [List.length_take]; omega)
    have ih' := ih k (i + 1) (by omega) (by omega)
    rw [take_snoc28 l i (by omega), List.filter_append, List.filter_cons, List.filter_nil] at ih'
    rw [if_pos (by omega), if_pos (by omega), if_pos (by omega), e, next_nat (show i < l.length by omega) (by omega)]
    by_cases h1 : (l.getD i z28).f1 = a
    · rw [if_pos h1]
      by_cases h2 : (l.getD i z28).f4 ≤ d
      · rw [if_pos h2]
        by_cases h3 : d ≤ (l.getD i z28).f5
        · rw [if_pos h3, if_pos (by omega)]
          rw [show actB a d (l.getD i z28) = true from decide_eq_true ⟨h1, h2, h3⟩, if_pos rfl] at ih'
          exact ih'
        · rw [if_neg h3]
          rw [show actB a d (l.getD i z28) = false from decide_eq_false (fun h => h3 h.2.2), if_neg (by simp), List.append_nil] at ih'
          exact ih'
      · rw [if_neg h2]
        rw [show actB a d (l.getD i z28) = false from decide_eq_false (fun h => h2 h.2.1), if_neg (by simp), List.append_nil] at ih'
        exact ih'
    · rw [if_neg h1]
      rw [show actB a d (l.getD i z28) = false from decide_eq_false (fun h => h1 h.1), if_neg (by simp), List.append_nil] at ih'
      exact ih'
theorem active_eq (l : List S28) (a d : Int) (hl : l.length < 2199023255552) (k : Nat) (hk : l.length < k) : blocking_Active.f k l a d = some (l.filter (actB a d)) := by
  have := active_from l a d hl l.length k 0 (by omega) hk
  rw [List.take_zero, List.filter_nil] at this
  exact this
end Go.Proofs.Ytlgdcimaapkfbaa.Q
