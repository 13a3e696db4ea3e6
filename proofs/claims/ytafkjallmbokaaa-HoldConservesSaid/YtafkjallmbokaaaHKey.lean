/- What hold.key and hold.fields answer, as plain conditions. -/
import Derived.Test.YtafkjallmbokaaaQx3
namespace Go.Proofs.Ytafkjallmbokaaa.Q
open Go.RowKit Go.Proofs.YtafkjallmbokaaaW.PrintWords Go.Proofs.YtafkjallmbokaaaW.PrintLast Go.Proofs.YtafkjallmbokaaaW.PrintMore
set_option linter.unusedVariables false
set_option linter.unusedSimpArgs false

theorem wrap_next {i n : Int} (h0 : 0 ≤ i) (h : i < n) (hn : n ≤ 9223372036854775807) : wrap64 (i + 1) = i + 1 := by unfold wrap64; omega
theorem wrap_id {i : Int} (h0 : -9223372036854775808 ≤ i) (h : i ≤ 9223372036854775807) : wrap64 i = i := by unfold wrap64; omega

def keyB (s : ByteArray) : Bool := decide ((1 ≤ s.size ∧ s.size ≤ 48) ∧ ∀ j, j < s.size → 33 ≤ bt s (j : Nat) ∧ bt s (j : Nat) ≤ 126)

theorem key_from (s : ByteArray) (hs : s.size ≤ 9223372036854775807) (d : Nat) : ∀ (k : Nat) (i : Nat), i + d = s.size → d < k → (∀ j, j < i → 33 ≤ bt s (j : Nat) ∧ bt s (j : Nat) ≤ 126) →
    hold_key.l0 k s (s.size : Int) (i : Int) = some (keyB s) := by
  induction d with
  | zero =>
    intro k i hi hk hall
    obtain ⟨k, rfl⟩ : ∃ m, k = m + 1 := ⟨k - 1, by omega⟩
    simp only [hold_key.l0]
    rw [if_neg (by omega)]
    by_cases h1 : (s.size : Int) ≥ 1
    · rw [if_pos h1]
      unfold keyB
      congr 1
      rw [decide_eq_decide]
      exact ⟨fun h => ⟨⟨by omega, by omega⟩, fun j hj => hall j (by omega)⟩, fun h => by omega⟩
    · rw [if_neg h1]
      unfold keyB
      rw [decide_eq_false (fun h => h1 (by have := h.1.1; omega))]
  | succ d ih =>
    intro k i hi hk hall
    obtain ⟨k, rfl⟩ : ∃ m, k = m + 1 := ⟨k - 1, by omega⟩
    simp only [hold_key.l0]
    rw [if_pos (by omega), if_pos (by omega), if_pos (by omega)]
    by_cases h1 : bt s (i : Int) < 33
    · rw [if_pos h1]
      unfold keyB
      rw [decide_eq_false (fun h => by have := (h.2 i (by omega)).1; omega)]
    · rw [if_neg h1]
      by_cases h2 : bt s (i : Int) > 126
      · rw [if_pos h2]
        unfold keyB
        rw [decide_eq_false (fun h => by have := (h.2 i (by omega)).2; omega)]
      · rw [if_neg h2, wrap_next (by omega) (show (i : Int) < s.size by omega) (by omega)]
        have := ih k (i + 1) (by omega) (by omega) (fun j hj => by
          by_cases e : j = i
          · subst e; omega
          · exact hall j (by omega))
        rw [show ((i : Int) + 1) = ((i + 1 : Nat) : Int) by omega]
        exact this
theorem key_eq (s : ByteArray) (hs : s.size ≤ 9223372036854775807) (k : Nat) (hk : s.size < k) : hold_key.f k s = some (keyB s) :=
  key_from s hs s.size k 0 (by omega) hk (fun j hj => absurd hj (by omega))

def dayB (n : Int) : Bool := decide (0 ≤ n ∧ n ≤ 73048)
theorem day_eq (n : Int) : hold_day.f n = some (dayB n) := by
  unfold hold_day.f dayB
  by_cases h : n ≥ 0
  · rw [if_pos h]; congr 1; rw [decide_eq_decide]; omega
  · rw [if_neg h, decide_eq_false (by omega)]
def fieldsB (x : S26) : Bool := decide (x.f0 ≥ 1 ∧ x.f1 ≥ 1000 ∧ x.f2 ≥ 1 ∧ x.f2 ≤ 1000000000000 ∧ (0 ≤ x.f3 ∧ x.f3 ≤ 73048) ∧ (0 ≤ x.f4 ∧ x.f4 ≤ 73048) ∧ x.f3 ≤ x.f4)
theorem fields_eq (x : S26) : hold_fields.f x.f0 x.f1 x.f2 x.f3 x.f4 x.f5 = some (fieldsB x) := by
  unfold hold_fields.f fieldsB
  simp only [day_eq, Option.bind_some, dayB, decide_eq_true_eq]
  repeat' (first | (split <;> rename_i h))
  all_goals (congr 1; simp only [eq_comm (a := false), decide_eq_false_iff_not, decide_eq_decide]; omega)

end Go.Proofs.Ytafkjallmbokaaa.Q
