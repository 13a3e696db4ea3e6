/- Place and the reference's Place: the same closed form, and what it returns is accepted. -/
import Derived.Test.YtlgdcimaapkfbaaQx10
import Derived.Test.YtlgdcimaapkfbaaQx6
import Derived.Test.YtlgdcimaapkfbaaPureB
namespace Go.Proofs.Ytlgdcimaapkfbaa.Q
open Go.RowKit Go.Proofs.YtlgdcimaapkfbaaW.PrintWords Go.Proofs.YtlgdcimaapkfbaaW.PrintLast Go.Proofs.YtlgdcimaapkfbaaW.PrintMore
set_option linter.unusedVariables false
set_option linter.unusedSimpArgs false

theorem from_zero (l : List S28) (d : Nat) : ∀ i, checkFrom l d i = 0 ↔ ∀ j, i ≤ j → j < i + d → checkAt l j = 0 := by
  induction d with
  | zero => intro i; exact ⟨fun _ j h1 h2 => by omega, fun _ => rfl⟩
  | succ d ih =>
    intro i
    unfold checkFrom
    by_cases h : checkAt l i = 0
    · rw [if_pos h, ih (i + 1)]
      refine ⟨fun H j h1 h2 => ?_, fun H j h1 h2 => H j (by omega) (by omega)⟩
      by_cases e : j = i
      · subst e; exact h
      · exact H j (by omega) (by omega)
    · rw [if_neg h]
      exact ⟨fun e => absurd e h, fun H => absurd (H i (Nat.le_refl _) (by omega)) h⟩
theorem check_zero (l : List S28) : checkL l = 0 ↔ l.length ≤ 64 ∧ ∀ j, j < l.length → checkAt l j = 0 := by
  unfold checkL
  by_cases h : l.length > 64
  · rw [if_pos h]; exact ⟨fun e => absurd e (by decide), fun e => by omega⟩
  · rw [if_neg h, from_zero]
    exact ⟨fun H => ⟨by omega, fun j hj => H j (Nat.zero_le _) (by omega)⟩, fun H j _ hj => H.2 j (by omega)⟩
theorem at_left (l : List S28) (b : S28) (j : Nat) (h : j < l.length) : (l ++ [b]).getD j z28 = l.getD j z28 := by
  rw [List.getD_eq_getElem?_getD, List.getD_eq_getElem?_getD, List.getElem?_append_left h]
theorem at_end (l : List S28) (b : S28) : (l ++ [b]).getD l.length z28 = b := by
  rw [List.getD_eq_getElem?_getD, List.getElem?_append_right (Nat.le_refl _), Nat.sub_self]; rfl
theorem check_add (l : List S28) (b : S28) (h1 : checkL l = 0) (h2 : checkL [b] = 0) (h3 : ¬ (0 < l.length ∧ b.f0 ≤ (l.getD (l.length - 1) z28).f0)) (h4 : l.length < 64) : checkL (l ++ [b]) = 0 := by
  rw [check_zero] at h1 h2 ⊢
  refine ⟨by simp; omega, fun j hj => ?_⟩
  simp only [List.length_append, List.length_cons, List.length_nil] at hj
  by_cases e : j < l.length
  · have := h1.2 j e
    unfold checkAt at this ⊢
    rw [at_left l b j e, at_left l b (j - 1) (by omega)]
    exact this
  · obtain rfl : j = l.length := by omega
    have hb := h2.2 0 (by simp)
    unfold checkAt at hb ⊢
    rw [show ([b] : List S28).getD 0 z28 = b from rfl] at hb
    rw [at_end]
    cases f1 : fieldsB b with
    | false => rw [f1, if_pos rfl] at hb; exact absurd hb (by decide)
    | true =>
      rw [f1, if_neg (by simp)] at hb
      cases f2 : nameB b.f6 with
      | false => rw [f2, if_pos rfl] at hb; exact absurd hb (by decide)
      | true =>
        rw [if_neg (by simp), if_neg (by simp)]
        by_cases hz : 0 < l.length
        · rw [at_left l b (l.length - 1) (by omega), if_neg h3]
        · rw [if_neg (fun h => hz h.1)]
def placeL (l : List S28) (b : S28) : List S28 × Int :=
  if checkL l ≠ 0 ∨ checkL [b] ≠ 0 then ([], 1) else if 0 < l.length ∧ b.f0 ≤ (l.getD (l.length - 1) z28).f0 then ([], 10) else if l.length = 64 then ([], 5) else (l ++ [b], 0)
theorem place_eq (l : List S28) (b : S28) (hl : l.length ≤ 100) (hs : ∀ x ∈ l, x.f6.size ≤ 100) (hb : b.f6.size ≤ 100) (k : Nat) (hk : 310 < k) : blocking_Place.f k l b.f0 b.f1 b.f2 b.f3 b.f4 b.f5 b.f6 = some (placeL l b) := by
  obtain ⟨k, rfl, hk2⟩ := succ_of hk
  obtain ⟨k, rfl, hk3⟩ := succ_of (show 309 < k by omega)
  have hsb : ∀ x ∈ [b], x.f6.size ≤ 100 := fun x hx => by rw [List.mem_singleton] at hx; subst hx; exact hb
  unfold blocking_Place.f placeL
  rw [check_eq l hs _ (by omega), show (⟨b.f0, b.f1, b.f2, b.f3, b.f4, b.f5, b.f6⟩ : S28) = b from rfl, check_eq [b] hsb _ (by omega)]
  simp only [Option.bind_some]
  by_cases h1 : checkL l = 0
  · rw [if_pos h1]
    by_cases h2 : checkL [b] = 0
    · rw [show (checkL [b] != 0) = false from by rw [h2]; rfl, if_neg (fun h => h.elim (fun h => h h1) (fun h => h h2))]
      have hl64 := ((check_zero l).1 h1).1
      simp only [blocking_Place.j0]
      rw [if_neg (by simp)]
      have jj : ∀ c : Bool, c = decide (0 < l.length ∧ b.f0 ≤ (l.getD (l.length - 1) z28).f0) → blocking_Place.j1 (k + 1) l c b.f0 b.f1 b.f2 b.f3 b.f4 b.f5 b.f6 = some (if 0 < l.length ∧ b.f0 ≤ (l.getD (l.length - 1) z28).f0 then ([], 10) else if l.length = 64 then ([], 5) else (l ++ [b], 0)) := by
        intro c hc
        simp only [blocking_Place.j1]
        by_cases h3 : 0 < l.length ∧ b.f0 ≤ (l.getD (l.length - 1) z28).f0
        · rw [decide_eq_true h3] at hc
          subst hc
          rw [if_pos rfl, if_pos h3]
        · rw [decide_eq_false h3] at hc
          subst hc
          rw [if_neg (by simp), if_neg h3]
          by_cases h4 : l.length = 64
          · rw [if_pos (by omega), if_pos h4]
          · rw [if_neg (by omega), if_neg h4]
            unfold api_Block_29.f
            rw [if_pos (by omega)]
            simp only [Option.bind_some]
            rw [if_pos (by simp; omega)]
      rcases Nat.eq_zero_or_pos l.length with hz | hz
      · rw [if_neg (by omega)]
        exact jj false (by rw [decide_eq_false]; omega)
      · have hw : wrap64 ((l.length : Int) - 1) = ((l.length - 1 : Nat) : Int) := by unfold wrap64; omega
        rw [if_pos (by omega), hw, if_pos (by omega), if_pos (by omega), rd_at]
        exact jj _ (by rw [decide_eq_decide]; exact ⟨fun h => ⟨hz, h⟩, fun h => h.2⟩)
    · rw [show (checkL [b] != 0) = true from by simpa using h2, if_pos (.inr h2)]
      simp only [blocking_Place.j0, if_true]
  · rw [if_neg h1, if_pos (.inl h1)]
    simp only [blocking_Place.j0, if_true]
theorem rplace_eq (l : List S28) (b : S28) (hl : l.length ≤ 100) (hs : ∀ x ∈ l, x.f6.size ≤ 100) (hb : b.f6.size ≤ 100) (k : Nat) (hk : 310 < k) : corebankref23_Place.f k l b.f0 b.f1 b.f2 b.f3 b.f4 b.f5 b.f6 = some (placeL l b) := by
  obtain ⟨k, rfl, hk2⟩ := succ_of hk
  obtain ⟨k, rfl, hk3⟩ := succ_of (show 309 < k by omega)
  have hsb : ∀ x ∈ [b], x.f6.size ≤ 100 := fun x hx => by rw [List.mem_singleton] at hx; subst hx; exact hb
  unfold corebankref23_Place.f placeL
  rw [rcheck_eq l hs _ (by omega), show (⟨b.f0, b.f1, b.f2, b.f3, b.f4, b.f5, b.f6⟩ : S28) = b from rfl, rcheck_eq [b] hsb _ (by omega)]
  simp only [Option.bind_some]
  by_cases h1 : checkL l = 0
  · rw [if_pos h1]
    by_cases h2 : checkL [b] = 0
    · rw [show (checkL [b] != 0) = false from by rw [h2]; rfl, if_neg (fun h => h.elim (fun h => h h1) (fun h => h h2))]
      have hl64 := ((check_zero l).1 h1).1
      simp only [corebankref23_Place.j0]
      rw [if_neg (by simp)]
      have jj : ∀ c : Bool, c = decide (0 < l.length ∧ b.f0 ≤ (l.getD (l.length - 1) z28).f0) → corebankref23_Place.j1 (k + 1) l c b.f0 b.f1 b.f2 b.f3 b.f4 b.f5 b.f6 = some (if 0 < l.length ∧ b.f0 ≤ (l.getD (l.length - 1) z28).f0 then ([], 10) else if l.length = 64 then ([], 5) else (l ++ [b], 0)) := by
        intro c hc
        simp only [corebankref23_Place.j1]
        by_cases h3 : 0 < l.length ∧ b.f0 ≤ (l.getD (l.length - 1) z28).f0
        · rw [decide_eq_true h3] at hc
          subst hc
          rw [if_pos rfl, if_pos h3]
        · rw [decide_eq_false h3] at hc
          subst hc
          rw [if_neg (by simp), if_neg h3]
          by_cases h4 : l.length = 64
          · rw [if_pos (by omega), if_pos h4]
          · rw [if_neg (by omega), if_neg h4]
            simp only [Option.bind_some, List.nil_append]
            rw [if_pos (by simp; omega), if_pos (by simp; omega)]
      rcases Nat.eq_zero_or_pos l.length with hz | hz
      · rw [if_neg (by omega)]
        exact jj false (by rw [decide_eq_false]; omega)
      · have hw : wrap64 ((l.length : Int) - 1) = ((l.length - 1 : Nat) : Int) := by unfold wrap64; omega
        rw [if_pos (by omega), hw, if_pos (by omega), if_pos (by omega), rd_at]
        exact jj _ (by rw [decide_eq_decide]; exact ⟨fun h => ⟨hz, h⟩, fun h => h.2⟩)
    · rw [show (checkL [b] != 0) = true from by simpa using h2, if_pos (.inr h2)]
      simp only [corebankref23_Place.j0, if_true]
  · rw [if_neg h1, if_pos (.inl h1)]
    simp only [corebankref23_Place.j0, if_true]
theorem place_len (l : List S28) (b : S28) : (placeL l b).1.length ≤ l.length + 1 := by
  unfold placeL
  split
  · exact Nat.zero_le _
  · split
    · exact Nat.zero_le _
    · split
      · exact Nat.zero_le _
      · simp
theorem place_ok (l : List S28) (b : S28) (h : (placeL l b).2 = 0) : checkL (placeL l b).1 = 0 ∧ ∀ x ∈ (placeL l b).1, x ∈ l ∨ x = b := by
  unfold placeL at h ⊢
  by_cases h1 : checkL l ≠ 0 ∨ checkL [b] ≠ 0
  · rw [if_pos h1] at h; exact absurd h (by decide)
  · rw [if_neg h1] at h ⊢
    by_cases h2 : 0 < l.length ∧ b.f0 ≤ (l.getD (l.length - 1) z28).f0
    · rw [if_pos h2] at h; exact absurd h (by decide)
    · rw [if_neg h2] at h ⊢
      by_cases h3 : l.length = 64
      · rw [if_pos h3] at h; exact absurd h (by decide)
      · rw [if_neg h3]
        have c1 : checkL l = 0 := Classical.byContradiction fun e => h1 (.inl e)
        have c2 : checkL [b] = 0 := Classical.byContradiction fun e => h1 (.inr e)
        have := ((check_zero l).1 c1).1
        exact ⟨check_add l b c1 c2 h2 (by omega), fun x hx => by simpa using hx⟩
theorem live_ge (k : Nat) (h : 300 ≤ k) : corebanklaw23_live.f k = some true := by
  obtain ⟨q, rfl⟩ : ∃ q, k = 300 + q := ⟨k - 300, by omega⟩
  exact live_true q
theorem place_all (l : List S28) (b : S28) : (placeL l b = (l ++ [b], 0) ∧ l.length ≤ 64) ∨ ((placeL l b).1 = [] ∧ (placeL l b).2 ≠ 0) := by
  unfold placeL
  by_cases h1 : checkL l ≠ 0 ∨ checkL [b] ≠ 0
  · rw [if_pos h1]; exact .inr ⟨rfl, (by decide)⟩
  · rw [if_neg h1]
    by_cases h2 : 0 < l.length ∧ b.f0 ≤ (l.getD (l.length - 1) z28).f0
    · rw [if_pos h2]; exact .inr ⟨rfl, (by decide)⟩
    · rw [if_neg h2]
      by_cases h3 : l.length = 64
      · rw [if_pos h3]; exact .inr ⟨rfl, (by decide)⟩
      · rw [if_neg h3]
        exact .inl ⟨rfl, ((check_zero l).1 (Classical.byContradiction fun e => h1 (.inl e))).1⟩
end Go.Proofs.Ytlgdcimaapkfbaa.Q
