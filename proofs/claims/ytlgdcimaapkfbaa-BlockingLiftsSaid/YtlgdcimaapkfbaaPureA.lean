/- What short, Check and the reference's Check answer: the same conditions. -/
import Derived.Test.YtlgdcimaapkfbaaQx2
import Derived.Test.YtlgdcimaapkfbaaQx3
import Derived.Test.YtlgdcimaapkfbaaQx4
import Derived.Test.YtlgdcimaapkfbaaQx5
import Derived.Test.YtlgdcimaapkfbaaPureL
import Derived.Test.YtlgdcimaapkfbaaHLift
namespace Go.Proofs.Ytlgdcimaapkfbaa.Q
open Go.RowKit Go.Proofs.YtlgdcimaapkfbaaW.PrintWords Go.Proofs.YtlgdcimaapkfbaaW.PrintLast Go.Proofs.YtlgdcimaapkfbaaW.PrintMore
set_option linter.unusedVariables false
set_option linter.unusedSimpArgs false

theorem prev_nat {i : Nat} (h : i + 1 ≤ 9223372036854775807) : wrap64 (((i + 1 : Nat) : Int) - 1) = (i : Int) := by unfold wrap64; omega
theorem rd_at (l : List S28) (i : Nat) : rd_T28 l (i : Int) = l.getD i z28 := rfl

def shortB (l : List S28) : Bool := l.all fun x => decide (x.f6.size ≤ 100)
theorem short_from (l : List S28) (hl : l.length ≤ 9223372036854775807) (d : Nat) : ∀ (k i : Nat), i + d = l.length → d < k → corebanklaw23_short.l0 k l (i : Int) = some ((l.drop i).all fun x => decide (x.f6.size ≤ 100)) := by
  induction d with
  | zero =>
    intro k i hi hk
    obtain ⟨k, rfl, _⟩ := succ_of hk
    simp only [corebanklaw23_short.l0]
    rw [if_neg (by omega), List.drop_eq_nil_of_le (by omega)]
    rfl
  | succ d ih =>
    intro k i hi hk
    obtain ⟨k, rfl, hk2⟩ := succ_of hk
    have hi' : i < l.length := by omega
    have e : l.getD i z28 = l[i] := by rw [List.getD_eq_getElem?_getD, List.getElem?_eq_getElem hi']; rfl
    simp only [corebanklaw23_short.l0]
    rw [if_pos (by omega), if_pos (by omega), List.drop_eq_getElem_cons hi', List.all_cons, rd_at, e]
    by_cases h : ((l[i].f6).size : Int) > 100
    · rw [if_pos h, decide_eq_false (by omega), Bool.false_and]
    · rw [if_neg h, decide_eq_true (by omega), Bool.true_and, next_nat hi' hl]
      exact ih k (i + 1) (by omega) (by omega)
theorem short_eq (l : List S28) (hl : l.length ≤ 9223372036854775807) (k : Nat) (hk : l.length < k) : corebanklaw23_short.f k l = some (shortB l) := by
  have := short_from l hl l.length k 0 (by omega) hk
  rw [List.drop_zero] at this
  exact this
theorem short_all {l : List S28} (h : shortB l = true) : ∀ x ∈ l, x.f6.size ≤ 100 := fun x hx => of_decide_eq_true (List.all_eq_true.1 h x hx)

/-! Names -/
@[reducible] def okAt (s : ByteArray) (i : Nat) : Prop := (97 ≤ bt s (i : Int) ∧ bt s (i : Int) ≤ 122) ∨ (0 < i ∧ (bt s (i : Int) = 95 ∨ (48 ≤ bt s (i : Int) ∧ bt s (i : Int) ≤ 57)))
def nameB (s : ByteArray) : Bool := decide ((1 ≤ s.size ∧ s.size ≤ 16) ∧ ∀ i, i < s.size → okAt s i)
theorem name_from (s : ByteArray) (hs : s.size ≤ 9223372036854775807) (d : Nat) : ∀ (k i : Nat), i + d = s.size → d < k → (∀ j, j < i → okAt s j) → blocking_name.l0 k s (s.size : Int) (i : Int) = some (nameB s) := by
  induction d with
  | zero =>
    intro k i hi hk hall
    obtain ⟨k, rfl, _⟩ := succ_of hk
    simp only [blocking_name.l0]
    rw [if_neg (by omega)]
    unfold nameB
    by_cases h1 : (s.size : Int) ≥ 1
    · rw [if_pos h1]
      congr 1
      rw [decide_eq_decide]
      exact ⟨fun h => ⟨⟨by omega, by omega⟩, fun j hj => hall j (by omega)⟩, fun h => by omega⟩
    · rw [if_neg h1, decide_eq_false (fun h => h1 (by have := h.1.1; omega))]
  | succ d ih =>
    intro k i hi hk hall
    obtain ⟨k, rfl, hk2⟩ := succ_of hk
    have hi' : i < s.size := by omega
    have hF : ¬ okAt s i → some false = some (nameB s) := fun h => by unfold nameB; rw [decide_eq_false (fun e => h (e.2 i hi'))]
    have hT : okAt s i → blocking_name.l0 k s (s.size : Int) (wrap64 ((i : Int) + 1)) = some (nameB s) := fun h => by
      rw [next_nat hi' hs]
      refine ih k (i + 1) (by omega) (by omega) (fun j hj => ?_)
      by_cases e : j = i
      · subst e; exact h
      · exact hall j (by omega)
    simp only [blocking_name.l0]
    rw [if_pos (by omega), if_pos (by omega), if_pos (by omega)]
    repeat' (first | (split <;> rename_i h))
    all_goals (first | exact hT (by unfold okAt; omega) | exact hF (by unfold okAt; omega))
theorem name_eq (s : ByteArray) (hs : s.size ≤ 9223372036854775807) (k : Nat) (hk : s.size < k) : blocking_name.f k s = some (nameB s) :=
  name_from s hs s.size k 0 (by omega) hk (fun j hj => absurd hj (by omega))
theorem rname_from (s : ByteArray) (hs : 1 ≤ s.size ∧ s.size ≤ 16) (h0 : 97 ≤ bt s 0 ∧ bt s 0 ≤ 122) (d : Nat) : ∀ (k i : Nat), i + d = s.size → d < k → (∀ j, j < i → okAt s j) → corebankref05_Name.l0 k s (i : Int) = some (nameB s) := by
  induction d with
  | zero =>
    intro k i hi hk hall
    obtain ⟨k, rfl, _⟩ := succ_of hk
    simp only [corebankref05_Name.l0]
    rw [if_neg (by omega)]
    unfold nameB
    rw [decide_eq_true ⟨hs, fun j hj => hall j (by omega)⟩]
  | succ d ih =>
    intro k i hi hk hall
    obtain ⟨k, rfl, hk2⟩ := succ_of hk
    have hi' : i < s.size := by omega
    have hi0 : 0 < i ∨ (97 ≤ bt s (i : Int) ∧ bt s (i : Int) ≤ 122) := by
      rcases Nat.eq_zero_or_pos i with e | e
      · subst e; exact .inr h0
      · exact .inl e
    have hF : ¬ okAt s i → some false = some (nameB s) := fun h => by unfold nameB; rw [decide_eq_false (fun e => h (e.2 i hi'))]
    have hT : okAt s i → corebankref05_Name.l0 k s (wrap64 ((i : Int) + 1)) = some (nameB s) := fun h => by
      rw [next_nat hi' (by omega)]
      refine ih k (i + 1) (by omega) (by omega) (fun j hj => ?_)
      by_cases e : j = i
      · subst e; exact h
      · exact hall j (by omega)
    simp only [corebankref05_Name.l0]
    rw [if_pos (by omega), if_pos (by omega)]
    repeat' (first | (split <;> rename_i h))
    all_goals (first | exact hT (by unfold okAt; omega) | exact hF (by unfold okAt; omega))
theorem rname_eq (s : ByteArray) (k : Nat) (hk : 20 < k) : corebankref05_Name.f k s = some (nameB s) := by
  obtain ⟨k, rfl, hk2⟩ := succ_of hk
  have hF : ∀ b : Bool, b = true → ¬ ((1 ≤ s.size ∧ s.size ≤ 16) ∧ ∀ i, i < s.size → okAt s i) → corebankref05_Name.j0 (k + 1) s b = some (nameB s) := fun b hb h => by
    subst hb
    simp only [corebankref05_Name.j0]
    rw [if_pos trivial]
    unfold nameB
    rw [decide_eq_false h]
  unfold corebankref05_Name.f
  by_cases h1 : (s.size : Int) < 1
  · rw [if_pos h1]; exact hF _ rfl (fun h => by omega)
  · rw [if_neg h1]
    by_cases h2 : (s.size : Int) > 16
    · rw [if_pos h2]; exact hF _ rfl (fun h => by omega)
    · rw [if_neg h2, if_pos (by omega)]
      by_cases h3 : bt s 0 < 97
      · rw [if_pos h3]
        exact hF _ rfl (fun h => by
          have := h.2 0 (by omega)
          unfold okAt at this
          simp only [Int.ofNat_zero, Nat.lt_irrefl, false_and, or_false] at this
          have := this.1
          omega)
      · rw [if_neg h3]
        by_cases h4 : bt s 0 > 122
        · rw [decide_eq_true h4]
          exact hF _ rfl (fun h => by
            have := h.2 0 (by omega)
            unfold okAt at this
            simp only [Int.ofNat_zero, Nat.lt_irrefl, false_and, or_false] at this
            have := this.2
            omega)
        · rw [decide_eq_false h4]
          simp only [corebankref05_Name.j0]
          rw [if_neg (by simp)]
          exact rname_from s (by omega) (by omega) s.size k 0 (by omega) (by omega) (fun j hj => absurd hj (by omega))

/-! Fields -/
def fieldsB (x : S28) : Bool := decide (x.f0 ≥ 1 ∧ x.f1 ≥ 1000 ∧ x.f2 ≥ 1 ∧ x.f2 ≤ 4 ∧ (0 ≤ x.f4 ∧ x.f4 ≤ 73048) ∧ (0 ≤ x.f5 ∧ x.f5 ≤ 73048) ∧ x.f4 ≤ x.f5 ∧ ((x.f2 = 4 ∧ 1 ≤ x.f3 ∧ x.f3 ≤ 1000000000000) ∨ (x.f2 ≠ 4 ∧ x.f3 = 0)))
theorem rday_eq (n : Int) : corebankref04_Valid.f n = some (dayB n) := by
  unfold corebankref04_Valid.f dayB
  by_cases h : n ≥ 0
  · rw [if_pos h]; congr 1; rw [decide_eq_decide]; omega
  · rw [if_neg h, decide_eq_false (by omega)]
theorem fields_eq (x : S28) (k : Nat) (hk : 0 < k) : blocking_fields.f k x.f0 x.f1 x.f2 x.f3 x.f4 x.f5 x.f6 = some (fieldsB x) := by
  obtain ⟨k, rfl, _⟩ := succ_of hk
  unfold blocking_fields.f fieldsB
  simp only [blocking_fields.j0, day_eq, Option.bind_some, dayB, decide_eq_true_eq, if_pos]
  repeat' (first | (split <;> rename_i h))
  all_goals (congr 1; first | (rw [eq_comm, decide_eq_false_iff_not]; omega) | (rw [decide_eq_decide]; omega) | (rw [Bool.eq_iff_iff, beq_iff_eq, decide_eq_true_iff]; omega))
theorem good_eq (x : S28) (k : Nat) (hk : 1 < k) : corebankref23_good.f k x.f0 x.f1 x.f2 x.f3 x.f4 x.f5 x.f6 = some (fieldsB x) := by
  obtain ⟨k, rfl, hk2⟩ := succ_of hk
  obtain ⟨k, rfl, _⟩ := succ_of (show 0 < k by omega)
  unfold corebankref23_good.f fieldsB
  simp only [corebankref23_good.j0, corebankref23_good.j1, rday_eq, Option.bind_some, dayB, decide_eq_true_eq, if_pos, bne_iff_ne, ne_eq, if_neg (show ¬ (false = true) by simp)]
  repeat' (first | (split <;> rename_i h))
  all_goals (congr 1; first | (rw [eq_comm, decide_eq_false_iff_not]; omega) | (rw [decide_eq_decide]; omega))

/-! Check -/
def checkAt (l : List S28) (i : Nat) : Int := if fieldsB (l.getD i z28) = false then 1 else if nameB (l.getD i z28).f6 = false then 4 else if 0 < i ∧ (l.getD i z28).f0 ≤ (l.getD (i - 1) z28).f0 then 10 else 0
def checkFrom (l : List S28) : Nat → Nat → Int
  | 0, _ => 0
  | d + 1, i => if checkAt l i = 0 then checkFrom l d (i + 1) else checkAt l i
def checkL (l : List S28) : Int := if l.length > 64 then 5 else checkFrom l l.length 0
theorem check_from (l : List S28) (hl : l.length ≤ 64) (hs : ∀ x ∈ l, x.f6.size ≤ 100) (d : Nat) : ∀ (k i : Nat), i + d = l.length → d + 200 < k →
    blocking_Check.l0 k l l (l.length : Int) (i : Int) = some (checkFrom l d i) := by
  induction d with
  | zero =>
    intro k i hi hk
    obtain ⟨k, rfl, _⟩ := succ_of hk
    simp only [blocking_Check.l0]
    rw [if_neg (by omega)]
    rfl
  | succ d ih =>
    intro k i hi hk
    obtain ⟨k, rfl, hk2⟩ := succ_of hk
    have hi' : i < l.length := by omega
    have hmem : l.getD i z28 ∈ l := by rw [List.getD_eq_getElem?_getD, List.getElem?_eq_getElem hi']; exact List.getElem_mem _
    have hsz := hs _ hmem
    have ih1 := ih k (i + 1) (by omega) (by omega)
    simp only [blocking_Check.l0, checkFrom]
    rw [if_pos (show (i : Int) < (l.length : Int) by omega), if_pos (show 0 ≤ (i : Int) by omega), if_pos (show (i : Int) < (l.length : Int) by omega), rd_at, fields_eq _ k (by omega)]
    simp only [Option.bind_some]
    rw [name_eq _ (by omega) k (by omega)]
    simp only [Option.bind_some]
    unfold checkAt
    cases h1 : fieldsB (l.getD i z28) with
    | false => rfl
    | true =>
      cases h2 : nameB (l.getD i z28).f6 with
      | false => rfl
      | true =>
        rw [if_pos rfl, if_pos rfl, if_neg (show ¬ (true = false) by simp), if_neg (show ¬ (true = false) by simp), next_nat hi' (by omega)]
        rcases Nat.eq_zero_or_pos i with hz | hz
        · subst hz
          rw [if_neg (by omega), if_neg (show ¬ (0 < 0 ∧ (l.getD 0 z28).f0 ≤ (l.getD (0 - 1) z28).f0) from fun h => absurd h.1 (by omega)), if_pos rfl]
          exact ih1
        · obtain ⟨p, rfl⟩ : ∃ p, i = p + 1 := ⟨i - 1, by omega⟩
          rw [if_pos (by omega), prev_nat (by omega), if_pos (by omega), if_pos (by omega), rd_at, Nat.add_sub_cancel]
          by_cases h3 : (l.getD (p + 1) z28).f0 ≤ (l.getD p z28).f0
          · rw [if_pos h3, if_pos (show 0 < p + 1 ∧ (l.getD (p + 1) z28).f0 ≤ (l.getD p z28).f0 from ⟨by omega, h3⟩), if_neg (show ¬ ((10 : Int) = 0) by decide)]
          · rw [if_neg h3, if_neg (show ¬ (0 < p + 1 ∧ (l.getD (p + 1) z28).f0 ≤ (l.getD p z28).f0) from fun h => h3 h.2), if_pos rfl]
            exact ih1
theorem rcheck_from (l : List S28) (hl : l.length ≤ 64) (hs : ∀ x ∈ l, x.f6.size ≤ 100) (d : Nat) : ∀ (k i : Nat), i + d = l.length → d + 200 < k →
    corebankref23_Check.l0 k l (i : Int) = some (checkFrom l d i) := by
  induction d with
  | zero =>
    intro k i hi hk
    obtain ⟨k, rfl, _⟩ := succ_of hk
    simp only [corebankref23_Check.l0]
    rw [if_neg (by omega)]
    rfl
  | succ d ih =>
    intro k i hi hk
    obtain ⟨k, rfl, hk2⟩ := succ_of hk
    have hi' : i < l.length := by omega
    have hmem : l.getD i z28 ∈ l := by rw [List.getD_eq_getElem?_getD, List.getElem?_eq_getElem hi']; exact List.getElem_mem _
    have hsz := hs _ hmem
    have ih1 := ih k (i + 1) (by omega) (by omega)
    simp only [corebankref23_Check.l0, checkFrom]
    rw [if_pos (show (i : Int) < (l.length : Int) by omega), if_pos (show 0 ≤ (i : Int) by omega), rd_at, good_eq _ k (by omega)]
    simp only [Option.bind_some]
    rw [rname_eq _ k (by omega)]
    simp only [Option.bind_some]
    unfold checkAt
    cases h1 : fieldsB (l.getD i z28) with
    | false => rfl
    | true =>
      cases h2 : nameB (l.getD i z28).f6 with
      | false => rfl
      | true =>
        rw [if_pos rfl, if_pos rfl, if_neg (show ¬ (true = false) by simp), if_neg (show ¬ (true = false) by simp), next_nat hi' (by omega)]
        rcases Nat.eq_zero_or_pos i with hz | hz
        · subst hz
          rw [if_neg (by omega), if_neg (show ¬ (0 < 0 ∧ (l.getD 0 z28).f0 ≤ (l.getD (0 - 1) z28).f0) from fun h => absurd h.1 (by omega)), if_pos rfl]
          exact ih1
        · obtain ⟨p, rfl⟩ : ∃ p, i = p + 1 := ⟨i - 1, by omega⟩
          rw [if_pos (by omega), prev_nat (by omega), if_pos (by omega), if_pos (by omega), rd_at, Nat.add_sub_cancel]
          by_cases h3 : (l.getD (p + 1) z28).f0 ≤ (l.getD p z28).f0
          · rw [if_pos h3, if_pos (show 0 < p + 1 ∧ (l.getD (p + 1) z28).f0 ≤ (l.getD p z28).f0 from ⟨by omega, h3⟩), if_neg (show ¬ ((10 : Int) = 0) by decide)]
          · rw [if_neg h3, if_neg (show ¬ (0 < p + 1 ∧ (l.getD (p + 1) z28).f0 ≤ (l.getD p z28).f0) from fun h => h3 h.2), if_pos rfl]
            exact ih1
theorem check_eq (l : List S28) (hs : ∀ x ∈ l, x.f6.size ≤ 100) (k : Nat) (hk : 300 < k) : blocking_Check.f k l = some (checkL l) := by
  unfold blocking_Check.f checkL
  by_cases h : l.length > 64
  · rw [if_pos h, if_pos (by omega)]
  · rw [if_neg h, if_neg (by omega)]
    exact (check_from l (by omega) hs l.length k 0 (by omega) (by omega))
theorem rcheck_eq (l : List S28) (hs : ∀ x ∈ l, x.f6.size ≤ 100) (k : Nat) (hk : 300 < k) : corebankref23_Check.f k l = some (checkL l) := by
  unfold corebankref23_Check.f checkL
  by_cases h : l.length > 64
  · rw [if_pos h, if_pos (by omega)]
  · rw [if_neg h, if_neg (by omega)]
    exact (rcheck_from l (by omega) hs l.length k 0 (by omega) (by omega))
end Go.Proofs.Ytlgdcimaapkfbaa.Q
