/- The reference's Parse in closed form: the same as the program's. -/
import Derived.Test.YtbeebjpbmbkodaaDoorPPar
import Derived.Test.YtbeebjpbmbkodaaDoorQx11
namespace Go.Proofs.YtbeebjpbmbkodaaDoor.Q
open Go.RowKit Go.Proofs.YtbeebjpbmbkodaaDoorW.PrintWords Go.Proofs.YtbeebjpbmbkodaaDoorW.PrintLast Go.Proofs.YtbeebjpbmbkodaaDoorW.PrintMore
set_option linter.unusedVariables false
set_option linter.unusedSimpArgs false

/-- A round of the reference's loop over digits: the number, whether a digit is not 0, whether it is too large. -/
def stepR (st : Nat × Bool × Bool) (c : UInt8) : Nat × Bool × Bool :=
  (if st.2.2 = true then st.1 else 10 * st.1 + (c.toNat - 48), st.2.1 || (c != 48), st.2.2 || decide (1000000000000 < if st.2.2 = true then st.1 else 10 * st.1 + (c.toNat - 48)))
def rl (p : Nat) : List UInt8 → Nat → Nat × Bool × Bool → Option (Nat × Bool × Bool)
  | [], _, st => some st
  | c :: r, i, st => if i = p then (if c = 46 then rl p r (i + 1) st else none) else if isD c = true then rl p r (i + 1) (stepR st c) else none
def finR (m : Bool) (st : Nat × Bool × Bool) : Int × Int :=
  if m = true ∧ st.2.1 = false then (0, 2) else if st.2.2 = true then (0, 6) else (if m = true then -(st.1 : Int) else (st.1 : Int), 0)
def rlR (m : Bool) : Option (Nat × Bool × Bool) → Int × Int
  | none => (0, 2)
  | some st => finR m st
theorem rl_nil (p i : Nat) (st : Nat × Bool × Bool) : rl p [] i st = some st := by rw [rl]
theorem rl_cons (p : Nat) (c : UInt8) (r : List UInt8) (i : Nat) (st : Nat × Bool × Bool) : rl p (c :: r) i st = if i = p then (if c = 46 then rl p r (i + 1) st else none) else if isD c = true then rl p r (i + 1) (stepR st c) else none := by rw [rl]
theorem isDD (c : UInt8) : isD c = true ↔ 48 ≤ c.toNat ∧ c.toNat ≤ 57 := by unfold isD; exact decide_eq_true_iff
theorem drop_at {T : ByteArray} {i : Nat} {c : UInt8} {r : List UInt8} (h : T.data.toList.drop i = c :: r) : i < T.size ∧ bt T (i : Int) = (c.toNat : Int) ∧ T.data.toList.drop (i + 1) = r := by
  have hi : i < T.data.toList.length := by
    rcases Nat.lt_or_ge i T.data.toList.length with hh | hh
    · exact hh
    · rw [List.drop_eq_nil_of_le hh] at h; cases h
  have hs : i < T.size := by rw [Lib.size_eq]; exact hi
  rw [List.drop_eq_getElem_cons hi] at h
  injection h with h1 h2
  refine ⟨hs, ?_, h2⟩
  rw [← h1]
  exact ((bt_at T (i : Int)) hs).symm
theorem drop_end {T : ByteArray} {i : Nat} (h : T.data.toList.drop i = []) (hi : i ≤ T.size) : i = T.size := by
  have := congrArg List.length h
  rw [List.length_drop, ← Lib.size_eq] at this
  simp at this
  omega
/-- The loop, from a place on. -/
theorem loopR (T : ByteArray) (m : Bool) (p : Nat) (hT : T.size ≤ 100) : ∀ (r : List UInt8) (i : Nat) (st : Nat × Bool × Bool) (k : Nat), T.data.toList.drop i = r → i ≤ T.size → 2 * r.length + 2 ≤ k → st.1 ≤ 20000000000000 → (st.2.2 = false → st.1 ≤ 1000000000000) →
    corebankref03_Parse.l0 k T m (p : Int) (st.1 : Int) st.2.1 st.2.2 (i : Int) = some (rlR m (rl p r i st)) := by
  intro r
  induction r with
  | nil =>
    intro i st k h hi hk hb hb2
    obtain ⟨n, s, g⟩ := st
    have he := drop_end h hi
    obtain ⟨k, rfl⟩ : ∃ j, k = j + 2 := ⟨k - 2, by simp at hk; omega⟩
    rw [rl_nil]
    simp only [corebankref03_Parse.l0]
    rw [if_neg (by omega)]
    simp only at hb hb2
    cases m with
    | true =>
      rw [if_pos rfl]
      simp only [corebankref03_Parse.j7, rlR, finR]
      cases s with
      | false => rfl
      | true =>
        cases g with
        | true => rfl
        | false =>
          have : wrap64 (-(n : Int)) = -(n : Int) := by unfold wrap64; omega
          simp [this]
    | false =>
      rw [if_neg (by decide)]
      simp only [corebankref03_Parse.j7, rlR, finR]
      cases g <;> simp
  | cons c r ih =>
    intro i st k h hi hk hb hb2
    obtain ⟨n, s, g⟩ := st
    obtain ⟨hlt, hbt, hd⟩ := drop_at h
    obtain ⟨k, rfl⟩ : ∃ j, k = j + 2 := ⟨k - 2, by simp at hk; omega⟩
    simp only [List.length_cons] at hk
    have hw : wrap64 ((i : Int) + 1) = ((i + 1 : Nat) : Int) := by unfold wrap64; omega
    rw [rl_cons]
    simp only [corebankref03_Parse.l0]
    rw [if_pos (by omega)]
    by_cases hp : i = p
    · rw [if_pos hp, if_pos (by omega), if_pos (by omega), hbt]
      by_cases hc : c = 46
      · have hcc : ((c.toNat : Int)) = 46 := by rw [hc]; rfl
        rw [if_pos hcc, if_pos hc, hw]
        exact ih (i + 1) (n, s, g) (k + 1) hd (by omega) (by omega) hb hb2
      · have hcc : ¬ ((c.toNat : Int)) = 46 := fun e => hc (UInt8.toNat_inj.1 (by have : (46 : UInt8).toNat = 46 := rfl; omega))
        rw [if_neg hcc, if_neg hc]
        rfl
    · rw [if_neg hp, if_neg (by omega), if_pos (by omega), hbt]
      have key : ∀ b : Bool, b = false → isD c = true → corebankref03_Parse.j6 (k + 1) T m (p : Int) (n : Int) s g (i : Int) b = some (rlR m (rl p r (i + 1) (stepR (n, s, g) c))) := by
        intro b hb0 hcd
        subst hb0
        have hcd' := (isDD c).1 hcd
        have hx : ((c.toNat : Int) - 48) % 256 = ((c.toNat - 48 : Nat) : Int) := by omega
        have hne : ((c.toNat : Int) != 48) = (c != 48) := by
          rw [Bool.eq_iff_iff, bne_iff_ne, bne_iff_ne]
          constructor
          · intro h1 h2; exact h1 (by rw [h2]; rfl)
          · intro h1 h2; exact h1 (UInt8.toNat_inj.1 (by have : (48 : UInt8).toNat = 48 := rfl; omega))
        rw [corebankref03_Parse.j6, if_neg (by decide)]
        simp only at hb hb2
        cases g with
        | true =>
          have e : stepR (n, s, true) c = (n, s || (c != 48), true) := by simp [stepR]
          have := ih (i + 1) (n, s || (c != 48), true) k hd (by omega) (by omega) hb (fun h => by cases h)
          rw [e]
          cases s with
          | true => rw [if_pos rfl, if_pos rfl, hw]; exact this
          | false => rw [if_neg (by decide), if_pos (by omega), if_pos (by omega), if_pos rfl, hbt, hne, hw]; exact this
        | false =>
          have h10 := hb2 rfl
          have hv : wrap64 (wrap64 (10 * (n : Int)) + ((c.toNat - 48 : Nat) : Int)) = ((10 * n + (c.toNat - 48) : Nat) : Int) := by
            rw [show wrap64 (10 * (n : Int)) = 10 * (n : Int) by unfold wrap64; omega]
            unfold wrap64
            omega
          obtain ⟨V, hV⟩ : ∃ V, V = 10 * n + (c.toNat - 48) := ⟨_, rfl⟩
          obtain ⟨G, hG⟩ : ∃ G, G = decide (1000000000000 < V) := ⟨_, rfl⟩
          have hg : decide ((V : Int) > 1000000000000) = G := by
            rw [hG, Bool.eq_iff_iff, decide_eq_true_iff, decide_eq_true_iff]; omega
          have e : stepR (n, s, false) c = (V, s || (c != 48), G) := by rw [hG, hV]; simp [stepR]
          rw [← hV] at hv
          have q1 : V ≤ 20000000000000 := by omega
          have q2 : G = false → V ≤ 1000000000000 := fun h => by rw [hG] at h; have := of_decide_eq_false h; omega
          clear hG hV
          have := ih (i + 1) (V, s || (c != 48), G) k hd (by omega) (by omega) q1 q2
          rw [e]
          cases s with
          | true => rw [if_pos rfl, if_neg (by decide), if_pos (by omega), if_pos (by omega), hbt, hx, hv, hg, hw]; exact this
          | false => rw [if_neg (by decide), if_pos (by omega), if_pos (by omega), if_neg (by decide), hbt, hx, hv, hg, hne, hw]; exact this
      have no : ∀ b : Bool, b = true → corebankref03_Parse.j6 (k + 1) T m (p : Int) (n : Int) s g (i : Int) b = some (0, 2) := by
        intro b hb0; subst hb0
        rw [corebankref03_Parse.j6]
        exact if_pos rfl
      by_cases h1 : (c.toNat : Int) < 48
      · rw [if_pos h1, no true rfl, if_neg (fun e => by have := (isDD c).1 e; omega)]
        rfl
      · rw [if_neg h1]
        by_cases h2 : (c.toNat : Int) > 57
        · rw [no _ (decide_eq_true h2), if_neg (fun e => by have := (isDD c).1 e; omega)]
          rfl
        · have hcd : isD c = true := (isDD c).2 (by omega)
          rw [key _ (decide_eq_false h2) hcd, if_pos hcd]
/-- Digits, one after the other. -/
theorem rl_digits (p : Nat) : ∀ (W : List UInt8) (i : Nat) (st : Nat × Bool × Bool) (r : List UInt8), i + W.length ≤ p → rl p (W ++ r) i st = if W.all isD = true then rl p r (i + W.length) (W.foldl stepR st) else none := by
  intro W
  induction W with
  | nil => intro i st r _; rw [List.nil_append, if_pos (show ([] : List UInt8).all isD = true from rfl)]; rfl
  | cons c W ih =>
    intro i st r h
    simp only [List.length_cons] at h
    rw [List.cons_append, rl_cons, if_neg (by omega), List.all_cons]
    by_cases hc : isD c = true
    · rw [if_pos hc, ih (i + 1) _ r (by omega), hc, Bool.true_and, List.length_cons, List.foldl_cons, show i + 1 + W.length = i + (W.length + 1) by omega]
    · rw [if_neg hc, if_neg (by rw [Bool.and_eq_true]; exact fun h => hc h.1)]
theorem rl_tail (p : Nat) : ∀ (R : List UInt8) (i : Nat) (st : Nat × Bool × Bool), p < i → rl p R i st = if R.all isD = true then some (R.foldl stepR st) else none := by
  intro R
  induction R with
  | nil => intro i st _; rw [rl_nil, if_pos (show ([] : List UInt8).all isD = true from rfl)]; rfl
  | cons c R ih =>
    intro i st h
    rw [rl_cons, if_neg (by omega), List.all_cons]
    by_cases hc : isD c = true
    · rw [if_pos hc, ih (i + 1) _ (by omega), hc, Bool.true_and, List.foldl_cons]
    · rw [if_neg hc, if_neg (by rw [Bool.and_eq_true]; exact fun h => hc h.1)]
/-- What the digits leave. -/
theorem fold_large : ∀ (D : List UInt8) (n : Nat) (s : Bool) (V : Nat), 1000000000000 < V → D.foldl stepR (n, s, true) = (n, s || D.any (· != 48), true) ∧ 1000000000000 < valF V D := by
  intro D
  induction D with
  | nil => intro n s V h; rw [valF_nil]; exact ⟨by simp, h⟩
  | cons c D ih =>
    intro n s V h
    have e : stepR (n, s, true) c = (n, s || (c != 48), true) := by simp [stepR]
    rw [List.foldl_cons, e, valF_cons, List.any_cons]
    obtain ⟨h1, h2⟩ := ih n (s || (c != 48)) (V * 10 + (c.toNat - 48)) (by omega)
    exact ⟨by rw [h1, Bool.or_assoc], h2⟩
theorem fold_digits : ∀ (D : List UInt8) (n : Nat) (s : Bool), n ≤ 1000000000000 → (D.foldl stepR (n, s, false)).2 = (s || D.any (· != 48), decide (1000000000000 < valF n D)) ∧ (¬ 1000000000000 < valF n D → (D.foldl stepR (n, s, false)).1 = valF n D) := by
  intro D
  induction D with
  | nil =>
    intro n s h
    rw [valF_nil, List.foldl_nil]
    refine ⟨?_, fun _ => rfl⟩
    rw [decide_eq_false (by omega)]
    simp
  | cons c D ih =>
    intro n s h
    have e : stepR (n, s, false) c = (10 * n + (c.toNat - 48), s || (c != 48), decide (1000000000000 < 10 * n + (c.toNat - 48))) := by simp [stepR]
    rw [List.foldl_cons, e, valF_cons, List.any_cons, Nat.mul_comm 10 n]
    by_cases hg : 1000000000000 < n * 10 + (c.toNat - 48)
    · rw [decide_eq_true hg]
      obtain ⟨h1, h2⟩ := fold_large D (n * 10 + (c.toNat - 48)) (s || (c != 48)) (n * 10 + (c.toNat - 48)) hg
      rw [h1, decide_eq_true h2, Bool.or_assoc]
      exact ⟨rfl, fun h => absurd h2 h⟩
    · rw [decide_eq_false hg]
      obtain ⟨h1, h2⟩ := ih (n * 10 + (c.toNat - 48)) (s || (c != 48)) (by omega)
      rw [h1, Bool.or_assoc]
      exact ⟨rfl, h2⟩
theorem any_drop : ∀ D : List UInt8, (D.any (· != 48)) = decide (D.dropWhile (· == 48) ≠ []) := by
  intro D
  induction D with
  | nil => rfl
  | cons c D ih =>
    rw [List.any_cons]
    by_cases h : c = 48
    · subst h
      rw [List.dropWhile_cons_of_pos (by rfl), ih]
      rfl
    · rw [List.dropWhile_cons_of_neg (by simpa using h)]
      simp [h]
theorem val_drop (D : List UInt8) : valF 0 (D.dropWhile (· == 48)) = valF 0 D := by
  induction D with
  | nil => rfl
  | cons c D ih =>
    by_cases h : c = 48
    · subst h
      rw [List.dropWhile_cons_of_pos (by rfl), ih, valF_cons]
      congr 1
    · rw [List.dropWhile_cons_of_neg (by simpa using h)]
theorem fin_digits (m : Bool) (D : List UInt8) : finR m (D.foldl stepR (0, false, false)) = parV m (D.dropWhile (· == 48)) := by
  obtain ⟨h1, h2⟩ := fold_digits D 0 false (by omega)
  rw [Bool.false_or, any_drop] at h1
  generalize D.foldl stepR (0, false, false) = st at h1 h2 ⊢
  obtain ⟨n, s, g⟩ := st
  simp only [Prod.mk.injEq] at h1
  obtain ⟨rfl, rfl⟩ := h1
  simp only at h2
  unfold finR parV
  rw [val_drop]
  by_cases hd : D.dropWhile (· == 48) = []
  · have hv : valF 0 D = 0 := by rw [← val_drop, hd, valF_nil]
    rw [hv] at h2 ⊢
    have hn := h2 (by omega)
    simp only [hd, hn]
    cases m <;> simp
  · by_cases hg : 1000000000000 < valF 0 D
    · simp [hd, hg]
    · have hn := h2 hg
      simp [hd, hg, hn]
theorem rl_parts (m : Bool) (T : List UInt8) (d : Nat) (h1 : 1 ≤ T.length - (if d = 0 then 0 else d + 1)) (h0 : ¬ (T[0]? = some 48 ∧ 1 < T.length - (if d = 0 then 0 else d + 1))) :
    rlR m (rl (T.length - (if d = 0 then 0 else d + 1)) T 0 (0, false, false)) = parD m (splitC T d) := by
  by_cases hd : d = 0
  · subst hd
    rw [if_pos rfl] at h1 h0 ⊢
    have hr := rl_digits (T.length - 0) T 0 (0, false, false) [] (by omega)
    rw [List.append_nil, rl_nil] at hr
    rw [hr]
    unfold splitC partsL
    rw [if_pos rfl, if_neg (show ¬ T = [] by intro e; rw [e] at h1; simp at h1), if_neg (show ¬ headB T = true by
      unfold headB
      rw [Bool.and_eq_true]
      intro h
      exact h0 ⟨by rw [← List.head?_eq_getElem?]; exact of_decide_eq_true h.2, by have := of_decide_eq_true h.1; omega⟩)]
    by_cases ha : T.all isD = true
    · rw [if_pos ha, if_pos ha, if_pos (by rfl), List.append_nil]
      show finR m _ = parV m _
      exact fin_digits m T
    · rw [if_neg ha, if_neg ha]
      rfl
  · rw [if_neg hd] at h1 h0 ⊢
    have hp : T.length - (d + 1) < T.length := by omega
    have hs : T = T.take (T.length - (d + 1)) ++ (T[T.length - (d + 1)] :: T.drop (T.length - d)) := by
      conv => lhs; rw [← List.take_append_drop (T.length - (d + 1)) T]
      rw [List.drop_eq_getElem_cons hp, show T.length - (d + 1) + 1 = T.length - d by omega]
    have hl : (T.take (T.length - (d + 1))).length = T.length - (d + 1) := by rw [List.length_take]; omega
    have hr := rl_digits (T.length - (d + 1)) (T.take (T.length - (d + 1))) 0 (0, false, false) (T[T.length - (d + 1)] :: T.drop (T.length - d)) (by omega)
    rw [← hs, hl, Nat.zero_add, rl_cons _ (T[T.length - (d + 1)]) _ (T.length - (d + 1)), if_pos rfl, rl_tail (T.length - (d + 1)) (T.drop (T.length - d)) (T.length - (d + 1) + 1) _ (by omega)] at hr
    have hh : ¬ headB (T.take (T.length - (d + 1))) = true := by
      unfold headB
      rw [Bool.and_eq_true]
      intro h
      refine h0 ⟨?_, by have := of_decide_eq_true h.1; omega⟩
      have h2 := of_decide_eq_true h.2
      rw [List.head?_eq_getElem?, List.getElem?_take] at h2
      rw [if_pos (by omega)] at h2
      exact h2
    have hne : ¬ T.take (T.length - (d + 1)) = [] := by intro e; rw [e] at hl; simp at hl; omega
    have hsp : splitC T d = if T[T.length - (d + 1)] = 46 then (if (T.take (T.length - (d + 1))).all isD = true then (if (T.drop (T.length - d)).all isD = true then some (T.take (T.length - (d + 1)) ++ T.drop (T.length - d)) else none) else none) else none := by
      unfold splitC partsL
      rw [if_neg hd, if_pos (show d + 2 ≤ T.length by omega), List.getElem?_eq_getElem hp, if_neg hne, if_neg hh]
      by_cases hc : T[T.length - (d + 1)] = 46
      · rw [if_pos hc, if_pos (show some T[T.length - (d + 1)] = some 46 by rw [hc])]
      · rw [if_neg hc, if_neg (show ¬ some T[T.length - (d + 1)] = some 46 by intro h; exact hc (Option.some.inj h))]
    rw [hr, hsp]
    by_cases ha : (T.take (T.length - (d + 1))).all isD = true
    · rw [if_pos ha, if_pos ha]
      by_cases hc : T[T.length - (d + 1)] = 46
      · rw [if_pos hc, if_pos hc]
        by_cases hb : (T.drop (T.length - d)).all isD = true
        · rw [if_pos hb, if_pos hb, ← List.foldl_append]
          show finR m _ = parV m _
          exact fin_digits m _
        · rw [if_neg hb, if_neg hb]; rfl
      · rw [if_neg hc, if_neg hc]; rfl
    · rw [if_neg ha, if_neg ha]
      split <;> rfl
theorem minus_bt (s : ByteArray) : (if (s.size : Int) > 0 then decide (bt s 0 = 45) else false) = minusB s.data.toList := by
  cases h : s.data.toList with
  | nil =>
    have : s.size = 0 := by rw [Lib.size_eq, h]; rfl
    rw [if_neg (by omega)]; rfl
  | cons c r =>
    have h' : s.data.toList.drop 0 = c :: r := by rw [List.drop_zero]; exact h
    obtain ⟨h1, h2, _⟩ := drop_at h'
    rw [if_pos (by omega)]
    have h2' : bt s 0 = (c.toNat : Int) := h2
    rw [h2']
    unfold minusB
    rw [Bool.eq_iff_iff, decide_eq_true_iff, beq_iff_eq]
    constructor
    · intro e; exact UInt8.toNat_inj.1 (by have : (45 : UInt8).toNat = 45 := rfl; omega)
    · intro e; rw [e]; rfl
/-- From the text without its sign on. -/
theorem j2_eq (T : ByteArray) (m : Bool) (d : Nat) (hd : d ≤ 4) (hT : T.size ≤ 100) (k : Nat) (hk : 210 ≤ k) :
    corebankref03_Parse.j2 k (d : Int) T m = some (parD m (splitC T.data.toList d)) := by
  obtain ⟨k, rfl⟩ : ∃ j, k = j + 3 := ⟨k - 3, by omega⟩
  have hz := Lib.size_eq T
  have main : ∀ W : Int, W = (T.size : Int) - (if d = 0 then 0 else (d : Int) + 1) → corebankref03_Parse.j3 (k + 2) T m W = some (parD m (splitC T.data.toList d)) := by
    intro W hW
    simp only [corebankref03_Parse.j3]
    have bad : (corebankref03_Parse.j4 (k + 1) T m W true) = some (0, 2) := by rw [corebankref03_Parse.j4]; exact if_pos rfl
    by_cases h1 : W < 1
    · rw [if_pos h1, bad]
      have : splitC T.data.toList d = none := by
        unfold splitC
        by_cases h0 : d = 0
        · subst h0
          rw [if_pos rfl] at hW ⊢
          have : T.data.toList = [] := List.eq_nil_of_length_eq_zero (by omega)
          rw [this]; rfl
        · rw [if_neg h0] at hW ⊢
          rw [if_neg (by omega)]
      rw [this]; rfl
    · rw [if_neg h1, if_pos (by split at hW <;> omega)]
      have hWn : W = ((T.data.toList.length - (if d = 0 then 0 else d + 1) : Nat) : Int) := by
        by_cases h0 : d = 0
        · rw [if_pos h0] at hW ⊢; omega
        · rw [if_neg h0] at hW ⊢; omega
      have hne : T.data.toList ≠ [] := by
        intro e
        have hz0 : T.size = 0 := by rw [hz, e]; rfl
        split at hW <;> omega
      obtain ⟨c, r, hcr⟩ : ∃ c r, T.data.toList = c :: r := by cases h : T.data.toList with | nil => exact absurd h hne | cons c r => exact ⟨c, r, rfl⟩
      obtain ⟨_, hb0, _⟩ := drop_at (T := T) (i := 0) (c := c) (r := r) (by rw [List.drop_zero]; exact hcr)
      have hb0' : bt T 0 = (c.toNat : Int) := hb0
      have good : ∀ b : Bool, b = false → ¬ (T.data.toList[0]? = some 48 ∧ 1 < T.data.toList.length - (if d = 0 then 0 else d + 1)) → corebankref03_Parse.j4 (k + 1) T m W b = some (parD m (splitC T.data.toList d)) := by
        intro b hb hn
        subst hb
        simp only [corebankref03_Parse.j4]
        rw [if_neg (by decide)]
        have := loopR T m (T.data.toList.length - (if d = 0 then 0 else d + 1)) hT T.data.toList 0 (0, false, false) k (by rw [List.drop_zero]) (by omega) (by omega) (by decide) (fun _ => by decide)
        rw [rl_parts m _ d (by omega) hn] at this
        rw [hWn]
        exact this
      rw [hb0']
      by_cases hc : (c.toNat : Int) = 48
      · rw [if_pos hc]
        have hc' : c = 48 := UInt8.toNat_inj.1 (by have : (48 : UInt8).toNat = 48 := rfl; omega)
        by_cases hw : W > 1
        · rw [decide_eq_true hw, bad]
          have : splitC T.data.toList d = none := by
            unfold splitC
            by_cases h0 : d = 0
            · subst h0
              rw [if_pos rfl] at hW ⊢
              unfold partsL
              rw [if_neg hne, if_pos]
              unfold headB
              rw [Bool.and_eq_true]
              exact ⟨decide_eq_true (by omega), decide_eq_true (by rw [hcr, hc']; rfl)⟩
            · rw [if_neg h0] at hW ⊢
              rw [if_pos (by omega)]
              split
              · unfold partsL
                rw [if_neg (by intro e; have := congrArg List.length e; rw [List.length_take] at this; simp at this; omega), if_pos]
                unfold headB
                rw [Bool.and_eq_true]
                refine ⟨decide_eq_true (by rw [List.length_take]; omega), decide_eq_true ?_⟩
                rw [List.head?_eq_getElem?, List.getElem?_take, if_pos (by omega), hcr, hc']
                rfl
              · rfl
          rw [this]; rfl
        · rw [decide_eq_false hw]
          exact good false rfl (fun h => by omega)
      · rw [if_neg hc]
        exact good false rfl (fun h => hc (by have := h.1; rw [hcr] at this; simp at this; rw [this]; rfl))
  simp only [corebankref03_Parse.j2]
  by_cases h0 : (d : Int) > 0
  · rw [if_pos h0]
    refine main _ ?_
    rw [if_neg (by omega), show wrap64 ((T.size : Int) - (d : Int)) = (T.size : Int) - (d : Int) by unfold wrap64; omega]
    unfold wrap64
    omega
  · rw [if_neg h0]
    refine main _ ?_
    rw [if_pos (by omega)]
    omega
theorem rpar_eq (s : ByteArray) (d : Int) (hs : s.size ≤ 100) : corebankref03_Parse.f 300 s d = some (parC s.data.toList d) := by
  have bad : corebankref03_Parse.j0 300 s d true = some (0, 1) := by rw [corebankref03_Parse.j0]; exact if_pos rfl
  unfold corebankref03_Parse.f parC
  by_cases h1 : d < 0
  · rw [if_pos h1, bad, if_neg]
    intro h; have := of_decide_eq_true h; omega
  · rw [if_neg h1]
    by_cases h2 : d > 4
    · rw [decide_eq_true h2, bad, if_neg]
      intro h; have := of_decide_eq_true h; omega
    · rw [decide_eq_false h2, if_pos (show placesB d = true from decide_eq_true (show 0 ≤ d ∧ d ≤ 4 by omega))]
      obtain ⟨n, rfl⟩ : ∃ n : Nat, d = n := ⟨d.toNat, by omega⟩
      rw [Int.toNat_natCast]
      simp only [corebankref03_Parse.j0]
      rw [if_neg (by decide)]
      have hm := minus_bt s
      have plus : minusB s.data.toList = false → ∀ k, 211 ≤ k → corebankref03_Parse.j1 k (n : Int) s false = some (parD (minusB s.data.toList) (splitC (bodyL s.data.toList) n)) := by
        intro h k hk
        obtain ⟨k, rfl⟩ : ∃ j, k = j + 1 := ⟨k - 1, by omega⟩
        simp only [corebankref03_Parse.j1]
        rw [if_neg (by decide), j2_eq s false n (by omega) hs k (by omega), h]
        unfold bodyL
        rw [h, if_neg (by decide)]
      by_cases h3 : (s.size : Int) > 0
      · rw [if_pos h3] at hm
        rw [if_pos h3, if_pos (by omega)]
        cases hb : minusB s.data.toList with
        | false =>
          rw [hb] at hm
          have e : (bt s 0 == 45) = false := beq_eq_false_iff_ne.mpr (of_decide_eq_false hm)
          rw [e]
          have := plus hb 299 (by decide)
          rw [hb] at this
          exact this
        | true =>
          rw [hb] at hm
          have e : (bt s 0 == 45) = true := beq_iff_eq.mpr (of_decide_eq_true hm)
          rw [e]
          rw [corebankref03_Parse.j1, if_pos rfl, if_pos (by omega)]
          have hz : (s.extract 1 s.size).data.toList = s.data.toList.drop 1 := by rw [Lib.extract_to_end]
          have hl : (s.extract 1 s.size).size ≤ 100 := by rw [Lib.size_eq, hz, List.length_drop, ← Lib.size_eq]; omega
          rw [j2_eq _ true n (by omega) hl _ (by omega), hz]
          unfold bodyL
          rw [hb, if_pos rfl]
      · rw [if_neg h3] at hm
        rw [if_neg h3]
        exact plus hm.symm 299 (by decide)
end Go.Proofs.YtbeebjpbmbkodaaDoor.Q
