/- What the reference's Great, Find, Check and Total answer, and the program's Find and Total: the same conditions. -/
import Derived.Test.YtafkjallmbokaaaQx2
import Derived.Test.YtafkjallmbokaaaQx4
import Derived.Test.YtafkjallmbokaaaQx6
import Derived.Test.YtafkjallmbokaaaQx8
import Derived.Test.YtafkjallmbokaaaQx3
import Derived.Test.YtafkjallmbokaaaHCheck
namespace Go.Proofs.Ytafkjallmbokaaa.Q
open Go.RowKit Go.Proofs.YtafkjallmbokaaaW.PrintWords Go.Proofs.YtafkjallmbokaaaW.PrintLast Go.Proofs.YtafkjallmbokaaaW.PrintMore
set_option linter.unusedVariables false
set_option linter.unusedSimpArgs false

theorem succ_of {k d : Nat} (h : d < k) : ∃ m, k = m + 1 ∧ d ≤ m := ⟨k - 1, by omega, by omega⟩
theorem next_nat {i n : Nat} (h : i < n) (hn : n ≤ 9223372036854775807) : wrap64 ((i : Int) + 1) = ((i + 1 : Nat) : Int) := by unfold wrap64; omega
theorem prev_nat {i : Nat} (h : i + 1 ≤ 9223372036854775807) : wrap64 (((i + 1 : Nat) : Int) - 1) = (i : Int) := by unfold wrap64; omega

/-! Great -/
def greatB (l : List S26) : Bool := decide (l.length > 100 ∨ ∃ i, i < l.length ∧ (l.getD i z26).f5.size > 200)
theorem great_from (l : List S26) (hl : l.length ≤ 100) (d : Nat) : ∀ (k i : Nat), i + d = l.length → d < k → (∀ j, j < i → ¬ (l.getD j z26).f5.size > 200) → corebankref22_Great.l0 k l (i : Int) = some (greatB l) := by
  induction d with
  | zero =>
    intro k i hi hk hall
    obtain ⟨k, rfl, _⟩ := succ_of hk
    simp only [corebankref22_Great.l0]
    rw [if_neg (by omega)]
    unfold greatB
    rw [decide_eq_false]
    rintro (h | ⟨j, hj, h⟩)
    · omega
    · exact hall j (by omega) h
  | succ d ih =>
    intro k i hi hk hall
    obtain ⟨k, rfl, hk2⟩ := succ_of hk
    simp only [corebankref22_Great.l0]
    rw [if_pos (by omega), if_pos (by omega)]
    by_cases h : (((rd_T26 l (i : Int)).f5).size : Int) > 200
    · rw [if_pos h]
      unfold greatB
      rw [decide_eq_true]
      exact .inr ⟨i, by omega, by have : (rd_T26 l (i : Int)) = l.getD i z26 := rfl; rw [this] at h; omega⟩
    · rw [if_neg h, next_nat (show i < l.length by omega) (by omega)]
      refine ih k (i + 1) (by omega) (by omega) (fun j hj => ?_)
      by_cases e : j = i
      · subst e
        have : (rd_T26 l (j : Int)) = l.getD j z26 := rfl
        rw [this] at h; omega
      · exact hall j (by omega)
theorem great_eq (l : List S26) (k : Nat) (hk : l.length < k) : corebankref22_Great.f k l = some (greatB l) := by
  unfold corebankref22_Great.f
  by_cases h : (l.length : Int) > 100
  · rw [if_pos h]; unfold greatB; rw [decide_eq_true (.inl (by omega))]
  · rw [if_neg h]; exact great_from l (by omega) l.length k 0 (by omega) hk (fun j hj => absurd hj (by omega))

/-! Find -/
theorem idx_from (l : List S26) (id : Int) (hl : l.length ≤ 9223372036854775807) (d : Nat) : ∀ (k i : Nat), i + d = l.length → d < k → corebankref22_index.l0 k l id (i : Int) = some (idxP (fun x => x.f0 == id) (l.drop i) (i : Int)) := by
  induction d with
  | zero =>
    intro k i hi hk
    obtain ⟨k, rfl, _⟩ := succ_of hk
    simp only [corebankref22_index.l0]
    rw [if_neg (by omega), List.drop_eq_nil_of_le (by omega)]
    rfl
  | succ d ih =>
    intro k i hi hk
    obtain ⟨k, rfl, hk2⟩ := succ_of hk
    simp only [corebankref22_index.l0]
    have hi' : i < l.length := by omega
    rw [if_pos (by omega), if_pos (by omega), List.drop_eq_getElem_cons hi']
    have e : rd_T26 l (i : Int) = l[i] := by show l.getD i z26 = _; rw [List.getD_eq_getElem?_getD, List.getElem?_eq_getElem hi']; rfl
    rw [e]
    by_cases h : l[i].f0 = id
    · rw [if_pos h]; simp [idxP, h]
    · rw [if_neg h, next_nat hi' (by omega), ih k (i + 1) (by omega) (by omega)]
      simp [idxP, h]
theorem idx_eq (l : List S26) (id : Int) (hl : l.length ≤ 9223372036854775807) (k : Nat) (hk : l.length < k) : corebankref22_index.f k l id = some (idxP (fun x => x.f0 == id) l 0) := by
  have := idx_from l id hl l.length k 0 (by omega) hk
  rw [List.drop_zero] at this
  exact this
theorem find_same (l : List S26) (id : Int) (hl : l.length ≤ 9223372036854775807) (k : Nat) (hk : l.length < k) : corebankref22_Find.f k l id = hold_Find.f l id := by
  unfold corebankref22_Find.f hold_Find.f hold_index.f
  rw [idx_eq l id hl k hk]
/-- The place of the first hold of which p holds lies in the list, or is -1. -/
theorem idxP_range (p : S26 → Bool) : ∀ (l : List S26) (i : Int), (idxP p l i = -1 ∧ ∀ x ∈ l, p x = false) ∨ ∃ j : Nat, idxP p l i = i + j ∧ j < l.length ∧ p (l.getD j z26) = true ∧ ∀ m, m < j → p (l.getD m z26) = false
  | [], i => .inl ⟨rfl, by simp⟩
  | x :: l, i => by
    by_cases h : p x = true
    · exact .inr ⟨0, by simp [idxP, h], by simp, by simpa using h, fun m hm => absurd hm (by omega)⟩
    · have h' : p x = false := by simpa using h
      rcases idxP_range p l (i + 1) with ⟨h1, h2⟩ | ⟨j, h1, h2, h3, h4⟩
      · refine .inl ⟨by simp [idxP, h', h1], fun y hy => ?_⟩
        rcases List.mem_cons.1 hy with rfl | hy
        · exact h'
        · exact h2 y hy
      · refine .inr ⟨j + 1, by rw [idxP, if_neg h, h1]; push_cast; omega, by simpa using h2, by simpa using h3, fun m hm => ?_⟩
        match m with
        | 0 => simpa using h'
        | m + 1 => simpa using h4 m (by omega)
/-- Find, as a hold or none. -/
def findL (l : List S26) (id : Int) : Option S26 := l.find? (fun x => x.f0 == id)
def tup (o : Option S26) : Int × Int × Int × Int × Int × ByteArray × Bool := match o with
  | some x => (x.f0, x.f1, x.f2, x.f3, x.f4, x.f5, true)
  | none => (0, 0, 0, 0, 0, (⟨#[]⟩ : ByteArray), false)
theorem find_at (p : S26 → Bool) : ∀ (l : List S26) (j : Nat), j < l.length → p (l.getD j z26) = true → (∀ m, m < j → p (l.getD m z26) = false) → l.find? p = some (l.getD j z26)
  | [], j, h, _, _ => absurd h (by simp)
  | x :: l, 0, _, h, _ => by simp only [List.getD_cons_zero] at h ⊢; simp [List.find?, h]
  | x :: l, j + 1, hj, h, hn => by
    have h0 := hn 0 (by omega)
    simp only [List.getD_cons_zero] at h0
    rw [List.find?_cons, h0]
    simpa using find_at p l j (by simpa using hj) (by simpa using h) (fun m hm => by simpa using hn (m + 1) (by omega))
theorem find_eq (l : List S26) (id : Int) : hold_Find.f l id = some (tup (findL l id)) := by
  unfold hold_Find.f hold_index.f findL
  simp only [Option.bind_some]
  rcases idxP_range (fun x => x.f0 == id) l 0 with ⟨h1, h2⟩ | ⟨j, h1, h2, h3, h4⟩
  · rw [h1, if_pos (by omega), List.find?_eq_none.2 (fun x hx => by simpa using h2 x hx)]
    rfl
  · rw [h1, if_neg (by omega), if_pos (by omega), if_pos (by omega), find_at _ l j h2 h3 h4]
    have e : rd_T26 l (0 + (j : Int)) = l.getD j z26 := by rw [Int.zero_add]; rfl
    rw [e]
    rfl

/-! Check -/
theorem printed_from (s : ByteArray) (hs : s.size ≤ 9223372036854775807) (h48 : s.size ≤ 48) (h1 : 1 ≤ s.size) (d : Nat) : ∀ (k : Nat) (i : Nat), i + d = s.size → d < k → (∀ j, j < i → 33 ≤ bt s (j : Nat) ∧ bt s (j : Nat) ≤ 126) →
    corebankref07_Printed.l0 k s 33 (i : Int) = some (keyB s) := by
  induction d with
  | zero =>
    intro k i hi hk hall
    obtain ⟨k, rfl, _⟩ := succ_of hk
    simp only [corebankref07_Printed.l0]
    rw [if_neg (by omega)]
    unfold keyB
    rw [decide_eq_true]
    exact ⟨⟨h1, h48⟩, fun j hj => hall j (by omega)⟩
  | succ d ih =>
    intro k i hi hk hall
    obtain ⟨k, rfl, _⟩ := succ_of hk
    simp only [corebankref07_Printed.l0]
    rw [if_pos (by omega), if_pos (by omega)]
    by_cases g1 : bt s (i : Int) < 33
    · rw [if_pos g1]
      unfold keyB
      rw [decide_eq_false (fun h => by have := (h.2 i (by omega)).1; omega)]
    · rw [if_neg g1]
      by_cases g2 : bt s (i : Int) > 126
      · rw [if_pos g2]
        unfold keyB
        rw [decide_eq_false (fun h => by have := (h.2 i (by omega)).2; omega)]
      · rw [if_neg g2, next_nat (show i < s.size by omega) (by omega)]
        exact ih k (i + 1) (by omega) (by omega) (fun j hj => by
          by_cases e : j = i
          · subst e; omega
          · exact hall j (by omega))
theorem rkey_eq (s : ByteArray) (hs : s.size ≤ 9223372036854775807) (k : Nat) (hk : s.size < k) : corebankref07_Key.f k s = some (keyB s) := by
  unfold corebankref07_Key.f
  by_cases h1 : (s.size : Int) ≥ 1
  · rw [if_pos h1]
    unfold corebankref07_Printed.f
    by_cases h2 : (s.size : Int) > 48
    · rw [if_pos h2]
      unfold keyB
      rw [decide_eq_false (fun h => by have := h.1.2; omega)]
      rfl
    · rw [if_neg h2, show (0 : Int) = ((0 : Nat) : Int) from rfl, printed_from s hs (by omega) (by omega) s.size k 0 (by omega) hk (fun j hj => absurd hj (by omega))]
      rfl
  · rw [if_neg h1]
    unfold keyB
    rw [decide_eq_false (fun h => h1 (by have := h.1.1; omega))]
theorem rvalid_eq (n : Int) : corebankref04_Valid.f n = some (dayB n) := by
  unfold corebankref04_Valid.f dayB
  by_cases h : n ≥ 0
  · rw [if_pos h]; congr 1; rw [decide_eq_decide]; omega
  · rw [if_neg h, decide_eq_false (by omega)]
def oneE (x : S26) : Int := if fieldsB x = false then 1 else if keyB x.f5 = false then 4 else 0
theorem one_j (x : S26) (hs : x.f5.size ≤ 9223372036854775807) (k : Nat) (hk : x.f5.size < k) (b : Bool) (hb : b = !fieldsB x) : corebankref22_one.j0 (k + 1) b x.f0 x.f1 x.f2 x.f3 x.f4 x.f5 = some (oneE x) := by
  simp only [corebankref22_one.j0, rkey_eq x.f5 hs k hk, Option.bind_some]
  subst hb
  unfold oneE
  cases h1 : fieldsB x <;> cases h2 : keyB x.f5 <;> rfl
theorem one_eq (x : S26) (hs : x.f5.size ≤ 9223372036854775807) (k : Nat) (hk : x.f5.size + 1 < k) : corebankref22_one.f k x.f0 x.f1 x.f2 x.f3 x.f4 x.f5 = some (oneE x) := by
  obtain ⟨k, rfl, hk2⟩ := succ_of hk
  unfold corebankref22_one.f
  simp only [rvalid_eq, Option.bind_some, dayB, decide_eq_true_eq]
  repeat' (first | (split <;> rename_i h))
  all_goals (refine one_j x hs k (by omega) _ ?_; unfold fieldsB; first | (rw [decide_eq_false (by omega)]; rfl) | skip)
  rw [Bool.eq_iff_iff]
  simp only [decide_eq_true_eq, Bool.not_eq_true', decide_eq_false_iff_not]
  omega
theorem named_from (l : List S26) (s : ByteArray) (hl : l.length ≤ 9223372036854775807) (d : Nat) : ∀ (k i : Nat), i + d = l.length → d < k → corebankref22_named.l0 k l s (i : Int) = some ((l.drop i).any fun y => y.f5.toList == s.toList) := by
  induction d with
  | zero =>
    intro k i hi hk
    obtain ⟨k, rfl, _⟩ := succ_of hk
    simp only [corebankref22_named.l0]
    rw [if_neg (by omega), List.drop_eq_nil_of_le (by omega)]
    rfl
  | succ d ih =>
    intro k i hi hk
    obtain ⟨k, rfl, hk2⟩ := succ_of hk
    simp only [corebankref22_named.l0]
    have hi' : i < l.length := by omega
    rw [if_pos (by omega), if_pos (by omega), List.drop_eq_getElem_cons hi']
    have e : rd_T26 l (i : Int) = l[i] := by show l.getD i z26 = _; rw [List.getD_eq_getElem?_getD, List.getElem?_eq_getElem hi']; rfl
    rw [e]
    by_cases h : l[i].f5.toList = s.toList
    · have hb : (l[i].f5.toList == s.toList) = true := by simpa using h
      rw [if_pos h, List.any_cons, hb, Bool.true_or]
    · rw [if_neg h, next_nat hi' (by omega), ih k (i + 1) (by omega) (by omega)]
      have hb : (l[i].f5.toList == s.toList) = false := by simpa using h
      rw [List.any_cons, hb, Bool.false_or]
theorem named_eq (l : List S26) (s : ByteArray) (hl : l.length ≤ 9223372036854775807) (k : Nat) (hk : l.length < k) : corebankref22_named.f k l s = some (l.any fun y => y.f5.toList == s.toList) := by
  have := named_from l s hl l.length k 0 (by omega) hk
  rw [List.drop_zero] at this
  exact this
theorem check_at (l : List S26) (i : Nat) : checkAt l i = if oneE (l.getD i z26) = 0 then (if 0 < i ∧ (l.getD i z26).f0 ≤ (l.getD (i - 1) z26).f0 then 10 else if (l.take i).any (fun y => y.f5.toList == (l.getD i z26).f5.toList) = true then 12 else 0) else oneE (l.getD i z26) := by
  unfold checkAt oneE
  cases h1 : fieldsB (l.getD i z26) <;> cases h2 : keyB (l.getD i z26).f5 <;> simp
theorem rcheck_from (l : List S26) (hl : l.length ≤ 64) (M : Nat) (hM : ∀ x ∈ l, x.f5.size + 1 < M) (hs : okS l = true) (h64 : 64 < M) (d : Nat) : ∀ (k i : Nat), i + d = l.length → 2 * d + M < k → corebankref22_Check.l0 k l (i : Int) = some (checkFrom l d i) := by
  induction d with
  | zero =>
    intro k i hi hk
    obtain ⟨k, rfl, _⟩ := succ_of hk
    simp only [corebankref22_Check.l0]
    rw [if_neg (by omega)]
    rfl
  | succ d ih =>
    intro k i hi hk
    obtain ⟨k, rfl, hk2⟩ := succ_of hk
    have hi' : i < l.length := by omega
    have hmem : l.getD i z26 ∈ l := by rw [List.getD_eq_getElem?_getD, List.getElem?_eq_getElem hi']; exact List.getElem_mem _
    have hsz : (l.getD i z26).f5.size ≤ 9223372036854775807 := by
      unfold okS at hs
      rw [List.all_eq_true] at hs
      exact of_decide_eq_true (hs _ hmem)
    have hsM := hM _ hmem
    simp only [corebankref22_Check.l0, checkFrom]
    rw [if_pos (by omega), if_pos (by omega), check_at]
    have e : rd_T26 l (i : Int) = l.getD i z26 := rfl
    rw [e, one_eq (l.getD i z26) hsz k (by omega)]
    simp only [Option.bind_some]
    have jj : ∀ b : Bool, b = decide (0 < i ∧ (l.getD i z26).f0 ≤ (l.getD (i - 1) z26).f0) → corebankref22_Check.j1 k l (i : Int) b = some (if (if 0 < i ∧ (l.getD i z26).f0 ≤ (l.getD (i - 1) z26).f0 then (10 : Int) else if (l.take i).any (fun y => y.f5.toList == (l.getD i z26).f5.toList) = true then 12 else 0) = 0 then checkFrom l d (i + 1) else (if 0 < i ∧ (l.getD i z26).f0 ≤ (l.getD (i - 1) z26).f0 then (10 : Int) else if (l.take i).any (fun y => y.f5.toList == (l.getD i z26).f5.toList) = true then 12 else 0)) := by
      intro b hb
      obtain ⟨k, rfl, hk3⟩ := succ_of (show 2 * d + M < k by omega)
      simp only [corebankref22_Check.j1]
      by_cases hc : 0 < i ∧ (l.getD i z26).f0 ≤ (l.getD (i - 1) z26).f0
      · rw [decide_eq_true hc] at hb
        subst hb
        rw [if_pos rfl, if_pos hc]
        rfl
      · rw [decide_eq_false hc] at hb
        subst hb
        have e2 : rd_T26 l (i : Int) = l.getD i z26 := rfl
        rw [if_neg (by simp), if_pos (by omega), if_pos (by omega), if_pos (by omega), if_neg hc, e2]
        rw [show ((i : Int)).toNat = i from rfl, named_eq (l.take i) _ (by rw [List.length_take]; omega) k (by rw [List.length_take]; omega)]
        simp only [Option.bind_some]
        by_cases ha : (l.take i).any (fun y => y.f5.toList == (l.getD i z26).f5.toList) = true
        · rw [if_pos ha, if_pos ha, if_neg (by decide)]
        · rw [if_neg ha, if_neg ha, if_pos rfl, next_nat hi' (by omega), ih k (i + 1) (by omega) (by omega)]
    by_cases h0 : oneE (l.getD i z26) = 0
    · rw [if_pos h0, if_pos h0]
      rcases Nat.eq_zero_or_pos i with hz | hz
      · subst hz
        rw [if_neg (by omega)]
        exact jj false (by simp)
      · obtain ⟨p, rfl⟩ : ∃ p, i = p + 1 := ⟨i - 1, by omega⟩
        rw [if_pos (by omega), prev_nat (by omega), if_pos (by omega), if_pos (by omega)]
        have e3 : rd_T26 l (p : Int) = l.getD p z26 := rfl
        rw [e3]
        exact jj _ (by rw [decide_eq_decide]; simp)
    · rw [if_neg h0, if_neg h0, if_neg h0]
theorem rcheck_eq (l : List S26) (M : Nat) (hM : ∀ x ∈ l, x.f5.size + 1 < M) (hs : okS l = true) (h64 : 64 < M) (k : Nat) (hk : 200 + M < k) : corebankref22_Check.f k l = some (checkL l) := by
  unfold corebankref22_Check.f checkL
  by_cases h : l.length > 64
  · rw [if_pos h, if_pos (by omega)]
  · rw [if_neg h, if_neg (by omega)]
    exact rcheck_from l (by omega) M hM hs h64 l.length k 0 (by omega) (by omega)

/-! Total -/
def tstep (account day acc : Int) (x : S26) : Int := if x.f1 = account ∧ x.f3 ≤ day ∧ day ≤ x.f4 then wrap64 (acc + x.f2) else acc
theorem tot_from (l : List S26) (a1 a2 : Int) (hl : l.length ≤ 9223372036854775807) (d : Nat) : ∀ (k i : Nat) (acc : Int), i + d = l.length → d < k → hold_Total.l0 k a1 a2 acc l (l.length : Int) (i : Int) = some ((l.drop i).foldl (tstep a1 a2) acc) := by
  induction d with
  | zero =>
    intro k i acc hi hk
    obtain ⟨k, rfl, _⟩ := succ_of hk
    simp only [hold_Total.l0]
    rw [if_neg (by omega), List.drop_eq_nil_of_le (by omega)]
    rfl
  | succ d ih =>
    intro k i acc hi hk
    obtain ⟨k, rfl, hk2⟩ := succ_of hk
    simp only [hold_Total.l0]
    have hi' : i < l.length := by omega
    have e : rd_T26 l (i : Int) = l[i] := by show l.getD i z26 = _; rw [List.getD_eq_getElem?_getD, List.getElem?_eq_getElem hi']; rfl
    rw [if_pos (by omega), if_pos (by omega), if_pos (by omega), List.drop_eq_getElem_cons hi', e, next_nat hi' (by omega), List.foldl_cons]
    simp only [tstep]
    by_cases h1 : l[i].f1 = a1 <;> by_cases h2 : l[i].f3 ≤ a2 <;> by_cases h3 : a2 ≤ l[i].f4 <;> simp only [h1, h2, h3, if_true, if_false, and_true, and_false, true_and, false_and] <;> exact ih k (i + 1) _ (by omega) (by omega)
theorem rtot_from (l : List S26) (a1 a2 : Int) (hl : l.length ≤ 9223372036854775807) (d : Nat) : ∀ (k i : Nat) (acc : Int), i + d = l.length → d < k → corebankref22_Total.l0 k l a1 a2 acc (i : Int) = some ((l.drop i).foldl (tstep a1 a2) acc) := by
  induction d with
  | zero =>
    intro k i acc hi hk
    obtain ⟨k, rfl, _⟩ := succ_of hk
    simp only [corebankref22_Total.l0]
    rw [if_neg (by omega), List.drop_eq_nil_of_le (by omega)]
    rfl
  | succ d ih =>
    intro k i acc hi hk
    obtain ⟨k, rfl, hk2⟩ := succ_of hk
    simp only [corebankref22_Total.l0]
    have hi' : i < l.length := by omega
    have e : rd_T26 l (i : Int) = l[i] := by show l.getD i z26 = _; rw [List.getD_eq_getElem?_getD, List.getElem?_eq_getElem hi']; rfl
    rw [if_pos (by omega), if_pos (by omega), List.drop_eq_getElem_cons hi', e, next_nat hi' (by omega), List.foldl_cons]
    simp only [tstep, ge_iff_le]
    by_cases h1 : l[i].f1 = a1 <;> by_cases h2 : l[i].f3 ≤ a2 <;> by_cases h3 : a2 ≤ l[i].f4 <;> simp only [h1, h2, h3, if_true, if_false, and_true, and_false, true_and, false_and] <;> exact ih k (i + 1) _ (by omega) (by omega)
theorem tot_eq (l : List S26) (a1 a2 : Int) (hl : l.length ≤ 9223372036854775807) (k : Nat) (hk : l.length < k) : hold_Total.f k l a1 a2 = some (l.foldl (tstep a1 a2) 0) := by
  have := tot_from l a1 a2 hl l.length k 0 0 (by omega) hk
  rw [List.drop_zero] at this
  exact this
theorem rtot_eq (l : List S26) (a1 a2 : Int) (hl : l.length ≤ 9223372036854775807) (k : Nat) (hk : l.length < k) : corebankref22_Total.f k l a1 a2 = some (l.foldl (tstep a1 a2) 0) := by
  have := rtot_from l a1 a2 hl l.length k 0 0 (by omega) hk
  rw [List.drop_zero] at this
  exact this

end Go.Proofs.Ytafkjallmbokaaa.Q
