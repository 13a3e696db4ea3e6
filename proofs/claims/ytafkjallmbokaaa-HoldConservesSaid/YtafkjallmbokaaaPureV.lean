/- Accepted lists of holds: at most 64, each hold good, Ids that ascend, no key twice; what Place, Use, Release and Expire leave of them. -/
import Derived.Test.YtafkjallmbokaaaPureD
namespace Go.Proofs.Ytafkjallmbokaaa.Q
open Go.RowKit Go.Proofs.YtafkjallmbokaaaW.PrintWords Go.Proofs.YtafkjallmbokaaaW.PrintLast Go.Proofs.YtafkjallmbokaaaW.PrintMore
set_option linter.unusedVariables false
set_option linter.unusedSimpArgs false

def okR (x y : S26) : Prop := x.f0 < y.f0 ∧ x.f5.toList ≠ y.f5.toList
theorem from_zero (l : List S26) (d : Nat) : ∀ i, checkFrom l d i = 0 ↔ ∀ j, i ≤ j → j < i + d → checkAt l j = 0 := by
  induction d with
  | zero => intro i; exact ⟨fun _ j h1 h2 => by omega, fun _ => rfl⟩
  | succ d ih =>
    intro i
    unfold checkFrom
    by_cases h : checkAt l i = 0
    · rw [if_pos h, ih (i + 1)]
      refine ⟨fun H j h1 h2 => ?_, fun H j h1 h2 => H j (by omega) (by omega)⟩
      by_cases e : j = i
      · subst e; exact h
      · exact H j (by omega) (by omega)
    · rw [if_neg h]
      exact ⟨fun e => absurd e h, fun H => absurd (H i (Nat.le_refl _) (by omega)) h⟩
theorem check_zero (l : List S26) : checkL l = 0 ↔ l.length ≤ 64 ∧ ∀ j, j < l.length → checkAt l j = 0 := by
  unfold checkL
  by_cases h : l.length > 64
  · rw [if_pos h]; exact ⟨fun e => absurd e (by decide), fun e => by omega⟩
  · rw [if_neg h, from_zero]
    exact ⟨fun H => ⟨by omega, fun j hj => H j (Nat.zero_le _) (by omega)⟩, fun H j _ hj => H.2 j (by omega)⟩
theorem checkAt_zero (l : List S26) (j : Nat) : checkAt l j = 0 ↔ fieldsB (l.getD j z26) = true ∧ keyB (l.getD j z26).f5 = true ∧ ¬ (0 < j ∧ (l.getD j z26).f0 ≤ (l.getD (j - 1) z26).f0) ∧ ¬ (l.take j).any (fun y => y.f5.toList == (l.getD j z26).f5.toList) = true := by
  unfold checkAt
  cases h1 : fieldsB (l.getD j z26) with
  | false => simp
  | true =>
    cases h2 : keyB (l.getD j z26).f5 with
    | false => simp
    | true =>
      rw [if_neg (by simp), if_neg (by simp)]
      by_cases h3 : 0 < j ∧ (l.getD j z26).f0 ≤ (l.getD (j - 1) z26).f0
      · rw [if_pos h3]; exact ⟨fun e => absurd e (by decide), fun e => absurd h3 e.2.2.1⟩
      · rw [if_neg h3]
        by_cases h4 : (l.take j).any (fun y => y.f5.toList == (l.getD j z26).f5.toList) = true
        · rw [if_pos h4]; exact ⟨fun e => absurd e (by decide), fun e => absurd h4 e.2.2.2⟩
        · rw [if_neg h4]; exact ⟨fun _ => ⟨rfl, rfl, h3, h4⟩, fun _ => rfl⟩
theorem getD_at (l : List S26) (i : Nat) (hi : i < l.length) : l.getD i z26 = l[i] := by rw [List.getD_eq_getElem?_getD, List.getElem?_eq_getElem hi]; rfl
theorem ascend (l : List S26) (h : ∀ j, j < l.length → checkAt l j = 0) : ∀ j i, i < j → j < l.length → (l.getD i z26).f0 < (l.getD j z26).f0 := by
  intro j
  induction j with
  | zero => intro i h1 _; omega
  | succ j ih =>
    intro i h1 h2
    have hj := ((checkAt_zero l (j + 1)).1 (h (j + 1) h2)).2.2.1
    rw [Nat.add_sub_cancel] at hj
    by_cases e : i = j
    · subst e; omega
    · have := ih i (by omega) (by omega)
      omega
theorem check_iff (l : List S26) : checkL l = 0 ↔ l.length ≤ 64 ∧ (∀ x ∈ l, fieldsB x = true ∧ keyB x.f5 = true) ∧ l.Pairwise okR := by
  rw [check_zero]
  constructor
  · rintro ⟨h1, h2⟩
    refine ⟨h1, fun x hx => ?_, ?_⟩
    · obtain ⟨i, hi, rfl⟩ := List.getElem_of_mem hx
      have := (checkAt_zero l i).1 (h2 i hi)
      rw [getD_at l i hi] at this
      exact ⟨this.1, this.2.1⟩
    · rw [List.pairwise_iff_getElem]
      intro i j hi hj hij
      have h3 := ascend l h2 j i hij hj
      have h4 := ((checkAt_zero l j).1 (h2 j hj)).2.2.2
      rw [getD_at l i hi, getD_at l j hj] at h3
      rw [getD_at l j hj] at h4
      refine ⟨h3, fun e => h4 ?_⟩
      rw [List.any_eq_true]
      exact ⟨l[i], by rw [List.mem_take_iff_getElem]; exact ⟨i, by omega, rfl⟩, by simpa using e⟩
  · rintro ⟨h1, h2, h3⟩
    refine ⟨h1, fun j hj => ?_⟩
    obtain ⟨f1, f2⟩ := h2 _ (List.getElem_mem hj)
    rw [List.pairwise_iff_getElem] at h3
    rw [checkAt_zero, getD_at l j hj]
    refine ⟨f1, f2, fun ⟨h4, h5⟩ => ?_, fun h4 => ?_⟩
    · have := (h3 (j - 1) j (by omega) hj (by omega)).1
      rw [getD_at l (j - 1) (by omega)] at h5
      omega
    · rw [List.any_eq_true] at h4
      obtain ⟨y, hy, he⟩ := h4
      rw [List.mem_take_iff_getElem] at hy
      obtain ⟨i, hi, rfl⟩ := hy
      exact (h3 i j (by omega) hj (by omega)).2 (by simpa using he)
/-- In an accepted list each hold is found by its Id. -/
theorem find_in (l : List S26) (h : l.Pairwise okR) (x : S26) (hx : x ∈ l) : findL l x.f0 = some x := by
  unfold findL
  induction l with
  | nil => simp at hx
  | cons y l ih =>
    rw [List.pairwise_cons] at h
    rw [List.find?_cons]
    rcases List.mem_cons.1 hx with rfl | hx
    · simp
    · have := (h.1 x hx).1
      rw [show (y.f0 == x.f0) = false from beq_eq_false_iff_ne.mpr (by omega)]
      exact ih h.2 hx
theorem find_mem {l : List S26} {id : Int} {x : S26} (h : findL l id = some x) : x ∈ l ∧ x.f0 = id := by
  unfold findL at h
  exact ⟨List.mem_of_find?_eq_some h, by simpa using List.find?_some h⟩
theorem sub_check {l m : List S26} (hs : m.Sublist l) (h : checkL l = 0) : checkL m = 0 := by
  rw [check_iff] at h ⊢
  exact ⟨Nat.le_trans hs.length_le h.1, fun x hx => h.2.1 x (hs.subset hx), h.2.2.sublist hs⟩
theorem erase_check {l : List S26} (h : checkL l = 0) (p : Nat) : checkL (l.eraseIdx p) = 0 := sub_check (List.eraseIdx_sublist _ _) h
theorem filter_check {l : List S26} (h : checkL l = 0) (q : S26 → Bool) : checkL (l.filter q) = 0 := sub_check List.filter_sublist h
theorem set_check {l : List S26} (h : checkL l = 0) (p : Nat) (hp : p < l.length) (y : S26) (h0 : y.f0 = (l.getD p z26).f0) (h5 : y.f5 = (l.getD p z26).f5) (hf : fieldsB y = true) : checkL (l.set p y) = 0 := by
  rw [check_iff] at h ⊢
  obtain ⟨h1, h2, h3⟩ := h
  have hk := (h2 _ (getD_mem l p hp)).2
  refine ⟨by rw [List.length_set]; exact h1, fun x hx => ?_, ?_⟩
  · rcases List.mem_or_eq_of_mem_set hx with hx | rfl
    · exact h2 x hx
    · exact ⟨hf, by rw [h5]; exact hk⟩
  · rw [List.pairwise_iff_getElem] at h3 ⊢
    intro i j hi hj hij
    rw [List.length_set] at hi hj
    have h4 := h3 i j hi hj hij
    have e : ∀ (m : Nat) (hm : m < l.length), (l.set p y)[m]'(by rw [List.length_set]; exact hm) = if p = m then y else l[m] := fun m hm => List.getElem_set ..
    rw [e i hi, e j hj]
    rw [getD_at l p hp] at h0 h5
    unfold okR at h4 ⊢
    by_cases e1 : p = i
    · subst e1
      rw [if_pos rfl, if_neg (by omega), h0, h5]
      exact h4
    · rw [if_neg e1]
      by_cases e2 : p = j
      · subst e2
        rw [if_pos rfl, h0, h5]
        exact h4
      · rw [if_neg e2]; exact h4
theorem add_check {l : List S26} {b : S26} (h : checkL l = 0) (h1 : checkL [b] = 0) (h2 : ¬ (0 < l.length ∧ b.f0 ≤ (l.getD (l.length - 1) z26).f0)) (h3 : ¬ l.any (fun y => y.f5.toList == b.f5.toList) = true) (h4 : l.length < 64) : checkL (l ++ [b]) = 0 := by
  have hz := ((check_zero l).1 h).2
  rw [check_iff] at h ⊢
  obtain ⟨k1, k2, k3⟩ := h
  refine ⟨by simp; omega, fun x hx => ?_, ?_⟩
  · rcases List.mem_append.1 hx with hx | hx
    · exact k2 x hx
    · rw [List.mem_singleton] at hx
      subst hx
      exact fields_one h1
  · rw [List.pairwise_append]
    refine ⟨k3, by simp, fun x hx y hy => ?_⟩
    rw [List.mem_singleton] at hy
    subst hy
    refine ⟨?_, fun e => h3 ?_⟩
    · obtain ⟨i, hi, rfl⟩ := List.getElem_of_mem hx
      have hl : l[i].f0 ≤ (l.getD (l.length - 1) z26).f0 := by
        by_cases e : i = l.length - 1
        · rw [← e, getD_at l i hi]; exact Int.le_refl _
        · have := ascend l hz (l.length - 1) i (by omega) (by omega)
          rw [getD_at l i hi] at this
          omega
      have : 0 < l.length := by omega
      have := fun h' => h2 ⟨this, h'⟩
      omega
    · rw [List.any_eq_true]
      exact ⟨x, hx, by simpa using e⟩

/-- Each hold of l with another Id is found in m. -/
def Others (l m : List S26) (id : Int) : Prop := ∀ x ∈ l, x.f0 ≠ id → findL m x.f0 = some x
theorem others_sub {l m : List S26} {id : Int} (hm : checkL m = 0) (h : ∀ x ∈ l, x.f0 ≠ id → x ∈ m) : Others l m id := fun x hx hne => find_in m ((check_iff m).1 hm).2.2 x (h x hx hne)
theorem mem_erase {l : List S26} {p : Nat} {id : Int} (hp : (l.getD p z26).f0 = id) (x : S26) (hx : x ∈ l) (hne : x.f0 ≠ id) : x ∈ l.eraseIdx p := by
  obtain ⟨i, hi, rfl⟩ := List.getElem_of_mem hx
  refine List.mem_eraseIdx_iff_getElem.2 ⟨i, hi, fun e => ?_, rfl⟩
  subst e
  rw [getD_at l i hi] at hp
  exact hne hp
theorem mem_set {l : List S26} {p : Nat} {id : Int} (y : S26) (hp : (l.getD p z26).f0 = id) (x : S26) (hx : x ∈ l) (hne : x.f0 ≠ id) : x ∈ l.set p y := by
  obtain ⟨i, hi, rfl⟩ := List.getElem_of_mem hx
  refine List.mem_iff_getElem.2 ⟨i, by rw [List.length_set]; exact hi, ?_⟩
  rw [List.getElem_set, if_neg]
  intro e
  subst e
  rw [getD_at l p hi] at hp
  exact hne hp
theorem place_valid {l : List S26} {b : S26} (h : (placeL l b).2 = 0) : checkL (placeL l b).1 = 0 ∧ checkL l = 0 ∧ Others l (placeL l b).1 b.f0 ∧ Others (placeL l b).1 l b.f0 := by
  rcases place_all l b with ⟨e, h1, h2, h3, h4, h5⟩ | ⟨_, e⟩
  · rw [e]
    have hc := add_check h1 h3 h4 h5 h2
    refine ⟨hc, h1, others_sub hc (fun x hx _ => List.mem_append.2 (.inl hx)), others_sub h1 (fun x hx hne => ?_)⟩
    rcases List.mem_append.1 hx with hx | hx
    · exact hx
    · rw [List.mem_singleton] at hx
      exact absurd (by rw [hx]) hne
  · exact absurd h e
theorem less_fields {x : S26} {n : Int} (h : fieldsB x = true) (h1 : 1 ≤ n) (h2 : n < x.f2) : fieldsB (lessAt x n) = true := by
  have hf := of_decide_eq_true h
  have hw : wrap64 (x.f2 - n) = x.f2 - n := by unfold wrap64; omega
  refine decide_eq_true (show _ from ?_)
  simp only [lessAt]
  rw [hw]
  omega
theorem use_valid {l : List S26} {id n d : Int} (hl : checkL l = 0) (h : (useL l id n d).2 = 0) : checkL (useL l id n d).1 = 0 ∧ Others l (useL l id n d).1 id ∧ Others (useL l id n d).1 l id := by
  rcases use_all l id n d with ⟨_, e⟩ | ⟨p, hp, hid, h1, ⟨_, e⟩ | ⟨h2, e⟩⟩
  · exact absurd h e
  · rw [e]
    have hc := erase_check hl p
    exact ⟨hc, others_sub hc (fun x hx hne => mem_erase hid x hx hne), others_sub hl (fun x hx _ => List.mem_of_mem_eraseIdx hx)⟩
  · rw [e]
    have hc := set_check hl p hp (lessAt (l.getD p z26) n) rfl rfl (less_fields (((check_iff l).1 hl).2.1 _ (getD_mem l p hp)).1 h1 h2)
    refine ⟨hc, others_sub hc (fun x hx hne => mem_set _ hid x hx hne), others_sub hl (fun x hx hne => ?_)⟩
    rcases List.mem_or_eq_of_mem_set hx with hx | rfl
    · exact hx
    · exact absurd hid hne
theorem release_valid {l : List S26} {id : Int} (hl : checkL l = 0) (h : (releaseL l id).2 = 0) : checkL (releaseL l id).1 = 0 ∧ Others l (releaseL l id).1 id ∧ Others (releaseL l id).1 l id := by
  rcases release_all l id with ⟨e, _⟩ | ⟨p, hp, hid, _, e⟩
  · rw [e] at h; exact absurd h (by decide)
  · rw [e]
    have hc := erase_check hl p
    exact ⟨hc, others_sub hc (fun x hx hne => mem_erase hid x hx hne), others_sub hl (fun x hx _ => List.mem_of_mem_eraseIdx hx)⟩
end Go.Proofs.Ytafkjallmbokaaa.Q
