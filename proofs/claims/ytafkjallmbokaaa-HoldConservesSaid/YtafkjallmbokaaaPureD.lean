/- Place, Use, Release and Expire of the program and of the reference: the same closed forms. -/
import Derived.Test.YtafkjallmbokaaaQx5
import Derived.Test.YtafkjallmbokaaaQx9
import Derived.Test.YtafkjallmbokaaaQx10
import Derived.Test.YtafkjallmbokaaaPureA
import Derived.Test.YtafkjallmbokaaaHPlace
import Derived.Test.YtafkjallmbokaaaHExpire
namespace Go.Proofs.Ytafkjallmbokaaa.Q
open Go.RowKit Go.Proofs.YtafkjallmbokaaaW.PrintWords Go.Proofs.YtafkjallmbokaaaW.PrintLast Go.Proofs.YtafkjallmbokaaaW.PrintMore
set_option linter.unusedVariables false
set_option linter.unusedSimpArgs false

theorem rd_at (l : List S26) (i : Nat) : rd_T26 l (i : Int) = l.getD i z26 := rfl
/-- The lists of the sequences: at most 100 holds, keys of at most 200 bytes, amounts that fit. -/
def okL (l : List S26) : Prop := l.length ≤ 100 ∧ ∀ x ∈ l, x.f5.size ≤ 200 ∧ x.f2 ≤ 9223372036854775807
theorem getD_mem (l : List S26) (p : Nat) (hp : p < l.length) : l.getD p z26 ∈ l := by
  rw [List.getD_eq_getElem?_getD, List.getElem?_eq_getElem hp]; exact List.getElem_mem _

/-! The same lists are the same. -/
theorem same_from (l : List S26) (hl : l.length ≤ 9223372036854775807) (d : Nat) : ∀ (k i : Nat), i + d = l.length → d < k → corebankref22_SameAll.l0 k l l (i : Int) = some true := by
  induction d with
  | zero =>
    intro k i hi hk
    obtain ⟨k, rfl, _⟩ := succ_of hk
    simp only [corebankref22_SameAll.l0]
    rw [if_neg (by omega)]
  | succ d ih =>
    intro k i hi hk
    obtain ⟨k, rfl, hk2⟩ := succ_of hk
    simp only [corebankref22_SameAll.l0]
    rw [if_pos (by omega), if_pos (by omega), if_pos (by omega), if_neg (by simp), next_nat (show i < l.length by omega) hl]
    exact ih k (i + 1) (by omega) (by omega)
theorem same_refl (l : List S26) (hl : l.length ≤ 9223372036854775807) (k : Nat) (hk : l.length < k) : corebankref22_SameAll.f k l l = some true := by
  unfold corebankref22_SameAll.f
  rw [if_pos rfl]
  exact same_from l hl l.length k 0 (by omega) hk
theorem ints_from (l : List Int) (hl : l.length ≤ 9223372036854775807) (d : Nat) : ∀ (k i : Nat), i + d = l.length → d < k → corebankref07_SameInts.l0 k l l (i : Int) = some true := by
  induction d with
  | zero =>
    intro k i hi hk
    obtain ⟨k, rfl, _⟩ := succ_of hk
    simp only [corebankref07_SameInts.l0]
    rw [if_neg (by omega)]
  | succ d ih =>
    intro k i hi hk
    obtain ⟨k, rfl, hk2⟩ := succ_of hk
    simp only [corebankref07_SameInts.l0]
    rw [if_pos (by omega), if_pos (by omega), if_pos (by omega), if_pos trivial, next_nat (show i < l.length by omega) hl]
    exact ih k (i + 1) (by omega) (by omega)
theorem ints_refl (l : List Int) (hl : l.length ≤ 9223372036854775807) (k : Nat) (hk : l.length < k) : corebankref07_SameInts.f k l l = some true := by
  unfold corebankref07_SameInts.f
  rw [if_pos rfl]
  exact ints_from l hl l.length k 0 (by omega) hk

/-! Place -/
theorem check_one (h : S26) : checkL [h] = oneE h := by
  have e : checkAt [h] 0 = oneE h := by
    rw [check_at, show ([h] : List S26).getD 0 z26 = h from rfl]
    by_cases h0 : oneE h = 0
    · rw [if_pos h0, if_neg (by omega), if_neg (by simp), h0]
    · rw [if_neg h0]
  show (if ([h] : List S26).length > 64 then (5 : Int) else if checkAt [h] 0 = 0 then 0 else checkAt [h] 0) = oneE h
  rw [if_neg (by simp), e]
  by_cases h0 : oneE h = 0
  · rw [if_pos h0, h0]
  · rw [if_neg h0]
theorem checkL_len {l : List S26} (h : checkL l = 0) : l.length ≤ 64 := by
  unfold checkL at h
  by_cases e : l.length > 64
  · rw [if_pos e] at h; exact absurd h (by decide)
  · omega
theorem okS_ok {l : List S26} (h : okL l) : okS l = true := by
  unfold okS
  rw [List.all_eq_true]
  exact fun x hx => decide_eq_true (by have := (h.2 x hx).1; omega)
theorem place_eq (l : List S26) (b : S26) (hl : okL l) (hb : b.f5.size ≤ 200) : hold_Place.f l b.f0 b.f1 b.f2 b.f3 b.f4 b.f5 = some (placeL l b) := by
  unfold hold_Place.f
  rw [if_pos ⟨okS_ok hl, by omega⟩]
theorem rplace_eq (l : List S26) (b : S26) (hl : okL l) (hb : b.f5.size ≤ 200) (k : Nat) (hk : 600 < k) : corebankref22_Place.f k l b.f0 b.f1 b.f2 b.f3 b.f4 b.f5 = some (placeL l b) := by
  obtain ⟨k, rfl, hk2⟩ := succ_of hk
  obtain ⟨k, rfl, hk3⟩ := succ_of (show 599 < k by omega)
  have hl100 := hl.1
  unfold corebankref22_Place.f placeL
  rw [rcheck_eq l 300 (fun x hx => by have := (hl.2 x hx).1; omega) (okS_ok hl) (by omega) _ (by omega)]
  simp only [Option.bind_some]
  by_cases h1 : checkL l = 0
  · rw [if_pos h1, one_eq b (by omega) _ (by omega), ← check_one b]
    simp only [Option.bind_some]
    by_cases h2 : checkL [b] = 0
    · rw [show (checkL [b] != 0) = false from by rw [h2]; rfl, if_neg (fun h => h.elim (fun h => h h1) (fun h => h h2))]
      have hl64 := checkL_len h1
      simp only [corebankref22_Place.j0]
      rw [if_neg (by simp)]
      have jj : ∀ c : Bool, c = decide (0 < l.length ∧ b.f0 ≤ (l.getD (l.length - 1) z26).f0) → corebankref22_Place.j1 (k + 1) l c b.f0 b.f1 b.f2 b.f3 b.f4 b.f5 = some (if 0 < l.length ∧ b.f0 ≤ (l.getD (l.length - 1) z26).f0 then ([], 10) else if l.any (fun y => y.f5.toList == b.f5.toList) = true then ([], 12) else if l.length = 64 then ([], 5) else (l ++ [b], 0)) := by
        intro c hc
        simp only [corebankref22_Place.j1]
        by_cases h3 : 0 < l.length ∧ b.f0 ≤ (l.getD (l.length - 1) z26).f0
        · rw [decide_eq_true h3] at hc
          subst hc
          rw [if_pos rfl, if_pos h3]
        · rw [decide_eq_false h3] at hc
          subst hc
          rw [if_neg (by simp), if_neg h3, named_eq l b.f5 (by omega) k (by omega)]
          simp only [Option.bind_some]
          by_cases h5 : l.any (fun y => y.f5.toList == b.f5.toList) = true
          · rw [if_pos h5, if_pos h5]
          · rw [if_neg h5, if_neg h5]
            by_cases h4 : l.length = 64
            · rw [if_pos (by omega), if_pos h4]
            · rw [if_neg (by omega), if_neg h4]
              simp only [Option.bind_some, List.nil_append]
              rw [if_pos (by simp; omega), if_pos (by omega)]
      rcases Nat.eq_zero_or_pos l.length with hz | hz
      · rw [if_neg (by omega)]
        exact jj false (by rw [decide_eq_false]; omega)
      · have hw : wrap64 ((l.length : Int) - 1) = ((l.length - 1 : Nat) : Int) := by unfold wrap64; omega
        rw [if_pos (by omega), hw, if_pos (by omega), if_pos (by omega), rd_at]
        exact jj _ (by rw [decide_eq_decide]; exact ⟨fun h => ⟨hz, h⟩, fun h => h.2⟩)
    · rw [show (checkL [b] != 0) = true from by simpa using h2, if_pos (.inr h2)]
      simp only [corebankref22_Place.j0, if_true]
  · rw [if_neg h1, if_pos (.inl h1)]
    simp only [corebankref22_Place.j0, if_true]
theorem fields_one {b : S26} (h : checkL [b] = 0) : fieldsB b = true ∧ keyB b.f5 = true := by
  rw [check_one] at h
  unfold oneE at h
  cases h1 : fieldsB b with
  | false => rw [h1, if_pos rfl] at h; exact absurd h (by decide)
  | true =>
    cases h2 : keyB b.f5 with
    | false => rw [h1, h2, if_neg (by simp), if_pos rfl] at h; exact absurd h (by decide)
    | true => exact ⟨rfl, rfl⟩
theorem place_all (l : List S26) (b : S26) : (placeL l b = (l ++ [b], 0) ∧ checkL l = 0 ∧ l.length < 64 ∧ checkL [b] = 0 ∧ ¬ (0 < l.length ∧ b.f0 ≤ (l.getD (l.length - 1) z26).f0) ∧ ¬ l.any (fun y => y.f5.toList == b.f5.toList) = true) ∨ ((placeL l b).1 = [] ∧ (placeL l b).2 ≠ 0) := by
  unfold placeL
  by_cases h1 : checkL l ≠ 0 ∨ checkL [b] ≠ 0
  · rw [if_pos h1]; exact .inr ⟨rfl, (by decide)⟩
  · rw [if_neg h1]
    by_cases h2 : 0 < l.length ∧ b.f0 ≤ (l.getD (l.length - 1) z26).f0
    · rw [if_pos h2]; exact .inr ⟨rfl, (by decide)⟩
    · rw [if_neg h2]
      by_cases h5 : l.any (fun y => y.f5.toList == b.f5.toList) = true
      · rw [if_pos h5]; exact .inr ⟨rfl, (by decide)⟩
      · rw [if_neg h5]
        by_cases h3 : l.length = 64
        · rw [if_pos h3]; exact .inr ⟨rfl, (by decide)⟩
        · rw [if_neg h3]
          have c1 : checkL l = 0 := Classical.byContradiction fun e => h1 (.inl e)
          have := checkL_len c1
          exact .inl ⟨rfl, c1, by omega, Classical.byContradiction fun e => h1 (.inr e), h2, h5⟩
theorem place_okL {l : List S26} {b : S26} (hl : okL l) (hb : b.f5.size ≤ 200) (h : (placeL l b).2 = 0) : okL (placeL l b).1 := by
  rcases place_all l b with ⟨e, _, h64, h1, _⟩ | ⟨_, e⟩
  · rw [e]
    have hf := of_decide_eq_true (fields_one h1).1
    refine ⟨by simp; omega, fun x hx => ?_⟩
    rcases List.mem_append.1 hx with hx | hx
    · exact hl.2 x hx
    · rw [List.mem_singleton] at hx
      subst hx
      exact ⟨hb, by omega⟩
  · exact absurd h e

/-! Use -/
def lessAt (x : S26) (n : Int) : S26 := ⟨x.f0, x.f1, wrap64 (x.f2 - n), x.f3, x.f4, x.f5⟩
def useAt (l : List S26) (p : Nat) (n d : Int) : List S26 × Int :=
  if d < (l.getD p z26).f3 ∨ d > (l.getD p z26).f4 then ([], 23) else if n < 1 then ([], 1) else if n > (l.getD p z26).f2 then ([], 18) else if n = (l.getD p z26).f2 then (l.eraseIdx p, 0) else (l.set p (lessAt (l.getD p z26) n), 0)
def useL (l : List S26) (id n d : Int) : List S26 × Int := if idxP (fun x => x.f0 == id) l 0 < 0 then ([], 11) else useAt l (idxP (fun x => x.f0 == id) l 0).toNat n d
theorem set_get (l : List S26) (p : Nat) (y : S26) (hp : p < l.length) : (l.set p y).getD p z26 = y := by
  rw [List.getD_eq_getElem?_getD, List.getElem?_set_self hp]; rfl
theorem clone_eq (l : List S26) (hl : l.length ≤ 100) : api_Hold_39.f l = some l := by
  unfold api_Hold_39.f
  rw [if_pos (by omega)]
theorem delete_eq (l : List S26) (p : Nat) (hp : p < l.length) (hl : l.length ≤ 100) : api_Hold_40.f l (p : Int) (wrap64 ((p : Int) + 1)) = some (l.eraseIdx p) := by
  unfold api_Hold_40.f
  rw [if_pos ⟨by omega, by omega, by unfold wrap64; omega⟩, Int.toNat_natCast]
theorem without_eq (l : List S26) (p : Nat) (hp : p < l.length) (hl : l.length ≤ 100) : corebankref22_without.f l (p : Int) = some (l.eraseIdx p) := by
  have hw : wrap64 ((p : Int) + 1) = ((p + 1 : Nat) : Int) := by unfold wrap64; omega
  unfold corebankref22_without.f
  rw [if_pos (by omega), if_pos (by omega)]
  simp only [Option.bind_some, List.nil_append, Int.toNat_natCast, hw, List.length_nil, List.length_take]
  rw [if_pos (by omega), if_pos (by omega), if_pos (by omega)]
  simp only [Option.bind_some, List.length_drop]
  rw [if_pos (by omega), List.eraseIdx_eq_take_drop_succ]
theorem use_j0 (l : List S26) (hl : okL l) (p : Nat) (hp : p < l.length) (n d : Int) (k : Nat) (hk : 0 < k) (c : Bool) (hc : c = decide (d < (l.getD p z26).f3 ∨ d > (l.getD p z26).f4)) : hold_Use.j0 k l n (p : Int) c = some (useAt l p n d) := by
  obtain ⟨k, rfl, _⟩ := succ_of hk
  have hl1 := hl.1
  have hf2 := (hl.2 _ (getD_mem l p hp)).2
  simp only [hold_Use.j0]
  unfold useAt
  by_cases h1 : d < (l.getD p z26).f3 ∨ d > (l.getD p z26).f4
  · rw [decide_eq_true h1] at hc
    subst hc
    rw [if_pos rfl, if_pos h1]
  · rw [decide_eq_false h1] at hc
    subst hc
    rw [if_neg (by simp), if_neg h1]
    by_cases h2 : n < 1
    · rw [if_pos h2, if_pos h2]
    · rw [if_neg h2, if_neg h2, if_pos (by omega), if_pos (by omega), rd_at]
      by_cases h3 : n > (l.getD p z26).f2
      · rw [if_pos h3, if_pos h3]
      · rw [if_neg h3, if_neg h3, clone_eq l hl1]
        simp only [Option.bind_some]
        rw [if_pos (by omega), rd_at, Int.toNat_natCast, rd_at]
        rw [show (l.set p (⟨(l.getD p z26).f0, (l.getD p z26).f1, wrap64 ((l.getD p z26).f2 - n), (l.getD p z26).f3, (l.getD p z26).f4, (l.getD p z26).f5⟩ : S26)) = l.set p (lessAt (l.getD p z26) n) from rfl, set_get _ _ _ hp]
        by_cases h4 : n = (l.getD p z26).f2
        · rw [if_pos h4, if_pos (by unfold lessAt wrap64; dsimp only; omega), delete_eq _ _ (by rw [List.length_set]; exact hp) (by rw [List.length_set]; exact hl1)]
          simp only [Option.bind_some]
          rw [List.eraseIdx_set_eq]
        · rw [if_neg h4, if_neg (by unfold lessAt wrap64; dsimp only; omega)]
def releaseL (l : List S26) (id : Int) : List S26 × Int := if idxP (fun x => x.f0 == id) l 0 < 0 then ([], 11) else (l.eraseIdx (idxP (fun x => x.f0 == id) l 0).toNat, 0)
theorem useL_none {l : List S26} {id : Int} (n d : Int) (h : idxP (fun x => x.f0 == id) l 0 = -1) : useL l id n d = ([], 11) := by
  unfold useL; rw [h]; rfl
theorem useL_at {l : List S26} {id : Int} {p : Nat} (n d : Int) (h : idxP (fun x => x.f0 == id) l 0 = (p : Int)) : useL l id n d = useAt l p n d := by
  unfold useL; rw [h, if_neg (by omega), Int.toNat_natCast]
theorem releaseL_none {l : List S26} {id : Int} (h : idxP (fun x => x.f0 == id) l 0 = -1) : releaseL l id = ([], 11) := by
  unfold releaseL; rw [h]; rfl
theorem releaseL_at {l : List S26} {id : Int} {p : Nat} (h : idxP (fun x => x.f0 == id) l 0 = (p : Int)) : releaseL l id = (l.eraseIdx p, 0) := by
  unfold releaseL; rw [h, if_neg (by omega), Int.toNat_natCast]
theorem use_eq (l : List S26) (hl : okL l) (id n d : Int) (k : Nat) (hk : 0 < k) : hold_Use.f k l id n d = some (useL l id n d) := by
  unfold hold_Use.f hold_index.f
  simp only [Option.bind_some]
  rcases idxP_range (fun x => x.f0 == id) l 0 with ⟨h, _⟩ | ⟨p, h, hp, _⟩
  · rw [useL_none n d h, h, if_pos (by decide)]
  · rw [Int.zero_add] at h
    rw [useL_at n d h, h, if_neg (by omega), if_pos (by omega), if_pos (by omega), rd_at]
    by_cases h1 : d < (l.getD p z26).f3
    · rw [if_pos h1]; exact use_j0 l hl p hp n d k hk _ (by rw [decide_eq_true (.inl h1)])
    · rw [if_neg h1]; exact use_j0 l hl p hp n d k hk _ (by rw [decide_eq_decide]; exact ⟨fun h => .inr h, fun h => h.resolve_left h1⟩)
theorem ruse_j0 (l : List S26) (hl : okL l) (p : Nat) (hp : p < l.length) (n d : Int) (k : Nat) (hk : 0 < k) (c : Bool) (hc : c = decide (d < (l.getD p z26).f3 ∨ d > (l.getD p z26).f4)) : corebankref22_Use.j0 k l n (p : Int) c = some (useAt l p n d) := by
  obtain ⟨k, rfl, _⟩ := succ_of hk
  have hl1 := hl.1
  simp only [corebankref22_Use.j0]
  unfold useAt
  by_cases h1 : d < (l.getD p z26).f3 ∨ d > (l.getD p z26).f4
  · rw [decide_eq_true h1] at hc
    subst hc
    rw [if_pos rfl, if_pos h1]
  · rw [decide_eq_false h1] at hc
    subst hc
    rw [if_neg (by simp), if_neg h1]
    by_cases h2 : n < 1
    · rw [if_pos h2, if_pos h2]
    · rw [if_neg h2, if_neg h2, if_pos (by omega), if_pos (by omega), rd_at]
      by_cases h3 : n > (l.getD p z26).f2
      · rw [if_pos h3, if_pos h3]
      · rw [if_neg h3, if_neg h3]
        by_cases h4 : n = (l.getD p z26).f2
        · rw [if_pos h4, if_pos h4, without_eq l p hp hl1]
          rfl
        · rw [if_neg h4, if_neg h4]
          simp only [Option.bind_some, List.nil_append, List.length_nil]
          rw [if_pos (by omega), if_pos (by omega), rd_at, Int.toNat_natCast]
          rfl
theorem ruse_eq (l : List S26) (hl : okL l) (id n d : Int) (k : Nat) (hk : 200 < k) : corebankref22_Use.f k l id n d = some (useL l id n d) := by
  have hl1 := hl.1
  unfold corebankref22_Use.f
  rw [idx_eq l id (by omega) k (by omega)]
  simp only [Option.bind_some]
  rcases idxP_range (fun x => x.f0 == id) l 0 with ⟨h, _⟩ | ⟨p, h, hp, _⟩
  · rw [useL_none n d h, h, if_pos (by decide)]
  · rw [Int.zero_add] at h
    rw [useL_at n d h, h, if_neg (by omega), if_pos (by omega), if_pos (by omega), rd_at]
    by_cases h1 : d < (l.getD p z26).f3
    · rw [if_pos h1]; exact ruse_j0 l hl p hp n d k (by omega) _ (by rw [decide_eq_true (.inl h1)])
    · rw [if_neg h1]; exact ruse_j0 l hl p hp n d k (by omega) _ (by rw [decide_eq_decide]; exact ⟨fun h => .inr h, fun h => h.resolve_left h1⟩)
theorem wrap_max (x : Int) : wrap64 x ≤ 9223372036854775807 := by unfold wrap64; omega
theorem erase_okL {l : List S26} (hl : okL l) (p : Nat) : okL (l.eraseIdx p) :=
  ⟨Nat.le_trans (List.length_eraseIdx_le _ _) hl.1, fun x hx => hl.2 x (List.mem_of_mem_eraseIdx hx)⟩
/-- What Use answers: an error and no list, or the list in which the hold is less or gone. -/
theorem use_all (l : List S26) (id n d : Int) : ((useL l id n d).1 = [] ∧ (useL l id n d).2 ≠ 0) ∨ ∃ p, p < l.length ∧ (l.getD p z26).f0 = id ∧ 1 ≤ n ∧ ((n = (l.getD p z26).f2 ∧ useL l id n d = (l.eraseIdx p, 0)) ∨ (n < (l.getD p z26).f2 ∧ useL l id n d = (l.set p (lessAt (l.getD p z26) n), 0))) := by
  rcases idxP_range (fun x => x.f0 == id) l 0 with ⟨h, _⟩ | ⟨p, h, hp, he, _⟩
  · rw [useL_none n d h]; exact .inl ⟨rfl, (by decide)⟩
  · rw [Int.zero_add] at h
    rw [useL_at n d h]
    unfold useAt
    by_cases h1 : d < (l.getD p z26).f3 ∨ d > (l.getD p z26).f4
    · rw [if_pos h1]; exact .inl ⟨rfl, (by decide)⟩
    · rw [if_neg h1]
      by_cases h2 : n < 1
      · rw [if_pos h2]; exact .inl ⟨rfl, (by decide)⟩
      · rw [if_neg h2]
        by_cases h3 : n > (l.getD p z26).f2
        · rw [if_pos h3]; exact .inl ⟨rfl, (by decide)⟩
        · rw [if_neg h3]
          refine .inr ⟨p, hp, by simpa using he, by omega, ?_⟩
          by_cases h4 : n = (l.getD p z26).f2
          · rw [if_pos h4]; exact .inl ⟨h4, rfl⟩
          · rw [if_neg h4]; exact .inr ⟨by omega, rfl⟩
theorem use_okL {l : List S26} (hl : okL l) (id n d : Int) (h : (useL l id n d).2 = 0) : okL (useL l id n d).1 := by
  rcases use_all l id n d with ⟨_, e⟩ | ⟨p, hp, _, _, ⟨_, e⟩ | ⟨_, e⟩⟩
  · exact absurd h e
  · rw [e]; exact erase_okL hl p
  · rw [e]
    refine ⟨by rw [List.length_set]; exact hl.1, fun x hx => ?_⟩
    rcases List.mem_or_eq_of_mem_set hx with hx | hx
    · exact hl.2 x hx
    · subst hx
      exact ⟨(hl.2 _ (getD_mem l p hp)).1, wrap_max _⟩

/-! Release -/
theorem release_eq (l : List S26) (hl : okL l) (id : Int) : hold_Release.f l id = some (releaseL l id) := by
  unfold hold_Release.f hold_index.f
  simp only [Option.bind_some]
  rcases idxP_range (fun x => x.f0 == id) l 0 with ⟨h, _⟩ | ⟨p, h, hp, _⟩
  · rw [releaseL_none h, h, if_pos (by decide)]
  · rw [Int.zero_add] at h
    rw [releaseL_at h, h, if_neg (by omega), clone_eq l hl.1]
    simp only [Option.bind_some]
    rw [delete_eq l p hp hl.1]
    rfl
theorem rrelease_eq (l : List S26) (hl : okL l) (id : Int) (k : Nat) (hk : 200 < k) : corebankref22_Release.f k l id = some (releaseL l id) := by
  have hl1 := hl.1
  unfold corebankref22_Release.f
  rw [idx_eq l id (by omega) k (by omega)]
  simp only [Option.bind_some]
  rcases idxP_range (fun x => x.f0 == id) l 0 with ⟨h, _⟩ | ⟨p, h, hp, _⟩
  · rw [releaseL_none h, h, if_pos (by decide)]
  · rw [Int.zero_add] at h
    rw [releaseL_at h, h, if_neg (by omega), without_eq l p hp hl1]
    rfl
theorem release_all (l : List S26) (id : Int) : (releaseL l id = ([], 11) ∧ ∀ x ∈ l, x.f0 ≠ id) ∨ ∃ p, p < l.length ∧ (l.getD p z26).f0 = id ∧ (∀ m, m < p → (l.getD m z26).f0 ≠ id) ∧ releaseL l id = (l.eraseIdx p, 0) := by
  rcases idxP_range (fun x => x.f0 == id) l 0 with ⟨h, h2⟩ | ⟨p, h, hp, he, hm⟩
  · rw [releaseL_none h]; exact .inl ⟨rfl, fun x hx => by simpa using h2 x hx⟩
  · rw [Int.zero_add] at h
    rw [releaseL_at h]; exact .inr ⟨p, hp, by simpa using he, fun m h => by simpa using hm m h, rfl⟩
theorem release_okL {l : List S26} (hl : okL l) (id : Int) (h : (releaseL l id).2 = 0) : okL (releaseL l id).1 := by
  rcases release_all l id with ⟨e, _⟩ | ⟨p, hp, _, _, e⟩
  · rw [e] at h; exact absurd h (by decide)
  · rw [e]; exact erase_okL hl p

/-! Expire -/
theorem expire_eq (l : List S26) (hl : okL l) (d : Int) : hold_Expire.f l d = some (l.filter (fun x => !endedB d x), (l.filter (endedB d)).map (·.f0)) := by
  have := hl.1
  unfold hold_Expire.f
  rw [if_pos (by omega)]
theorem rexpire_from (l : List S26) (day : Int) (hl : l.length ≤ 100) (n : Nat) : ∀ (k i : Nat), i + n = l.length → n < k →
    corebankref22_Expire.l0 k l day ((l.take i).filter (fun x => !endedB day x)) (((l.take i).filter (endedB day)).map (·.f0)) (i : Int) = some (l.filter (fun x => !endedB day x), (l.filter (endedB day)).map (·.f0)) := by
  induction n with
  | zero =>
    intro k i hi hk
    obtain ⟨k, rfl, _⟩ := succ_of hk
    simp only [corebankref22_Expire.l0]
    rw [if_neg (by omega), List.take_of_length_le (by omega)]
  | succ n ih =>
    intro k i hi hk
    obtain ⟨k, rfl, hk2⟩ := succ_of hk
    have hi' : i < l.length := by omega
    have ih' := ih k (i + 1) (by omega) (by omega)
    have l1 := live_len l day i
    have l2 := ended_len l day i
    simp only [corebankref22_Expire.l0]
    rw [if_pos (by omega), if_pos (by omega), rd_at, next_nat hi' (by omega)]
    by_cases h : (l.getD i z26).f4 < day
    · rw [if_pos h, if_pos (by omega)]
      rw [ended_snoc l day i hi' (decide_eq_true h), live_same l day i hi' (decide_eq_true h)] at ih'
      exact ih'
    · rw [if_neg h, if_pos (by omega)]
      rw [ended_same l day i hi' (decide_eq_false h), live_snoc l day i hi' (decide_eq_false h)] at ih'
      exact ih'
theorem rexpire_eq (l : List S26) (hl : okL l) (d : Int) (k : Nat) (hk : 200 < k) : corebankref22_Expire.f k l d = some (l.filter (fun x => !endedB d x), (l.filter (endedB d)).map (·.f0)) := by
  have hl1 := hl.1
  exact rexpire_from l d hl1 l.length k 0 (by omega) (by omega)
theorem expire_okL {l : List S26} (hl : okL l) (d : Int) : okL (l.filter (fun x => !endedB d x)) :=
  ⟨Nat.le_trans (List.length_filter_le _ _) hl.1, fun x hx => hl.2 x (List.mem_filter.1 hx).1⟩

/-! short -/
theorem short_from (l : List S38) (n : Nat) : ∀ (k i : Nat), i ≤ l.length → i ≤ 60 → i + n = 60 → 2 * n + 2 < k → (∀ j, j < i → (l.getD j z38).f4.f5.size ≤ 200) →
    ∃ b, corebanklaw22_short.l0 k l (i : Int) = some b ∧ (b = true → l.length ≤ 60 ∧ ∀ j, j < l.length → (l.getD j z38).f4.f5.size ≤ 200) := by
  induction n with
  | zero =>
    intro k i hi hi2 hn hk hall
    obtain ⟨k, rfl, hk2⟩ := succ_of hk
    obtain ⟨k, rfl, hk3⟩ := succ_of (show 1 < k by omega)
    simp only [corebanklaw22_short.l0, corebanklaw22_short.j1]
    have hd : decide ((i : Int) < 60) = false := decide_eq_false (by omega)
    by_cases h : (i : Int) < (l.length : Int)
    · rw [if_pos h, hd, if_neg (by simp)]
      exact ⟨_, rfl, fun h' => by have := of_decide_eq_true h'; omega⟩
    · rw [if_neg h, if_neg (by simp)]
      exact ⟨_, rfl, fun h' => ⟨by omega, fun j hj => hall j (by omega)⟩⟩
  | succ n ih =>
    intro k i hi hi2 hn hk hall
    obtain ⟨k, rfl, hk2⟩ := succ_of hk
    obtain ⟨k, rfl, hk3⟩ := succ_of (show 1 < k by omega)
    simp only [corebanklaw22_short.l0, corebanklaw22_short.j1]
    have hd : decide ((i : Int) < 60) = true := decide_eq_true (by omega)
    by_cases h : (i : Int) < (l.length : Int)
    · rw [if_pos h, hd, if_pos rfl, if_pos (by omega), if_pos h, show rd_T38 l (i : Int) = l.getD i z38 from rfl]
      by_cases h2 : (((l.getD i z38).f4.f5).size : Int) > 200
      · rw [if_pos h2]
        exact ⟨false, rfl, fun h => absurd h (by decide)⟩
      · rw [if_neg h2, show wrap64 ((i : Int) + 1) = ((i + 1 : Nat) : Int) from by unfold wrap64; omega]
        refine ih k (i + 1) (by omega) (by omega) (by omega) (by omega) (fun j hj => ?_)
        by_cases e : j = i
        · subst e; omega
        · exact hall j (by omega)
    · rw [if_neg h, if_neg (by simp)]
      exact ⟨_, rfl, fun h' => ⟨by omega, fun j hj => hall j (by omega)⟩⟩
theorem short_eq (l : List S38) : ∃ b, corebanklaw22_short.f 200 l = some b ∧ (b = true → l.length ≤ 60 ∧ ∀ j, j < l.length → (l.getD j z38).f4.f5.size ≤ 200) :=
  short_from l 60 200 0 (by omega) (by omega) (by omega) (by omega) (fun j hj => absurd hj (by omega))
end Go.Proofs.Ytafkjallmbokaaa.Q
