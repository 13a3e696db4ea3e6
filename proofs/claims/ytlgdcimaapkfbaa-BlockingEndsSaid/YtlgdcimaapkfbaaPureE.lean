/- BlockingEnds: what Lift leaves denies and reserves the same on the day before. -/
import Derived.Test.YtlgdcimaapkfbaaPureP
import Derived.Test.YtlgdcimaapkfbaaQx14
namespace Go.Proofs.Ytlgdcimaapkfbaa.Q
open Go.RowKit Go.Proofs.YtlgdcimaapkfbaaW.PrintWords Go.Proofs.YtlgdcimaapkfbaaW.PrintLast Go.Proofs.YtlgdcimaapkfbaaW.PrintMore
set_option linter.unusedVariables false
set_option linter.unusedSimpArgs false

def newAt (l : List S28) (p : Nat) (on : Int) : List S28 := if (l.getD p z28).f4 ≤ on - 1 then [endAt (l.getD p z28) on] else []
theorem split_at (l : List S28) (p : Nat) (hp : p < l.length) : l = l.take p ++ [l.getD p z28] ++ l.drop (p + 1) := by
  rw [← take_snoc28 l p hp, List.take_append_drop]
theorem lifted_eq (l : List S28) (p : Nat) (on : Int) (hp : p < l.length) (hd : dayB on = true) (h5 : ¬ (l.getD p z28).f5 < on) : liftAt l p on = (l.take p ++ newAt l p on ++ l.drop (p + 1), 0) := by
  unfold liftAt newAt
  rw [if_neg (by simp [hd]), if_neg h5]
  by_cases h : (l.getD p z28).f4 ≤ on - 1
  · rw [if_pos h, if_neg (by omega), List.set_eq_take_append_cons_drop, if_pos hp, List.append_assoc]
    rfl
  · rw [if_neg h, if_pos (by omega), List.eraseIdx_set_eq, List.eraseIdx_eq_take_drop_succ, List.append_nil]
theorem act_new (l : List S28) (p : Nat) (a on t acc : Int) (h5 : ¬ (l.getD p z28).f5 < on) :
    ((newAt l p on).filter (actB a (on - 1))).any (denB t) = ([l.getD p z28].filter (actB a (on - 1))).any (denB t) ∧ ((newAt l p on).filter (actB a (on - 1))).foldl resStep acc = ([l.getD p z28].filter (actB a (on - 1))).foldl resStep acc := by
  unfold newAt
  by_cases h : (l.getD p z28).f4 ≤ on - 1
  · have e : actB a (on - 1) (endAt (l.getD p z28) on) = actB a (on - 1) (l.getD p z28) := by
      unfold actB endAt
      rw [decide_eq_decide]
      exact ⟨fun h' => ⟨h'.1, h'.2.1, by omega⟩, fun h' => ⟨h'.1, h'.2.1, Int.le_refl _⟩⟩
    rw [if_pos h, List.filter_cons, List.filter_cons, e]
    cases actB a (on - 1) (l.getD p z28) <;> exact ⟨rfl, rfl⟩
  · have e : actB a (on - 1) (l.getD p z28) = false := decide_eq_false (fun h' => h h'.2.1)
    rw [if_neg h, List.filter_cons, e]
    exact ⟨rfl, rfl⟩
theorem ascend (l : List S28) (h : ∀ j, j < l.length → checkAt l j = 0) : ∀ j i, i < j → j < l.length → (l.getD i z28).f0 < (l.getD j z28).f0 := by
  intro j
  induction j with
  | zero => intro i h1 _; omega
  | succ j ih =>
    intro i h1 h2
    have hj := h (j + 1) h2
    unfold checkAt at hj
    have hs : (l.getD j z28).f0 < (l.getD (j + 1) z28).f0 := by
      by_cases e : 0 < j + 1 ∧ (l.getD (j + 1) z28).f0 ≤ (l.getD (j + 1 - 1) z28).f0
      · rw [if_pos e] at hj
        split at hj
        · exact absurd hj (by decide)
        · split at hj
          · exact absurd hj (by decide)
          · exact absurd hj (by decide)
      · rw [Nat.add_sub_cancel] at e
        omega
    by_cases e : i = j
    · subst e; exact hs
    · have := ih i (by omega) (by omega)
      omega
/-- Accepted lists: at most 64, each good, the Ids ascend. -/
theorem check_iff (l : List S28) : checkL l = 0 ↔ l.length ≤ 64 ∧ (∀ x ∈ l, fieldsB x = true ∧ nameB x.f6 = true) ∧ l.Pairwise (fun x y => x.f0 < y.f0) := by
  rw [check_zero]
  have ge : ∀ (i : Nat) (hi : i < l.length), l.getD i z28 = l[i] := fun i hi => by rw [List.getD_eq_getElem?_getD, List.getElem?_eq_getElem hi]; rfl
  constructor
  · rintro ⟨h1, h2⟩
    refine ⟨h1, fun x hx => ?_, ?_⟩
    · obtain ⟨i, hi, rfl⟩ := List.getElem_of_mem hx
      have := h2 i hi
      unfold checkAt at this
      rw [ge i hi] at this
      cases f1 : fieldsB l[i] with
      | false => rw [f1, if_pos rfl] at this; exact absurd this (by decide)
      | true =>
        rw [f1, if_neg (by simp)] at this
        cases f2 : nameB l[i].f6 with
        | false => rw [f2, if_pos rfl] at this; exact absurd this (by decide)
        | true => exact ⟨rfl, rfl⟩
    · rw [List.pairwise_iff_getElem]
      intro i j hi hj hij
      have := ascend l h2 j i hij hj
      rw [ge i hi, ge j hj] at this
      exact this
  · rintro ⟨h1, h2, h3⟩
    refine ⟨h1, fun j hj => ?_⟩
    obtain ⟨f1, f2⟩ := h2 _ (List.getElem_mem hj)
    rw [List.pairwise_iff_getElem] at h3
    unfold checkAt
    rw [ge j hj, f1, f2, if_neg (by simp), if_neg (by simp)]
    by_cases e : 0 < j
    · have := h3 (j - 1) j (by omega) hj (by omega)
      rw [ge (j - 1) (by omega), if_neg (by omega)]
    · rw [if_neg (fun h => e h.1)]
/-- A list in which the order x ends the day before (or goes) is accepted still, and no order with its Id holds any more. -/
theorem lifted_ok (a b : List S28) (x : S28) (on : Int) (n : List S28) (hn : n = [] ∨ (n = [endAt x on] ∧ x.f4 ≤ on - 1)) (hd : 0 ≤ on ∧ on ≤ 73048) (h : checkL (a ++ [x] ++ b) = 0) :
    checkL (a ++ n ++ b) = 0 ∧ (∀ y ∈ a ++ n ++ b, y.f0 = x.f0 → y.f5 < on) ∧ ∀ y ∈ a ++ n ++ b, y.f6 = x.f6 ∨ y ∈ a ++ [x] ++ b := by
  rw [check_iff] at h ⊢
  obtain ⟨h1, h2, h3⟩ := h
  obtain ⟨hx1, hx2⟩ := h2 x (by simp)
  rw [List.pairwise_append, List.pairwise_append] at h3
  obtain ⟨⟨ha, _, hax⟩, hb, hab⟩ := h3
  have hnn : ∀ y ∈ n, y.f0 = x.f0 ∧ y.f5 = on - 1 ∧ fieldsB y = true ∧ y.f6 = x.f6 := by
    intro y hy
    rcases hn with rfl | ⟨rfl, h4⟩
    · simp at hy
    · rw [List.mem_singleton] at hy
      subst hy
      refine ⟨rfl, rfl, ?_, rfl⟩
      have hf := of_decide_eq_true hx1
      exact decide_eq_true (show _ from by
        simp only [endAt]
        omega)
  have hnl : n.length ≤ 1 := by
    rcases hn with rfl | ⟨rfl, _⟩ <;> simp
  have hnp : n.Pairwise (fun x y => x.f0 < y.f0) := by
    rcases hn with rfl | ⟨rfl, _⟩ <;> simp
  have hxb : ∀ v ∈ b, x.f0 < v.f0 := fun v hv => hab x (by simp) v hv
  have hxa : ∀ v ∈ a, v.f0 < x.f0 := fun v hv => hax v hv x (by simp)
  have hm : ∀ y ∈ a ++ n ++ b, y ∈ a ∨ y ∈ n ∨ y ∈ b := fun y hy => by simpa [or_assoc] using hy
  refine ⟨⟨by simp only [List.length_append, List.length_cons, List.length_nil] at h1 ⊢; omega, fun y hy => ?_, ?_⟩, fun y hy he => ?_, fun y hy => ?_⟩
  · rcases hm y hy with hy | hy | hy
    · exact h2 y (by simp [hy])
    · obtain ⟨_, _, h4, h5⟩ := hnn y hy
      exact ⟨h4, by rw [h5]; exact hx2⟩
    · exact h2 y (by simp [hy])
  · rw [List.pairwise_append, List.pairwise_append]
    refine ⟨⟨ha, hnp, fun u hu v hv => ?_⟩, hb, fun u hu v hv => ?_⟩
    · rw [(hnn v hv).1]; exact hxa u hu
    · rcases List.mem_append.1 hu with hu | hu
      · exact hab u (by simp [hu]) v hv
      · rw [(hnn u hu).1]; exact hxb v hv
  · rcases hm y hy with hy | hy | hy
    · have := hxa y hy; omega
    · have := (hnn y hy).2.1; omega
    · have := hxb y hy; omega
  · rcases hm y hy with hy | hy | hy
    · exact .inr (by simp [hy])
    · exact .inl (hnn y hy).2.2.2
    · exact .inr (by simp [hy])
theorem live_ge (k : Nat) (h : 300 ≤ k) : corebanklaw23_live.f k = some true := by
  obtain ⟨q, rfl⟩ : ∃ q, k = 300 + q := ⟨k - 300, by omega⟩
  exact live_true q
theorem ends_loop (l m : List S28) (id a d t : Int) (hm : m.length ≤ 100) (hd : ∀ x ∈ m, x.f0 = id → x.f5 < d) (hs : ∀ x ∈ m, x.f6.size ≤ 100) (hc : checkL m = 0) (hl : l.length ≤ 100) (hw : wrap64 (d - 1) = d - 1)
    (h1 : (m.filter (actB a (d - 1))).any (denB t) = (l.filter (actB a (d - 1))).any (denB t)) (h2 : (m.filter (actB a (d - 1))).foldl resStep 0 = (l.filter (actB a (d - 1))).foldl resStep 0) (n : Nat) : ∀ (k i : Nat), i + n = m.length → n + 600 < k →
    corebanklaw23_BlockingEnds.l0 k l id m (i : Int) a d t = some true := by
  induction n with
  | zero =>
    intro k i hi hk
    obtain ⟨k, rfl, hk2⟩ := succ_of hk
    simp only [corebanklaw23_BlockingEnds.l0]
    rw [if_neg (by omega), check_eq m hs _ (by omega)]
    simp only [Option.bind_some]
    rw [if_pos hc, hw]
    unfold blocking_Denies.f blocking_Reserved.f
    rw [if_pos (by omega), if_pos (by omega), if_pos (by omega), if_pos (by omega)]
    simp only [Option.bind_some]
    rw [h1, h2, if_pos (by simp), if_pos rfl, live_ge k (by omega)]
    rfl
  | succ n ih =>
    intro k i hi hk
    obtain ⟨k, rfl, hk2⟩ := succ_of hk
    have hi' : i < m.length := by omega
    have hmem : m.getD i z28 ∈ m := by rw [List.getD_eq_getElem?_getD, List.getElem?_eq_getElem hi']; exact List.getElem_mem _
    simp only [corebanklaw23_BlockingEnds.l0]
    rw [if_pos (by omega), if_pos (by omega), rd_at, next_nat hi' (by omega), ih k (i + 1) (by omega) (by omega)]
    by_cases e : (m.getD i z28).f0 = id
    · have := hd _ hmem e
      rw [if_pos e, if_neg (by omega)]
    · rw [if_neg e]
theorem ends_lift (l : List S28) (id a d t : Int) (hl : l.length ≤ 100) (hs : ∀ x ∈ l, x.f6.size ≤ 100) (hc : checkL l = 0) (hdy : dayB d = true) (k : Nat) (hk : 900 < k) :
    corebanklaw23_BlockingEnds.j0 k l id false a d t = some true := by
  obtain ⟨k, rfl, hk2⟩ := succ_of hk
  simp only [corebanklaw23_BlockingEnds.j0]
  have hd : 0 ≤ d ∧ d ≤ 73048 := of_decide_eq_true hdy
  unfold blocking_Lift.f
  rw [if_neg (by simp), if_pos (by omega)]
  simp only [Option.bind_some]
  have hL : corebanklaw23_live.f k = some true := live_ge k (by omega)
  rcases idxP_range (fun x => x.f0 == id) l 0 with ⟨hi, _⟩ | ⟨p, hi, hp, he, _⟩
  · have e : liftL l id d = ([], 11) := by unfold liftL; rw [hi]; rfl
    rw [e]
    simp only [hL, Option.bind_some, List.length_nil, if_pos, Int.ofNat_zero]
    rfl
  · have e : liftL l id d = liftAt l p d := by unfold liftL; rw [hi, Int.zero_add, Int.toNat_natCast, if_neg (by omega)]
    rw [e]
    have he' : (l.getD p z28).f0 = id := by simpa using he
    by_cases h5 : (l.getD p z28).f5 < d
    · have : liftAt l p d = ([], 23) := by
        unfold liftAt
        rw [if_neg (by simp [hdy]), if_pos h5]
      rw [this]
      simp only [hL, Option.bind_some, List.length_nil, if_pos, Int.ofNat_zero]
      rfl
    · rw [lifted_eq l p d hp hdy h5, if_pos rfl]
      have hn : newAt l p d = [] ∨ (newAt l p d = [endAt (l.getD p z28) d] ∧ (l.getD p z28).f4 ≤ d - 1) := by
        unfold newAt
        by_cases h : (l.getD p z28).f4 ≤ d - 1
        · rw [if_pos h]; exact .inr ⟨rfl, h⟩
        · rw [if_neg h]; exact .inl rfl
      have hc' := hc
      rw [split_at l p hp] at hc'
      obtain ⟨k1, k2, k3⟩ := lifted_ok _ _ _ d _ hn hd hc'
      rw [← split_at l p hp] at k3
      have hx : l.getD p z28 ∈ l := by rw [List.getD_eq_getElem?_getD, List.getElem?_eq_getElem hp]; exact List.getElem_mem _
      have k64 := ((check_zero _).1 k1).1
      have hA := act_new l p a d t 0 h5
      have e1 : ((l.take p ++ newAt l p d ++ l.drop (p + 1)).filter (actB a (d - 1))).any (denB t) = (l.filter (actB a (d - 1))).any (denB t) := by
        conv => rhs; rw [split_at l p hp]
        rw [List.filter_append, List.filter_append, List.filter_append, List.filter_append, List.any_append, List.any_append, List.any_append, List.any_append, hA.1]
      have e2 : ((l.take p ++ newAt l p d ++ l.drop (p + 1)).filter (actB a (d - 1))).foldl resStep 0 = (l.filter (actB a (d - 1))).foldl resStep 0 := by
        conv => rhs; rw [split_at l p hp]
        rw [List.filter_append, List.filter_append, List.filter_append, List.filter_append, List.foldl_append, List.foldl_append, List.foldl_append, List.foldl_append, (act_new l p a d t _ h5).2]
      have := ends_loop l (l.take p ++ newAt l p d ++ l.drop (p + 1)) id a d t (by omega) (fun x hx e => k2 x hx (by rw [e, he'])) (fun x hx' => by
        rcases k3 x hx' with h | h
        · rw [h]; exact hs _ hx
        · exact hs _ h) k1 hl (by unfold wrap64; omega) e1 e2 (l.take p ++ newAt l p d ++ l.drop (p + 1)).length k 0 (Nat.zero_add _) (by omega)
      exact this
theorem ends_true (l : List S28) (id a d t : Int) (hl : l.length ≤ 9223372036854775807) : ∃ k, corebanklaw23_BlockingEnds.f k l id a d t = some true := by
  have hj : ∀ k, 900 < k → corebanklaw23_BlockingEnds.j0 k l id true a d t = some true := fun k hk => by
    obtain ⟨k, rfl, hk2⟩ := succ_of hk
    simp only [corebanklaw23_BlockingEnds.j0, if_true, live_ge k (by omega), Option.bind_some]
  obtain ⟨K, hK⟩ : ∃ K : Nat, 1000 < K := ⟨1001, by omega⟩
  refine ⟨K, ?_⟩
  unfold corebanklaw23_BlockingEnds.f
  by_cases h : (l.length : Int) > 100
  · rw [if_pos h]; exact hj K (by omega)
  · rw [if_neg h, short_eq l hl _ (by omega)]
    simp only [Option.bind_some]
    cases hs : shortB l with
    | false => rw [if_neg (by simp)]; exact hj K (by omega)
    | true =>
      rw [if_pos rfl, rcheck_eq l (short_all hs) _ (by omega)]
      simp only [Option.bind_some]
      by_cases hc : checkL l = 0
      · rw [if_pos hc, rday_eq]
        simp only [Option.bind_some]
        cases hdy : dayB d with
        | false => exact hj K (by omega)
        | true => exact ends_lift l id a d t (by omega) (short_all hs) hc hdy K (by omega)
      · rw [if_neg hc]; exact hj K (by omega)
theorem blockingEnds_calls (A0 : Option Addr) (c0 : Nat) (l0 : List S28) (id : Int) (y : Int × Int × Int) (w : World) (hr0 : Kd.C k28 w A0 l0.length l0) (hc0 : l0.length ≤ c0) :
    Calls Try.prog 8 #[.slice A0 l0.length c0, .int .i64 id, .agg #[.int .i64 y.1, .int .i64 y.2.1, .int .i64 y.2.2]] w fun e w' => e = .returned (.bool true) ∧ Below w.heap.size w w' := by
  obtain ⟨k, hk⟩ := ends_true l0 id y.1 y.2.1 y.2.2 hr0.2.1
  exact corebanklaw23_BlockingEnds.calls k A0 c0 l0 id y.1 y.2.1 y.2.2 true w hr0 hc0 hk
end Go.Proofs.Ytlgdcimaapkfbaa.Q
