/- BlockingReserves: the walk and the plain law joined. -/
import Derived.Test.YtlgdcimaapkfbaaQx14
import Derived.Test.YtlgdcimaapkfbaaPureN
namespace Go.Proofs.Ytlgdcimaapkfbaa.Q
open Go.RowKit Go.Proofs.YtlgdcimaapkfbaaW.PrintWords Go.Proofs.YtlgdcimaapkfbaaW.PrintLast Go.Proofs.YtlgdcimaapkfbaaW.PrintMore
set_option linter.unusedVariables false
set_option linter.unusedSimpArgs false

theorem any_add (l : List S28) (b : S28) (p q : S28 → Bool) : ((l ++ [b]).filter p).any q = ((l.filter p).any q || (p b && q b)) := by
  rw [List.filter_append, List.any_append, List.filter_cons]
  cases p b <;> simp
theorem fold_add (l : List S28) (b : S28) (p : S28 → Bool) : ((l ++ [b]).filter p).foldl resStep 0 = if p b = true then resStep ((l.filter p).foldl resStep 0) b else (l.filter p).foldl resStep 0 := by
  rw [List.filter_append, List.foldl_append, List.filter_cons]
  cases p b <;> rfl
theorem wrap_range (x : Int) : -9223372036854775808 ≤ wrap64 x ∧ wrap64 x ≤ 9223372036854775807 := by unfold wrap64; omega
theorem res_range (l : List S28) : ∀ acc : Int, (-9223372036854775808 ≤ acc ∧ acc ≤ 9223372036854775807) → -9223372036854775808 ≤ l.foldl resStep acc ∧ l.foldl resStep acc ≤ 9223372036854775807 := by
  induction l with
  | nil => exact fun acc h => h
  | cons x l ih =>
    intro acc h
    rw [List.foldl_cons]
    refine ih _ ?_
    unfold resStep
    split
    · exact wrap_range _
    · exact h
theorem res_j4 (l m : List S28) (act cov : Bool) (more a d t : Int) (hl : l.length ≤ 100) (hm : m.length ≤ 101) (h1 : (m.filter (actB a d)).any (denB t) = ((l.filter (actB a d)).any (denB t) || (act && cov)))
    (h2 : (m.filter (actB a d)).foldl resStep 0 = wrap64 ((l.filter (actB a d)).foldl resStep 0 + more)) (k : Nat) (hk : 400 < k) : corebanklaw23_BlockingReserves.j4 k l m act cov more a d t = some true := by
  obtain ⟨k, rfl, hk2⟩ := succ_of hk
  simp only [corebanklaw23_BlockingReserves.j4]
  unfold blocking_Denies.f blocking_Reserved.f
  rw [if_pos (by omega), if_pos (by omega), if_pos (by omega), if_pos (by omega)]
  simp only [Option.bind_some]
  rw [h1, h2]
  generalize (l.filter (actB a d)).any (denB t) = D
  have hv := live_ge k (by omega)
  cases D <;> cases act <;> cases cov <;> simp [hv]
theorem res_j1 (l : List S28) (b : S28) (a d t : Int) (hl : l.length ≤ 64) (k : Nat) (hk : 500 < k) : corebanklaw23_BlockingReserves.j1 k l (l ++ [b]) (actB a d b) b.f0 b.f1 b.f2 b.f3 b.f4 b.f5 b.f6 a d t = some true := by
  obtain ⟨k, rfl, hk2⟩ := succ_of hk
  have hlen : (l ++ [b]).length ≤ 101 := by simp; omega
  have J3 : ∀ (k : Nat) (x : Bool), 450 < k → x = (actB a d b && (b.f2 == 4)) → corebanklaw23_BlockingReserves.j3 k l (l ++ [b]) (actB a d b) (denB t b) 0 x b.f0 b.f1 b.f2 b.f3 b.f4 b.f5 b.f6 a d t = some true := by
    intro k x hk hx
    obtain ⟨k, rfl, hk2⟩ := succ_of hk
    simp only [corebanklaw23_BlockingReserves.j3]
    cases x with
    | true =>
      obtain ⟨h1, h2⟩ : actB a d b = true ∧ b.f2 = 4 := by simpa using hx.symm
      rw [if_pos rfl]
      refine res_j4 l _ _ _ _ a d t (by omega) hlen (any_add _ _ _ _) ?_ k (by omega)
      rw [fold_add, if_pos h1]
      unfold resStep
      rw [if_pos h2]
    | false =>
      rw [if_neg (by simp)]
      refine res_j4 l _ _ _ _ a d t (by omega) hlen (any_add _ _ _ _) ?_ k (by omega)
      have hr := res_range (l.filter (actB a d)) 0 (by omega)
      rw [fold_add, show wrap64 ((l.filter (actB a d)).foldl resStep 0 + 0) = (l.filter (actB a d)).foldl resStep 0 from by unfold wrap64; omega]
      by_cases h1 : actB a d b = true
      · rw [if_pos h1]
        unfold resStep
        rw [if_neg]
        intro h2
        rw [h1, h2] at hx
        exact absurd hx (by decide)
      · rw [if_neg h1]
  have J2 : ∀ cov : Bool, cov = denB t b → corebanklaw23_BlockingReserves.j2 k l (l ++ [b]) (actB a d b) cov b.f0 b.f1 b.f2 b.f3 b.f4 b.f5 b.f6 a d t = some true := by
    intro cov hc
    subst hc
    obtain ⟨k, rfl, hk3⟩ := succ_of (show 499 < k by omega)
    simp only [corebanklaw23_BlockingReserves.j2]
    by_cases h1 : actB a d b = true
    · rw [if_pos h1]; exact J3 k _ (by omega) (by rw [h1, Bool.true_and])
    · rw [if_neg h1]; exact J3 k _ (by omega) (by rw [Bool.eq_false_iff.2 h1, Bool.false_and])
  simp only [corebanklaw23_BlockingReserves.j1]
  by_cases h1 : b.f2 = 1
  · rw [if_pos h1]; exact J2 _ (by unfold denB; rw [if_pos h1])
  · rw [if_neg h1]
    by_cases h2 : b.f2 = 2
    · rw [if_pos h2]
      by_cases h3 : t > 0
      · rw [if_pos h3]; exact J2 _ (by unfold denB; rw [if_neg h1, if_pos h2, decide_eq_true h3])
      · rw [if_neg h3, if_neg (by omega)]; exact J2 _ (by unfold denB; rw [if_neg h1, if_pos h2, decide_eq_false h3])
    · rw [if_neg h2]
      by_cases h3 : b.f2 = 3
      · rw [if_pos h3]; exact J2 _ (by unfold denB; rw [if_neg h1, if_neg h2, if_pos h3])
      · rw [if_neg h3]; exact J2 _ (by unfold denB; rw [if_neg h1, if_neg h2, if_neg h3])
theorem res_j0 (l : List S28) (b : S28) (a d t : Int) (hl : l.length ≤ 100) (hs : ∀ x ∈ l, x.f6.size ≤ 100) (hb : b.f6.size ≤ 100) (k : Nat) (hk : 600 < k) : corebanklaw23_BlockingReserves.j0 k l false b.f0 b.f1 b.f2 b.f3 b.f4 b.f5 b.f6 a d t = some true := by
  obtain ⟨k, rfl, hk2⟩ := succ_of hk
  have hv := live_ge k (by omega)
  simp only [corebanklaw23_BlockingReserves.j0]
  rw [if_neg (by simp), place_eq l b hl hs hb k (by omega), rplace_eq l b hl hs hb k (by omega)]
  simp only [Option.bind_some]
  rcases place_all l b with ⟨h, h64⟩ | ⟨h1, h2⟩
  · rw [h]
    dsimp only
    rw [if_pos rfl]
    have J1 : ∀ x : Bool, x = actB a d b → corebanklaw23_BlockingReserves.j1 k l (l ++ [b]) x b.f0 b.f1 b.f2 b.f3 b.f4 b.f5 b.f6 a d t = some true := fun x hx => by subst hx; exact res_j1 l b a d t h64 k (by omega)
    by_cases h1 : b.f1 = a
    · rw [if_pos h1]
      by_cases h2 : b.f4 ≤ d
      · rw [if_pos h2]; exact J1 _ (by unfold actB; rw [decide_eq_decide]; exact ⟨fun h => ⟨h1, h2, h⟩, fun h => h.2.2⟩)
      · rw [if_neg h2]; exact J1 _ (by unfold actB; rw [decide_eq_false (fun h => h2 h.2.1)])
    · rw [if_neg h1]; exact J1 _ (by unfold actB; rw [decide_eq_false (fun h => h1 h.1)])
  · rw [if_neg h2, h1, if_pos (by simp), if_pos trivial, hv]
    rfl
theorem reserves_true (l : List S28) (b : S28) (a d t : Int) (hl : l.length ≤ 9223372036854775807) : ∃ k, corebanklaw23_BlockingReserves.f k l b.f0 b.f1 b.f2 b.f3 b.f4 b.f5 b.f6 a d t = some true := by
  have hj : ∀ k, 600 < k → corebanklaw23_BlockingReserves.j0 k l true b.f0 b.f1 b.f2 b.f3 b.f4 b.f5 b.f6 a d t = some true := fun k hk => by
    obtain ⟨k, rfl, hk2⟩ := succ_of hk
    simp only [corebanklaw23_BlockingReserves.j0, if_true, live_ge k (by omega), Option.bind_some]
  obtain ⟨K, hK⟩ : ∃ K : Nat, 1000 < K := ⟨1001, by omega⟩
  refine ⟨K, ?_⟩
  unfold corebanklaw23_BlockingReserves.f
  by_cases h : (l.length : Int) > 100
  · rw [if_pos h]; exact hj K (by omega)
  · rw [if_neg h, short_eq l hl _ (by omega)]
    simp only [Option.bind_some]
    cases hs : shortB l with
    | false => rw [if_neg (by simp)]; exact hj K (by omega)
    | true =>
      rw [if_pos rfl]
      by_cases hb : (b.f6.size : Int) > 100
      · rw [if_pos hb]; exact hj K (by omega)
      · rw [if_neg hb, rcheck_eq l (short_all hs) _ (by omega)]
        simp only [Option.bind_some]
        by_cases hc : checkL l = 0
        · rw [hc]; exact res_j0 l b a d t (by omega) (short_all hs) (by omega) K (by omega)
        · rw [show (checkL l != 0) = true from by simpa using hc]; exact hj K (by omega)
theorem blockingReserves_calls (A0 : Option Addr) (c0 : Nat) (l0 : List S28) (x : S28) (y : Int × Int × Int) (w : World) (hr0 : Kd.C k28 w A0 l0.length l0) (hc0 : l0.length ≤ c0) :
    Calls Try.prog 7 #[.slice A0 l0.length c0, .agg #[.int .i64 x.f0, .int .i64 x.f1, .int .i64 x.f2, .int .i64 x.f3, .int .i64 x.f4, .int .i64 x.f5, .string x.f6], .agg #[.int .i64 y.1, .int .i64 y.2.1, .int .i64 y.2.2]] w fun e w' => e = .returned (.bool true) ∧ Below w.heap.size w w' := by
  obtain ⟨k, hk⟩ := reserves_true l0 x y.1 y.2.1 y.2.2 hr0.2.1
  exact corebanklaw23_BlockingReserves.calls k A0 c0 l0 x.f0 x.f1 x.f2 x.f3 x.f4 x.f5 x.f6 y.1 y.2.1 y.2.2 true w hr0 hc0 hk
end Go.Proofs.Ytlgdcimaapkfbaa.Q
