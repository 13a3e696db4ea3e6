-- Written for this claim by a program: the kit's print, turned so that it takes functions that are proved by hand.
import Derived.Test.YtafkjallmbokaaaQx0
import Derived.Test.YtafkjallmbokaaaHClone
import Derived.Test.YtafkjallmbokaaaHDelete
import Derived.Test.YtafkjallmbokaaaHIndex
namespace Go.Proofs.Ytafkjallmbokaaa.Q
open Go.RowKit Go.Proofs.YtafkjallmbokaaaW.PrintWords Go.Proofs.YtafkjallmbokaaaW.PrintLast Go.Proofs.YtafkjallmbokaaaW.PrintMore
attribute [local go_sem] max2_int min2_int max_two min_two max_three min_three max_four min_four   -- for this text's walks alone
set_option linter.unusedVariables false
set_option linter.unusedSimpArgs false

/-! ### hold_Use: function 18 -/
def hold_Use.j0 : Nat → List (S26) → Int → Int → Bool → Option ((List (S26)) × Int)
  | 0, _, _, _, _ => none
  | k + 1, x0, x2, x10, x18 => if x18 = true then (some (([] : List (S26)), 23)) else (if x2 < 1 then (some (([] : List (S26)), 1)) else (if 0 ≤ x10 then (if x10 < (x0.length : Int) then (if x2 > ((rd_T26 x0 x10).f2) then (some (([] : List (S26)), 18)) else ((api_Hold_39.f x0).bind fun t114 => (if x10 < (t114.length : Int) then ((some (t114.set (x10 : Int).toNat (⟨(rd_T26 t114 x10).f0, (rd_T26 t114 x10).f1, wrap64 (((rd_T26 t114 x10).f2) - x2), (rd_T26 t114 x10).f3, (rd_T26 t114 x10).f4, (rd_T26 t114 x10).f5⟩ : S26) : List (S26))).bind fun y118 => (if ((rd_T26 y118 x10).f2) = 0 then ((api_Hold_40.f y118 x10 (wrap64 (x10 + 1))).bind fun t120 => (some (t120, 0))) else (some (y118, 0)))) else (none)))) else (none)) else (none)))
def hold_Use.f (k : Nat) (l0 : List (S26)) (a1 : Int) (a2 : Int) (a3 : Int) : Option ((List (S26)) × Int) := (hold_index.f l0 a1).bind fun t110 => (if t110 < 0 then (some (([] : List (S26)), 11)) else (if 0 ≤ t110 then (if t110 < (l0.length : Int) then (if a3 < ((rd_T26 l0 t110).f3) then (hold_Use.j0 k l0 a2 t110 true) else (hold_Use.j0 k l0 a2 t110 (decide (a3 > ((rd_T26 l0 t110).f4))))) else (none)) else (none)))
theorem hold_Use.mono_l : ∀ k, (∀ y0 y1 y2 y3, LeO (hold_Use.j0 k y0 y1 y2 y3) (hold_Use.j0 (k + 1) y0 y1 y2 y3))
  | 0 => fun _ _ _ _ r h => by simp [hold_Use.j0] at h
  | k + 1 => by
    have ih0 := hold_Use.mono_l k
    · intro y0 y1 y2 y3
      unfold hold_Use.j0
      repeat' first
      | (with_reducible exact ih0 _ _ _ _)
      | (with_reducible exact LeO.refl _)
      | (with_reducible exact LeO.none _)
      | (with_reducible refine LeO.ite ?_ ?_)
      | (with_reducible refine LeO.bind ?_ (fun _ => ?_))
      | exact ih0 _ _ _ _
      | exact LeO.none _
      | refine LeO.ite ?_ ?_
      | refine LeO.bind ?_ (fun _ => ?_)
theorem hold_Use.mono : ∀ a0 a1 a2 a3 k, LeO (hold_Use.f k a0 a1 a2 a3) (hold_Use.f (k + 1) a0 a1 a2 a3) := by
  intro a0 a1 a2 a3 k
  have ih0 := hold_Use.mono_l k
  unfold hold_Use.f
  repeat' first
      | (with_reducible exact ih0 _ _ _ _)
      | (with_reducible exact LeO.refl _)
      | (with_reducible exact LeO.none _)
      | (with_reducible refine LeO.ite ?_ ?_)
      | (with_reducible refine LeO.bind ?_ (fun _ => ?_))
      | exact ih0 _ _ _ _
      | exact LeO.none _
      | refine LeO.ite ?_ ?_
      | refine LeO.bind ?_ (fun _ => ?_)
set_option maxHeartbeats 8000000 in
set_option maxRecDepth 100000 in
theorem hold_Use.calls (k : Nat) (A0 : Option Addr) (c0 : Nat) (l0 : List (S26)) (a1 : Int) (a2 : Int) (a3 : Int) (r1 : List (S26)) (r2 : Int) (w : World) (hr0 : Kd.C k26 w A0 l0.length l0) (hc0 : l0.length ≤ c0) (h : hold_Use.f k l0 a1 a2 a3 = some (r1, r2)) :
    Calls Try.prog 18 #[.slice A0 l0.length c0, .int .i64 a1, .int .i64 a2, .int .i64 a3] w fun e w' => ∃ v0_ : Value, e = .returned (.tuple #[v0_, .int .i64 r2]) ∧ Kd.R k26 26 w' w.heap.size (fun _ => True) v0_ r1 ∧ Below w.heap.size w w' := by
  have HR0 := Aside0.mk hr0
  have HC0 := Aside0.mk hc0
  clear hr0 hc0
  have HB := Aside0.mk (Below.refl w.heap.size w)
  have H : ((hold_index.f l0 a1).bind fun t110 => (if t110 < 0 then (some (([] : List (S26)), 11)) else (if 0 ≤ t110 then (if t110 < (l0.length : Int) then (if a3 < ((rd_T26 l0 t110).f3) then (hold_Use.j0 k l0 a2 t110 true) else (hold_Use.j0 k l0 a2 t110 (decide (a3 > ((rd_T26 l0 t110).f4))))) else (none)) else (none)))) = some (r1, r2) := h
  clear h
  replace H := Option.bind_eq_some_iff.mp H
  obtain ⟨t110, A50, H⟩ := H
  replace H : (if t110 < 0 then (some (([] : List (S26)), 11)) else (if 0 ≤ t110 then (if t110 < (l0.length : Int) then (if a3 < ((rd_T26 l0 t110).f3) then (hold_Use.j0 k l0 a2 t110 true) else (hold_Use.j0 k l0 a2 t110 (decide (a3 > ((rd_T26 l0 t110).f4))))) else (none)) else (none))) = some (r1, r2) := H
  have A5 := Aside0.mk A50
  clear A50
  by_cases c6 : t110 < 0
  · rw [if_pos c6] at H
    have c6b0 : decide (t110 < 0) = true := decide_eq_true c6
    clear c6
    simp only [Option.some.injEq, Prod.mk.injEq] at H
    obtain ⟨rfl, rfl⟩ := H
    go_enter Try.func18, Try.ntmps18
    go_wp2_with (first | ((with_reducible refine gate_callee (f := 24) rfl ?_); refine goesL_ (some 14) rfl rfl Try.func24 (by kernel_rfl) rfl #[.slice A0 l0.length c0, .int .i64 a1] rfl (by (try simp only [List.map_toArray, List.map_cons, List.map_nil]); first | done | rfl | (simp only [List.length_drop, List.length_take]; rfl)) ?_; (with_reducible refine (hold_index.calls _ _ l0 a1 t110 _ ?side1 ?side2 A5.out).mono ?_); (case side1 => repeat (first | exact HR0.out | (with_reducible refine Kd.C_alloc ?_ _) | (with_reducible refine Kd.C_drewN ?_ _) | (with_reducible refine Kd.C_drew ?_))); (case side2 => exact HC0.out); rintro e w7 ⟨rfl, hb⟩; refine ⟨_, rfl, ?_⟩; have n0_ := Aside0.mk (below_step (by repeat (first | (with_reducible first | exact HB.out | apply below_alloc | apply pw_below_drewN | apply below_drew1) | exact HB.out)) hb); clear HB; have HB := n0_; clear n0_; (try clear hb); (try clear hb2); (try clear hk); (try clear hi)))
    go_ret2
    exact ⟨_, by first | rfl | (simp [errW_none, errW_some] <;> rfl) | (simp [*, errW_none, errW_some] <;> rfl), by first | exact Kd.R_nil _ _ _ _ _ | exact Kd.N_nil _ _ _ _ _ | exact Kd.V_nil _ _ _ _ _ | exact Kd.Q_nil _ _ _ _ _ | exact Kd.S_nil _ _ _ _ _, by repeat (first | (with_reducible first | exact HB.out | apply below_alloc | apply pw_below_drewN | apply below_drew1) | exact HB.out)⟩
  · rw [if_neg c6] at H
    have c6b0 : decide (t110 < 0) = false := decide_eq_false c6
    clear c6
    have HC8 := Aside0.mk H
    clear H
    go_enter Try.func18, Try.ntmps18
    go_upto_region 4 with (first | ((with_reducible refine gate_callee (f := 24) rfl ?_); refine goesL_ (some 14) rfl rfl Try.func24 (by kernel_rfl) rfl #[.slice A0 l0.length c0, .int .i64 a1] rfl (by (try simp only [List.map_toArray, List.map_cons, List.map_nil]); first | done | rfl | (simp only [List.length_drop, List.length_take]; rfl)) ?_; (with_reducible refine (hold_index.calls _ _ l0 a1 t110 _ ?side1 ?side2 A5.out).mono ?_); (case side1 => repeat (first | exact HR0.out | (with_reducible refine Kd.C_alloc ?_ _) | (with_reducible refine Kd.C_drewN ?_ _) | (with_reducible refine Kd.C_drew ?_))); (case side2 => exact HC0.out); rintro e w9 ⟨rfl, hb⟩; refine ⟨_, rfl, ?_⟩; have n0_ := Aside0.mk (below_step (by repeat (first | (with_reducible first | exact HB.out | apply below_alloc | apply pw_below_drewN | apply below_drew1) | exact HB.out)) hb); clear HB; have HB := n0_; clear n0_; (try clear hb); (try clear hb2); (try clear hk); (try clear hi)))
    (try simp only [Act.put, List.setIfInBounds_toArray, List.set_cons_zero, List.set_cons_succ])
    go_cut [18] (fun v18 wc => ∃ (kq : Nat) (x18_7 : Bool), v18 = .bool x18_7 ∧ Aside0 (hold_Use.j0 kq l0 a2 t110 x18_7 = some (r1, r2)) ∧ Aside0 (kq ≤ k) ∧ Aside0 (Below w.heap.size w wc))
    case first =>
      have H := HC8.out
      clear HC8
      by_cases c10 : 0 ≤ t110
      · rw [if_pos c10] at H
        have c10b0 : decide (0 ≤ t110) = true := decide_eq_true c10
        clear c10
        (first | rw [c10b0] | (simp only [i64_w, i32_w]; rw [c10b0]) | skip)
        by_cases c11 : t110 < (l0.length : Int)
        · rw [if_pos c11] at H
          have c11b0 : decide (t110 < (l0.length : Int)) = true := decide_eq_true c11
          clear c11
          by_cases c12 : a3 < ((rd_T26 l0 t110).f3)
          · rw [if_pos c12] at H
            have c12b0 : decide (a3 < ((rd_T26 l0 t110).f3)) = true := decide_eq_true c12
            clear c12
            have H' := Aside0.mk H
            clear H
            have p111 : 0 ≤ (t110 : Int) := of_decide_eq_true (by first | (with_reducible assumption) | assumption)
            have q111 : t110 < (l0.length : Int) := of_decide_eq_true (by first | (with_reducible assumption) | assumption)
            obtain ⟨ad111, e111, hx111_0, hx111_1, hx111_2, hx111_3, hx111_4, hx111_5⟩ := at_T26 HR0.out t110 p111 q111
            cases e111
            replace hx111_0 := (HB.out.cell (World.block_lt_of_cell? w _ hx111_0)).trans hx111_0
            replace hx111_1 := (HB.out.cell (World.block_lt_of_cell? w _ hx111_1)).trans hx111_1
            replace hx111_2 := (HB.out.cell (World.block_lt_of_cell? w _ hx111_2)).trans hx111_2
            replace hx111_3 := (HB.out.cell (World.block_lt_of_cell? w _ hx111_3)).trans hx111_3
            replace hx111_4 := (HB.out.cell (World.block_lt_of_cell? w _ hx111_4)).trans hx111_4
            replace hx111_5 := (HB.out.cell (World.block_lt_of_cell? w _ hx111_5)).trans hx111_5
            replace p111 := eq_true p111
            replace q111 := eq_true q111
            go_wp2
            go_meet
            case rel => exact ⟨_, (true), (by first | rfl | (simp; done) | (simp [*]; done)), H', ⟨by first | omega | exact Nat.le_refl _⟩, ⟨by repeat (first | (with_reducible first | exact HB.out | apply below_alloc | apply pw_below_drewN | apply below_drew1) | exact HB.out)⟩⟩
          · rw [if_neg c12] at H
            have c12b0 : decide (a3 < ((rd_T26 l0 t110).f3)) = false := decide_eq_false c12
            clear c12
            have H' := Aside0.mk H
            clear H
            have p111 : 0 ≤ (t110 : Int) := of_decide_eq_true (by first | (with_reducible assumption) | assumption)
            have q111 : t110 < (l0.length : Int) := of_decide_eq_true (by first | (with_reducible assumption) | assumption)
            obtain ⟨ad111, e111, hx111_0, hx111_1, hx111_2, hx111_3, hx111_4, hx111_5⟩ := at_T26 HR0.out t110 p111 q111
            cases e111
            replace hx111_0 := (HB.out.cell (World.block_lt_of_cell? w _ hx111_0)).trans hx111_0
            replace hx111_1 := (HB.out.cell (World.block_lt_of_cell? w _ hx111_1)).trans hx111_1
            replace hx111_2 := (HB.out.cell (World.block_lt_of_cell? w _ hx111_2)).trans hx111_2
            replace hx111_3 := (HB.out.cell (World.block_lt_of_cell? w _ hx111_3)).trans hx111_3
            replace hx111_4 := (HB.out.cell (World.block_lt_of_cell? w _ hx111_4)).trans hx111_4
            replace hx111_5 := (HB.out.cell (World.block_lt_of_cell? w _ hx111_5)).trans hx111_5
            replace p111 := eq_true p111
            replace q111 := eq_true q111
            have p112 : 0 ≤ (t110 : Int) := of_decide_eq_true (by first | (with_reducible assumption) | assumption)
            have q112 : t110 < (l0.length : Int) := of_decide_eq_true (by first | (with_reducible assumption) | assumption)
            obtain ⟨ad112, e112, hx112_0, hx112_1, hx112_2, hx112_3, hx112_4, hx112_5⟩ := at_T26 HR0.out t110 p112 q112
            obtain rfl : ad111 = ad112 := (by injection e112)
            replace hx112_0 := (HB.out.cell (World.block_lt_of_cell? w _ hx112_0)).trans hx112_0
            replace hx112_1 := (HB.out.cell (World.block_lt_of_cell? w _ hx112_1)).trans hx112_1
            replace hx112_2 := (HB.out.cell (World.block_lt_of_cell? w _ hx112_2)).trans hx112_2
            replace hx112_3 := (HB.out.cell (World.block_lt_of_cell? w _ hx112_3)).trans hx112_3
            replace hx112_4 := (HB.out.cell (World.block_lt_of_cell? w _ hx112_4)).trans hx112_4
            replace hx112_5 := (HB.out.cell (World.block_lt_of_cell? w _ hx112_5)).trans hx112_5
            replace p112 := eq_true p112
            replace q112 := eq_true q112
            go_wp2
            go_meet
            case rel => exact ⟨_, (decide (a3 > ((rd_T26 l0 t110).f4))), (by first | rfl | (simp; done) | (simp [*]; done)), H', ⟨by first | omega | exact Nat.le_refl _⟩, ⟨by repeat (first | (with_reducible first | exact HB.out | apply below_alloc | apply pw_below_drewN | apply below_drew1) | exact HB.out)⟩⟩
        · rw [if_neg c11] at H
          exact absurd H (by simp)
      · rw [if_neg c10] at H
        exact absurd H (by simp)
    case rest =>
      clear HC8
      try clear c1
      try clear p1
      try clear q1
      try clear hx1
      try clear c2
      try clear p2
      try clear c6
      try clear c6b0
      try clear c10
      try clear c10b0
      try clear c11
      try clear c11b0
      try clear p11
      try clear q11
      try clear hx11
      try clear c12
      try clear c12b0
      try clear hx111_0
      try clear hx111_1
      try clear hx111_2
      try clear hx111_3
      try clear hx111_4
      try clear hx111_5
      try clear hx112_0
      try clear hx112_1
      try clear hx112_2
      try clear hx112_3
      try clear hx112_4
      try clear hx112_5
      try clear p111
      try clear p112
      try clear q111
      try clear q112
      obtain ⟨kq, x18_7, rfl, HA, HJ7, HB⟩ := hcut
      cases kq with
      | zero => exact absurd HA.out (by simp [hold_Use.j0])
      | succ kj7 =>
        have H := HA.out
        clear HA
        simp only [hold_Use.j0] at H
        by_cases c13 : x18_7 = true
        · subst c13
          have H1 : (some (([] : List (S26)), 23)) = some (r1, r2) := by rw [if_pos rfl] at H; exact H
          clear H
          have H := H1
          clear H1
          simp only [Option.some.injEq, Prod.mk.injEq] at H
          obtain ⟨rfl, rfl⟩ := H
          go_wp2
          go_ret2
          exact ⟨_, by first | rfl | (simp [errW_none, errW_some] <;> rfl) | (simp [*, errW_none, errW_some] <;> rfl), by first | exact Kd.R_nil _ _ _ _ _ | exact Kd.N_nil _ _ _ _ _ | exact Kd.V_nil _ _ _ _ _ | exact Kd.Q_nil _ _ _ _ _ | exact Kd.S_nil _ _ _ _ _, by repeat (first | (with_reducible first | exact HB.out | apply below_alloc | apply pw_below_drewN | apply below_drew1) | exact HB.out)⟩
        · replace c13 := Bool.eq_false_iff.mpr c13
          subst c13
          have H1 : (if a2 < 1 then (some (([] : List (S26)), 1)) else (if 0 ≤ t110 then (if t110 < (l0.length : Int) then (if a2 > ((rd_T26 l0 t110).f2) then (some (([] : List (S26)), 18)) else ((api_Hold_39.f l0).bind fun t114 => (if t110 < (t114.length : Int) then ((some (t114.set (t110 : Int).toNat (⟨(rd_T26 t114 t110).f0, (rd_T26 t114 t110).f1, wrap64 (((rd_T26 t114 t110).f2) - a2), (rd_T26 t114 t110).f3, (rd_T26 t114 t110).f4, (rd_T26 t114 t110).f5⟩ : S26) : List (S26))).bind fun y118 => (if ((rd_T26 y118 t110).f2) = 0 then ((api_Hold_40.f y118 t110 (wrap64 (t110 + 1))).bind fun t120 => (some (t120, 0))) else (some (y118, 0)))) else (none)))) else (none)) else (none))) = some (r1, r2) := by rw [if_neg (show ¬ (false = true) by decide)] at H; exact H
          clear H
          have H := H1
          clear H1
          by_cases c14 : a2 < 1
          · rw [if_pos c14] at H
            have c14b0 : decide (a2 < 1) = true := decide_eq_true c14
            clear c14
            simp only [Option.some.injEq, Prod.mk.injEq] at H
            obtain ⟨rfl, rfl⟩ := H
            go_wp2
            go_ret2
            exact ⟨_, by first | rfl | (simp [errW_none, errW_some] <;> rfl) | (simp [*, errW_none, errW_some] <;> rfl), by first | exact Kd.R_nil _ _ _ _ _ | exact Kd.N_nil _ _ _ _ _ | exact Kd.V_nil _ _ _ _ _ | exact Kd.Q_nil _ _ _ _ _ | exact Kd.S_nil _ _ _ _ _, by repeat (first | (with_reducible first | exact HB.out | apply below_alloc | apply pw_below_drewN | apply below_drew1) | exact HB.out)⟩
          · rw [if_neg c14] at H
            have c14b0 : decide (a2 < 1) = false := decide_eq_false c14
            clear c14
            by_cases c15 : 0 ≤ t110
            · rw [if_pos c15] at H
              have c15b0 : decide (0 ≤ t110) = true := decide_eq_true c15
              clear c15
              by_cases c16 : t110 < (l0.length : Int)
              · rw [if_pos c16] at H
                have c16b0 : decide (t110 < (l0.length : Int)) = true := decide_eq_true c16
                clear c16
                by_cases c17 : a2 > ((rd_T26 l0 t110).f2)
                · rw [if_pos c17] at H
                  have c17b0 : decide (((rd_T26 l0 t110).f2) < a2) = true := decide_eq_true c17
                  clear c17
                  simp only [Option.some.injEq, Prod.mk.injEq] at H
                  obtain ⟨rfl, rfl⟩ := H
                  have p113 : 0 ≤ (t110 : Int) := of_decide_eq_true (by first | (with_reducible assumption) | assumption)
                  have q113 : t110 < (l0.length : Int) := of_decide_eq_true (by first | (with_reducible assumption) | assumption)
                  obtain ⟨ad113, e113, hx113_0, hx113_1, hx113_2, hx113_3, hx113_4, hx113_5⟩ := at_T26 HR0.out t110 p113 q113
                  cases e113
                  replace hx113_0 := (HB.out.cell (World.block_lt_of_cell? w _ hx113_0)).trans hx113_0
                  replace hx113_1 := (HB.out.cell (World.block_lt_of_cell? w _ hx113_1)).trans hx113_1
                  replace hx113_2 := (HB.out.cell (World.block_lt_of_cell? w _ hx113_2)).trans hx113_2
                  replace hx113_3 := (HB.out.cell (World.block_lt_of_cell? w _ hx113_3)).trans hx113_3
                  replace hx113_4 := (HB.out.cell (World.block_lt_of_cell? w _ hx113_4)).trans hx113_4
                  replace hx113_5 := (HB.out.cell (World.block_lt_of_cell? w _ hx113_5)).trans hx113_5
                  replace p113 := eq_true p113
                  replace q113 := eq_true q113
                  go_wp2
                  go_ret2
                  exact ⟨_, by first | rfl | (simp [errW_none, errW_some] <;> rfl) | (simp [*, errW_none, errW_some] <;> rfl), by first | exact Kd.R_nil _ _ _ _ _ | exact Kd.N_nil _ _ _ _ _ | exact Kd.V_nil _ _ _ _ _ | exact Kd.Q_nil _ _ _ _ _ | exact Kd.S_nil _ _ _ _ _, by repeat (first | (with_reducible first | exact HB.out | apply below_alloc | apply pw_below_drewN | apply below_drew1) | exact HB.out)⟩
                · rw [if_neg c17] at H
                  have c17b0 : decide (((rd_T26 l0 t110).f2) < a2) = false := decide_eq_false c17
                  clear c17
                  replace H := Option.bind_eq_some_iff.mp H
                  obtain ⟨t114, A180, H⟩ := H
                  replace H : (if t110 < (t114.length : Int) then ((some (t114.set (t110 : Int).toNat (⟨(rd_T26 t114 t110).f0, (rd_T26 t114 t110).f1, wrap64 (((rd_T26 t114 t110).f2) - a2), (rd_T26 t114 t110).f3, (rd_T26 t114 t110).f4, (rd_T26 t114 t110).f5⟩ : S26) : List (S26))).bind fun y118 => (if ((rd_T26 y118 t110).f2) = 0 then ((api_Hold_40.f y118 t110 (wrap64 (t110 + 1))).bind fun t120 => (some (t120, 0))) else (some (y118, 0)))) else (none)) = some (r1, r2) := H
                  have A18 := Aside0.mk A180
                  clear A180
                  by_cases c19 : t110 < (t114.length : Int)
                  · rw [if_pos c19] at H
                    have c19b0 : decide (t110 < (t114.length : Int)) = true := decide_eq_true c19
                    clear c19
                    obtain ⟨y118, hy118⟩ : ∃ y_ : List (S26), y_ = (t114.set (t110 : Int).toNat (⟨(rd_T26 t114 t110).f0, (rd_T26 t114 t110).f1, wrap64 (((rd_T26 t114 t110).f2) - a2), (rd_T26 t114 t110).f3, (rd_T26 t114 t110).f4, (rd_T26 t114 t110).f5⟩ : S26)) := ⟨_, rfl⟩
                    replace H : (if ((rd_T26 y118 t110).f2) = 0 then ((api_Hold_40.f y118 t110 (wrap64 (t110 + 1))).bind fun t120 => (some (t120, 0))) else (some (y118, 0))) = some (r1, r2) := by first | (rw [hy118]; with_reducible exact H) | (have H2_ := (Option.bind_some _ _).symm.trans H; rw [hy118]; with_reducible exact H2_) | (have H2_ := (Option.bind_some _ _).symm.trans H; with_reducible exact H2_) | with_reducible exact H | (rw [hy118]; exact H) | exact H
                    have Ny118 := Aside0.mk hy118
                    clear hy118
                    by_cases c21 : ((rd_T26 y118 t110).f2) = 0
                    · rw [if_pos c21] at H
                      have c21b0 : (((rd_T26 y118 t110).f2) == 0) = true := beq_iff_eq.mpr c21
                      have c21b1 : (((rd_T26 y118 t110).f2) != 0) = false := bne_eq_false_iff_eq.mpr c21
                      clear c21
                      replace H := Option.bind_eq_some_iff.mp H
                      obtain ⟨t120, A220, H⟩ := H
                      replace H : (some (t120, 0)) = some (r1, r2) := H
                      have A22 := Aside0.mk A220
                      clear A220
                      simp only [Option.some.injEq, Prod.mk.injEq] at H
                      obtain ⟨rfl, rfl⟩ := H
                      have p113 : 0 ≤ (t110 : Int) := of_decide_eq_true (by first | (with_reducible assumption) | assumption)
                      have q113 : t110 < (l0.length : Int) := of_decide_eq_true (by first | (with_reducible assumption) | assumption)
                      obtain ⟨ad113, e113, hx113_0, hx113_1, hx113_2, hx113_3, hx113_4, hx113_5⟩ := at_T26 HR0.out t110 p113 q113
                      cases e113
                      replace hx113_0 := (HB.out.cell (World.block_lt_of_cell? w _ hx113_0)).trans hx113_0
                      replace hx113_1 := (HB.out.cell (World.block_lt_of_cell? w _ hx113_1)).trans hx113_1
                      replace hx113_2 := (HB.out.cell (World.block_lt_of_cell? w _ hx113_2)).trans hx113_2
                      replace hx113_3 := (HB.out.cell (World.block_lt_of_cell? w _ hx113_3)).trans hx113_3
                      replace hx113_4 := (HB.out.cell (World.block_lt_of_cell? w _ hx113_4)).trans hx113_4
                      replace hx113_5 := (HB.out.cell (World.block_lt_of_cell? w _ hx113_5)).trans hx113_5
                      replace p113 := eq_true p113
                      replace q113 := eq_true q113
                      go_wp2_with (first | ((with_reducible refine gate_callee (f := 39) rfl ?_); refine goesL_ (some 47) rfl rfl Try.func39 (by kernel_rfl) rfl #[.slice (some ad113) l0.length c0] rfl (by (try simp only [List.map_toArray, List.map_cons, List.map_nil]); first | done | rfl | (simp only [List.length_drop, List.length_take]; rfl)) ?_; (with_reducible refine (api_Hold_39.calls _ _ l0 t114 _ ?side1 ?side2 A18.out).mono ?_); (case side1 => repeat (first | exact (Kd.C_below HR0.out HB.out) | (with_reducible refine Kd.C_alloc ?_ _) | (with_reducible refine Kd.C_drewN ?_ _) | (with_reducible refine Kd.C_drew ?_))); (case side2 => exact HC0.out); rintro e w23 ⟨v115, rfl, ho0, hb⟩; refine ⟨_, rfl, ?_⟩; have n0_ := Aside0.mk (Kd.R_lower ho0 (below_size (by repeat (first | (with_reducible first | exact HB.out | apply below_alloc | apply pw_below_drewN | apply below_drew1) | exact HB.out)))); have n1_ := Aside0.mk (below_step (by repeat (first | (with_reducible first | exact HB.out | apply below_alloc | apply pw_below_drewN | apply below_drew1) | exact HB.out)) hb); clear HB; have HO116 := n0_; have HB := n1_; clear n0_ n1_; (try clear hb); (try clear hb2); (try clear hk); (try clear hi); (try clear ho0); obtain ⟨Ao24, co24, eo24⟩ := Kd.R_slice HO116.out; subst eo24; have p117 : 0 ≤ (t110 : Int) := of_decide_eq_true (by first | (with_reducible assumption) | assumption); have q117 : t110 < (t114.length : Int) := of_decide_eq_true (by first | (with_reducible assumption) | assumption); obtain ⟨ad117, e117, hx117_0, hx117_1, hx117_2, hx117_3, hx117_4, hx117_5⟩ := at_T26 (Kd.R_reads' HO116.out).2.2 t110 p117 q117; cases e117; replace p117 := eq_true p117; replace q117 := eq_true q117; have p20 : 0 ≤ (t110 : Int) := of_decide_eq_true (by first | (with_reducible assumption) | assumption); have q20 : (t110 : Int) < ((t114.length : Int) : Int) := of_decide_eq_true (by first | (with_reducible assumption) | assumption); obtain ⟨go20, co20, eo20, gb20, gl20, cl20, HG20⟩ := Kd.R_form HO116.out (by omega); (first | cases eo20 | (injection eo20 with ea_ en_ ec_; (first | subst ea_ | (injection ea_ with ea_; subst ea_)); subst ec_; clear en_)); have GB20 := Aside0.mk gb20; have GG20 := Aside0.mk HG20; clear gb20 gl20 HG20; (first | simp only [add_plain] at hx117_0 | skip); (first | simp only [add_plain] at hx117_1 | skip); (first | simp only [add_plain] at hx117_2 | skip); (first | simp only [add_plain] at hx117_3 | skip); (first | simp only [add_plain] at hx117_4 | skip); (first | simp only [add_plain] at hx117_5 | skip); obtain ⟨ce20, hcl20, hM20, hcc20, hfr20⟩ := Kd.R_elem HO116.out z26 (t110 : Int) p20 q20; obtain rfl := k26_openM hM20; have hx20_0 : w23.cell? ⟨go20, (t110 : Int).toNat * 6, none⟩ = some (.int .i64 ((rd_T26 t114 t110).f0)) := hcc20 0 _ rfl; have hx20_1 : w23.cell? ⟨go20, (t110 : Int).toNat * 6 + 1, none⟩ = some (.int .i64 ((rd_T26 t114 t110).f1)) := hcc20 1 _ rfl; have hx20_2 : w23.cell? ⟨go20, (t110 : Int).toNat * 6 + 2, none⟩ = some (.int .i64 ((rd_T26 t114 t110).f2)) := hcc20 2 _ rfl; have hx20_3 : w23.cell? ⟨go20, (t110 : Int).toNat * 6 + 3, none⟩ = some (.int .i64 ((rd_T26 t114 t110).f3)) := hcc20 3 _ rfl; have hx20_4 : w23.cell? ⟨go20, (t110 : Int).toNat * 6 + 4, none⟩ = some (.int .i64 ((rd_T26 t114 t110).f4)) := hcc20 4 _ rfl; have hx20_5 : w23.cell? ⟨go20, (t110 : Int).toNat * 6 + 5, none⟩ = some (.string ((rd_T26 t114 t110).f5)) := hcc20 5 _ rfl; have hf20_0 : w23.frozen? ⟨go20, (t110 : Int).toNat * 6, none⟩ = false := hfr20 0; have hf20_1 : w23.frozen? ⟨go20, (t110 : Int).toNat * 6 + 1, none⟩ = false := hfr20 1; have hf20_2 : w23.frozen? ⟨go20, (t110 : Int).toNat * 6 + 2, none⟩ = false := hfr20 2; have hf20_3 : w23.frozen? ⟨go20, (t110 : Int).toNat * 6 + 3, none⟩ = false := hfr20 3; have hf20_4 : w23.frozen? ⟨go20, (t110 : Int).toNat * 6 + 4, none⟩ = false := hfr20 4; have hf20_5 : w23.frozen? ⟨go20, (t110 : Int).toNat * 6 + 5, none⟩ = false := hfr20 5; clear hcl20 hcc20 hfr20 hM20; replace p20 := eq_true p20; replace q20 := eq_true q20; have HX25 := Aside0.mk (show Kd.R k26 26 w23 w.heap.size (fun _ => True) (.slice (some ⟨go20, 0, none⟩) t114.length co24) t114 from (by (with_reducible repeat (first | apply Kd.R_alloc | apply Kd.R_drewN | apply Kd.R_drew)); exact HO116.out)); obtain ⟨ce25, hcl25, hM25, hcc25, hfr25⟩ := Kd.R_elem HX25.out z26 (t110 : Int) (of_decide_eq_true (by first | (with_reducible assumption) | assumption)) (by have h_ : (t110 : Int) < ((t114.length : Int) : Int) := of_decide_eq_true (by first | (with_reducible assumption) | assumption); first | exact h_ | (have e_ := (Kd.R_reads' HO116.out).1; omega) | simpa using h_); obtain rfl := k26_openM hM25; have HP25 := Kd.R_seg HX25.out (t110 : Int) (of_decide_eq_true (by first | (with_reducible assumption) | assumption)) (by have h_ : (t110 : Int) < ((t114.length : Int) : Int) := of_decide_eq_true (by first | (with_reducible assumption) | assumption); first | exact h_ | (have e_ := (Kd.R_reads' HO116.out).1; omega) | simpa using h_) (seg := [.int .i64 (wrap64 (((rd_T26 t114 t110).f2) - a2))]) (j := 2) hcl25 hcc25 (show 3 ≤ 6 from by decide) (x' := (⟨(rd_T26 t114 t110).f0, (rd_T26 t114 t110).f1, wrap64 (((rd_T26 t114 t110).f2) - a2), (rd_T26 t114 t110).f3, (rd_T26 t114 t110).f4, (rd_T26 t114 t110).f5⟩ : S26)) (k26_mkM _ _ _ (⟨(rd_T26 t114 t110).f0, (rd_T26 t114 t110).f1, wrap64 (((rd_T26 t114 t110).f2) - a2), (rd_T26 t114 t110).f3, (rd_T26 t114 t110).f4, (rd_T26 t114 t110).f5⟩ : S26) ) (fun _ hk => hk); have hx25_2 := hcc25 2 _ rfl; (try simp only [show (k26).sz = 6 from rfl, Nat.mul_one, Nat.add_zero] at hx25_2); have hf25_2 := hfr25 2; (try simp only [show (k26).sz = 6 from rfl, Nat.mul_one, Nat.add_zero] at hf25_2); clear hcl25 hcc25 hfr25 hM25) | ((with_reducible refine gate_store (t := 3) (p := 56) rfl ?_); refine store_event (t := 3) (p := 56) (v := ?vo_w26) (w1 := (w23.setCell ⟨go20, (t110 : Int).toNat * 6 + 2, none⟩ (.int .i64 (wrap64 (((rd_T26 t114 t110).f2) - a2))))) ?hg ?ho ?hn ?hr ?_; (case ho => rfl); (case hg => rfl); (case hn => rfl); (case hr => first | (go_simp; done) | (go_simp; rfl)); intro w26 hw; have hg : w23.grownBy w26 (some go20) := (by rw [hw]; exact HP25.2); have hp_ : Kd.R k26 26 w26 w.heap.size (fun _ => True) (.slice (some ⟨go20, 0, none⟩) t114.length co24) y118 := (by rw [hw, Ny118.out]; exact HP25.1); clear HP25; have n0_ := Aside0.mk (hp_); have n1_ := Aside0.mk ((by rw [hw]; exact below_set (HB.out) GB20.out : Below w.heap.size w w26)); clear HO116; clear HB; have HO116 := n0_; have HB := n1_; clear n0_ n1_; clear hg hw hp_; have p119 : 0 ≤ (t110 : Int) := of_decide_eq_true (by first | (with_reducible assumption) | assumption); have q119 : t110 < (y118.length : Int) := (by have h_ : (t110 : Int) < ((t114.length : Int) : Int) := of_decide_eq_true (by first | (with_reducible assumption) | assumption); first | (have e_ := (Kd.R_reads' HO116.out).1; omega) | simpa only [Ny118.out, List.length_set] using h_); have ql119 : ((t110 : Int) < ((t114.length : Int) : Int)) = True := eq_true (of_decide_eq_true (by first | (with_reducible assumption) | assumption)); obtain ⟨ad119, e119, hx119_0, hx119_1, hx119_2, hx119_3, hx119_4, hx119_5⟩ := at_T26 (Kd.R_reads' HO116.out).2.2 t110 p119 q119; obtain rfl : (⟨go20, 0, none⟩ : Addr) = ad119 := (by injection e119); (first | simp only [add_plain] at hx119_0 | simp only [add_at] at hx119_0 | simp only [Addr.add, Nat.zero_add] at hx119_0 | skip); (first | simp only [add_plain] at hx119_1 | simp only [add_at] at hx119_1 | simp only [Addr.add, Nat.zero_add] at hx119_1 | skip); (first | simp only [add_plain] at hx119_2 | simp only [add_at] at hx119_2 | simp only [Addr.add, Nat.zero_add] at hx119_2 | skip); (first | simp only [add_plain] at hx119_3 | simp only [add_at] at hx119_3 | simp only [Addr.add, Nat.zero_add] at hx119_3 | skip); (first | simp only [add_plain] at hx119_4 | simp only [add_at] at hx119_4 | simp only [Addr.add, Nat.zero_add] at hx119_4 | skip); (first | simp only [add_plain] at hx119_5 | simp only [add_at] at hx119_5 | simp only [Addr.add, Nat.zero_add] at hx119_5 | skip); replace p119 := eq_true p119; replace q119 := eq_true q119) | ((with_reducible refine gate_callee (f := 40) rfl ?_); refine goesL_ (some 67) rfl rfl Try.func40 (by kernel_rfl) rfl #[.slice (some ⟨go20, 0, none⟩) t114.length co24, .int .i64 t110, .int .i64 (wrap64 (t110 + 1))] rfl (by (try simp only [List.map_toArray, List.map_cons, List.map_nil]); first | done | rfl | (simp only [List.length_drop, List.length_take]; rfl)) ?_; (with_reducible refine (api_Hold_40.calls (fun k_ => some k_ = (.slice (some ⟨go20, 0, none⟩) t114.length co24 : Value).ownBlock) (.slice (some ⟨go20, 0, none⟩) t114.length co24) y118 t110 (wrap64 (t110 + 1)) t120 w _ ?side1 ?side2 A22.out).mono ?_); (case side1 => repeat (first | (with_reducible first | exact HB.out | apply below_alloc | apply pw_below_drewN | apply below_drew1) | exact HB.out)); (case side2 => exact Kd.R_tight rfl HO116.out); rintro e w27 ⟨v121, rfl, ho0, hb, hkp⟩; refine ⟨_, rfl, ?_⟩; have n0_ := Aside0.mk (Kd.R_mono (ok' := fun k_ => True) ho0 (fun k_ hk_ => trivial)); have n1_ := Aside0.mk (hb); clear HB; clear HO116; have HO122 := n0_; have HB := n1_; clear n0_ n1_; (try clear hb); (try clear hkp); (try clear ho0)))
                      go_ret2
                      exact ⟨_, by first | rfl | (simp [errW_none, errW_some] <;> rfl) | (simp [*, errW_none, errW_some] <;> rfl), by (with_reducible repeat (first | apply Kd.R_alloc | apply Kd.R_drewN | apply Kd.R_drew)); exact HO122.out, by repeat (first | (with_reducible first | exact HB.out | apply below_alloc | apply pw_below_drewN | apply below_drew1) | exact HB.out)⟩
                    · rw [if_neg c21] at H
                      have c21b0 : (((rd_T26 y118 t110).f2) == 0) = false := beq_eq_false_iff_ne.mpr c21
                      have c21b1 : (((rd_T26 y118 t110).f2) != 0) = true := bne_iff_ne.mpr c21
                      simp only [Option.some.injEq, Prod.mk.injEq] at H
                      obtain ⟨rfl, rfl⟩ := H
                      have p113 : 0 ≤ (t110 : Int) := of_decide_eq_true (by first | (with_reducible assumption) | assumption)
                      have q113 : t110 < (l0.length : Int) := of_decide_eq_true (by first | (with_reducible assumption) | assumption)
                      obtain ⟨ad113, e113, hx113_0, hx113_1, hx113_2, hx113_3, hx113_4, hx113_5⟩ := at_T26 HR0.out t110 p113 q113
                      cases e113
                      replace hx113_0 := (HB.out.cell (World.block_lt_of_cell? w _ hx113_0)).trans hx113_0
                      replace hx113_1 := (HB.out.cell (World.block_lt_of_cell? w _ hx113_1)).trans hx113_1
                      replace hx113_2 := (HB.out.cell (World.block_lt_of_cell? w _ hx113_2)).trans hx113_2
                      replace hx113_3 := (HB.out.cell (World.block_lt_of_cell? w _ hx113_3)).trans hx113_3
                      replace hx113_4 := (HB.out.cell (World.block_lt_of_cell? w _ hx113_4)).trans hx113_4
                      replace hx113_5 := (HB.out.cell (World.block_lt_of_cell? w _ hx113_5)).trans hx113_5
                      replace p113 := eq_true p113
                      replace q113 := eq_true q113
                      go_wp2_with (first | ((with_reducible refine gate_callee (f := 39) rfl ?_); refine goesL_ (some 47) rfl rfl Try.func39 (by kernel_rfl) rfl #[.slice (some ad113) l0.length c0] rfl (by (try simp only [List.map_toArray, List.map_cons, List.map_nil]); first | done | rfl | (simp only [List.length_drop, List.length_take]; rfl)) ?_; (with_reducible refine (api_Hold_39.calls _ _ l0 t114 _ ?side1 ?side2 A18.out).mono ?_); (case side1 => repeat (first | exact (Kd.C_below HR0.out HB.out) | (with_reducible refine Kd.C_alloc ?_ _) | (with_reducible refine Kd.C_drewN ?_ _) | (with_reducible refine Kd.C_drew ?_))); (case side2 => exact HC0.out); rintro e w28 ⟨v115, rfl, ho0, hb⟩; refine ⟨_, rfl, ?_⟩; have n0_ := Aside0.mk (Kd.R_lower ho0 (below_size (by repeat (first | (with_reducible first | exact HB.out | apply below_alloc | apply pw_below_drewN | apply below_drew1) | exact HB.out)))); have n1_ := Aside0.mk (below_step (by repeat (first | (with_reducible first | exact HB.out | apply below_alloc | apply pw_below_drewN | apply below_drew1) | exact HB.out)) hb); clear HB; have HO116 := n0_; have HB := n1_; clear n0_ n1_; (try clear hb); (try clear hb2); (try clear hk); (try clear hi); (try clear ho0); obtain ⟨Ao29, co29, eo29⟩ := Kd.R_slice HO116.out; subst eo29; have p117 : 0 ≤ (t110 : Int) := of_decide_eq_true (by first | (with_reducible assumption) | assumption); have q117 : t110 < (t114.length : Int) := of_decide_eq_true (by first | (with_reducible assumption) | assumption); obtain ⟨ad117, e117, hx117_0, hx117_1, hx117_2, hx117_3, hx117_4, hx117_5⟩ := at_T26 (Kd.R_reads' HO116.out).2.2 t110 p117 q117; cases e117; replace p117 := eq_true p117; replace q117 := eq_true q117; have p20 : 0 ≤ (t110 : Int) := of_decide_eq_true (by first | (with_reducible assumption) | assumption); have q20 : (t110 : Int) < ((t114.length : Int) : Int) := of_decide_eq_true (by first | (with_reducible assumption) | assumption); obtain ⟨go20, co20, eo20, gb20, gl20, cl20, HG20⟩ := Kd.R_form HO116.out (by omega); (first | cases eo20 | (injection eo20 with ea_ en_ ec_; (first | subst ea_ | (injection ea_ with ea_; subst ea_)); subst ec_; clear en_)); have GB20 := Aside0.mk gb20; have GG20 := Aside0.mk HG20; clear gb20 gl20 HG20; (first | simp only [add_plain] at hx117_0 | skip); (first | simp only [add_plain] at hx117_1 | skip); (first | simp only [add_plain] at hx117_2 | skip); (first | simp only [add_plain] at hx117_3 | skip); (first | simp only [add_plain] at hx117_4 | skip); (first | simp only [add_plain] at hx117_5 | skip); obtain ⟨ce20, hcl20, hM20, hcc20, hfr20⟩ := Kd.R_elem HO116.out z26 (t110 : Int) p20 q20; obtain rfl := k26_openM hM20; have hx20_0 : w28.cell? ⟨go20, (t110 : Int).toNat * 6, none⟩ = some (.int .i64 ((rd_T26 t114 t110).f0)) := hcc20 0 _ rfl; have hx20_1 : w28.cell? ⟨go20, (t110 : Int).toNat * 6 + 1, none⟩ = some (.int .i64 ((rd_T26 t114 t110).f1)) := hcc20 1 _ rfl; have hx20_2 : w28.cell? ⟨go20, (t110 : Int).toNat * 6 + 2, none⟩ = some (.int .i64 ((rd_T26 t114 t110).f2)) := hcc20 2 _ rfl; have hx20_3 : w28.cell? ⟨go20, (t110 : Int).toNat * 6 + 3, none⟩ = some (.int .i64 ((rd_T26 t114 t110).f3)) := hcc20 3 _ rfl; have hx20_4 : w28.cell? ⟨go20, (t110 : Int).toNat * 6 + 4, none⟩ = some (.int .i64 ((rd_T26 t114 t110).f4)) := hcc20 4 _ rfl; have hx20_5 : w28.cell? ⟨go20, (t110 : Int).toNat * 6 + 5, none⟩ = some (.string ((rd_T26 t114 t110).f5)) := hcc20 5 _ rfl; have hf20_0 : w28.frozen? ⟨go20, (t110 : Int).toNat * 6, none⟩ = false := hfr20 0; have hf20_1 : w28.frozen? ⟨go20, (t110 : Int).toNat * 6 + 1, none⟩ = false := hfr20 1; have hf20_2 : w28.frozen? ⟨go20, (t110 : Int).toNat * 6 + 2, none⟩ = false := hfr20 2; have hf20_3 : w28.frozen? ⟨go20, (t110 : Int).toNat * 6 + 3, none⟩ = false := hfr20 3; have hf20_4 : w28.frozen? ⟨go20, (t110 : Int).toNat * 6 + 4, none⟩ = false := hfr20 4; have hf20_5 : w28.frozen? ⟨go20, (t110 : Int).toNat * 6 + 5, none⟩ = false := hfr20 5; clear hcl20 hcc20 hfr20 hM20; replace p20 := eq_true p20; replace q20 := eq_true q20; have HX30 := Aside0.mk (show Kd.R k26 26 w28 w.heap.size (fun _ => True) (.slice (some ⟨go20, 0, none⟩) t114.length co29) t114 from (by (with_reducible repeat (first | apply Kd.R_alloc | apply Kd.R_drewN | apply Kd.R_drew)); exact HO116.out)); obtain ⟨ce30, hcl30, hM30, hcc30, hfr30⟩ := Kd.R_elem HX30.out z26 (t110 : Int) (of_decide_eq_true (by first | (with_reducible assumption) | assumption)) (by have h_ : (t110 : Int) < ((t114.length : Int) : Int) := of_decide_eq_true (by first | (with_reducible assumption) | assumption); first | exact h_ | (have e_ := (Kd.R_reads' HO116.out).1; omega) | simpa using h_); obtain rfl := k26_openM hM30; have HP30 := Kd.R_seg HX30.out (t110 : Int) (of_decide_eq_true (by first | (with_reducible assumption) | assumption)) (by have h_ : (t110 : Int) < ((t114.length : Int) : Int) := of_decide_eq_true (by first | (with_reducible assumption) | assumption); first | exact h_ | (have e_ := (Kd.R_reads' HO116.out).1; omega) | simpa using h_) (seg := [.int .i64 (wrap64 (((rd_T26 t114 t110).f2) - a2))]) (j := 2) hcl30 hcc30 (show 3 ≤ 6 from by decide) (x' := (⟨(rd_T26 t114 t110).f0, (rd_T26 t114 t110).f1, wrap64 (((rd_T26 t114 t110).f2) - a2), (rd_T26 t114 t110).f3, (rd_T26 t114 t110).f4, (rd_T26 t114 t110).f5⟩ : S26)) (k26_mkM _ _ _ (⟨(rd_T26 t114 t110).f0, (rd_T26 t114 t110).f1, wrap64 (((rd_T26 t114 t110).f2) - a2), (rd_T26 t114 t110).f3, (rd_T26 t114 t110).f4, (rd_T26 t114 t110).f5⟩ : S26) ) (fun _ hk => hk); have hx30_2 := hcc30 2 _ rfl; (try simp only [show (k26).sz = 6 from rfl, Nat.mul_one, Nat.add_zero] at hx30_2); have hf30_2 := hfr30 2; (try simp only [show (k26).sz = 6 from rfl, Nat.mul_one, Nat.add_zero] at hf30_2); clear hcl30 hcc30 hfr30 hM30) | ((with_reducible refine gate_store (t := 3) (p := 56) rfl ?_); refine store_event (t := 3) (p := 56) (v := ?vo_w31) (w1 := (w28.setCell ⟨go20, (t110 : Int).toNat * 6 + 2, none⟩ (.int .i64 (wrap64 (((rd_T26 t114 t110).f2) - a2))))) ?hg ?ho ?hn ?hr ?_; (case ho => rfl); (case hg => rfl); (case hn => rfl); (case hr => first | (go_simp; done) | (go_simp; rfl)); intro w31 hw; have hg : w28.grownBy w31 (some go20) := (by rw [hw]; exact HP30.2); have hp_ : Kd.R k26 26 w31 w.heap.size (fun _ => True) (.slice (some ⟨go20, 0, none⟩) t114.length co29) y118 := (by rw [hw, Ny118.out]; exact HP30.1); clear HP30; have n0_ := Aside0.mk (hp_); have n1_ := Aside0.mk ((by rw [hw]; exact below_set (HB.out) GB20.out : Below w.heap.size w w31)); clear HO116; clear HB; have HO116 := n0_; have HB := n1_; clear n0_ n1_; clear hg hw hp_; have p119 : 0 ≤ (t110 : Int) := of_decide_eq_true (by first | (with_reducible assumption) | assumption); have q119 : t110 < (y118.length : Int) := (by have h_ : (t110 : Int) < ((t114.length : Int) : Int) := of_decide_eq_true (by first | (with_reducible assumption) | assumption); first | (have e_ := (Kd.R_reads' HO116.out).1; omega) | simpa only [Ny118.out, List.length_set] using h_); have ql119 : ((t110 : Int) < ((t114.length : Int) : Int)) = True := eq_true (of_decide_eq_true (by first | (with_reducible assumption) | assumption)); obtain ⟨ad119, e119, hx119_0, hx119_1, hx119_2, hx119_3, hx119_4, hx119_5⟩ := at_T26 (Kd.R_reads' HO116.out).2.2 t110 p119 q119; obtain rfl : (⟨go20, 0, none⟩ : Addr) = ad119 := (by injection e119); (first | simp only [add_plain] at hx119_0 | simp only [add_at] at hx119_0 | simp only [Addr.add, Nat.zero_add] at hx119_0 | skip); (first | simp only [add_plain] at hx119_1 | simp only [add_at] at hx119_1 | simp only [Addr.add, Nat.zero_add] at hx119_1 | skip); (first | simp only [add_plain] at hx119_2 | simp only [add_at] at hx119_2 | simp only [Addr.add, Nat.zero_add] at hx119_2 | skip); (first | simp only [add_plain] at hx119_3 | simp only [add_at] at hx119_3 | simp only [Addr.add, Nat.zero_add] at hx119_3 | skip); (first | simp only [add_plain] at hx119_4 | simp only [add_at] at hx119_4 | simp only [Addr.add, Nat.zero_add] at hx119_4 | skip); (first | simp only [add_plain] at hx119_5 | simp only [add_at] at hx119_5 | simp only [Addr.add, Nat.zero_add] at hx119_5 | skip); replace p119 := eq_true p119; replace q119 := eq_true q119))
                      go_ret2
                      exact ⟨_, by first | rfl | (simp [errW_none, errW_some] <;> rfl) | (simp [*, errW_none, errW_some] <;> rfl), by (with_reducible repeat (first | apply Kd.R_alloc | apply Kd.R_drewN | apply Kd.R_drew)); exact HO116.out, by repeat (first | (with_reducible first | exact HB.out | apply below_alloc | apply pw_below_drewN | apply below_drew1) | exact HB.out)⟩
                  · rw [if_neg c19] at H
                    exact absurd H (by simp)
              · rw [if_neg c16] at H
                exact absurd H (by simp)
            · rw [if_neg c15] at H
              exact absurd H (by simp)

end Go.Proofs.Ytafkjallmbokaaa.Q
