-- Written for this claim by a program: the kit's print, turned so that it takes functions that are proved by hand.
import Derived.Test.YtlgdcimaapkfbaaQx0
import Derived.Test.YtlgdcimaapkfbaaQx2
import Derived.Test.YtlgdcimaapkfbaaQx3
import Derived.Test.YtlgdcimaapkfbaaQx5
import Derived.Test.YtlgdcimaapkfbaaQx6
import Derived.Test.YtlgdcimaapkfbaaHDenies
import Derived.Test.YtlgdcimaapkfbaaHLift
namespace Go.Proofs.Ytlgdcimaapkfbaa.Q
open Go.RowKit Go.Proofs.YtlgdcimaapkfbaaW.PrintWords Go.Proofs.YtlgdcimaapkfbaaW.PrintLast Go.Proofs.YtlgdcimaapkfbaaW.PrintMore
attribute [local go_sem] max2_int min2_int max_two min_two max_three min_three max_four min_four   -- for this text's walks alone
set_option linter.unusedVariables false
set_option linter.unusedSimpArgs false

/-! ### corebanklaw23_live: function 12 -/
def corebanklaw23_live.f (k : Nat)  : Option (Bool) := (blocking_Place.f k ([] : List (S28)) 1 1000 2 0 10 20 (⟨#[99, 111, 117, 114, 116]⟩ : ByteArray)).bind fun bt141 => ((blocking_Lift.f bt141.1 1 15).bind fun bt145 => ((blocking_Lift.f bt141.1 1 21).bind fun bt149 => ((some (([(⟨1, 1000, 4, 30, 0, 9, (⟨#[97]⟩ : ByteArray)⟩ : S28), (⟨2, 1000, 4, 40, 0, 9, (⟨#[97]⟩ : ByteArray)⟩ : S28)] : List (S28)) : List (S28))).bind fun y153 => (if bt141.2 = 0 then (if (bt141.1.length : Int) = 1 then (if bt145.2 = 0 then (if (bt145.1.length : Int) = 1 then (if 0 < (bt145.1.length : Int) then (if ((rd_T28 bt145.1 0).f5) = 14 then (if bt149.2 = 23 then ((blocking_Denies.f bt141.1 1000 20 5).bind fun t157 => (if t157 = true then ((blocking_Denies.f bt141.1 1000 21 5).bind fun t158 => (if t158 = true then (none) else ((blocking_Denies.f bt141.1 1000 10 (-5)).bind fun t159 => (if t159 = true then (none) else ((blocking_Reserved.f y153 1000 9).bind fun t160 => (if t160 = 70 then ((blocking_Check.f k y153).bind fun t161 => (some (t161 == 0))) else (none))))))) else (none))) else (none)) else (none)) else (none)) else (none)) else (none)) else (none)) else (none)))))
theorem corebanklaw23_live.mono : ∀ k, LeO (corebanklaw23_live.f k ) (corebanklaw23_live.f (k + 1) ) := by
 intro  k
 unfold corebanklaw23_live.f
 repeat' first
   | (with_reducible exact blocking_Check.mono _ _)
   | (with_reducible exact blocking_Place.mono _ _ _ _ _ _ _ _ _)
   | (with_reducible exact LeO.refl _)
   | (with_reducible exact LeO.none _)
   | (with_reducible refine LeO.ite ?_ ?_)
   | (with_reducible refine LeO.bind ?_ (fun _ => ?_))
   | exact blocking_Check.mono _ _
   | exact blocking_Place.mono _ _ _ _ _ _ _ _ _
   | exact LeO.none _
   | refine LeO.ite ?_ ?_
   | refine LeO.bind ?_ (fun _ => ?_)
set_option maxHeartbeats 8000000 in
set_option maxRecDepth 100000 in
theorem corebanklaw23_live.calls (k : Nat)  (r : Bool) (w : World) (h : corebanklaw23_live.f k  = some r) :
  Calls Try.prog 12 #[] w fun e w' => e = .returned (.bool r) ∧ Below w.heap.size w w' := by
 have hu28 := Try.underlying28
 have HB := Aside0.mk (Below.refl w.heap.size w)
 have H : ((blocking_Place.f k ([] : List (S28)) 1 1000 2 0 10 20 (⟨#[99, 111, 117, 114, 116]⟩ : ByteArray)).bind fun bt141 => ((blocking_Lift.f bt141.1 1 15).bind fun bt145 => ((blocking_Lift.f bt141.1 1 21).bind fun bt149 => ((some (([(⟨1, 1000, 4, 30, 0, 9, (⟨#[97]⟩ : ByteArray)⟩ : S28), (⟨2, 1000, 4, 40, 0, 9, (⟨#[97]⟩ : ByteArray)⟩ : S28)] : List (S28)) : List (S28))).bind fun y153 => (if bt141.2 = 0 then (if (bt141.1.length : Int) = 1 then (if bt145.2 = 0 then (if (bt145.1.length : Int) = 1 then (if 0 < (bt145.1.length : Int) then (if ((rd_T28 bt145.1 0).f5) = 14 then (if bt149.2 = 23 then ((blocking_Denies.f bt141.1 1000 20 5).bind fun t157 => (if t157 = true then ((blocking_Denies.f bt141.1 1000 21 5).bind fun t158 => (if t158 = true then (none) else ((blocking_Denies.f bt141.1 1000 10 (-5)).bind fun t159 => (if t159 = true then (none) else ((blocking_Reserved.f y153 1000 9).bind fun t160 => (if t160 = 70 then ((blocking_Check.f k y153).bind fun t161 => (some (t161 == 0))) else (none))))))) else (none))) else (none)) else (none)) else (none)) else (none)) else (none)) else (none)) else (none)))))) = some r := h
 clear h
 replace H := Option.bind_eq_some_iff.mp H
 obtain ⟨⟨t141, t144⟩, A10, H⟩ := H
 replace H : ((blocking_Lift.f t141 1 15).bind fun bt145 => ((blocking_Lift.f t141 1 21).bind fun bt149 => ((some (([(⟨1, 1000, 4, 30, 0, 9, (⟨#[97]⟩ : ByteArray)⟩ : S28), (⟨2, 1000, 4, 40, 0, 9, (⟨#[97]⟩ : ByteArray)⟩ : S28)] : List (S28)) : List (S28))).bind fun y153 => (if t144 = 0 then (if (t141.length : Int) = 1 then (if bt145.2 = 0 then (if (bt145.1.length : Int) = 1 then (if 0 < (bt145.1.length : Int) then (if ((rd_T28 bt145.1 0).f5) = 14 then (if bt149.2 = 23 then ((blocking_Denies.f t141 1000 20 5).bind fun t157 => (if t157 = true then ((blocking_Denies.f t141 1000 21 5).bind fun t158 => (if t158 = true then (none) else ((blocking_Denies.f t141 1000 10 (-5)).bind fun t159 => (if t159 = true then (none) else ((blocking_Reserved.f y153 1000 9).bind fun t160 => (if t160 = 70 then ((blocking_Check.f k y153).bind fun t161 => (some (t161 == 0))) else (none))))))) else (none))) else (none)) else (none)) else (none)) else (none)) else (none)) else (none)) else (none))))) = some r := H
 have A1 := Aside0.mk A10
 clear A10
 replace H := Option.bind_eq_some_iff.mp H
 obtain ⟨⟨t145, t146⟩, A20, H⟩ := H
 replace H : ((blocking_Lift.f t141 1 21).bind fun bt149 => ((some (([(⟨1, 1000, 4, 30, 0, 9, (⟨#[97]⟩ : ByteArray)⟩ : S28), (⟨2, 1000, 4, 40, 0, 9, (⟨#[97]⟩ : ByteArray)⟩ : S28)] : List (S28)) : List (S28))).bind fun y153 => (if t144 = 0 then (if (t141.length : Int) = 1 then (if t146 = 0 then (if (t145.length : Int) = 1 then (if 0 < (t145.length : Int) then (if ((rd_T28 t145 0).f5) = 14 then (if bt149.2 = 23 then ((blocking_Denies.f t141 1000 20 5).bind fun t157 => (if t157 = true then ((blocking_Denies.f t141 1000 21 5).bind fun t158 => (if t158 = true then (none) else ((blocking_Denies.f t141 1000 10 (-5)).bind fun t159 => (if t159 = true then (none) else ((blocking_Reserved.f y153 1000 9).bind fun t160 => (if t160 = 70 then ((blocking_Check.f k y153).bind fun t161 => (some (t161 == 0))) else (none))))))) else (none))) else (none)) else (none)) else (none)) else (none)) else (none)) else (none)) else (none)))) = some r := H
 have A2 := Aside0.mk A20
 clear A20
 replace H := Option.bind_eq_some_iff.mp H
 obtain ⟨⟨t149, t150⟩, A30, H⟩ := H
 replace H : ((some (([(⟨1, 1000, 4, 30, 0, 9, (⟨#[97]⟩ : ByteArray)⟩ : S28), (⟨2, 1000, 4, 40, 0, 9, (⟨#[97]⟩ : ByteArray)⟩ : S28)] : List (S28)) : List (S28))).bind fun y153 => (if t144 = 0 then (if (t141.length : Int) = 1 then (if t146 = 0 then (if (t145.length : Int) = 1 then (if 0 < (t145.length : Int) then (if ((rd_T28 t145 0).f5) = 14 then (if t150 = 23 then ((blocking_Denies.f t141 1000 20 5).bind fun t157 => (if t157 = true then ((blocking_Denies.f t141 1000 21 5).bind fun t158 => (if t158 = true then (none) else ((blocking_Denies.f t141 1000 10 (-5)).bind fun t159 => (if t159 = true then (none) else ((blocking_Reserved.f y153 1000 9).bind fun t160 => (if t160 = 70 then ((blocking_Check.f k y153).bind fun t161 => (some (t161 == 0))) else (none))))))) else (none))) else (none)) else (none)) else (none)) else (none)) else (none)) else (none)) else (none))) = some r := H
 have A3 := Aside0.mk A30
 clear A30
 obtain ⟨y153, hy153⟩ : ∃ y_ : List (S28), y_ = (([(⟨1, 1000, 4, 30, 0, 9, (⟨#[97]⟩ : ByteArray)⟩ : S28), (⟨2, 1000, 4, 40, 0, 9, (⟨#[97]⟩ : ByteArray)⟩ : S28)] : List (S28))) := ⟨_, rfl⟩
 replace H : (if t144 = 0 then (if (t141.length : Int) = 1 then (if t146 = 0 then (if (t145.length : Int) = 1 then (if 0 < (t145.length : Int) then (if ((rd_T28 t145 0).f5) = 14 then (if t150 = 23 then ((blocking_Denies.f t141 1000 20 5).bind fun t157 => (if t157 = true then ((blocking_Denies.f t141 1000 21 5).bind fun t158 => (if t158 = true then (none) else ((blocking_Denies.f t141 1000 10 (-5)).bind fun t159 => (if t159 = true then (none) else ((blocking_Reserved.f y153 1000 9).bind fun t160 => (if t160 = 70 then ((blocking_Check.f k y153).bind fun t161 => (some (t161 == 0))) else (none))))))) else (none))) else (none)) else (none)) else (none)) else (none)) else (none)) else (none)) else (none)) = some r := by first | (rw [hy153]; with_reducible exact H) | (have H2_ := (Option.bind_some _ _).symm.trans H; rw [hy153]; with_reducible exact H2_) | (have H2_ := (Option.bind_some _ _).symm.trans H; with_reducible exact H2_) | with_reducible exact H | (rw [hy153]; exact H) | exact H
 have Ny153 := Aside0.mk hy153
 clear hy153
 by_cases c4 : t144 = 0
 ·rw [if_pos c4] at H
  have c4b0 : (t144 == 0) = true := beq_iff_eq.mpr c4
  have c4b1 : (t144 != 0) = false := bne_eq_false_iff_eq.mpr c4
  clear c4
  by_cases c5 : (t141.length : Int) = 1
  ·rw [if_pos c5] at H
   have c5b0 : ((t141.length : Int) == 1) = true := beq_iff_eq.mpr c5
   have c5b1 : ((t141.length : Int) != 1) = false := bne_eq_false_iff_eq.mpr c5
   clear c5
   by_cases c6 : t146 = 0
   ·rw [if_pos c6] at H
    have c6b0 : (t146 == 0) = true := beq_iff_eq.mpr c6
    have c6b1 : (t146 != 0) = false := bne_eq_false_iff_eq.mpr c6
    clear c6
    by_cases c7 : (t145.length : Int) = 1
    ·rw [if_pos c7] at H
     have c7b0 : ((t145.length : Int) == 1) = true := beq_iff_eq.mpr c7
     have c7b1 : ((t145.length : Int) != 1) = false := bne_eq_false_iff_eq.mpr c7
     clear c7
     by_cases c8 : 0 < (t145.length : Int)
     ·rw [if_pos c8] at H
      have c8b0 : decide (0 < (t145.length : Int)) = true := decide_eq_true c8
      have c8b1 : decide (0 < t145.length) = true := decide_eq_true (by omega)
      clear c8
      by_cases c9 : ((rd_T28 t145 0).f5) = 14
      ·rw [if_pos c9] at H
       have c9b0 : (((rd_T28 t145 0).f5) == 14) = true := beq_iff_eq.mpr c9
       have c9b1 : (((rd_T28 t145 0).f5) != 14) = false := bne_eq_false_iff_eq.mpr c9
       clear c9
       by_cases c10 : t150 = 23
       ·rw [if_pos c10] at H
        have c10b0 : (t150 == 23) = true := beq_iff_eq.mpr c10
        have c10b1 : (t150 != 23) = false := bne_eq_false_iff_eq.mpr c10
        clear c10
        replace H := Option.bind_eq_some_iff.mp H
        obtain ⟨t157, A110, H⟩ := H
        replace H : (if t157 = true then ((blocking_Denies.f t141 1000 21 5).bind fun t158 => (if t158 = true then (none) else ((blocking_Denies.f t141 1000 10 (-5)).bind fun t159 => (if t159 = true then (none) else ((blocking_Reserved.f y153 1000 9).bind fun t160 => (if t160 = 70 then ((blocking_Check.f k y153).bind fun t161 => (some (t161 == 0))) else (none))))))) else (none)) = some r := H
        have A11 := Aside0.mk A110
        clear A110
        by_cases c12 : t157 = true
        ·subst c12
         have H1 : ((blocking_Denies.f t141 1000 21 5).bind fun t158 => (if t158 = true then (none) else ((blocking_Denies.f t141 1000 10 (-5)).bind fun t159 => (if t159 = true then (none) else ((blocking_Reserved.f y153 1000 9).bind fun t160 => (if t160 = 70 then ((blocking_Check.f k y153).bind fun t161 => (some (t161 == 0))) else (none))))))) = some r := by rw [if_pos rfl] at H; exact H
         clear H
         have H := H1
         clear H1
         replace H := Option.bind_eq_some_iff.mp H
         obtain ⟨t158, A130, H⟩ := H
         replace H : (if t158 = true then (none) else ((blocking_Denies.f t141 1000 10 (-5)).bind fun t159 => (if t159 = true then (none) else ((blocking_Reserved.f y153 1000 9).bind fun t160 => (if t160 = 70 then ((blocking_Check.f k y153).bind fun t161 => (some (t161 == 0))) else (none)))))) = some r := H
         have A13 := Aside0.mk A130
         clear A130
         by_cases c14 : t158 = true
         ·subst c14
          have H1 : (none) = some r := by rw [if_pos rfl] at H; exact H
          clear H
          have H := H1
          clear H1
          exact absurd H (by simp)
         ·replace c14 := Bool.eq_false_iff.mpr c14
          subst c14
          have H1 : ((blocking_Denies.f t141 1000 10 (-5)).bind fun t159 => (if t159 = true then (none) else ((blocking_Reserved.f y153 1000 9).bind fun t160 => (if t160 = 70 then ((blocking_Check.f k y153).bind fun t161 => (some (t161 == 0))) else (none))))) = some r := by rw [if_neg (show ¬ (false = true) by decide)] at H; exact H
          clear H
          have H := H1
          clear H1
          replace H := Option.bind_eq_some_iff.mp H
          obtain ⟨t159, A150, H⟩ := H
          replace H : (if t159 = true then (none) else ((blocking_Reserved.f y153 1000 9).bind fun t160 => (if t160 = 70 then ((blocking_Check.f k y153).bind fun t161 => (some (t161 == 0))) else (none)))) = some r := H
          have A15 := Aside0.mk A150
          clear A150
          by_cases c16 : t159 = true
          ·subst c16
           have H1 : (none) = some r := by rw [if_pos rfl] at H; exact H
           clear H
           have H := H1
           clear H1
           exact absurd H (by simp)
          ·replace c16 := Bool.eq_false_iff.mpr c16
           subst c16
           have H1 : ((blocking_Reserved.f y153 1000 9).bind fun t160 => (if t160 = 70 then ((blocking_Check.f k y153).bind fun t161 => (some (t161 == 0))) else (none))) = some r := by rw [if_neg (show ¬ (false = true) by decide)] at H; exact H
           clear H
           have H := H1
           clear H1
           replace H := Option.bind_eq_some_iff.mp H
           obtain ⟨t160, A170, H⟩ := H
           replace H : (if t160 = 70 then ((blocking_Check.f k y153).bind fun t161 => (some (t161 == 0))) else (none)) = some r := H
           have A17 := Aside0.mk A170
           clear A170
           by_cases c18 : t160 = 70
           ·rw [if_pos c18] at H
            have c18b0 : (t160 == 70) = true := beq_iff_eq.mpr c18
            have c18b1 : (t160 != 70) = false := bne_eq_false_iff_eq.mpr c18
            clear c18
            replace H := Option.bind_eq_some_iff.mp H
            obtain ⟨t161, A190, H⟩ := H
            replace H : (some (t161 == 0)) = some r := H
            have A19 := Aside0.mk A190
            clear A190
            obtain rfl := Option.some.inj H
            go_enter Try.func12, Try.ntmps12
            go_wp2_with (first | ((with_reducible refine gate_dst (N := 1) rfl ?_); (try (refine gate_guard (by rfl) ?_; dsimp only)); refine box_event ?hg (N := 1) ?hd (cs := #[.int .i64 0, .int .i64 0, .int .i64 0, .int .i64 0, .int .i64 0, .int .i64 0, .string (⟨#[]⟩ : ByteArray)]) (t := 28) ?hr ?_; (case hd => rfl); (case hg => rfl); (case hr => first | (go_simp; done) | (go_simp; rfl)); intro gb140 hg w20 hbox hb; have n0_ := Aside0.mk (below_step (by repeat (first | (with_reducible first | exact HB.out | apply below_alloc | apply pw_below_drewN | apply below_drew1) | exact HB.out)) hb); have n1_ := Aside0.mk (hbox); have n2_ := Aside0.mk ((by rw [hg]; exact (below_size (by repeat (first | (with_reducible first | exact HB.out | apply below_alloc | apply pw_below_drewN | apply below_drew1) | exact HB.out))) : w.heap.size ≤ gb140)); have n3_ := Aside0.mk ((by rw [hg]; exact (below_size (by repeat (first | (with_reducible first | exact HB.out | apply below_alloc | apply pw_below_drewN | apply below_drew1) | exact HB.out))) : w.heap.size ≤ gb140)); clear HB; have HB := n0_; have BK140 := n1_; have GW140 := n2_; have GE140 := n3_; clear n0_ n1_ n2_ n3_; clear hb hbox hg; have hcz21_0 : w20.cell? ⟨gb140, 0, none⟩ = some (.int .i64 0) := (blk_cell BK140.out 0).trans rfl; have hcz21_1 : w20.cell? ⟨gb140, 1, none⟩ = some (.int .i64 0) := (blk_cell BK140.out 1).trans rfl; have hcz21_2 : w20.cell? ⟨gb140, 2, none⟩ = some (.int .i64 0) := (blk_cell BK140.out 2).trans rfl; have hcz21_3 : w20.cell? ⟨gb140, 3, none⟩ = some (.int .i64 0) := (blk_cell BK140.out 3).trans rfl; have hcz21_4 : w20.cell? ⟨gb140, 4, none⟩ = some (.int .i64 0) := (blk_cell BK140.out 4).trans rfl; have hcz21_5 : w20.cell? ⟨gb140, 5, none⟩ = some (.int .i64 0) := (blk_cell BK140.out 5).trans rfl; have hcz21_6 : w20.cell? ⟨gb140, 6, none⟩ = some (.string (⟨#[]⟩ : ByteArray)) := (blk_cell BK140.out 6).trans rfl; have hfz21_0 := blk_frozen BK140.out 0; have hfz21_1 := blk_frozen BK140.out 1; have hfz21_2 := blk_frozen BK140.out 2; have hfz21_3 := blk_frozen BK140.out 3; have hfz21_4 := blk_frozen BK140.out 4; have hfz21_5 := blk_frozen BK140.out 5; have hfz21_6 := blk_frozen BK140.out 6) | ((with_reducible refine gate_callee (f := 13) rfl ?_); refine goesL_ (some 12) rfl rfl Try.func13 (by kernel_rfl) rfl #[.slice none 0 0, .agg #[.int .i64 1, .int .i64 1000, .int .i64 2, .int .i64 0, .int .i64 10, .int .i64 20, .string (⟨#[99, 111, 117, 114, 116]⟩ : ByteArray)]] rfl (by (try simp only [List.map_toArray, List.map_cons, List.map_nil]); first | done | rfl | (simp only [List.length_drop, List.length_take]; rfl)) ?_; (refine (blocking_Place.calls k _ _ ([] : List (S28)) 1 1000 2 0 10 20 (⟨#[99, 111, 117, 114, 116]⟩ : ByteArray) t141 t144 _ ?side1 ?side2 A1.out).mono ?_); (case side1 => exact Kd.C_nil _ _); (case side2 => exact Nat.le_refl _); rintro e w22 ⟨v142, rfl, ho0, hb⟩; refine ⟨_, rfl, ?_⟩; have n0_ := Aside0.mk (Kd.R_lower (Kd.R_newB ho0 (g := gb140) (o := .cells #[.int .i64 1, .int .i64 1000, .int .i64 2, .int .i64 0, .int .i64 10, .int .i64 20, .string (⟨#[99, 111, 117, 114, 116]⟩ : ByteArray)] 28 (0, 0)) (by (with_reducible repeat (first | refine blk_drewN ?_ _ | refine blk_drew ?_ | refine blk_alloc ?_ _)); refine blk_put (cs := #[.int .i64 1, .int .i64 1000, .int .i64 2, .int .i64 0, .int .i64 10, .int .i64 20, .string (⟨#[]⟩ : ByteArray)]) ?_ 6 _ rfl; (with_reducible repeat (first | refine blk_drewN ?_ _ | refine blk_drew ?_ | refine blk_alloc ?_ _)); refine blk_put (cs := #[.int .i64 1, .int .i64 1000, .int .i64 2, .int .i64 0, .int .i64 10, .int .i64 0, .string (⟨#[]⟩ : ByteArray)]) ?_ 5 _ rfl; (with_reducible repeat (first | refine blk_drewN ?_ _ | refine blk_drew ?_ | refine blk_alloc ?_ _)); refine blk_put (cs := #[.int .i64 1, .int .i64 1000, .int .i64 2, .int .i64 0, .int .i64 0, .int .i64 0, .string (⟨#[]⟩ : ByteArray)]) ?_ 4 _ rfl; (with_reducible repeat (first | refine blk_drewN ?_ _ | refine blk_drew ?_ | refine blk_alloc ?_ _)); refine blk_put (cs := #[.int .i64 1, .int .i64 1000, .int .i64 2, .int .i64 0, .int .i64 0, .int .i64 0, .string (⟨#[]⟩ : ByteArray)]) ?_ 3 _ rfl; (with_reducible repeat (first | refine blk_drewN ?_ _ | refine blk_drew ?_ | refine blk_alloc ?_ _)); refine blk_put (cs := #[.int .i64 1, .int .i64 1000, .int .i64 0, .int .i64 0, .int .i64 0, .int .i64 0, .string (⟨#[]⟩ : ByteArray)]) ?_ 2 _ rfl; (with_reducible repeat (first | refine blk_drewN ?_ _ | refine blk_drew ?_ | refine blk_alloc ?_ _)); refine blk_put (cs := #[.int .i64 1, .int .i64 0, .int .i64 0, .int .i64 0, .int .i64 0, .int .i64 0, .string (⟨#[]⟩ : ByteArray)]) ?_ 1 _ rfl; (with_reducible repeat (first | refine blk_drewN ?_ _ | refine blk_drew ?_ | refine blk_alloc ?_ _)); refine blk_put (cs := #[.int .i64 0, .int .i64 0, .int .i64 0, .int .i64 0, .int .i64 0, .int .i64 0, .string (⟨#[]⟩ : ByteArray)]) ?_ 0 _ rfl; (with_reducible repeat (first | refine blk_drewN ?_ _ | refine blk_drew ?_ | refine blk_alloc ?_ _)); exact BK140.out)) (below_size (by repeat (first | (with_reducible first | exact HB.out | apply below_alloc | apply pw_below_drewN | apply below_drew1 | refine below_set ?_ GE140.out) | exact HB.out)))); have n1_ := Aside0.mk (blk_below (g := gb140) (o := .cells #[.int .i64 1, .int .i64 1000, .int .i64 2, .int .i64 0, .int .i64 10, .int .i64 20, .string (⟨#[99, 111, 117, 114, 116]⟩ : ByteArray)] 28 (0, 0)) (by (with_reducible repeat (first | refine blk_drewN ?_ _ | refine blk_drew ?_ | refine blk_alloc ?_ _)); refine blk_put (cs := #[.int .i64 1, .int .i64 1000, .int .i64 2, .int .i64 0, .int .i64 10, .int .i64 20, .string (⟨#[]⟩ : ByteArray)]) ?_ 6 _ rfl; (with_reducible repeat (first | refine blk_drewN ?_ _ | refine blk_drew ?_ | refine blk_alloc ?_ _)); refine blk_put (cs := #[.int .i64 1, .int .i64 1000, .int .i64 2, .int .i64 0, .int .i64 10, .int .i64 0, .string (⟨#[]⟩ : ByteArray)]) ?_ 5 _ rfl; (with_reducible repeat (first | refine blk_drewN ?_ _ | refine blk_drew ?_ | refine blk_alloc ?_ _)); refine blk_put (cs := #[.int .i64 1, .int .i64 1000, .int .i64 2, .int .i64 0, .int .i64 0, .int .i64 0, .string (⟨#[]⟩ : ByteArray)]) ?_ 4 _ rfl; (with_reducible repeat (first | refine blk_drewN ?_ _ | refine blk_drew ?_ | refine blk_alloc ?_ _)); refine blk_put (cs := #[.int .i64 1, .int .i64 1000, .int .i64 2, .int .i64 0, .int .i64 0, .int .i64 0, .string (⟨#[]⟩ : ByteArray)]) ?_ 3 _ rfl; (with_reducible repeat (first | refine blk_drewN ?_ _ | refine blk_drew ?_ | refine blk_alloc ?_ _)); refine blk_put (cs := #[.int .i64 1, .int .i64 1000, .int .i64 0, .int .i64 0, .int .i64 0, .int .i64 0, .string (⟨#[]⟩ : ByteArray)]) ?_ 2 _ rfl; (with_reducible repeat (first | refine blk_drewN ?_ _ | refine blk_drew ?_ | refine blk_alloc ?_ _)); refine blk_put (cs := #[.int .i64 1, .int .i64 0, .int .i64 0, .int .i64 0, .int .i64 0, .int .i64 0, .string (⟨#[]⟩ : ByteArray)]) ?_ 1 _ rfl; (with_reducible repeat (first | refine blk_drewN ?_ _ | refine blk_drew ?_ | refine blk_alloc ?_ _)); refine blk_put (cs := #[.int .i64 0, .int .i64 0, .int .i64 0, .int .i64 0, .int .i64 0, .int .i64 0, .string (⟨#[]⟩ : ByteArray)]) ?_ 0 _ rfl; (with_reducible repeat (first | refine blk_drewN ?_ _ | refine blk_drew ?_ | refine blk_alloc ?_ _)); exact BK140.out) hb); have n2_ := Aside0.mk (below_step (by repeat (first | (with_reducible first | exact HB.out | apply below_alloc | apply pw_below_drewN | apply below_drew1 | refine below_set ?_ GE140.out) | exact HB.out)) hb); clear BK140; clear HB; have HO143 := n0_; have BK140 := n1_; have HB := n2_; clear n0_ n1_ n2_; (try clear hb); (try clear hb2); (try clear hk); (try clear hi); (try clear ho0); obtain ⟨Ao23, co23, eo23⟩ := Kd.R_slice HO143.out; subst eo23) | ((with_reducible refine gate_callee (f := 16) rfl ?_); refine goesL_ (some 17) rfl rfl Try.func16 (by kernel_rfl) rfl #[.slice Ao23 t141.length co23, .int .i64 1, .int .i64 15] rfl (by (try simp only [List.map_toArray, List.map_cons, List.map_nil]); first | done | rfl | (simp only [List.length_drop, List.length_take]; rfl)) ?_; (with_reducible refine (blocking_Lift.calls _ _ t141 1 15 t145 t146 _ ?side1 ?side2 A2.out).mono ?_); (case side1 => repeat (first | exact (Kd.R_reads' HO143.out).2.2 | (with_reducible refine Kd.C_alloc ?_ _) | (with_reducible refine Kd.C_drewN ?_ _) | (with_reducible refine Kd.C_drew ?_))); (case side2 => exact (Kd.R_reads' HO143.out).2.1); rintro e w24 ⟨v147, rfl, ho0, hb⟩; refine ⟨_, rfl, ?_⟩; have n0_ := Aside0.mk (Kd.R_elder' (by (with_reducible repeat (first | apply Kd.R_alloc | apply Kd.R_drewN | apply Kd.R_drew)); exact HO143.out) (Kd.R_base ho0) hb); have n1_ := Aside0.mk (Kd.R_lower (Kd.R_newB (Kd.R_new' ho0 (Kd.R_lt (by (with_reducible repeat (first | apply Kd.R_alloc | apply Kd.R_drewN | apply Kd.R_drew)); exact HO143.out))) (g := gb140) (o := .cells #[.int .i64 1, .int .i64 1000, .int .i64 2, .int .i64 0, .int .i64 10, .int .i64 20, .string (⟨#[99, 111, 117, 114, 116]⟩ : ByteArray)] 28 (0, 0)) (by (with_reducible repeat (first | refine blk_drewN ?_ _ | refine blk_drew ?_ | refine blk_alloc ?_ _)); exact BK140.out)) (below_size (by repeat (first | (with_reducible first | exact HB.out | apply below_alloc | apply pw_below_drewN | apply below_drew1 | refine below_set ?_ GE140.out) | exact HB.out)))); have n2_ := Aside0.mk (blk_below (g := gb140) (o := .cells #[.int .i64 1, .int .i64 1000, .int .i64 2, .int .i64 0, .int .i64 10, .int .i64 20, .string (⟨#[99, 111, 117, 114, 116]⟩ : ByteArray)] 28 (0, 0)) (by (with_reducible repeat (first | refine blk_drewN ?_ _ | refine blk_drew ?_ | refine blk_alloc ?_ _)); exact BK140.out) hb); have n3_ := Aside0.mk (below_step (by repeat (first | (with_reducible first | exact HB.out | apply below_alloc | apply pw_below_drewN | apply below_drew1 | refine below_set ?_ GE140.out) | exact HB.out)) hb); clear HO143; clear BK140; clear HB; have HO143 := n0_; have HO148 := n1_; have BK140 := n2_; have HB := n3_; clear n0_ n1_ n2_ n3_; (try clear hb); (try clear hb2); (try clear hk); (try clear hi); (try clear ho0)) | ((with_reducible refine gate_callee (f := 16) rfl ?_); refine goesL_ (some 22) rfl rfl Try.func16 (by kernel_rfl) rfl #[.slice Ao23 t141.length co23, .int .i64 1, .int .i64 21] rfl (by (try simp only [List.map_toArray, List.map_cons, List.map_nil]); first | done | rfl | (simp only [List.length_drop, List.length_take]; rfl)) ?_; (with_reducible refine (blocking_Lift.calls _ _ t141 1 21 t149 t150 _ ?side1 ?side2 A3.out).mono ?_); (case side1 => repeat (first | exact (Kd.R_reads' HO143.out).2.2 | (with_reducible refine Kd.C_alloc ?_ _) | (with_reducible refine Kd.C_drewN ?_ _) | (with_reducible refine Kd.C_drew ?_))); (case side2 => exact (Kd.R_reads' HO143.out).2.1); rintro e w25 ⟨v151, rfl, ho0, hb⟩; refine ⟨_, rfl, ?_⟩; have n0_ := Aside0.mk (Kd.R_elder' (by (with_reducible repeat (first | apply Kd.R_alloc | apply Kd.R_drewN | apply Kd.R_drew)); exact HO143.out) (Kd.R_base ho0) hb); have n1_ := Aside0.mk (Kd.R_elder' (by (with_reducible repeat (first | apply Kd.R_alloc | apply Kd.R_drewN | apply Kd.R_drew)); exact HO148.out) (Kd.R_base ho0) hb); have n2_ := Aside0.mk (Kd.R_lower (Kd.R_newB (Kd.R_new' (Kd.R_new' ho0 (Kd.R_lt (by (with_reducible repeat (first | apply Kd.R_alloc | apply Kd.R_drewN | apply Kd.R_drew)); exact HO143.out))) (Kd.R_lt (by (with_reducible repeat (first | apply Kd.R_alloc | apply Kd.R_drewN | apply Kd.R_drew)); exact HO148.out))) (g := gb140) (o := .cells #[.int .i64 1, .int .i64 1000, .int .i64 2, .int .i64 0, .int .i64 10, .int .i64 20, .string (⟨#[99, 111, 117, 114, 116]⟩ : ByteArray)] 28 (0, 0)) (by (with_reducible repeat (first | refine blk_drewN ?_ _ | refine blk_drew ?_ | refine blk_alloc ?_ _)); exact BK140.out)) (below_size (by repeat (first | (with_reducible first | exact HB.out | apply below_alloc | apply pw_below_drewN | apply below_drew1 | refine below_set ?_ GE140.out) | exact HB.out)))); have n3_ := Aside0.mk (blk_below (g := gb140) (o := .cells #[.int .i64 1, .int .i64 1000, .int .i64 2, .int .i64 0, .int .i64 10, .int .i64 20, .string (⟨#[99, 111, 117, 114, 116]⟩ : ByteArray)] 28 (0, 0)) (by (with_reducible repeat (first | refine blk_drewN ?_ _ | refine blk_drew ?_ | refine blk_alloc ?_ _)); exact BK140.out) hb); have n4_ := Aside0.mk (below_step (by repeat (first | (with_reducible first | exact HB.out | apply below_alloc | apply pw_below_drewN | apply below_drew1 | refine below_set ?_ GE140.out) | exact HB.out)) hb); clear HO143; clear HO148; clear BK140; clear HB; have HO143 := n0_; have HO148 := n1_; have HO152 := n2_; have BK140 := n3_; have HB := n4_; clear n0_ n1_ n2_ n3_ n4_; (try clear hb); (try clear hb2); (try clear hk); (try clear hi); (try clear ho0)) | ((with_reducible refine gate_dst (N := 27) rfl ?_); (try (refine gate_guard (by rfl) ?_; dsimp only)); refine Kd.R_lit k28 _ 28 ?hg (N := 27) ?hd (xs := ([(⟨1, 1000, 4, 30, 0, 9, (⟨#[97]⟩ : ByteArray)⟩ : S28), (⟨2, 1000, 4, 40, 0, 9, (⟨#[97]⟩ : ByteArray)⟩ : S28)] : List (S28))) (inner := [.int .i64 1, .int .i64 1000, .int .i64 4, .int .i64 30, .int .i64 0, .int .i64 9, .string (⟨#[97]⟩ : ByteArray), .int .i64 2, .int .i64 1000, .int .i64 4, .int .i64 40, .int .i64 0, .int .i64 9, .string (⟨#[97]⟩ : ByteArray)]) (ok := fun _ => True) (okp := fun _ => True) ?hr ?hp (fun _ hk => hk) trivial (Below.refl _ _) (Nat.le_refl _) (by simp) ?_; (case hd => rfl); (case hg => rfl); (case hr => first | (go_simp; done) | (go_simp; rfl)); (case hp => exact (Reps.c7 (show Kd.M k28 _ _ _ (⟨1, 1000, 4, 30, 0, 9, (⟨#[97]⟩ : ByteArray)⟩ : S28) [.int .i64 1, .int .i64 1000, .int .i64 4, .int .i64 30, .int .i64 0, .int .i64 9, .string (⟨#[97]⟩ : ByteArray)] from (k28_mkM _ _ _ (⟨1, 1000, 4, 30, 0, 9, (⟨#[97]⟩ : ByteArray)⟩ : S28) )) (Reps.c7 (show Kd.M k28 _ _ _ (⟨2, 1000, 4, 40, 0, 9, (⟨#[97]⟩ : ByteArray)⟩ : S28) [.int .i64 2, .int .i64 1000, .int .i64 4, .int .i64 40, .int .i64 0, .int .i64 9, .string (⟨#[97]⟩ : ByteArray)] from (k28_mkM _ _ _ (⟨2, 1000, 4, 40, 0, 9, (⟨#[97]⟩ : ByteArray)⟩ : S28) )) (Reps.none _ _)))); intro v154 w26 ho27 hb hg_ hnew_; clear hg_ hnew_; (first | rw [← Ny153.out] at ho27 | (simp only [Int.reduceToNat] at ho27; rw [← Ny153.out] at ho27)); have n0_ := Aside0.mk (Kd.R_elder' (by (with_reducible repeat (first | apply Kd.R_alloc | apply Kd.R_drewN | apply Kd.R_drew)); exact HO143.out) (Kd.R_base ho27) hb); have n1_ := Aside0.mk (Kd.R_elder' (by (with_reducible repeat (first | apply Kd.R_alloc | apply Kd.R_drewN | apply Kd.R_drew)); exact HO148.out) (Kd.R_base ho27) hb); have n2_ := Aside0.mk (Kd.R_elder' (by (with_reducible repeat (first | apply Kd.R_alloc | apply Kd.R_drewN | apply Kd.R_drew)); exact HO152.out) (Kd.R_base ho27) hb); have n3_ := Aside0.mk (Kd.R_lower (Kd.R_newB (Kd.R_new' (Kd.R_new' (Kd.R_new' ho27 (Kd.R_lt (by (with_reducible repeat (first | apply Kd.R_alloc | apply Kd.R_drewN | apply Kd.R_drew)); exact HO143.out))) (Kd.R_lt (by (with_reducible repeat (first | apply Kd.R_alloc | apply Kd.R_drewN | apply Kd.R_drew)); exact HO148.out))) (Kd.R_lt (by (with_reducible repeat (first | apply Kd.R_alloc | apply Kd.R_drewN | apply Kd.R_drew)); exact HO152.out))) (g := gb140) (o := .cells #[.int .i64 1, .int .i64 1000, .int .i64 2, .int .i64 0, .int .i64 10, .int .i64 20, .string (⟨#[99, 111, 117, 114, 116]⟩ : ByteArray)] 28 (0, 0)) (by (with_reducible repeat (first | refine blk_drewN ?_ _ | refine blk_drew ?_ | refine blk_alloc ?_ _)); exact BK140.out)) (below_size (by repeat (first | (with_reducible first | exact HB.out | apply below_alloc | apply pw_below_drewN | apply below_drew1 | refine below_set ?_ GE140.out) | exact HB.out)))); have n4_ := Aside0.mk (blk_below (g := gb140) (o := .cells #[.int .i64 1, .int .i64 1000, .int .i64 2, .int .i64 0, .int .i64 10, .int .i64 20, .string (⟨#[99, 111, 117, 114, 116]⟩ : ByteArray)] 28 (0, 0)) (by (with_reducible repeat (first | refine blk_drewN ?_ _ | refine blk_drew ?_ | refine blk_alloc ?_ _)); exact BK140.out) hb); have n5_ := Aside0.mk (below_step (by repeat (first | (with_reducible first | exact HB.out | apply below_alloc | apply pw_below_drewN | apply below_drew1 | refine below_set ?_ GE140.out) | exact HB.out)) hb); clear HO143; clear HO148; clear HO152; clear BK140; clear HB; have HO143 := n0_; have HO148 := n1_; have HO152 := n2_; have HO155 := n3_; have BK140 := n4_; have HB := n5_; clear n0_ n1_ n2_ n3_ n4_ n5_; clear hb ho27; obtain ⟨Ao28, co28, eo28⟩ := Kd.R_slice HO148.out; subst eo28; have p156 : 0 ≤ (0 : Int) := (by omega); have q156 : 0 < (t145.length : Int) := of_decide_eq_true (by first | (with_reducible assumption) | assumption); obtain ⟨ad156, e156, hx156_0, hx156_1, hx156_2, hx156_3, hx156_4, hx156_5, hx156_6⟩ := at_T28 (Kd.R_reads' HO148.out).2.2 0 p156 q156; cases e156; have qi156 : (0 < t145.length) = True := eq_true (by omega); (try rw [show ((0 : Int)).toNat = 0 from rfl] at hx156_0); (try rw [show 0 * 7 = 0 from rfl] at hx156_0); (try rw [Addr.add_zero'] at hx156_0); (try rw [show ((0 : Int)).toNat = 0 from rfl] at hx156_1); (try rw [show 0 * 7 = 0 from rfl] at hx156_1); (try rw [Addr.add_zero'] at hx156_1); (try rw [show ((0 : Int)).toNat = 0 from rfl] at hx156_2); (try rw [show 0 * 7 = 0 from rfl] at hx156_2); (try rw [Addr.add_zero'] at hx156_2); (try rw [show ((0 : Int)).toNat = 0 from rfl] at hx156_3); (try rw [show 0 * 7 = 0 from rfl] at hx156_3); (try rw [Addr.add_zero'] at hx156_3); (try rw [show ((0 : Int)).toNat = 0 from rfl] at hx156_4); (try rw [show 0 * 7 = 0 from rfl] at hx156_4); (try rw [Addr.add_zero'] at hx156_4); (try rw [show ((0 : Int)).toNat = 0 from rfl] at hx156_5); (try rw [show 0 * 7 = 0 from rfl] at hx156_5); (try rw [Addr.add_zero'] at hx156_5); (try rw [show ((0 : Int)).toNat = 0 from rfl] at hx156_6); (try rw [show 0 * 7 = 0 from rfl] at hx156_6); (try rw [Addr.add_zero'] at hx156_6); replace p156 := eq_true p156; replace q156 := eq_true q156) | (go_at_call 20; (with_reducible refine (blocking_Denies.calls _ _ t141 1000 20 5 true _ ?side1 ?side2 A11.out).mono ?_); (case side1 => repeat (first | exact (Kd.R_reads' HO143.out).2.2 | (with_reducible refine Kd.C_alloc ?_ _) | (with_reducible refine Kd.C_drewN ?_ _) | (with_reducible refine Kd.C_drew ?_))); (case side2 => exact (Kd.R_reads' HO143.out).2.1); rintro e w29 ⟨rfl, hb⟩; have n0_ := Aside0.mk (Kd.R_below (by (with_reducible repeat (first | apply Kd.R_alloc | apply Kd.R_drewN | apply Kd.R_drew)); exact HO143.out) hb); have n1_ := Aside0.mk (Kd.R_below (by (with_reducible repeat (first | apply Kd.R_alloc | apply Kd.R_drewN | apply Kd.R_drew)); exact HO148.out) hb); have n2_ := Aside0.mk (Kd.R_below (by (with_reducible repeat (first | apply Kd.R_alloc | apply Kd.R_drewN | apply Kd.R_drew)); exact HO152.out) hb); have n3_ := Aside0.mk (Kd.R_below (by (with_reducible repeat (first | apply Kd.R_alloc | apply Kd.R_drewN | apply Kd.R_drew)); exact HO155.out) hb); have n4_ := Aside0.mk (blk_below (g := gb140) (o := .cells #[.int .i64 1, .int .i64 1000, .int .i64 2, .int .i64 0, .int .i64 10, .int .i64 20, .string (⟨#[99, 111, 117, 114, 116]⟩ : ByteArray)] 28 (0, 0)) (by (with_reducible repeat (first | refine blk_drewN ?_ _ | refine blk_drew ?_ | refine blk_alloc ?_ _)); exact BK140.out) hb); have n5_ := Aside0.mk (below_step (by repeat (first | (with_reducible first | exact HB.out | apply below_alloc | apply pw_below_drewN | apply below_drew1 | refine below_set ?_ GE140.out) | exact HB.out)) hb); clear HO143; clear HO148; clear HO152; clear HO155; clear BK140; clear HB; have HO143 := n0_; have HO148 := n1_; have HO152 := n2_; have HO155 := n3_; have BK140 := n4_; have HB := n5_; clear n0_ n1_ n2_ n3_ n4_ n5_; (try clear hb); (try clear hb2); (try clear hk); (try clear hi)) | (go_at_call 20; (with_reducible refine (blocking_Denies.calls _ _ t141 1000 21 5 false _ ?side1 ?side2 A13.out).mono ?_); (case side1 => repeat (first | exact (Kd.R_reads' HO143.out).2.2 | (with_reducible refine Kd.C_alloc ?_ _) | (with_reducible refine Kd.C_drewN ?_ _) | (with_reducible refine Kd.C_drew ?_))); (case side2 => exact (Kd.R_reads' HO143.out).2.1); rintro e w30 ⟨rfl, hb⟩; have n0_ := Aside0.mk (Kd.R_below (by (with_reducible repeat (first | apply Kd.R_alloc | apply Kd.R_drewN | apply Kd.R_drew)); exact HO143.out) hb); have n1_ := Aside0.mk (Kd.R_below (by (with_reducible repeat (first | apply Kd.R_alloc | apply Kd.R_drewN | apply Kd.R_drew)); exact HO148.out) hb); have n2_ := Aside0.mk (Kd.R_below (by (with_reducible repeat (first | apply Kd.R_alloc | apply Kd.R_drewN | apply Kd.R_drew)); exact HO152.out) hb); have n3_ := Aside0.mk (Kd.R_below (by (with_reducible repeat (first | apply Kd.R_alloc | apply Kd.R_drewN | apply Kd.R_drew)); exact HO155.out) hb); have n4_ := Aside0.mk (blk_below (g := gb140) (o := .cells #[.int .i64 1, .int .i64 1000, .int .i64 2, .int .i64 0, .int .i64 10, .int .i64 20, .string (⟨#[99, 111, 117, 114, 116]⟩ : ByteArray)] 28 (0, 0)) (by (with_reducible repeat (first | refine blk_drewN ?_ _ | refine blk_drew ?_ | refine blk_alloc ?_ _)); exact BK140.out) hb); have n5_ := Aside0.mk (below_step (by repeat (first | (with_reducible first | exact HB.out | apply below_alloc | apply pw_below_drewN | apply below_drew1 | refine below_set ?_ GE140.out) | exact HB.out)) hb); clear HO143; clear HO148; clear HO152; clear HO155; clear BK140; clear HB; have HO143 := n0_; have HO148 := n1_; have HO152 := n2_; have HO155 := n3_; have BK140 := n4_; have HB := n5_; clear n0_ n1_ n2_ n3_ n4_ n5_; (try clear hb); (try clear hb2); (try clear hk); (try clear hi)) | (go_at_call 20; (with_reducible refine (blocking_Denies.calls _ _ t141 1000 10 (-5) false _ ?side1 ?side2 A15.out).mono ?_); (case side1 => repeat (first | exact (Kd.R_reads' HO143.out).2.2 | (with_reducible refine Kd.C_alloc ?_ _) | (with_reducible refine Kd.C_drewN ?_ _) | (with_reducible refine Kd.C_drew ?_))); (case side2 => exact (Kd.R_reads' HO143.out).2.1); rintro e w31 ⟨rfl, hb⟩; have n0_ := Aside0.mk (Kd.R_below (by (with_reducible repeat (first | apply Kd.R_alloc | apply Kd.R_drewN | apply Kd.R_drew)); exact HO143.out) hb); have n1_ := Aside0.mk (Kd.R_below (by (with_reducible repeat (first | apply Kd.R_alloc | apply Kd.R_drewN | apply Kd.R_drew)); exact HO148.out) hb); have n2_ := Aside0.mk (Kd.R_below (by (with_reducible repeat (first | apply Kd.R_alloc | apply Kd.R_drewN | apply Kd.R_drew)); exact HO152.out) hb); have n3_ := Aside0.mk (Kd.R_below (by (with_reducible repeat (first | apply Kd.R_alloc | apply Kd.R_drewN | apply Kd.R_drew)); exact HO155.out) hb); have n4_ := Aside0.mk (blk_below (g := gb140) (o := .cells #[.int .i64 1, .int .i64 1000, .int .i64 2, .int .i64 0, .int .i64 10, .int .i64 20, .string (⟨#[99, 111, 117, 114, 116]⟩ : ByteArray)] 28 (0, 0)) (by (with_reducible repeat (first | refine blk_drewN ?_ _ | refine blk_drew ?_ | refine blk_alloc ?_ _)); exact BK140.out) hb); have n5_ := Aside0.mk (below_step (by repeat (first | (with_reducible first | exact HB.out | apply below_alloc | apply pw_below_drewN | apply below_drew1 | refine below_set ?_ GE140.out) | exact HB.out)) hb); clear HO143; clear HO148; clear HO152; clear HO155; clear BK140; clear HB; have HO143 := n0_; have HO148 := n1_; have HO152 := n2_; have HO155 := n3_; have BK140 := n4_; have HB := n5_; clear n0_ n1_ n2_ n3_ n4_ n5_; (try clear hb); (try clear hb2); (try clear hk); (try clear hi); obtain ⟨Ao32, co32, eo32⟩ := Kd.R_slice HO155.out; subst eo32) | (go_at_call 22; (with_reducible refine (blocking_Reserved.calls _ _ y153 1000 9 t160 _ ?side1 ?side2 A17.out).mono ?_); (case side1 => repeat (first | exact (Kd.R_reads' HO155.out).2.2 | (with_reducible refine Kd.C_alloc ?_ _) | (with_reducible refine Kd.C_drewN ?_ _) | (with_reducible refine Kd.C_drew ?_))); (case side2 => exact (Kd.R_reads' HO155.out).2.1); rintro e w33 ⟨rfl, hb⟩; have n0_ := Aside0.mk (Kd.R_below (by (with_reducible repeat (first | apply Kd.R_alloc | apply Kd.R_drewN | apply Kd.R_drew)); exact HO143.out) hb); have n1_ := Aside0.mk (Kd.R_below (by (with_reducible repeat (first | apply Kd.R_alloc | apply Kd.R_drewN | apply Kd.R_drew)); exact HO148.out) hb); have n2_ := Aside0.mk (Kd.R_below (by (with_reducible repeat (first | apply Kd.R_alloc | apply Kd.R_drewN | apply Kd.R_drew)); exact HO152.out) hb); have n3_ := Aside0.mk (Kd.R_below (by (with_reducible repeat (first | apply Kd.R_alloc | apply Kd.R_drewN | apply Kd.R_drew)); exact HO155.out) hb); have n4_ := Aside0.mk (blk_below (g := gb140) (o := .cells #[.int .i64 1, .int .i64 1000, .int .i64 2, .int .i64 0, .int .i64 10, .int .i64 20, .string (⟨#[99, 111, 117, 114, 116]⟩ : ByteArray)] 28 (0, 0)) (by (with_reducible repeat (first | refine blk_drewN ?_ _ | refine blk_drew ?_ | refine blk_alloc ?_ _)); exact BK140.out) hb); have n5_ := Aside0.mk (below_step (by repeat (first | (with_reducible first | exact HB.out | apply below_alloc | apply pw_below_drewN | apply below_drew1 | refine below_set ?_ GE140.out) | exact HB.out)) hb); clear HO143; clear HO148; clear HO152; clear HO155; clear BK140; clear HB; have HO143 := n0_; have HO148 := n1_; have HO152 := n2_; have HO155 := n3_; have BK140 := n4_; have HB := n5_; clear n0_ n1_ n2_ n3_ n4_ n5_; (try clear hb); (try clear hb2); (try clear hk); (try clear hi)) | (go_at_call 10; (with_reducible refine (blocking_Check.calls k _ _ y153 t161 _ ?side1 ?side2 A19.out).mono ?_); (case side1 => repeat (first | exact (Kd.R_reads' HO155.out).2.2 | (with_reducible refine Kd.C_alloc ?_ _) | (with_reducible refine Kd.C_drewN ?_ _) | (with_reducible refine Kd.C_drew ?_))); (case side2 => exact (Kd.R_reads' HO155.out).2.1); rintro e w34 ⟨rfl, hb⟩; have n0_ := Aside0.mk (Kd.R_below (by (with_reducible repeat (first | apply Kd.R_alloc | apply Kd.R_drewN | apply Kd.R_drew)); exact HO143.out) hb); have n1_ := Aside0.mk (Kd.R_below (by (with_reducible repeat (first | apply Kd.R_alloc | apply Kd.R_drewN | apply Kd.R_drew)); exact HO148.out) hb); have n2_ := Aside0.mk (Kd.R_below (by (with_reducible repeat (first | apply Kd.R_alloc | apply Kd.R_drewN | apply Kd.R_drew)); exact HO152.out) hb); have n3_ := Aside0.mk (Kd.R_below (by (with_reducible repeat (first | apply Kd.R_alloc | apply Kd.R_drewN | apply Kd.R_drew)); exact HO155.out) hb); have n4_ := Aside0.mk (blk_below (g := gb140) (o := .cells #[.int .i64 1, .int .i64 1000, .int .i64 2, .int .i64 0, .int .i64 10, .int .i64 20, .string (⟨#[99, 111, 117, 114, 116]⟩ : ByteArray)] 28 (0, 0)) (by (with_reducible repeat (first | refine blk_drewN ?_ _ | refine blk_drew ?_ | refine blk_alloc ?_ _)); exact BK140.out) hb); have n5_ := Aside0.mk (below_step (by repeat (first | (with_reducible first | exact HB.out | apply below_alloc | apply pw_below_drewN | apply below_drew1 | refine below_set ?_ GE140.out) | exact HB.out)) hb); clear HO143; clear HO148; clear HO152; clear HO155; clear BK140; clear HB; have HO143 := n0_; have HO148 := n1_; have HO152 := n2_; have HO155 := n3_; have BK140 := n4_; have HB := n5_; clear n0_ n1_ n2_ n3_ n4_ n5_; (try clear hb); (try clear hb2); (try clear hk); (try clear hi)))
            go_ret
            exact ⟨by first | rfl | (simp [errW_none, errW_some] <;> rfl) | (simp [*, errW_none, errW_some] <;> rfl), by repeat (first | (with_reducible first | exact HB.out | apply below_alloc | apply pw_below_drewN | apply below_drew1 | refine below_set ?_ GE140.out) | exact HB.out)⟩
           ·rw [if_neg c18] at H
            exact absurd H (by simp)
        ·replace c12 := Bool.eq_false_iff.mpr c12
         subst c12
         have H1 : (none) = some r := by rw [if_neg (show ¬ (false = true) by decide)] at H; exact H
         clear H
         have H := H1
         clear H1
         exact absurd H (by simp)
       ·rw [if_neg c10] at H
        exact absurd H (by simp)
      ·rw [if_neg c9] at H
       exact absurd H (by simp)
     ·rw [if_neg c8] at H
      exact absurd H (by simp)
    ·rw [if_neg c7] at H
     exact absurd H (by simp)
   ·rw [if_neg c6] at H
    exact absurd H (by simp)
  ·rw [if_neg c5] at H
   exact absurd H (by simp)
 ·rw [if_neg c4] at H
  exact absurd H (by simp)

/-! ### corebanklaw23_BlockingChecks: function 3 -/
def corebanklaw23_BlockingChecks.f (k : Nat) (l0 : List (S28)) : Option (Bool) := if (l0.length : Int) > 100 then ((corebanklaw23_live.f k).bind fun t162 => (some t162)) else ((corebanklaw23_short.f k l0).bind fun t163 => (if t163 = true then ((blocking_Check.f k l0).bind fun t164 => ((corebankref23_Check.f k l0).bind fun t165 => (if t164 = t165 then ((corebanklaw23_live.f k).bind fun t166 => (some t166)) else (none)))) else ((corebanklaw23_live.f k).bind fun t167 => (some t167))))
theorem corebanklaw23_BlockingChecks.mono : ∀ a0 k, LeO (corebanklaw23_BlockingChecks.f k a0) (corebanklaw23_BlockingChecks.f (k + 1) a0) := by
 intro a0 k
 unfold corebanklaw23_BlockingChecks.f
 repeat' first
   | (with_reducible exact blocking_Check.mono _ _)
   | (with_reducible exact corebanklaw23_live.mono _)
   | (with_reducible exact corebanklaw23_short.mono _ _)
   | (with_reducible exact corebankref23_Check.mono _ _)
   | (with_reducible exact LeO.refl _)
   | (with_reducible exact LeO.none _)
   | (with_reducible refine LeO.ite ?_ ?_)
   | (with_reducible refine LeO.bind ?_ (fun _ => ?_))
   | exact blocking_Check.mono _ _
   | exact corebanklaw23_live.mono _
   | exact corebanklaw23_short.mono _ _
   | exact corebankref23_Check.mono _ _
   | exact LeO.none _
   | refine LeO.ite ?_ ?_
   | refine LeO.bind ?_ (fun _ => ?_)
set_option maxHeartbeats 8000000 in
set_option maxRecDepth 100000 in
theorem corebanklaw23_BlockingChecks.calls (k : Nat) (A0 : Option Addr) (c0 : Nat) (l0 : List (S28)) (r : Bool) (w : World) (hr0 : Kd.C k28 w A0 l0.length l0) (hc0 : l0.length ≤ c0) (h : corebanklaw23_BlockingChecks.f k l0 = some r) :
  Calls Try.prog 3 #[.slice A0 l0.length c0] w fun e w' => e = .returned (.bool r) ∧ Below w.heap.size w w' := by
 have HR0 := Aside0.mk hr0
 have HC0 := Aside0.mk hc0
 clear hr0 hc0
 have HB := Aside0.mk (Below.refl w.heap.size w)
 have H : (if (l0.length : Int) > 100 then ((corebanklaw23_live.f k).bind fun t162 => (some t162)) else ((corebanklaw23_short.f k l0).bind fun t163 => (if t163 = true then ((blocking_Check.f k l0).bind fun t164 => ((corebankref23_Check.f k l0).bind fun t165 => (if t164 = t165 then ((corebanklaw23_live.f k).bind fun t166 => (some t166)) else (none)))) else ((corebanklaw23_live.f k).bind fun t167 => (some t167))))) = some r := h
 clear h
 by_cases c2 : (l0.length : Int) > 100
 ·rw [if_pos c2] at H
  have c2b0 : decide (100 < (l0.length : Int)) = true := decide_eq_true c2
  have c2b1 : decide (100 < l0.length) = true := decide_eq_true (by omega)
  clear c2
  replace H := Option.bind_eq_some_iff.mp H
  obtain ⟨t162, A30, H⟩ := H
  replace H : (some t162) = some r := H
  have A3 := Aside0.mk A30
  clear A30
  obtain rfl := Option.some.inj H
  go_enter Try.func3, Try.ntmps3
  go_wp2_with (first | (go_at_call 12; (with_reducible refine (corebanklaw23_live.calls k  t162 _ A3.out).mono ?_); rintro e w4 ⟨rfl, hb⟩; have n0_ := Aside0.mk (below_step (by repeat (first | (with_reducible first | exact HB.out | apply below_alloc | apply pw_below_drewN | apply below_drew1) | exact HB.out)) hb); clear HB; have HB := n0_; clear n0_; (try clear hb); (try clear hb2); (try clear hk); (try clear hi)))
  go_ret
  exact ⟨by first | rfl | (simp [errW_none, errW_some] <;> rfl) | (simp [*, errW_none, errW_some] <;> rfl), by repeat (first | (with_reducible first | exact HB.out | apply below_alloc | apply pw_below_drewN | apply below_drew1) | exact HB.out)⟩
 ·rw [if_neg c2] at H
  have c2b0 : decide (100 < (l0.length : Int)) = false := decide_eq_false c2
  have c2b1 : decide (100 < l0.length) = false := decide_eq_false (by omega)
  clear c2
  replace H := Option.bind_eq_some_iff.mp H
  obtain ⟨t163, A50, H⟩ := H
  replace H : (if t163 = true then ((blocking_Check.f k l0).bind fun t164 => ((corebankref23_Check.f k l0).bind fun t165 => (if t164 = t165 then ((corebanklaw23_live.f k).bind fun t166 => (some t166)) else (none)))) else ((corebanklaw23_live.f k).bind fun t167 => (some t167))) = some r := H
  have A5 := Aside0.mk A50
  clear A50
  by_cases c6 : t163 = true
  ·subst c6
   have H1 : ((blocking_Check.f k l0).bind fun t164 => ((corebankref23_Check.f k l0).bind fun t165 => (if t164 = t165 then ((corebanklaw23_live.f k).bind fun t166 => (some t166)) else (none)))) = some r := by rw [if_pos rfl] at H; exact H
   clear H
   have H := H1
   clear H1
   replace H := Option.bind_eq_some_iff.mp H
   obtain ⟨t164, A70, H⟩ := H
   replace H : ((corebankref23_Check.f k l0).bind fun t165 => (if t164 = t165 then ((corebanklaw23_live.f k).bind fun t166 => (some t166)) else (none))) = some r := H
   have A7 := Aside0.mk A70
   clear A70
   replace H := Option.bind_eq_some_iff.mp H
   obtain ⟨t165, A80, H⟩ := H
   replace H : (if t164 = t165 then ((corebanklaw23_live.f k).bind fun t166 => (some t166)) else (none)) = some r := H
   have A8 := Aside0.mk A80
   clear A80
   by_cases c9 : t164 = t165
   ·rw [if_pos c9] at H
    have c9b0 : (t164 == t165) = true := beq_iff_eq.mpr c9
    have c9b1 : (t164 != t165) = false := bne_eq_false_iff_eq.mpr c9
    clear c9
    replace H := Option.bind_eq_some_iff.mp H
    obtain ⟨t166, A100, H⟩ := H
    replace H : (some t166) = some r := H
    have A10 := Aside0.mk A100
    clear A100
    obtain rfl := Option.some.inj H
    go_enter Try.func3, Try.ntmps3
    go_wp2_with (first | (go_at_call 9; (with_reducible refine (corebanklaw23_short.calls k _ _ l0 true _ ?side1 ?side2 A5.out).mono ?_); (case side1 => repeat (first | exact HR0.out | (with_reducible refine Kd.C_alloc ?_ _) | (with_reducible refine Kd.C_drewN ?_ _) | (with_reducible refine Kd.C_drew ?_))); (case side2 => exact HC0.out); rintro e w' ⟨rfl, ⟨nd, rfl⟩⟩) | (go_at_call 10; (with_reducible refine (blocking_Check.calls k _ _ l0 t164 _ ?side1 ?side2 A7.out).mono ?_); (case side1 => repeat (first | exact HR0.out | (with_reducible refine Kd.C_alloc ?_ _) | (with_reducible refine Kd.C_drewN ?_ _) | (with_reducible refine Kd.C_drew ?_))); (case side2 => exact HC0.out); rintro e w11 ⟨rfl, hb⟩; have n0_ := Aside0.mk (below_step (by repeat (first | (with_reducible first | exact HB.out | apply below_alloc | apply pw_below_drewN | apply below_drew1) | exact HB.out)) hb); clear HB; have HB := n0_; clear n0_; (try clear hb); (try clear hb2); (try clear hk); (try clear hi)) | (go_at_call 11; (with_reducible refine (corebankref23_Check.calls k _ _ l0 t165 _ ?side1 ?side2 A8.out).mono ?_); (case side1 => repeat (first | exact (Kd.C_below HR0.out HB.out) | (with_reducible refine Kd.C_alloc ?_ _) | (with_reducible refine Kd.C_drewN ?_ _) | (with_reducible refine Kd.C_drew ?_))); (case side2 => exact HC0.out); rintro e w12 ⟨rfl, hb⟩; have n0_ := Aside0.mk (below_step (by repeat (first | (with_reducible first | exact HB.out | apply below_alloc | apply pw_below_drewN | apply below_drew1) | exact HB.out)) hb); clear HB; have HB := n0_; clear n0_; (try clear hb); (try clear hb2); (try clear hk); (try clear hi)) | (go_at_call 12; (with_reducible refine (corebanklaw23_live.calls k  t166 _ A10.out).mono ?_); rintro e w13 ⟨rfl, hb⟩; have n0_ := Aside0.mk (below_step (by repeat (first | (with_reducible first | exact HB.out | apply below_alloc | apply pw_below_drewN | apply below_drew1) | exact HB.out)) hb); clear HB; have HB := n0_; clear n0_; (try clear hb); (try clear hb2); (try clear hk); (try clear hi)))
    go_ret
    exact ⟨by first | rfl | (simp [errW_none, errW_some] <;> rfl) | (simp [*, errW_none, errW_some] <;> rfl), by repeat (first | (with_reducible first | exact HB.out | apply below_alloc | apply pw_below_drewN | apply below_drew1) | exact HB.out)⟩
   ·rw [if_neg c9] at H
    exact absurd H (by simp)
  ·replace c6 := Bool.eq_false_iff.mpr c6
   subst c6
   have H1 : ((corebanklaw23_live.f k).bind fun t167 => (some t167)) = some r := by rw [if_neg (show ¬ (false = true) by decide)] at H; exact H
   clear H
   have H := H1
   clear H1
   replace H := Option.bind_eq_some_iff.mp H
   obtain ⟨t167, A140, H⟩ := H
   replace H : (some t167) = some r := H
   have A14 := Aside0.mk A140
   clear A140
   obtain rfl := Option.some.inj H
   go_enter Try.func3, Try.ntmps3
   go_wp2_with (first | (go_at_call 9; (with_reducible refine (corebanklaw23_short.calls k _ _ l0 false _ ?side1 ?side2 A5.out).mono ?_); (case side1 => repeat (first | exact HR0.out | (with_reducible refine Kd.C_alloc ?_ _) | (with_reducible refine Kd.C_drewN ?_ _) | (with_reducible refine Kd.C_drew ?_))); (case side2 => exact HC0.out); rintro e w' ⟨rfl, ⟨nd, rfl⟩⟩) | (go_at_call 12; (with_reducible refine (corebanklaw23_live.calls k  t167 _ A14.out).mono ?_); rintro e w15 ⟨rfl, hb⟩; have n0_ := Aside0.mk (below_step (by repeat (first | (with_reducible first | exact HB.out | apply below_alloc | apply pw_below_drewN | apply below_drew1) | exact HB.out)) hb); clear HB; have HB := n0_; clear n0_; (try clear hb); (try clear hb2); (try clear hk); (try clear hi)))
   go_ret
   exact ⟨by first | rfl | (simp [errW_none, errW_some] <;> rfl) | (simp [*, errW_none, errW_some] <;> rfl), by repeat (first | (with_reducible first | exact HB.out | apply below_alloc | apply pw_below_drewN | apply below_drew1) | exact HB.out)⟩

end Go.Proofs.Ytlgdcimaapkfbaa.Q
