-- Written for this claim by a program: the kit's print, turned so that it takes functions that are proved by hand.
import Derived.Test.YtbeebjpbmbkodaaDoorQx0
namespace Go.Proofs.YtbeebjpbmbkodaaDoor.Q
open Go.RowKit Go.Proofs.YtbeebjpbmbkodaaDoorW.PrintWords Go.Proofs.YtbeebjpbmbkodaaDoorW.PrintLast Go.Proofs.YtbeebjpbmbkodaaDoorW.PrintMore
attribute [local go_sem] max2_int min2_int max_two min_two max_three min_three max_four min_four   -- for this text's walks alone
set_option linter.unusedVariables false
set_option linter.unusedSimpArgs false

/-! ### corebankref03_Parse: function 18 -/
mutual
def corebankref03_Parse.j0 : Nat → ByteArray → Int → Bool → Option (Int × Int)
 | 0, _, _, _ => none
 | k + 1, x0, x1, x18 => if x18 = true then (some (0, 1)) else (if (x0.size : Int) > 0 then (if 0 < (x0.size : Int) then (corebankref03_Parse.j1 k x1 x0 ((bt x0 0) == 45)) else (none)) else (corebankref03_Parse.j1 k x1 x0 false))
def corebankref03_Parse.j1 : Nat → Int → ByteArray → Bool → Option (Int × Int)
 | 0, _, _, _ => none
 | k + 1, x1, x6, x7 => if x7 = true then (if 1 ≤ (x6.size : Int) then (corebankref03_Parse.j2 k x1 (x6.extract 1 x6.size) x7) else (none)) else (corebankref03_Parse.j2 k x1 x6 x7)
def corebankref03_Parse.j2 : Nat → Int → ByteArray → Bool → Option (Int × Int)
 | 0, _, _, _ => none
 | k + 1, x1, x6, x7 => if x1 > 0 then (corebankref03_Parse.j3 k x6 x7 (wrap64 ((wrap64 ((x6.size : Int) - x1)) - 1))) else (corebankref03_Parse.j3 k x6 x7 (x6.size : Int))
def corebankref03_Parse.j3 : Nat → ByteArray → Bool → Int → Option (Int × Int)
 | 0, _, _, _ => none
 | k + 1, x6, x7, x8 => if x8 < 1 then (corebankref03_Parse.j4 k x6 x7 x8 true) else (if 0 < (x6.size : Int) then (if (bt x6 0) = 48 then (corebankref03_Parse.j4 k x6 x7 x8 (decide (x8 > 1))) else (corebankref03_Parse.j4 k x6 x7 x8 false)) else (none))
def corebankref03_Parse.j4 : Nat → ByteArray → Bool → Int → Bool → Option (Int × Int)
 | 0, _, _, _, _ => none
 | k + 1, x6, x7, x8, x50 => if x50 = true then (some (0, 2)) else (corebankref03_Parse.l0 k x6 x7 x8 0 false false 0)
def corebankref03_Parse.l0 : Nat → ByteArray → Bool → Int → Int → Bool → Bool → Int → Option (Int × Int)
 | 0, _, _, _, _, _, _, _ => none
 | k + 1, x6, x7, x8, x9, x10, x11, x12 => if x12 < (x6.size : Int) then (if x12 = x8 then (if 0 ≤ x12 then (if (bt x6 x12) = 46 then (corebankref03_Parse.l0 k x6 x7 x8 x9 x10 x11 (wrap64 (x12 + 1))) else (some (0, 2))) else (none)) else (if 0 ≤ x12 then (if (bt x6 x12) < 48 then (corebankref03_Parse.j6 k x6 x7 x8 x9 x10 x11 x12 true) else (corebankref03_Parse.j6 k x6 x7 x8 x9 x10 x11 x12 (decide ((bt x6 x12) > 57)))) else (none))) else (if x7 = true then (corebankref03_Parse.j7 k x7 x9 x11 (!x10)) else (corebankref03_Parse.j7 k x7 x9 x11 false))
def corebankref03_Parse.j6 : Nat → ByteArray → Bool → Int → Int → Bool → Bool → Int → Bool → Option (Int × Int)
 | 0, _, _, _, _, _, _, _, _ => none
 | k + 1, x6, x7, x8, x9, x10, x11, x12, x73 => if x73 = true then (some (0, 2)) else (if x10 = true then (if x11 = true then (corebankref03_Parse.l0 k x6 x7 x8 x9 true true (wrap64 (x12 + 1))) else (if 0 ≤ x12 then (if x12 < (x6.size : Int) then (corebankref03_Parse.l0 k x6 x7 x8 (wrap64 ((wrap64 (10 * x9)) + (((bt x6 x12) - 48) % 256))) true (decide ((wrap64 ((wrap64 (10 * x9)) + (((bt x6 x12) - 48) % 256))) > 1000000000000)) (wrap64 (x12 + 1))) else (none)) else (none))) else (if 0 ≤ x12 then (if x12 < (x6.size : Int) then (if x11 = true then (corebankref03_Parse.l0 k x6 x7 x8 x9 ((bt x6 x12) != 48) true (wrap64 (x12 + 1))) else (corebankref03_Parse.l0 k x6 x7 x8 (wrap64 ((wrap64 (10 * x9)) + (((bt x6 x12) - 48) % 256))) ((bt x6 x12) != 48) (decide ((wrap64 ((wrap64 (10 * x9)) + (((bt x6 x12) - 48) % 256))) > 1000000000000)) (wrap64 (x12 + 1)))) else (none)) else (none)))
def corebankref03_Parse.j7 : Nat → Bool → Int → Bool → Bool → Option (Int × Int)
 | 0, _, _, _, _ => none
 | k + 1, x7, x9, x11, x100 => if x100 = true then (some (0, 2)) else (if x11 = true then (some (0, 6)) else (if x7 = true then (some (wrap64 (-x9), 0)) else (some (x9, 0))))
end
def corebankref03_Parse.f (k : Nat) (a0 : ByteArray) (a1 : Int) : Option (Int × Int) := if a1 < 0 then (corebankref03_Parse.j0 k a0 a1 true) else (corebankref03_Parse.j0 k a0 a1 (decide (a1 > 4)))
theorem corebankref03_Parse.mono_l : ∀ k, (∀ y0 y1 y2, LeO (corebankref03_Parse.j0 k y0 y1 y2) (corebankref03_Parse.j0 (k + 1) y0 y1 y2)) ∧ (∀ y0 y1 y2, LeO (corebankref03_Parse.j1 k y0 y1 y2) (corebankref03_Parse.j1 (k + 1) y0 y1 y2)) ∧ (∀ y0 y1 y2, LeO (corebankref03_Parse.j2 k y0 y1 y2) (corebankref03_Parse.j2 (k + 1) y0 y1 y2)) ∧ (∀ y0 y1 y2, LeO (corebankref03_Parse.j3 k y0 y1 y2) (corebankref03_Parse.j3 (k + 1) y0 y1 y2)) ∧ (∀ y0 y1 y2 y3, LeO (corebankref03_Parse.j4 k y0 y1 y2 y3) (corebankref03_Parse.j4 (k + 1) y0 y1 y2 y3)) ∧ (∀ y0 y1 y2 y3 y4 y5 y6, LeO (corebankref03_Parse.l0 k y0 y1 y2 y3 y4 y5 y6) (corebankref03_Parse.l0 (k + 1) y0 y1 y2 y3 y4 y5 y6)) ∧ (∀ y0 y1 y2 y3 y4 y5 y6 y7, LeO (corebankref03_Parse.j6 k y0 y1 y2 y3 y4 y5 y6 y7) (corebankref03_Parse.j6 (k + 1) y0 y1 y2 y3 y4 y5 y6 y7)) ∧ (∀ y0 y1 y2 y3, LeO (corebankref03_Parse.j7 k y0 y1 y2 y3) (corebankref03_Parse.j7 (k + 1) y0 y1 y2 y3))
 | 0 => ⟨fun _ _ _ r h => by simp [corebankref03_Parse.j0] at h, fun _ _ _ r h => by simp [corebankref03_Parse.j1] at h, fun _ _ _ r h => by simp [corebankref03_Parse.j2] at h, fun _ _ _ r h => by simp [corebankref03_Parse.j3] at h, fun _ _ _ _ r h => by simp [corebankref03_Parse.j4] at h, fun _ _ _ _ _ _ _ r h => by simp [corebankref03_Parse.l0] at h, fun _ _ _ _ _ _ _ _ r h => by simp [corebankref03_Parse.j6] at h, fun _ _ _ _ r h => by simp [corebankref03_Parse.j7] at h⟩
 | k + 1 => by
  obtain ⟨ih0, ih1, ih2, ih3, ih4, ih5, ih6, ih7⟩ := corebankref03_Parse.mono_l k
  refine ⟨?_, ?_, ?_, ?_, ?_, ?_, ?_, ?_⟩
  ·intro y0 y1 y2
   unfold corebankref03_Parse.j0
   repeat' first
   | (with_reducible exact ih0 _ _ _)
   | (with_reducible exact ih1 _ _ _)
   | (with_reducible exact ih2 _ _ _)
   | (with_reducible exact ih3 _ _ _)
   | (with_reducible exact ih4 _ _ _ _)
   | (with_reducible exact ih5 _ _ _ _ _ _ _)
   | (with_reducible exact ih6 _ _ _ _ _ _ _ _)
   | (with_reducible exact ih7 _ _ _ _)
   | (with_reducible exact LeO.refl _)
   | (with_reducible exact LeO.none _)
   | (with_reducible refine LeO.ite ?_ ?_)
   | (with_reducible refine LeO.bind ?_ (fun _ => ?_))
   | exact ih0 _ _ _
   | exact ih1 _ _ _
   | exact ih2 _ _ _
   | exact ih3 _ _ _
   | exact ih4 _ _ _ _
   | exact ih5 _ _ _ _ _ _ _
   | exact ih6 _ _ _ _ _ _ _ _
   | exact ih7 _ _ _ _
   | exact LeO.none _
   | refine LeO.ite ?_ ?_
   | refine LeO.bind ?_ (fun _ => ?_)
  ·intro y0 y1 y2
   unfold corebankref03_Parse.j1
   repeat' first
   | (with_reducible exact ih0 _ _ _)
   | (with_reducible exact ih1 _ _ _)
   | (with_reducible exact ih2 _ _ _)
   | (with_reducible exact ih3 _ _ _)
   | (with_reducible exact ih4 _ _ _ _)
   | (with_reducible exact ih5 _ _ _ _ _ _ _)
   | (with_reducible exact ih6 _ _ _ _ _ _ _ _)
   | (with_reducible exact ih7 _ _ _ _)
   | (with_reducible exact LeO.refl _)
   | (with_reducible exact LeO.none _)
   | (with_reducible refine LeO.ite ?_ ?_)
   | (with_reducible refine LeO.bind ?_ (fun _ => ?_))
   | exact ih0 _ _ _
   | exact ih1 _ _ _
   | exact ih2 _ _ _
   | exact ih3 _ _ _
   | exact ih4 _ _ _ _
   | exact ih5 _ _ _ _ _ _ _
   | exact ih6 _ _ _ _ _ _ _ _
   | exact ih7 _ _ _ _
   | exact LeO.none _
   | refine LeO.ite ?_ ?_
   | refine LeO.bind ?_ (fun _ => ?_)
  ·intro y0 y1 y2
   unfold corebankref03_Parse.j2
   repeat' first
   | (with_reducible exact ih0 _ _ _)
   | (with_reducible exact ih1 _ _ _)
   | (with_reducible exact ih2 _ _ _)
   | (with_reducible exact ih3 _ _ _)
   | (with_reducible exact ih4 _ _ _ _)
   | (with_reducible exact ih5 _ _ _ _ _ _ _)
   | (with_reducible exact ih6 _ _ _ _ _ _ _ _)
   | (with_reducible exact ih7 _ _ _ _)
   | (with_reducible exact LeO.refl _)
   | (with_reducible exact LeO.none _)
   | (with_reducible refine LeO.ite ?_ ?_)
   | (with_reducible refine LeO.bind ?_ (fun _ => ?_))
   | exact ih0 _ _ _
   | exact ih1 _ _ _
   | exact ih2 _ _ _
   | exact ih3 _ _ _
   | exact ih4 _ _ _ _
   | exact ih5 _ _ _ _ _ _ _
   | exact ih6 _ _ _ _ _ _ _ _
   | exact ih7 _ _ _ _
   | exact LeO.none _
   | refine LeO.ite ?_ ?_
   | refine LeO.bind ?_ (fun _ => ?_)
  ·intro y0 y1 y2
   unfold corebankref03_Parse.j3
   repeat' first
   | (with_reducible exact ih0 _ _ _)
   | (with_reducible exact ih1 _ _ _)
   | (with_reducible exact ih2 _ _ _)
   | (with_reducible exact ih3 _ _ _)
   | (with_reducible exact ih4 _ _ _ _)
   | (with_reducible exact ih5 _ _ _ _ _ _ _)
   | (with_reducible exact ih6 _ _ _ _ _ _ _ _)
   | (with_reducible exact ih7 _ _ _ _)
   | (with_reducible exact LeO.refl _)
   | (with_reducible exact LeO.none _)
   | (with_reducible refine LeO.ite ?_ ?_)
   | (with_reducible refine LeO.bind ?_ (fun _ => ?_))
   | exact ih0 _ _ _
   | exact ih1 _ _ _
   | exact ih2 _ _ _
   | exact ih3 _ _ _
   | exact ih4 _ _ _ _
   | exact ih5 _ _ _ _ _ _ _
   | exact ih6 _ _ _ _ _ _ _ _
   | exact ih7 _ _ _ _
   | exact LeO.none _
   | refine LeO.ite ?_ ?_
   | refine LeO.bind ?_ (fun _ => ?_)
  ·intro y0 y1 y2 y3
   unfold corebankref03_Parse.j4
   repeat' first
   | (with_reducible exact ih0 _ _ _)
   | (with_reducible exact ih1 _ _ _)
   | (with_reducible exact ih2 _ _ _)
   | (with_reducible exact ih3 _ _ _)
   | (with_reducible exact ih4 _ _ _ _)
   | (with_reducible exact ih5 _ _ _ _ _ _ _)
   | (with_reducible exact ih6 _ _ _ _ _ _ _ _)
   | (with_reducible exact ih7 _ _ _ _)
   | (with_reducible exact LeO.refl _)
   | (with_reducible exact LeO.none _)
   | (with_reducible refine LeO.ite ?_ ?_)
   | (with_reducible refine LeO.bind ?_ (fun _ => ?_))
   | exact ih0 _ _ _
   | exact ih1 _ _ _
   | exact ih2 _ _ _
   | exact ih3 _ _ _
   | exact ih4 _ _ _ _
   | exact ih5 _ _ _ _ _ _ _
   | exact ih6 _ _ _ _ _ _ _ _
   | exact ih7 _ _ _ _
   | exact LeO.none _
   | refine LeO.ite ?_ ?_
   | refine LeO.bind ?_ (fun _ => ?_)
  ·intro y0 y1 y2 y3 y4 y5 y6
   unfold corebankref03_Parse.l0
   repeat' first
   | (with_reducible exact ih0 _ _ _)
   | (with_reducible exact ih1 _ _ _)
   | (with_reducible exact ih2 _ _ _)
   | (with_reducible exact ih3 _ _ _)
   | (with_reducible exact ih4 _ _ _ _)
   | (with_reducible exact ih5 _ _ _ _ _ _ _)
   | (with_reducible exact ih6 _ _ _ _ _ _ _ _)
   | (with_reducible exact ih7 _ _ _ _)
   | (with_reducible exact LeO.refl _)
   | (with_reducible exact LeO.none _)
   | (with_reducible refine LeO.ite ?_ ?_)
   | (with_reducible refine LeO.bind ?_ (fun _ => ?_))
   | exact ih0 _ _ _
   | exact ih1 _ _ _
   | exact ih2 _ _ _
   | exact ih3 _ _ _
   | exact ih4 _ _ _ _
   | exact ih5 _ _ _ _ _ _ _
   | exact ih6 _ _ _ _ _ _ _ _
   | exact ih7 _ _ _ _
   | exact LeO.none _
   | refine LeO.ite ?_ ?_
   | refine LeO.bind ?_ (fun _ => ?_)
  ·intro y0 y1 y2 y3 y4 y5 y6 y7
   unfold corebankref03_Parse.j6
   repeat' first
   | (with_reducible exact ih0 _ _ _)
   | (with_reducible exact ih1 _ _ _)
   | (with_reducible exact ih2 _ _ _)
   | (with_reducible exact ih3 _ _ _)
   | (with_reducible exact ih4 _ _ _ _)
   | (with_reducible exact ih5 _ _ _ _ _ _ _)
   | (with_reducible exact ih6 _ _ _ _ _ _ _ _)
   | (with_reducible exact ih7 _ _ _ _)
   | (with_reducible exact LeO.refl _)
   | (with_reducible exact LeO.none _)
   | (with_reducible refine LeO.ite ?_ ?_)
   | (with_reducible refine LeO.bind ?_ (fun _ => ?_))
   | exact ih0 _ _ _
   | exact ih1 _ _ _
   | exact ih2 _ _ _
   | exact ih3 _ _ _
   | exact ih4 _ _ _ _
   | exact ih5 _ _ _ _ _ _ _
   | exact ih6 _ _ _ _ _ _ _ _
   | exact ih7 _ _ _ _
   | exact LeO.none _
   | refine LeO.ite ?_ ?_
   | refine LeO.bind ?_ (fun _ => ?_)
  ·intro y0 y1 y2 y3
   unfold corebankref03_Parse.j7
   repeat' first
   | (with_reducible exact ih0 _ _ _)
   | (with_reducible exact ih1 _ _ _)
   | (with_reducible exact ih2 _ _ _)
   | (with_reducible exact ih3 _ _ _)
   | (with_reducible exact ih4 _ _ _ _)
   | (with_reducible exact ih5 _ _ _ _ _ _ _)
   | (with_reducible exact ih6 _ _ _ _ _ _ _ _)
   | (with_reducible exact ih7 _ _ _ _)
   | (with_reducible exact LeO.refl _)
   | (with_reducible exact LeO.none _)
   | (with_reducible refine LeO.ite ?_ ?_)
   | (with_reducible refine LeO.bind ?_ (fun _ => ?_))
   | exact ih0 _ _ _
   | exact ih1 _ _ _
   | exact ih2 _ _ _
   | exact ih3 _ _ _
   | exact ih4 _ _ _ _
   | exact ih5 _ _ _ _ _ _ _
   | exact ih6 _ _ _ _ _ _ _ _
   | exact ih7 _ _ _ _
   | exact LeO.none _
   | refine LeO.ite ?_ ?_
   | refine LeO.bind ?_ (fun _ => ?_)
theorem corebankref03_Parse.mono : ∀ a0 a1 k, LeO (corebankref03_Parse.f k a0 a1) (corebankref03_Parse.f (k + 1) a0 a1) := by
 intro a0 a1 k
 obtain ⟨ih0, ih1, ih2, ih3, ih4, ih5, ih6, ih7⟩ := corebankref03_Parse.mono_l k
 unfold corebankref03_Parse.f
 repeat' first
   | (with_reducible exact ih0 _ _ _)
   | (with_reducible exact ih1 _ _ _)
   | (with_reducible exact ih2 _ _ _)
   | (with_reducible exact ih3 _ _ _)
   | (with_reducible exact ih4 _ _ _ _)
   | (with_reducible exact ih5 _ _ _ _ _ _ _)
   | (with_reducible exact ih6 _ _ _ _ _ _ _ _)
   | (with_reducible exact ih7 _ _ _ _)
   | (with_reducible exact LeO.refl _)
   | (with_reducible exact LeO.none _)
   | (with_reducible refine LeO.ite ?_ ?_)
   | (with_reducible refine LeO.bind ?_ (fun _ => ?_))
   | exact ih0 _ _ _
   | exact ih1 _ _ _
   | exact ih2 _ _ _
   | exact ih3 _ _ _
   | exact ih4 _ _ _ _
   | exact ih5 _ _ _ _ _ _ _
   | exact ih6 _ _ _ _ _ _ _ _
   | exact ih7 _ _ _ _
   | exact LeO.none _
   | refine LeO.ite ?_ ?_
   | refine LeO.bind ?_ (fun _ => ?_)
set_option maxHeartbeats 8000000 in
set_option maxRecDepth 100000 in
theorem corebankref03_Parse.calls (k : Nat) (a0 : ByteArray) (a1 : Int) (r1 : Int) (r2 : Int) (w : World) (h : corebankref03_Parse.f k a0 a1 = some (r1, r2)) :
  Calls Tryd.prog 18 #[.string a0, .int .i64 a1] w fun e w' => e = .returned (.tuple #[.int .i64 r1, .int .i64 r2]) ∧ Drawn0 w w' := by
 have H : (if a1 < 0 then (corebankref03_Parse.j0 k a0 a1 true) else (corebankref03_Parse.j0 k a0 a1 (decide (a1 > 4)))) = some (r1, r2) := h
 clear h
 have HC3 := Aside0.mk H
 clear H
 go_enter Tryd.func18, Tryd.ntmps18
 go_upto_region 1 with (fail)
 go_cut [18] (fun v18 wc => ∃ (kq : Nat) (x18_2 : Bool), v18 = .bool x18_2 ∧ Aside0 (corebankref03_Parse.j0 kq a0 a1 x18_2 = some (r1, r2)) ∧ Aside0 (kq ≤ k) ∧ Drawn0 w wc)
 case first =>
  have H := HC3.out
  clear HC3
  by_cases c4 : a1 < 0
  ·rw [if_pos c4] at H
   have c4b0 : decide (a1 < 0) = true := decide_eq_true c4
   clear c4
   (first | rw [c4b0] | (simp only [i64_w, i32_w]; rw [c4b0]) | skip)
   have H' := Aside0.mk H
   clear H
   go_wp2
   go_meet
   case rel => exact ⟨_, (true), (by first | rfl | (simp; done) | (simp [*]; done)), H', ⟨by first | omega | exact Nat.le_refl _⟩, by repeat (first | exact Drawn0.refl _ | apply Drawn0.step)⟩
  ·rw [if_neg c4] at H
   have c4b0 : decide (a1 < 0) = false := decide_eq_false c4
   clear c4
   (first | rw [c4b0] | (simp only [i64_w, i32_w]; rw [c4b0]) | skip)
   have H' := Aside0.mk H
   clear H
   go_wp2
   go_meet
   case rel => exact ⟨_, (decide (a1 > 4)), (by first | rfl | (simp; done) | (simp [*]; done)), H', ⟨by first | omega | exact Nat.le_refl _⟩, by repeat (first | exact Drawn0.refl _ | apply Drawn0.step)⟩
 case rest =>
  clear HC3
  try clear c1
  try clear p2
  try clear c4
  try clear c4b0
  obtain ⟨kq, x18_2, rfl, HA, HJ2, ⟨mc2, rfl⟩⟩ := hcut
  cases kq with
  | zero => exact absurd HA.out (by simp [corebankref03_Parse.j0])
  | succ kj2 =>
   have H := HA.out
   clear HA
   simp only [corebankref03_Parse.j0] at H
   by_cases c5 : x18_2 = true
   ·subst c5
    have H1 : (some (0, 1)) = some (r1, r2) := by rw [if_pos rfl] at H; exact H
    clear H
    have H := H1
    clear H1
    simp only [Option.some.injEq, Prod.mk.injEq] at H
    obtain ⟨rfl, rfl⟩ := H
    go_wp2
    go_ret2
    exact ⟨by first | rfl | (simp; done) | (simp [*]; done), by repeat (first | exact Drawn0.refl _ | apply Drawn0.step)⟩
   ·replace c5 := Bool.eq_false_iff.mpr c5
    subst c5
    have H1 : (if (a0.size : Int) > 0 then (if 0 < (a0.size : Int) then (corebankref03_Parse.j1 kj2 a1 a0 ((bt a0 0) == 45)) else (none)) else (corebankref03_Parse.j1 kj2 a1 a0 false)) = some (r1, r2) := by rw [if_neg (show ¬ (false = true) by decide)] at H; exact H
    clear H
    have H := H1
    clear H1
    have HC6 := Aside0.mk H
    clear H
    go_upto_region 4 with (fail)
    go_cut [7] (fun v7 wc => ∃ (kq : Nat) (x7_5 : Bool), v7 = .bool x7_5 ∧ Aside0 (corebankref03_Parse.j1 kq a1 a0 x7_5 = some (r1, r2)) ∧ Aside0 (kq ≤ kj2) ∧ Drawn0 w wc)
    case first =>
     have H := HC6.out
     clear HC6
     by_cases c7 : (a0.size : Int) > 0
     ·rw [if_pos c7] at H
      have c7b0 : decide (0 < (a0.size : Int)) = true := decide_eq_true c7
      have c7b1 : decide (0 < a0.size) = true := decide_eq_true (by omega)
      clear c7
      (first | rw [c7b0] | (simp only [i64_w, i32_w]; rw [c7b0]) | skip)
      by_cases c8 : 0 < (a0.size : Int)
      ·rw [if_pos c8] at H
       have c8b0 : decide (0 < (a0.size : Int)) = true := decide_eq_true c8
       have c8b1 : decide (0 < a0.size) = true := decide_eq_true (by omega)
       clear c8
       have H' := Aside0.mk H
       clear H
       have p9 : 0 ≤ (0 : Int) := (by omega)
       have q9 : 0 < a0.size := (by have : (0 : Int) < (a0.size : Int) := of_decide_eq_true (by first | (with_reducible assumption) | assumption); omega)
       have hx9 : ∀ h : 0 < a0.size, ((a0[0]'h).toNat : Int) = bt a0 0 := bt_at a0 0
       clear p9
       have qi9 : (0 < (a0.size : Int)) = True := eq_true (of_decide_eq_true (by first | (with_reducible assumption) | assumption))
       replace q9 := eq_true q9
       go_wp2
       go_meet
       case rel => exact ⟨_, (((bt a0 0) == 45)), (by first | rfl | (simp; done) | (simp [*]; done)), H', ⟨by have := HJ2.out; first | omega | exact Nat.le_refl _⟩, by repeat (first | exact Drawn0.refl _ | apply Drawn0.step)⟩
      ·rw [if_neg c8] at H
       exact absurd H (by simp)
     ·rw [if_neg c7] at H
      have c7b0 : decide (0 < (a0.size : Int)) = false := decide_eq_false c7
      have c7b1 : decide (0 < a0.size) = false := decide_eq_false (by omega)
      clear c7
      (first | rw [c7b0] | (simp only [i64_w, i32_w]; rw [c7b0]) | skip)
      have H' := Aside0.mk H
      clear H
      go_wp2
      go_meet
      case rel => exact ⟨_, (false), (by first | rfl | (simp; done) | (simp [*]; done)), H', ⟨by have := HJ2.out; first | omega | exact Nat.le_refl _⟩, by repeat (first | exact Drawn0.refl _ | apply Drawn0.step)⟩
    case rest =>
     clear HC6
     try clear c1
     try clear c2
     try clear p2
     try clear c4
     try clear c4b0
     try clear c5
     try clear c7
     try clear c7b0
     try clear c7b1
     try clear c8
     try clear c8b0
     try clear c8b1
     try clear p9
     try clear q9
     try clear hx9
     try clear qi9
     try clear p2
     try clear p9
     try clear q9
     obtain ⟨kq, x7_5, rfl, HA, HJ5, ⟨mc5, rfl⟩⟩ := hcut
     cases kq with
     | zero => exact absurd HA.out (by simp [corebankref03_Parse.j1])
     | succ kj5 =>
      have H := HA.out
      clear HA
      simp only [corebankref03_Parse.j1] at H
      have HC10 := Aside0.mk H
      clear H
      go_upto_if 28 with (fail)
      go_cut [6] (fun v6 wc => ∃ (kq : Nat) (x6_9 : ByteArray), v6 = .string x6_9 ∧ Aside0 (corebankref03_Parse.j2 kq a1 x6_9 x7_5 = some (r1, r2)) ∧ Aside0 (kq ≤ kj5) ∧ Drawn0 w wc)
      case first =>
       have H := HC10.out
       clear HC10
       by_cases c11 : x7_5 = true
       ·subst c11
        have H1 : (if 1 ≤ (a0.size : Int) then (corebankref03_Parse.j2 kj5 a1 (a0.extract 1 a0.size) true) else (none)) = some (r1, r2) := by rw [if_pos rfl] at H; exact H
        clear H
        have H := H1
        clear H1
        by_cases c12 : 1 ≤ (a0.size : Int)
        ·rw [if_pos c12] at H
         have c12b0 := eq_true c12
         have c12b1 : decide (1 ≤ (a0.size : Int)) = true := decide_eq_true c12
         clear c12
         have H' := Aside0.mk H
         clear H
         go_wp2
         go_meet
         case rel => exact ⟨_, (a0.extract 1 a0.size), (by first | rfl | (simp; done) | (simp [*]; done)), H', ⟨by have := HJ2.out; have := HJ5.out; first | omega | exact Nat.le_refl _⟩, by repeat (first | exact Drawn0.refl _ | apply Drawn0.step)⟩
        ·rw [if_neg c12] at H
         exact absurd H (by simp)
       ·replace c11 := Bool.eq_false_iff.mpr c11
        subst c11
        have H1 : (corebankref03_Parse.j2 kj5 a1 a0 false) = some (r1, r2) := by rw [if_neg (show ¬ (false = true) by decide)] at H; exact H
        clear H
        have H := H1
        clear H1
        have H' := Aside0.mk H
        clear H
        go_wp2
        go_meet
        case rel => exact ⟨_, (a0), (by first | rfl | (simp; done) | (simp [*]; done)), H', ⟨by have := HJ2.out; have := HJ5.out; first | omega | exact Nat.le_refl _⟩, by repeat (first | exact Drawn0.refl _ | apply Drawn0.step)⟩
      case rest =>
       clear HC10
       try clear c1
       try clear c2
       try clear p2
       try clear c4
       try clear c4b0
       try clear c5
       try clear c7
       try clear c7b0
       try clear c7b1
       try clear c8
       try clear c8b0
       try clear c8b1
       try clear p9
       try clear q9
       try clear hx9
       try clear qi9
       try clear c11
       try clear c12
       try clear c12b0
       try clear c12b1
       try clear p2
       try clear p9
       try clear q9
       obtain ⟨kq, x6_9, rfl, HA, HJ9, ⟨mc9, rfl⟩⟩ := hcut
       cases kq with
       | zero => exact absurd HA.out (by simp [corebankref03_Parse.j2])
       | succ kj9 =>
        have H := HA.out
        clear HA
        simp only [corebankref03_Parse.j2] at H
        have HC13 := Aside0.mk H
        clear H
        go_upto_if 34 with (fail)
        go_cut [8] (fun v8 wc => ∃ (kq : Nat) (x8_12 : Int), v8 = .int .i64 x8_12 ∧ Aside0 (corebankref03_Parse.j3 kq x6_9 x7_5 x8_12 = some (r1, r2)) ∧ Aside0 (kq ≤ kj9) ∧ Drawn0 w wc)
        case first =>
         have H := HC13.out
         clear HC13
         by_cases c14 : a1 > 0
         ·rw [if_pos c14] at H
          have c14b0 : decide (0 < a1) = true := decide_eq_true c14
          clear c14
          (first | rw [c14b0] | (simp only [i64_w, i32_w]; rw [c14b0]) | skip)
          have H' := Aside0.mk H
          clear H
          go_wp2
          go_meet
          case rel => exact ⟨_, (wrap64 ((wrap64 ((x6_9.size : Int) - a1)) - 1)), (by first | rfl | (simp; done) | (simp [*]; done)), H', ⟨by have := HJ2.out; have := HJ5.out; have := HJ9.out; first | omega | exact Nat.le_refl _⟩, by repeat (first | exact Drawn0.refl _ | apply Drawn0.step)⟩
         ·rw [if_neg c14] at H
          have c14b0 : decide (0 < a1) = false := decide_eq_false c14
          clear c14
          (first | rw [c14b0] | (simp only [i64_w, i32_w]; rw [c14b0]) | skip)
          have H' := Aside0.mk H
          clear H
          go_wp2
          go_meet
          case rel => exact ⟨_, ((x6_9.size : Int)), (by first | rfl | (simp; done) | (simp [*]; done)), H', ⟨by have := HJ2.out; have := HJ5.out; have := HJ9.out; first | omega | exact Nat.le_refl _⟩, by repeat (first | exact Drawn0.refl _ | apply Drawn0.step)⟩
        case rest =>
         clear HC13
         try clear c1
         try clear c2
         try clear p2
         try clear c4
         try clear c4b0
         try clear c5
         try clear p6
         try clear c7
         try clear c7b0
         try clear c7b1
         try clear c8
         try clear c8b0
         try clear c8b1
         try clear c9
         try clear p9
         try clear q9
         try clear hx9
         try clear qi9
         try clear c11
         try clear c12
         try clear c12b0
         try clear c12b1
         try clear c14
         try clear c14b0
         try clear p2
         try clear p9
         try clear q9
         obtain ⟨kq, x8_12, rfl, HA, HJ12, ⟨mc12, rfl⟩⟩ := hcut
         cases kq with
         | zero => exact absurd HA.out (by simp [corebankref03_Parse.j3])
         | succ kj12 =>
          have H := HA.out
          clear HA
          simp only [corebankref03_Parse.j3] at H
          have HC15 := Aside0.mk H
          clear H
          go_upto_region 10 with (fail)
          go_cut [50] (fun v50 wc => ∃ (kq : Nat) (x50_14 : Bool), v50 = .bool x50_14 ∧ Aside0 (corebankref03_Parse.j4 kq x6_9 x7_5 x8_12 x50_14 = some (r1, r2)) ∧ Aside0 (kq ≤ kj12) ∧ Drawn0 w wc)
          case first =>
           have H := HC15.out
           clear HC15
           by_cases c16 : x8_12 < 1
           ·rw [if_pos c16] at H
            have c16b0 : decide (x8_12 < 1) = true := decide_eq_true c16
            clear c16
            (first | rw [c16b0] | (simp only [i64_w, i32_w]; rw [c16b0]) | skip)
            have H' := Aside0.mk H
            clear H
            go_wp2
            go_meet
            case rel => exact ⟨_, (true), (by first | rfl | (simp; done) | (simp [*]; done)), H', ⟨by have := HJ2.out; have := HJ5.out; have := HJ9.out; have := HJ12.out; first | omega | exact Nat.le_refl _⟩, by repeat (first | exact Drawn0.refl _ | apply Drawn0.step)⟩
           ·rw [if_neg c16] at H
            have c16b0 : decide (x8_12 < 1) = false := decide_eq_false c16
            clear c16
            (first | rw [c16b0] | (simp only [i64_w, i32_w]; rw [c16b0]) | skip)
            by_cases c17 : 0 < (x6_9.size : Int)
            ·rw [if_pos c17] at H
             have c17b0 : decide (0 < (x6_9.size : Int)) = true := decide_eq_true c17
             have c17b1 : decide (0 < x6_9.size) = true := decide_eq_true (by omega)
             clear c17
             by_cases c19 : (bt x6_9 0) = 48
             ·rw [if_pos c19] at H
              have c19b0 : ((bt x6_9 0) == 48) = true := beq_iff_eq.mpr c19
              have c19b1 : ((bt x6_9 0) != 48) = false := bne_eq_false_iff_eq.mpr c19
              clear c19
              have H' := Aside0.mk H
              clear H
              have p18 : 0 ≤ (0 : Int) := (by omega)
              have q18 : 0 < x6_9.size := (by have : (0 : Int) < (x6_9.size : Int) := of_decide_eq_true (by first | (with_reducible assumption) | assumption); omega)
              have hx18 : ∀ h : 0 < x6_9.size, ((x6_9[0]'h).toNat : Int) = bt x6_9 0 := bt_at x6_9 0
              clear p18
              have qi18 : (0 < (x6_9.size : Int)) = True := eq_true (of_decide_eq_true (by first | (with_reducible assumption) | assumption))
              replace q18 := eq_true q18
              go_wp2
              go_meet
              case rel => exact ⟨_, (decide (x8_12 > 1)), (by first | rfl | (simp; done) | (simp [*]; done)), H', ⟨by have := HJ2.out; have := HJ5.out; have := HJ9.out; have := HJ12.out; first | omega | exact Nat.le_refl _⟩, by repeat (first | exact Drawn0.refl _ | apply Drawn0.step)⟩
             ·rw [if_neg c19] at H
              have c19b0 : ((bt x6_9 0) == 48) = false := beq_eq_false_iff_ne.mpr c19
              have c19b1 : ((bt x6_9 0) != 48) = true := bne_iff_ne.mpr c19
              have H' := Aside0.mk H
              clear H
              have p18 : 0 ≤ (0 : Int) := (by omega)
              have q18 : 0 < x6_9.size := (by have : (0 : Int) < (x6_9.size : Int) := of_decide_eq_true (by first | (with_reducible assumption) | assumption); omega)
              have hx18 : ∀ h : 0 < x6_9.size, ((x6_9[0]'h).toNat : Int) = bt x6_9 0 := bt_at x6_9 0
              clear p18
              have qi18 : (0 < (x6_9.size : Int)) = True := eq_true (of_decide_eq_true (by first | (with_reducible assumption) | assumption))
              replace q18 := eq_true q18
              go_wp2
              go_meet
              case rel => exact ⟨_, (false), (by first | rfl | (simp; done) | (simp [*]; done)), H', ⟨by have := HJ2.out; have := HJ5.out; have := HJ9.out; have := HJ12.out; first | omega | exact Nat.le_refl _⟩, by repeat (first | exact Drawn0.refl _ | apply Drawn0.step)⟩
            ·rw [if_neg c17] at H
             exact absurd H (by simp)
          case rest =>
           clear HC15
           try clear c1
           try clear p1
           try clear q1
           try clear hx1
           try clear qi1
           try clear c2
           try clear p2
           try clear c4
           try clear c4b0
           try clear c5
           try clear p6
           try clear c7
           try clear c7b0
           try clear c7b1
           try clear c8
           try clear c8b0
           try clear c8b1
           try clear c9
           try clear p9
           try clear q9
           try clear hx9
           try clear qi9
           try clear c11
           try clear c12
           try clear c12b0
           try clear c12b1
           try clear c14
           try clear c14b0
           try clear c16
           try clear c16b0
           try clear c17
           try clear c17b0
           try clear c17b1
           try clear c18
           try clear p18
           try clear q18
           try clear hx18
           try clear qi18
           try clear c19
           try clear c19b0
           try clear c19b1
           try clear p18
           try clear p2
           try clear p6
           try clear p9
           try clear q18
           try clear q9
           obtain ⟨kq, x50_14, rfl, HA, HJ14, ⟨mc14, rfl⟩⟩ := hcut
           cases kq with
           | zero => exact absurd HA.out (by simp [corebankref03_Parse.j4])
           | succ kj14 =>
            have H := HA.out
            clear HA
            simp only [corebankref03_Parse.j4] at H
            by_cases c20 : x50_14 = true
            ·subst c20
             have H1 : (some (0, 2)) = some (r1, r2) := by rw [if_pos rfl] at H; exact H
             clear H
             have H := H1
             clear H1
             simp only [Option.some.injEq, Prod.mk.injEq] at H
             obtain ⟨rfl, rfl⟩ := H
             go_wp2
             go_ret2
             exact ⟨by first | rfl | (simp; done) | (simp [*]; done), by repeat (first | exact Drawn0.refl _ | apply Drawn0.step)⟩
            ·replace c20 := Bool.eq_false_iff.mpr c20
             subst c20
             have H1 : (corebankref03_Parse.l0 kj14 x6_9 x7_5 x8_12 0 false false 0) = some (r1, r2) := by rw [if_neg (show ¬ (false = true) by decide)] at H; exact H
             clear H
             have H := H1
             clear H1
             have H' := Aside0.mk H
             clear H
             go_wp2
             go_loopg [9, 10, 11, 12] kj14 (fun kq v9 v10 v11 v12 w' => ∃ (x9_6 : Int) (x10_6 : Bool) (x11_6 : Bool) (x12_6 : Int), v9 = .int .i64 x9_6 ∧ v10 = .bool x10_6 ∧ v11 = .bool x11_6 ∧ v12 = .int .i64 x12_6 ∧ Aside0 (corebankref03_Parse.l0 kq x6_9 x7_5 x8_12 x9_6 x10_6 x11_6 x12_6 = some (r1, r2)) ∧ Aside0 (kq ≤ kj14) ∧ Drawn0 w w')
             case atStart => exact ⟨(0), (false), (false), (0), (by first | rfl | (simp; done) | (simp [*]; done)), (by first | rfl | (simp; done) | (simp [*]; done)), (by first | rfl | (simp; done) | (simp [*]; done)), (by first | rfl | (simp; done) | (simp [*]; done)), H', ⟨Nat.le_refl _⟩, by repeat (first | exact Drawn0.refl _ | apply Drawn0.step)⟩
             case round =>
              clear H'
              try clear c1
              try clear p1
              try clear q1
              try clear hx1
              try clear qi1
              try clear c2
              try clear p2
              try clear c4
              try clear c4b0
              try clear c5
              try clear p6
              try clear c7
              try clear c7b0
              try clear c7b1
              try clear c8
              try clear c8b0
              try clear c8b1
              try clear c9
              try clear p9
              try clear q9
              try clear hx9
              try clear qi9
              try clear c11
              try clear c12
              try clear c12b0
              try clear c12b1
              try clear c14
              try clear c14b0
              try clear c16
              try clear c16b0
              try clear c17
              try clear c17b0
              try clear c17b1
              try clear c18
              try clear p18
              try clear q18
              try clear hx18
              try clear qi18
              try clear c19
              try clear c19b0
              try clear c19b1
              try clear c20
              try clear p1
              try clear p18
              try clear p2
              try clear p6
              try clear p9
              try clear q1
              try clear q18
              try clear q9
              obtain ⟨x9_6, x10_6, x11_6, x12_6, rfl, rfl, rfl, rfl, HA, HK6, ⟨m6, rfl⟩⟩ := hrel
              cases gk with
              | zero => exact absurd HA.out (by simp [corebankref03_Parse.l0])
              | succ k6 =>
               have H := HA.out
               clear HA
               simp only [corebankref03_Parse.l0] at H
               by_cases c21 : x12_6 < (x6_9.size : Int)
               ·rw [if_pos c21] at H
                have c21b0 : decide (x12_6 < (x6_9.size : Int)) = true := decide_eq_true c21
                clear c21
                by_cases c22 : x12_6 = x8_12
                ·rw [if_pos c22] at H
                 have c22b0 : (x12_6 == x8_12) = true := beq_iff_eq.mpr c22
                 have c22b1 : (x12_6 != x8_12) = false := bne_eq_false_iff_eq.mpr c22
                 clear c22
                 by_cases c23 : 0 ≤ x12_6
                 ·rw [if_pos c23] at H
                  have c23b0 : decide (0 ≤ x12_6) = true := decide_eq_true c23
                  clear c23
                  by_cases c25 : (bt x6_9 x12_6) = 46
                  ·rw [if_pos c25] at H
                   have c25b0 : ((bt x6_9 x12_6) == 46) = true := beq_iff_eq.mpr c25
                   have c25b1 : ((bt x6_9 x12_6) != 46) = false := bne_eq_false_iff_eq.mpr c25
                   clear c25
                   have H' := Aside0.mk H
                   clear H
                   have p24 : 0 ≤ (x12_6 : Int) := of_decide_eq_true (by first | (with_reducible assumption) | assumption)
                   have q24 : x12_6 < (x6_9.size : Int) := of_decide_eq_true (by first | (with_reducible assumption) | assumption)
                   have hx24 := bt_at x6_9 x12_6
                   replace p24 := eq_true p24
                   replace q24 := eq_true q24
                   go_wp2
                   go_roundg k6
                   case measure => have := HJ2.out; have := HJ5.out; have := HJ9.out; have := HJ12.out; have := HJ14.out; have := HK6.out; omega
                   case rel => exact ⟨(x9_6), (x10_6), (x11_6), (wrap64 (x12_6 + 1)), (by first | rfl | (simp; done) | (simp [*]; done)), (by first | rfl | (simp; done) | (simp [*]; done)), (by first | rfl | (simp; done) | (simp [*]; done)), (by first | rfl | (simp; done) | (simp [*]; done)), H', ⟨by have := HJ2.out; have := HJ5.out; have := HJ9.out; have := HJ12.out; have := HJ14.out; have := HK6.out; omega⟩, by repeat (first | exact Drawn0.refl _ | apply Drawn0.step)⟩
                  ·rw [if_neg c25] at H
                   have c25b0 : ((bt x6_9 x12_6) == 46) = false := beq_eq_false_iff_ne.mpr c25
                   have c25b1 : ((bt x6_9 x12_6) != 46) = true := bne_iff_ne.mpr c25
                   simp only [Option.some.injEq, Prod.mk.injEq] at H
                   obtain ⟨rfl, rfl⟩ := H
                   have p24 : 0 ≤ (x12_6 : Int) := of_decide_eq_true (by first | (with_reducible assumption) | assumption)
                   have q24 : x12_6 < (x6_9.size : Int) := of_decide_eq_true (by first | (with_reducible assumption) | assumption)
                   have hx24 := bt_at x6_9 x12_6
                   replace p24 := eq_true p24
                   replace q24 := eq_true q24
                   go_wp2
                   go_ret2
                   exact ⟨by first | rfl | (simp; done) | (simp [*]; done), by repeat (first | exact Drawn0.refl _ | apply Drawn0.step)⟩
                 ·rw [if_neg c23] at H
                  exact absurd H (by simp)
                ·rw [if_neg c22] at H
                 have c22b0 : (x12_6 == x8_12) = false := beq_eq_false_iff_ne.mpr c22
                 have c22b1 : (x12_6 != x8_12) = true := bne_iff_ne.mpr c22
                 have HC26 := Aside0.mk H
                 clear H
                 go_upto_region 19 with (fail)
                 go_cut [73] (fun v73 wc => ∃ (kq : Nat) (x73_25 : Bool), v73 = .bool x73_25 ∧ Aside0 (corebankref03_Parse.j6 kq x6_9 x7_5 x8_12 x9_6 x10_6 x11_6 x12_6 x73_25 = some (r1, r2)) ∧ Aside0 (kq ≤ k6) ∧ Drawn0 w wc)
                 case first =>
                  have H := HC26.out
                  clear HC26
                  by_cases c27 : 0 ≤ x12_6
                  ·rw [if_pos c27] at H
                   have c27b0 : decide (0 ≤ x12_6) = true := decide_eq_true c27
                   clear c27
                   (first | rw [c27b0] | (simp only [i64_w, i32_w]; rw [c27b0]) | skip)
                   by_cases c29 : (bt x6_9 x12_6) < 48
                   ·rw [if_pos c29] at H
                    have c29b0 : decide ((bt x6_9 x12_6) < 48) = true := decide_eq_true c29
                    clear c29
                    have H' := Aside0.mk H
                    clear H
                    have p28 : 0 ≤ (x12_6 : Int) := of_decide_eq_true (by first | (with_reducible assumption) | assumption)
                    have q28 : x12_6 < (x6_9.size : Int) := of_decide_eq_true (by first | (with_reducible assumption) | assumption)
                    have hx28 := bt_at x6_9 x12_6
                    replace p28 := eq_true p28
                    replace q28 := eq_true q28
                    go_wp2
                    go_meet
                    case rel => exact ⟨_, (true), (by first | rfl | (simp; done) | (simp [*]; done)), H', ⟨by have := HJ2.out; have := HJ5.out; have := HJ9.out; have := HJ12.out; have := HJ14.out; have := HK6.out; first | omega | exact Nat.le_refl _⟩, by repeat (first | exact Drawn0.refl _ | apply Drawn0.step)⟩
                   ·rw [if_neg c29] at H
                    have c29b0 : decide ((bt x6_9 x12_6) < 48) = false := decide_eq_false c29
                    clear c29
                    have H' := Aside0.mk H
                    clear H
                    have p28 : 0 ≤ (x12_6 : Int) := of_decide_eq_true (by first | (with_reducible assumption) | assumption)
                    have q28 : x12_6 < (x6_9.size : Int) := of_decide_eq_true (by first | (with_reducible assumption) | assumption)
                    have hx28 := bt_at x6_9 x12_6
                    replace p28 := eq_true p28
                    replace q28 := eq_true q28
                    have p30 : 0 ≤ (x12_6 : Int) := of_decide_eq_true (by first | (with_reducible assumption) | assumption)
                    have q30 : x12_6 < (x6_9.size : Int) := of_decide_eq_true (by first | (with_reducible assumption) | assumption)
                    have hx30 := bt_at x6_9 x12_6
                    replace p30 := eq_true p30
                    replace q30 := eq_true q30
                    go_wp2
                    go_meet
                    case rel => exact ⟨_, (decide ((bt x6_9 x12_6) > 57)), (by first | rfl | (simp; done) | (simp [*]; done)), H', ⟨by have := HJ2.out; have := HJ5.out; have := HJ9.out; have := HJ12.out; have := HJ14.out; have := HK6.out; first | omega | exact Nat.le_refl _⟩, by repeat (first | exact Drawn0.refl _ | apply Drawn0.step)⟩
                  ·rw [if_neg c27] at H
                   exact absurd H (by simp)
                 case rest =>
                  clear HC26
                  try clear c1
                  try clear p1
                  try clear q1
                  try clear hx1
                  try clear qi1
                  try clear c2
                  try clear p2
                  try clear q2
                  try clear hx2
                  try clear p3
                  try clear q3
                  try clear hx3
                  try clear c4
                  try clear c4b0
                  try clear c5
                  try clear p6
                  try clear c7
                  try clear c7b0
                  try clear c7b1
                  try clear c8
                  try clear c8b0
                  try clear c8b1
                  try clear c9
                  try clear p9
                  try clear q9
                  try clear hx9
                  try clear qi9
                  try clear c11
                  try clear c12
                  try clear c12b0
                  try clear c12b1
                  try clear c14
                  try clear c14b0
                  try clear c16
                  try clear c16b0
                  try clear c17
                  try clear c17b0
                  try clear c17b1
                  try clear c18
                  try clear p18
                  try clear q18
                  try clear hx18
                  try clear qi18
                  try clear c19
                  try clear c19b0
                  try clear c19b1
                  try clear c20
                  try clear c21
                  try clear c21b0
                  try clear c22
                  try clear c22b0
                  try clear c22b1
                  try clear c23
                  try clear c23b0
                  try clear p24
                  try clear q24
                  try clear hx24
                  try clear c25
                  try clear c25b0
                  try clear c25b1
                  try clear c27
                  try clear c27b0
                  try clear p28
                  try clear q28
                  try clear hx28
                  try clear c29
                  try clear c29b0
                  try clear p30
                  try clear q30
                  try clear hx30
                  try clear p1
                  try clear p18
                  try clear p2
                  try clear p24
                  try clear p28
                  try clear p30
                  try clear p6
                  try clear p9
                  try clear q1
                  try clear q18
                  try clear q24
                  try clear q28
                  try clear q30
                  try clear q9
                  obtain ⟨kq, x73_25, rfl, HA, HJ25, ⟨mc25, rfl⟩⟩ := hcut
                  cases kq with
                  | zero => exact absurd HA.out (by simp [corebankref03_Parse.j6])
                  | succ kj25 =>
                   have H := HA.out
                   clear HA
                   simp only [corebankref03_Parse.j6] at H
                   by_cases c31 : x73_25 = true
                   ·subst c31
                    have H1 : (some (0, 2)) = some (r1, r2) := by rw [if_pos rfl] at H; exact H
                    clear H
                    have H := H1
                    clear H1
                    simp only [Option.some.injEq, Prod.mk.injEq] at H
                    obtain ⟨rfl, rfl⟩ := H
                    go_wp2
                    go_ret2
                    exact ⟨by first | rfl | (simp; done) | (simp [*]; done), by repeat (first | exact Drawn0.refl _ | apply Drawn0.step)⟩
                   ·replace c31 := Bool.eq_false_iff.mpr c31
                    subst c31
                    have H1 : (if x10_6 = true then (if x11_6 = true then (corebankref03_Parse.l0 kj25 x6_9 x7_5 x8_12 x9_6 true true (wrap64 (x12_6 + 1))) else (if 0 ≤ x12_6 then (if x12_6 < (x6_9.size : Int) then (corebankref03_Parse.l0 kj25 x6_9 x7_5 x8_12 (wrap64 ((wrap64 (10 * x9_6)) + (((bt x6_9 x12_6) - 48) % 256))) true (decide ((wrap64 ((wrap64 (10 * x9_6)) + (((bt x6_9 x12_6) - 48) % 256))) > 1000000000000)) (wrap64 (x12_6 + 1))) else (none)) else (none))) else (if 0 ≤ x12_6 then (if x12_6 < (x6_9.size : Int) then (if x11_6 = true then (corebankref03_Parse.l0 kj25 x6_9 x7_5 x8_12 x9_6 ((bt x6_9 x12_6) != 48) true (wrap64 (x12_6 + 1))) else (corebankref03_Parse.l0 kj25 x6_9 x7_5 x8_12 (wrap64 ((wrap64 (10 * x9_6)) + (((bt x6_9 x12_6) - 48) % 256))) ((bt x6_9 x12_6) != 48) (decide ((wrap64 ((wrap64 (10 * x9_6)) + (((bt x6_9 x12_6) - 48) % 256))) > 1000000000000)) (wrap64 (x12_6 + 1)))) else (none)) else (none))) = some (r1, r2) := by rw [if_neg (show ¬ (false = true) by decide)] at H; exact H
                    clear H
                    have H := H1
                    clear H1
                    by_cases c32 : x10_6 = true
                    ·subst c32
                     have H1 : (if x11_6 = true then (corebankref03_Parse.l0 kj25 x6_9 x7_5 x8_12 x9_6 true true (wrap64 (x12_6 + 1))) else (if 0 ≤ x12_6 then (if x12_6 < (x6_9.size : Int) then (corebankref03_Parse.l0 kj25 x6_9 x7_5 x8_12 (wrap64 ((wrap64 (10 * x9_6)) + (((bt x6_9 x12_6) - 48) % 256))) true (decide ((wrap64 ((wrap64 (10 * x9_6)) + (((bt x6_9 x12_6) - 48) % 256))) > 1000000000000)) (wrap64 (x12_6 + 1))) else (none)) else (none))) = some (r1, r2) := by rw [if_pos rfl] at H; exact H
                     clear H
                     have H := H1
                     clear H1
                     by_cases c33 : x11_6 = true
                     ·subst c33
                      have H1 : (corebankref03_Parse.l0 kj25 x6_9 x7_5 x8_12 x9_6 true true (wrap64 (x12_6 + 1))) = some (r1, r2) := by rw [if_pos rfl] at H; exact H
                      clear H
                      have H := H1
                      clear H1
                      have H' := Aside0.mk H
                      clear H
                      go_wp2
                      go_roundg kj25
                      case measure => have := HJ2.out; have := HJ5.out; have := HJ9.out; have := HJ12.out; have := HJ14.out; have := HK6.out; have := HJ25.out; omega
                      case rel => exact ⟨(x9_6), (true), (true), (wrap64 (x12_6 + 1)), (by first | rfl | (simp; done) | (simp [*]; done)), (by first | rfl | (simp; done) | (simp [*]; done)), (by first | rfl | (simp; done) | (simp [*]; done)), (by first | rfl | (simp; done) | (simp [*]; done)), H', ⟨by have := HJ2.out; have := HJ5.out; have := HJ9.out; have := HJ12.out; have := HJ14.out; have := HK6.out; have := HJ25.out; omega⟩, by repeat (first | exact Drawn0.refl _ | apply Drawn0.step)⟩
                     ·replace c33 := Bool.eq_false_iff.mpr c33
                      subst c33
                      have H1 : (if 0 ≤ x12_6 then (if x12_6 < (x6_9.size : Int) then (corebankref03_Parse.l0 kj25 x6_9 x7_5 x8_12 (wrap64 ((wrap64 (10 * x9_6)) + (((bt x6_9 x12_6) - 48) % 256))) true (decide ((wrap64 ((wrap64 (10 * x9_6)) + (((bt x6_9 x12_6) - 48) % 256))) > 1000000000000)) (wrap64 (x12_6 + 1))) else (none)) else (none)) = some (r1, r2) := by rw [if_neg (show ¬ (false = true) by decide)] at H; exact H
                      clear H
                      have H := H1
                      clear H1
                      by_cases c34 : 0 ≤ x12_6
                      ·rw [if_pos c34] at H
                       have c34b0 : decide (0 ≤ x12_6) = true := decide_eq_true c34
                       clear c34
                       by_cases c35 : x12_6 < (x6_9.size : Int)
                       ·rw [if_pos c35] at H
                        have c35b0 : decide (x12_6 < (x6_9.size : Int)) = true := decide_eq_true c35
                        clear c35
                        have H' := Aside0.mk H
                        clear H
                        have p36 : 0 ≤ (x12_6 : Int) := of_decide_eq_true (by first | (with_reducible assumption) | assumption)
                        have q36 : x12_6 < (x6_9.size : Int) := of_decide_eq_true (by first | (with_reducible assumption) | assumption)
                        have hx36 := bt_at x6_9 x12_6
                        replace p36 := eq_true p36
                        replace q36 := eq_true q36
                        go_wp2
                        go_roundg kj25
                        case measure => have := HJ2.out; have := HJ5.out; have := HJ9.out; have := HJ12.out; have := HJ14.out; have := HK6.out; have := HJ25.out; omega
                        case rel => exact ⟨(wrap64 ((wrap64 (10 * x9_6)) + (((bt x6_9 x12_6) - 48) % 256))), (true), (decide ((wrap64 ((wrap64 (10 * x9_6)) + (((bt x6_9 x12_6) - 48) % 256))) > 1000000000000)), (wrap64 (x12_6 + 1)), (by first | rfl | (simp; done) | (simp [*]; done)), (by first | rfl | (simp; done) | (simp [*]; done)), (by first | rfl | (simp; done) | (simp [*]; done)), (by first | rfl | (simp; done) | (simp [*]; done)), H', ⟨by have := HJ2.out; have := HJ5.out; have := HJ9.out; have := HJ12.out; have := HJ14.out; have := HK6.out; have := HJ25.out; omega⟩, by repeat (first | exact Drawn0.refl _ | apply Drawn0.step)⟩
                       ·rw [if_neg c35] at H
                        exact absurd H (by simp)
                      ·rw [if_neg c34] at H
                       exact absurd H (by simp)
                    ·replace c32 := Bool.eq_false_iff.mpr c32
                     subst c32
                     have H1 : (if 0 ≤ x12_6 then (if x12_6 < (x6_9.size : Int) then (if x11_6 = true then (corebankref03_Parse.l0 kj25 x6_9 x7_5 x8_12 x9_6 ((bt x6_9 x12_6) != 48) true (wrap64 (x12_6 + 1))) else (corebankref03_Parse.l0 kj25 x6_9 x7_5 x8_12 (wrap64 ((wrap64 (10 * x9_6)) + (((bt x6_9 x12_6) - 48) % 256))) ((bt x6_9 x12_6) != 48) (decide ((wrap64 ((wrap64 (10 * x9_6)) + (((bt x6_9 x12_6) - 48) % 256))) > 1000000000000)) (wrap64 (x12_6 + 1)))) else (none)) else (none)) = some (r1, r2) := by rw [if_neg (show ¬ (false = true) by decide)] at H; exact H
                     clear H
                     have H := H1
                     clear H1
                     by_cases c37 : 0 ≤ x12_6
                     ·rw [if_pos c37] at H
                      have c37b0 : decide (0 ≤ x12_6) = true := decide_eq_true c37
                      clear c37
                      by_cases c38 : x12_6 < (x6_9.size : Int)
                      ·rw [if_pos c38] at H
                       have c38b0 : decide (x12_6 < (x6_9.size : Int)) = true := decide_eq_true c38
                       clear c38
                       by_cases c40 : x11_6 = true
                       ·subst c40
                        have H1 : (corebankref03_Parse.l0 kj25 x6_9 x7_5 x8_12 x9_6 ((bt x6_9 x12_6) != 48) true (wrap64 (x12_6 + 1))) = some (r1, r2) := by rw [if_pos rfl] at H; exact H
                        clear H
                        have H := H1
                        clear H1
                        have H' := Aside0.mk H
                        clear H
                        have p39 : 0 ≤ (x12_6 : Int) := of_decide_eq_true (by first | (with_reducible assumption) | assumption)
                        have q39 : x12_6 < (x6_9.size : Int) := of_decide_eq_true (by first | (with_reducible assumption) | assumption)
                        have hx39 := bt_at x6_9 x12_6
                        replace p39 := eq_true p39
                        replace q39 := eq_true q39
                        go_wp2
                        go_roundg kj25
                        case measure => have := HJ2.out; have := HJ5.out; have := HJ9.out; have := HJ12.out; have := HJ14.out; have := HK6.out; have := HJ25.out; omega
                        case rel => exact ⟨(x9_6), (((bt x6_9 x12_6) != 48)), (true), (wrap64 (x12_6 + 1)), (by first | rfl | (simp; done) | (simp [*]; done)), (by first | rfl | (simp; done) | (simp [*]; done)), (by first | rfl | (simp; done) | (simp [*]; done)), (by first | rfl | (simp; done) | (simp [*]; done)), H', ⟨by have := HJ2.out; have := HJ5.out; have := HJ9.out; have := HJ12.out; have := HJ14.out; have := HK6.out; have := HJ25.out; omega⟩, by repeat (first | exact Drawn0.refl _ | apply Drawn0.step)⟩
                       ·replace c40 := Bool.eq_false_iff.mpr c40
                        subst c40
                        have H1 : (corebankref03_Parse.l0 kj25 x6_9 x7_5 x8_12 (wrap64 ((wrap64 (10 * x9_6)) + (((bt x6_9 x12_6) - 48) % 256))) ((bt x6_9 x12_6) != 48) (decide ((wrap64 ((wrap64 (10 * x9_6)) + (((bt x6_9 x12_6) - 48) % 256))) > 1000000000000)) (wrap64 (x12_6 + 1))) = some (r1, r2) := by rw [if_neg (show ¬ (false = true) by decide)] at H; exact H
                        clear H
                        have H := H1
                        clear H1
                        have H' := Aside0.mk H
                        clear H
                        have p39 : 0 ≤ (x12_6 : Int) := of_decide_eq_true (by first | (with_reducible assumption) | assumption)
                        have q39 : x12_6 < (x6_9.size : Int) := of_decide_eq_true (by first | (with_reducible assumption) | assumption)
                        have hx39 := bt_at x6_9 x12_6
                        replace p39 := eq_true p39
                        replace q39 := eq_true q39
                        have p41 : 0 ≤ (x12_6 : Int) := of_decide_eq_true (by first | (with_reducible assumption) | assumption)
                        have q41 : x12_6 < (x6_9.size : Int) := of_decide_eq_true (by first | (with_reducible assumption) | assumption)
                        have hx41 := bt_at x6_9 x12_6
                        replace p41 := eq_true p41
                        replace q41 := eq_true q41
                        go_wp2
                        go_roundg kj25
                        case measure => have := HJ2.out; have := HJ5.out; have := HJ9.out; have := HJ12.out; have := HJ14.out; have := HK6.out; have := HJ25.out; omega
                        case rel => exact ⟨(wrap64 ((wrap64 (10 * x9_6)) + (((bt x6_9 x12_6) - 48) % 256))), (((bt x6_9 x12_6) != 48)), (decide ((wrap64 ((wrap64 (10 * x9_6)) + (((bt x6_9 x12_6) - 48) % 256))) > 1000000000000)), (wrap64 (x12_6 + 1)), (by first | rfl | (simp; done) | (simp [*]; done)), (by first | rfl | (simp; done) | (simp [*]; done)), (by first | rfl | (simp; done) | (simp [*]; done)), (by first | rfl | (simp; done) | (simp [*]; done)), H', ⟨by have := HJ2.out; have := HJ5.out; have := HJ9.out; have := HJ12.out; have := HJ14.out; have := HK6.out; have := HJ25.out; omega⟩, by repeat (first | exact Drawn0.refl _ | apply Drawn0.step)⟩
                      ·rw [if_neg c38] at H
                       exact absurd H (by simp)
                     ·rw [if_neg c37] at H
                      exact absurd H (by simp)
               ·rw [if_neg c21] at H
                have c21b0 : decide (x12_6 < (x6_9.size : Int)) = false := decide_eq_false c21
                clear c21
                have HC42 := Aside0.mk H
                clear H
                go_upto_region 25 with (fail)
                go_cut [100] (fun v100 wc => ∃ (kq : Nat) (x100_41 : Bool), v100 = .bool x100_41 ∧ Aside0 (corebankref03_Parse.j7 kq x7_5 x9_6 x11_6 x100_41 = some (r1, r2)) ∧ Aside0 (kq ≤ k6) ∧ Drawn0 w wc)
                case first =>
                 have H := HC42.out
                 clear HC42
                 by_cases c43 : x7_5 = true
                 ·subst c43
                  have H1 : (corebankref03_Parse.j7 k6 true x9_6 x11_6 (!x10_6)) = some (r1, r2) := by rw [if_pos rfl] at H; exact H
                  clear H
                  have H := H1
                  clear H1
                  have H' := Aside0.mk H
                  clear H
                  go_wp2
                  go_meet
                  case rel => exact ⟨_, (!x10_6), (by first | rfl | (simp; done) | (simp [*]; done)), H', ⟨by have := HJ2.out; have := HJ5.out; have := HJ9.out; have := HJ12.out; have := HJ14.out; have := HK6.out; first | omega | exact Nat.le_refl _⟩, by repeat (first | exact Drawn0.refl _ | apply Drawn0.step)⟩
                 ·replace c43 := Bool.eq_false_iff.mpr c43
                  subst c43
                  have H1 : (corebankref03_Parse.j7 k6 false x9_6 x11_6 false) = some (r1, r2) := by rw [if_neg (show ¬ (false = true) by decide)] at H; exact H
                  clear H
                  have H := H1
                  clear H1
                  have H' := Aside0.mk H
                  clear H
                  go_wp2
                  go_meet
                  case rel => exact ⟨_, (false), (by first | rfl | (simp; done) | (simp [*]; done)), H', ⟨by have := HJ2.out; have := HJ5.out; have := HJ9.out; have := HJ12.out; have := HJ14.out; have := HK6.out; first | omega | exact Nat.le_refl _⟩, by repeat (first | exact Drawn0.refl _ | apply Drawn0.step)⟩
                case rest =>
                 clear HC42
                 try clear c1
                 try clear p1
                 try clear q1
                 try clear hx1
                 try clear qi1
                 try clear c2
                 try clear p2
                 try clear q2
                 try clear hx2
                 try clear c3
                 try clear p3
                 try clear q3
                 try clear hx3
                 try clear c4
                 try clear c4b0
                 try clear p4
                 try clear q4
                 try clear hx4
                 try clear c5
                 try clear p6
                 try clear c7
                 try clear c7b0
                 try clear c7b1
                 try clear c8
                 try clear c8b0
                 try clear c8b1
                 try clear c9
                 try clear p9
                 try clear q9
                 try clear hx9
                 try clear qi9
                 try clear c11
                 try clear c12
                 try clear c12b0
                 try clear c12b1
                 try clear c14
                 try clear c14b0
                 try clear c16
                 try clear c16b0
                 try clear c17
                 try clear c17b0
                 try clear c17b1
                 try clear c18
                 try clear p18
                 try clear q18
                 try clear hx18
                 try clear qi18
                 try clear c19
                 try clear c19b0
                 try clear c19b1
                 try clear c20
                 try clear c21
                 try clear c21b0
                 try clear c22
                 try clear c22b0
                 try clear c22b1
                 try clear c23
                 try clear c23b0
                 try clear p24
                 try clear q24
                 try clear hx24
                 try clear c25
                 try clear c25b0
                 try clear c25b1
                 try clear c27
                 try clear c27b0
                 try clear p28
                 try clear q28
                 try clear hx28
                 try clear c29
                 try clear c29b0
                 try clear p30
                 try clear q30
                 try clear hx30
                 try clear c31
                 try clear c32
                 try clear c33
                 try clear c34
                 try clear c34b0
                 try clear c35
                 try clear c35b0
                 try clear p36
                 try clear q36
                 try clear hx36
                 try clear c37
                 try clear c37b0
                 try clear c38
                 try clear c38b0
                 try clear p39
                 try clear q39
                 try clear hx39
                 try clear c40
                 try clear p41
                 try clear q41
                 try clear hx41
                 try clear c43
                 try clear p1
                 try clear p18
                 try clear p2
                 try clear p24
                 try clear p28
                 try clear p3
                 try clear p30
                 try clear p36
                 try clear p39
                 try clear p41
                 try clear p6
                 try clear p9
                 try clear q1
                 try clear q18
                 try clear q2
                 try clear q24
                 try clear q28
                 try clear q3
                 try clear q30
                 try clear q36
                 try clear q39
                 try clear q41
                 try clear q9
                 obtain ⟨kq, x100_41, rfl, HA, HJ41, ⟨mc41, rfl⟩⟩ := hcut
                 cases kq with
                 | zero => exact absurd HA.out (by simp [corebankref03_Parse.j7])
                 | succ kj41 =>
                  have H := HA.out
                  clear HA
                  simp only [corebankref03_Parse.j7] at H
                  by_cases c44 : x100_41 = true
                  ·subst c44
                   have H1 : (some (0, 2)) = some (r1, r2) := by rw [if_pos rfl] at H; exact H
                   clear H
                   have H := H1
                   clear H1
                   simp only [Option.some.injEq, Prod.mk.injEq] at H
                   obtain ⟨rfl, rfl⟩ := H
                   go_wp2
                   go_ret2
                   exact ⟨by first | rfl | (simp; done) | (simp [*]; done), by repeat (first | exact Drawn0.refl _ | apply Drawn0.step)⟩
                  ·replace c44 := Bool.eq_false_iff.mpr c44
                   subst c44
                   have H1 : (if x11_6 = true then (some (0, 6)) else (if x7_5 = true then (some (wrap64 (-x9_6), 0)) else (some (x9_6, 0)))) = some (r1, r2) := by rw [if_neg (show ¬ (false = true) by decide)] at H; exact H
                   clear H
                   have H := H1
                   clear H1
                   by_cases c45 : x11_6 = true
                   ·subst c45
                    have H1 : (some (0, 6)) = some (r1, r2) := by rw [if_pos rfl] at H; exact H
                    clear H
                    have H := H1
                    clear H1
                    simp only [Option.some.injEq, Prod.mk.injEq] at H
                    obtain ⟨rfl, rfl⟩ := H
                    go_wp2
                    go_ret2
                    exact ⟨by first | rfl | (simp; done) | (simp [*]; done), by repeat (first | exact Drawn0.refl _ | apply Drawn0.step)⟩
                   ·replace c45 := Bool.eq_false_iff.mpr c45
                    subst c45
                    have H1 : (if x7_5 = true then (some (wrap64 (-x9_6), 0)) else (some (x9_6, 0))) = some (r1, r2) := by rw [if_neg (show ¬ (false = true) by decide)] at H; exact H
                    clear H
                    have H := H1
                    clear H1
                    by_cases c46 : x7_5 = true
                    ·subst c46
                     have H1 : (some (wrap64 (-x9_6), 0)) = some (r1, r2) := by rw [if_pos rfl] at H; exact H
                     clear H
                     have H := H1
                     clear H1
                     simp only [Option.some.injEq, Prod.mk.injEq] at H
                     obtain ⟨rfl, rfl⟩ := H
                     go_wp2
                     go_ret2
                     exact ⟨by first | rfl | (simp; done) | (simp [*]; done), by repeat (first | exact Drawn0.refl _ | apply Drawn0.step)⟩
                    ·replace c46 := Bool.eq_false_iff.mpr c46
                     subst c46
                     have H1 : (some (x9_6, 0)) = some (r1, r2) := by rw [if_neg (show ¬ (false = true) by decide)] at H; exact H
                     clear H
                     have H := H1
                     clear H1
                     simp only [Option.some.injEq, Prod.mk.injEq] at H
                     obtain ⟨rfl, rfl⟩ := H
                     go_wp2
                     go_ret2
                     exact ⟨by first | rfl | (simp; done) | (simp [*]; done), by repeat (first | exact Drawn0.refl _ | apply Drawn0.step)⟩

end Go.Proofs.YtbeebjpbmbkodaaDoor.Q
