/- The example calls that every statement of this layer requires answer as the chapter says. -/
import Derived.Test.YtbeebjpbmbkodaaDoorHPar
import Derived.Test.YtbeebjpbmbkodaaDoorQx1
namespace Go.Proofs.YtbeebjpbmbkodaaDoor.Q
open Go.RowKit Go.Proofs.YtbeebjpbmbkodaaDoorW.PrintWords Go.Proofs.YtbeebjpbmbkodaaDoorW.PrintLast Go.Proofs.YtbeebjpbmbkodaaDoorW.PrintMore
set_option linter.unusedVariables false
set_option linter.unusedSimpArgs false

theorem C_three (w : World) (a b c : Int) : Kd.C (Kd.int .i64) (w.alloc (.cells #[.int .i64 a, .int .i64 b, .int .i64 c] 3)) (some ⟨w.heap.size, 0, none⟩) [a, b, c].length [a, b, c] :=
  ⟨rfl, by simp, fun _ => ⟨_, rfl, fun j p hj => by
    have hz : ∀ i, (w.alloc (.cells #[.int .i64 a, .int .i64 b, .int .i64 c] 3)).cell? ⟨w.heap.size, i, none⟩ = (#[Value.int .i64 a, .int .i64 b, .int .i64 c])[i]? := fun i => blk_cell (blk_new w (.cells #[.int .i64 a, .int .i64 b, .int .i64 c] 3)) i
    match j, hj with
    | 0, hj =>
      simp only [List.getElem?_cons_zero, Option.some.injEq] at hj
      subst hj
      refine ⟨[.int .i64 a], rfl, rfl, fun i u hu => ?_⟩
      cases i with
      | zero => simp at hu; subst hu; exact hz 0
      | succ i => simp at hu
    | 1, hj =>
      simp at hj
      subst hj
      refine ⟨[.int .i64 b], rfl, rfl, fun i u hu => ?_⟩
      cases i with
      | zero => simp at hu; subst hu; exact hz 1
      | succ i => simp at hu
    | 2, hj =>
      simp at hj
      subst hj
      refine ⟨[.int .i64 c], rfl, rfl, fun i u hu => ?_⟩
      cases i with
      | zero => simp at hu; subst hu; exact hz 2
      | succ i => simp at hu
    | j + 3, hj => simp at hj⟩⟩
theorem eur : codeP ⟨#[69, 85, 82]⟩ := ⟨rfl, fun i hi => ⟨hi, by
  have hi' : i < 3 := hi
  match i, hi' with
  | 0, _ => exact ⟨show 65 ≤ (69 : UInt8).toNat by decide, show (69 : UInt8).toNat ≤ 90 by decide⟩
  | 1, _ => exact ⟨show 65 ≤ (85 : UInt8).toNat by decide, show (85 : UInt8).toNat ≤ 90 by decide⟩
  | 2, _ => exact ⟨show 65 ≤ (82 : UInt8).toNat by decide, show (82 : UInt8).toNat ≤ 90 by decide⟩⟩⟩
set_option maxHeartbeats 2000000 in
set_option maxRecDepth 100000 in
theorem lives_calls (w : World) (ht : Tab w) :
    Calls Tryd.prog 10 #[] w fun e w' => e = .returned (.bool true) ∧ Below w.heap.size w w' := by
  have HT := Aside0.mk ht
  clear ht
  have HS : Aside0 (money_Sum.f 100 [1000000000000, 1000000000000, -1000000000000] = some (1000000000000, 0)) := ⟨by kernel_rfl⟩
  have HV : Aside0 (money_Valid.f (-5) = some true) := ⟨by decide⟩
  have hq1 : (⟨#[45, 49, 50, 46, 51, 52]⟩ : ByteArray).toList.isEmpty = false := by kernel_rfl
  go_enter Tryd.func10, Tryd.ntmps10
  go_wp2_with fail
  refine (fmt_a _ HT.out).mono ?_
  rintro e w1 ⟨rfl, hb1⟩
  have HB1 := Aside0.mk hb1
  clear hb1
  go_wp2_with fail
  refine (fmt_b _ (HT.out.below HB1.out)).mono ?_
  rintro e w2 ⟨rfl, hb2⟩
  have HB2 := Aside0.mk (HB1.out.trans (hb2.mono HB1.out.size))
  clear hb2
  go_wp2_with fail
  refine (par_a _).mono ?_
  rintro e w3 ⟨rfl, hb3⟩
  have HB3 := Aside0.mk (HB2.out.trans (hb3.mono HB2.out.size))
  clear hb3
  go_wp2_with fail
  refine (par_b _).mono ?_
  rintro e w4 ⟨rfl, hb4⟩
  have HB4 := Aside0.mk (HB3.out.trans (hb4.mono HB3.out.size))
  clear hb4
  go_wp2_with fail
  refine (money_Sum.calls 100 _ 3 [1000000000000, 1000000000000, -1000000000000] _ _ _ (C_three w4 _ _ _) (by decide) HS.out).mono ?_
  rintro e w5 ⟨rfl, hd5⟩
  have HB5 := Aside0.mk ((HB4.out.alloc HB4.out.size _).trans (hd5.below.mono (show w.heap.size ≤ _ by have := HB4.out.size; simp; omega)))
  clear hd5
  go_wp2_with fail
  refine (money_Code_calls _ _ true (by decide) ⟨fun _ => eur, fun _ => rfl⟩).mono ?_
  rintro e w6 ⟨rfl, hb6⟩
  have HB6 := Aside0.mk (HB5.out.trans (hb6.mono HB5.out.size))
  clear hb6
  go_wp2_with fail
  refine (money_Valid.calls (-5) _ _ HV.out).mono ?_
  rintro e w7 ⟨rfl, hd7⟩
  have HB7 := Aside0.mk (HB6.out.trans (hd7.below.mono HB6.out.size))
  clear hd7
  go_wp2
  go_ret
  exact ⟨rfl, HB7.out⟩
end Go.Proofs.YtbeebjpbmbkodaaDoor.Q
