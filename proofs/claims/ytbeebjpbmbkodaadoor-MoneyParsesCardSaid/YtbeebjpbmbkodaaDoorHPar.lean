/- money.Parse at the two texts of the examples. -/
import Derived.Test.YtbeebjpbmbkodaaDoorHFmt
import Derived.Test.YtbeebjpbmbkodaaDoorHPlain
import Derived.Deep.RegionLaw
namespace Go.Proofs.YtbeebjpbmbkodaaDoor.Q
open Go.RowKit Go.Proofs.YtbeebjpbmbkodaaDoorW.PrintWords Go.Proofs.YtbeebjpbmbkodaaDoorW.PrintLast Go.Proofs.YtbeebjpbmbkodaaDoorW.PrintMore
set_option linter.unusedVariables false
set_option linter.unusedSimpArgs false

theorem tp_calls (s p r : ByteArray) (w : World) (h : (⟨(Lib.trimPrefix s.data.toList p.data.toList).toArray⟩ : ByteArray) = r) :
    Calls Tryd.prog 36 #[.string s, .string p] w fun e w' => e = .returned (.string r) ∧ w' = w :=
  (Tryd.strings_TrimPrefix s p w).mono fun e w' ⟨h1, h2⟩ => ⟨by rw [h1, h], h2⟩
theorem tl_calls (s r : ByteArray) (w : World) (h : (⟨(Lib.trimLeftB s.data.toList 48).toArray⟩ : ByteArray) = r) :
    Calls Tryd.prog 32 #[.string s, .string ⟨#[48]⟩] w fun e w' => e = .returned (.string r) ∧ w' = w :=
  (Tryd.strings_TrimLeft_one s 48 (by decide) w).mono fun e w' ⟨h1, h2⟩ => ⟨by rw [h1, h], h2⟩
theorem hp_calls (s p : ByteArray) (b : Bool) (w : World) (h : Lib.hasPrefix s.data.toList p.data.toList = b) :
    Calls Tryd.prog 33 #[.string s, .string p] w fun e w' => e = .returned (.bool b) ∧ w' = w :=
  (Tryd.strings_HasPrefix s p w).mono fun e w' ⟨h1, h2⟩ => ⟨by rw [h1, h], h2⟩
theorem atoi_calls (s : ByteArray) (n : Int) (w : World) (hl : s.size ≤ 18) (h : Lib.atoi s.data.toList = some n) :
    Calls Tryd.prog 34 #[.string s] w fun e w' => e = .returned (.tuple #[.int .i64 n, .nilIface]) ∧ Below w.heap.size w w' :=
  (Tryd.strconv_Atoi s n hl h w).mono fun e w' ⟨h1, t, h2⟩ => ⟨h1, by rw [h2]; exact bytes_below (Below.refl _ w) (Nat.le_refl _) 5 t⟩
theorem plain_list (l : List UInt8) (h : l.all (fun b => decide (48 ≤ b.toNat ∧ b.toNat ≤ 57)) = true) : plainP ⟨l.toArray⟩ := fun i hi => by
  have hi' : i < l.length := hi
  refine ⟨hi, ?_⟩
  exact of_decide_eq_true (List.all_eq_true.1 h l[i] (List.getElem_mem hi'))

set_option maxHeartbeats 1000000 in
set_option maxRecDepth 100000 in
theorem split_a (w : World) :
    Calls Tryd.prog 31 #[.string ⟨#[45, 49, 50, 46, 51, 52]⟩, .int .i64 2] w fun e w' => e = .returned (.tuple #[.string ⟨#[49, 50, 51, 52]⟩, .bool true]) ∧ Below w.heap.size w w' := by
  go_enter Tryd.func31, Tryd.ntmps31
  go_wp2_with fail
  refine (tp_calls _ _ ⟨#[49, 50, 46, 51, 52]⟩ _ (by kernel_rfl)).mono ?_
  rintro e w1 ⟨rfl, rfl⟩
  have hE0 : (((⟨#[49, 50, 46, 51, 52]⟩ : ByteArray)[2]'(by decide)).toNat : Int) = 46 := by kernel_rfl
  go_wp2_with fail
  have HPa : Aside0 (plainP ⟨#[49, 50]⟩) := ⟨plain_list [49, 50] (by decide)⟩
  have HPb : Aside0 (plainP ⟨#[51, 52]⟩) := ⟨plain_list [51, 52] (by decide)⟩
  have hE1 : (⟨#[49, 50, 46, 51, 52]⟩ : ByteArray).extract 0 2 = ⟨#[49, 50]⟩ := by kernel_rfl
  have hE2 : (⟨#[49, 50, 46, 51, 52]⟩ : ByteArray).extract 2 5 = ⟨#[46, 51, 52]⟩ := by kernel_rfl
  have hE3 : ((⟨#[49, 50]⟩ : ByteArray)[0]'(by decide)).toNat = 49 := by kernel_rfl
  have hE4 : (⟨#[49, 50]⟩ : ByteArray).toList.isEmpty = false := by kernel_rfl
  go_region_law (refine goes_ Tryd.func36 (by kernel_rfl) rfl #[.string ⟨#[46, 51, 52]⟩, .string ⟨#[46]⟩] (by rfl) rfl rfl (by (try simp only [List.map_toArray, List.map_cons, List.map_nil]); first | done | rfl | kernel_rfl) ?_; refine (tp_calls _ _ ⟨#[51, 52]⟩ _ (by kernel_rfl)).mono ?_; rintro e w2 ⟨rfl, rfl⟩; refine ⟨_, rfl, ?_⟩)
  go_wp2_with fail
  refine (money_plain_calls _ _ true ⟨fun _ => HPa.out, fun _ => rfl⟩).mono ?_
  rintro e w3 ⟨rfl, hb3⟩
  have HB3 := Aside0.mk ((below_drew (Below.refl w1.heap.size w1)).trans (hb3.mono (show w1.heap.size ≤ w1.drew.heap.size from Nat.le_refl _)))
  clear hb3
  go_wp2_with fail
  refine (money_plain_calls _ _ true ⟨fun _ => HPb.out, fun _ => rfl⟩).mono ?_
  rintro e w4 ⟨rfl, hb4⟩
  have HB4 := Aside0.mk (HB3.out.trans (hb4.mono HB3.out.size))
  clear hb4
  go_wp2
  go_ret2
  exact ⟨by kernel_rfl, HB4.out⟩
set_option maxHeartbeats 1000000 in
set_option maxRecDepth 100000 in
theorem split_b (w : World) :
    Calls Tryd.prog 31 #[.string ⟨#[45, 48, 46, 48, 48]⟩, .int .i64 2] w fun e w' => e = .returned (.tuple #[.string ⟨#[48, 48, 48]⟩, .bool true]) ∧ Below w.heap.size w w' := by
  go_enter Tryd.func31, Tryd.ntmps31
  go_wp2_with fail
  refine (tp_calls _ _ ⟨#[48, 46, 48, 48]⟩ _ (by kernel_rfl)).mono ?_
  rintro e w1 ⟨rfl, rfl⟩
  have hE0 : (((⟨#[48, 46, 48, 48]⟩ : ByteArray)[1]'(by decide)).toNat : Int) = 46 := by kernel_rfl
  go_wp2_with fail
  have HPa : Aside0 (plainP ⟨#[48]⟩) := ⟨plain_list [48] (by decide)⟩
  have HPb : Aside0 (plainP ⟨#[48, 48]⟩) := ⟨plain_list [48, 48] (by decide)⟩
  have hE1 : (⟨#[48, 46, 48, 48]⟩ : ByteArray).extract 0 1 = ⟨#[48]⟩ := by kernel_rfl
  have hE2 : (⟨#[48, 46, 48, 48]⟩ : ByteArray).extract 1 4 = ⟨#[46, 48, 48]⟩ := by kernel_rfl
  have hE3 : ((⟨#[48]⟩ : ByteArray)[0]'(by decide)).toNat = 48 := by kernel_rfl
  have hE4 : (⟨#[48]⟩ : ByteArray).toList.isEmpty = false := by kernel_rfl
  go_region_law (refine goes_ Tryd.func36 (by kernel_rfl) rfl #[.string ⟨#[46, 48, 48]⟩, .string ⟨#[46]⟩] (by rfl) rfl rfl (by (try simp only [List.map_toArray, List.map_cons, List.map_nil]); first | done | rfl | kernel_rfl) ?_; refine (tp_calls _ _ ⟨#[48, 48]⟩ _ (by kernel_rfl)).mono ?_; rintro e w2 ⟨rfl, rfl⟩; refine ⟨_, rfl, ?_⟩)
  go_wp2_with fail
  refine (money_plain_calls _ _ true ⟨fun _ => HPa.out, fun _ => rfl⟩).mono ?_
  rintro e w3 ⟨rfl, hb3⟩
  have HB3 := Aside0.mk ((below_drew (Below.refl w1.heap.size w1)).trans (hb3.mono (show w1.heap.size ≤ w1.drew.heap.size from Nat.le_refl _)))
  clear hb3
  go_wp2_with fail
  refine (money_plain_calls _ _ true ⟨fun _ => HPb.out, fun _ => rfl⟩).mono ?_
  rintro e w4 ⟨rfl, hb4⟩
  have HB4 := Aside0.mk (HB3.out.trans (hb4.mono HB3.out.size))
  clear hb4
  go_wp2
  go_ret2
  exact ⟨by kernel_rfl, HB4.out⟩
set_option maxHeartbeats 1000000 in
set_option maxRecDepth 100000 in
theorem par_a (w : World) :
    Calls Tryd.prog 17 #[.string ⟨#[45, 49, 50, 46, 51, 52]⟩, .int .i64 2] w fun e w' => e = .returned (.tuple #[.int .i64 (-1234), .int .i64 0]) ∧ Below w.heap.size w w' := by
  have HP : Aside0 (money_places.f 2 = some true) := ⟨by decide⟩
  go_enter Tryd.func17, Tryd.ntmps17
  go_wp2_with fail
  refine (money_places.calls 2 _ _ HP.out).mono ?_
  rintro e w1 ⟨rfl, hd1⟩
  have HB1 := Aside0.mk hd1.below
  clear hd1
  go_wp2_with fail
  refine (split_a _).mono ?_
  rintro e w2 ⟨rfl, hb2⟩
  have HB2 := Aside0.mk (HB1.out.trans (hb2.mono HB1.out.size))
  clear hb2
  go_wp2_with fail
  refine (tl_calls _ ⟨#[49, 50, 51, 52]⟩ _ (by kernel_rfl)).mono ?_
  rintro e w3 ⟨rfl, hw3⟩
  subst hw3
  go_wp2_with fail
  refine (hp_calls _ _ true _ (by kernel_rfl)).mono ?_
  rintro e w4 ⟨rfl, hw4⟩
  subst hw4
  have hE1 : (⟨#[49, 50, 51, 52]⟩ : ByteArray).toList.isEmpty = false := by kernel_rfl
  go_wp2_with fail
  refine (atoi_calls _ 1234 _ (by decide) (by kernel_rfl)).mono ?_
  rintro e w5 ⟨rfl, hb5⟩
  have HB5 := Aside0.mk (HB2.out.trans (hb5.mono HB2.out.size))
  clear hb5
  go_wp2
  go_ret2
  exact ⟨by rfl, HB5.out⟩
set_option maxHeartbeats 1000000 in
set_option maxRecDepth 100000 in
theorem par_b (w : World) :
    Calls Tryd.prog 17 #[.string ⟨#[45, 48, 46, 48, 48]⟩, .int .i64 2] w fun e w' => e = .returned (.tuple #[.int .i64 0, .int .i64 2]) ∧ Below w.heap.size w w' := by
  have HP : Aside0 (money_places.f 2 = some true) := ⟨by decide⟩
  go_enter Tryd.func17, Tryd.ntmps17
  go_wp2_with fail
  refine (money_places.calls 2 _ _ HP.out).mono ?_
  rintro e w1 ⟨rfl, hd1⟩
  have HB1 := Aside0.mk hd1.below
  clear hd1
  go_wp2_with fail
  refine (split_b _).mono ?_
  rintro e w2 ⟨rfl, hb2⟩
  have HB2 := Aside0.mk (HB1.out.trans (hb2.mono HB1.out.size))
  clear hb2
  go_wp2_with fail
  refine (tl_calls _ ⟨#[]⟩ _ (by kernel_rfl)).mono ?_
  rintro e w3 ⟨rfl, hw3⟩
  subst hw3
  go_wp2_with fail
  refine (hp_calls _ _ true _ (by kernel_rfl)).mono ?_
  rintro e w4 ⟨rfl, hw4⟩
  subst hw4
  have hE1 : (⟨#[]⟩ : ByteArray).toList.isEmpty = true := by kernel_rfl
  go_wp2
  go_ret2
  exact ⟨by rfl, HB2.out⟩
end Go.Proofs.YtbeebjpbmbkodaaDoor.Q
