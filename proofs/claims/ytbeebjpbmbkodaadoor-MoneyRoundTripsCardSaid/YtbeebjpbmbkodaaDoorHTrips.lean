/- MoneyRoundTrips answers true. -/
import Derived.Test.YtbeebjpbmbkodaaDoorPTrip
import Derived.Test.YtbeebjpbmbkodaaDoorHParse
namespace Go.Proofs.YtbeebjpbmbkodaaDoor.Q
open Go.RowKit Go.Proofs.YtbeebjpbmbkodaaDoorW.PrintWords Go.Proofs.YtbeebjpbmbkodaaDoorW.PrintLast Go.Proofs.YtbeebjpbmbkodaaDoorW.PrintMore
set_option linter.unusedVariables false
set_option linter.unusedSimpArgs false

/-- What Format answers where it answers. -/
theorem fmt_ok (a d : Int) (ha : validB a = true) (hd : placesB d = true) : ∃ t : ByteArray, fmtC a d = (t, 0) ∧ t.data.toList = textT a d.toNat ∧ t.size ≤ 100 := by
  have hp := of_decide_eq_true hd
  refine ⟨_, if_pos ⟨ha, hd⟩, fmt_text a d.toNat, ?_⟩
  rw [Lib.size_eq, fmt_text]
  exact text_len a d.toNat ha (by omega)

theorem money_valid_b (a : Int) (w : World) (h : validB a = true) : Calls Tryd.prog 19 #[.int .i64 a] w fun e w' => e = .returned (.bool true) ∧ Below w.heap.size w w' :=
  (money_Valid.calls a true w (by rw [valid_eq, h])).mono fun e w' ⟨h1, h2⟩ => ⟨h1, h2.below⟩

set_option maxHeartbeats 4000000 in
set_option maxRecDepth 100000 in
theorem moneyRoundTrips_calls (a d : Int) (s : ByteArray) (w : World) (ht : Tab w) (hr : RangeV w) (hs : s.size ≤ 9223372036854775807) :
    Calls Tryd.prog 7 #[.int .i64 a, .int .i64 d, .string s] w fun e w' => e = .returned (.bool true) ∧ Below w.heap.size w w' := by
  have HT := Aside0.mk ht
  have HR := Aside0.mk hr
  clear ht hr
  by_cases hf : validB a = true ∧ placesB d = true
  · obtain ⟨t, f1, f2, f3⟩ := fmt_ok a d hf.1 hf.2
    have F1 := Aside0.mk f1
    have F2 : Aside0 (parC t.data.toList d = (a, 0)) := ⟨by rw [f2]; exact par_text a d hf.1 hf.2⟩
    have F3 := Aside0.mk f3
    clear hf f1 f2 f3
    by_cases h : s.size > 100
    · have d1 : decide ((s.size : Int) > 100) = true := decide_eq_true (by omega)
      have d2 : decide ((100 : Int) < (s.size : Int)) = true := decide_eq_true (by omega)
      have d3 : decide (100 < s.size) = true := decide_eq_true (by omega)
      clear h
      go_enter Tryd.func7, Tryd.ntmps7
      have HB : Aside0 (Below w.heap.size w w) := ⟨Below.refl _ w⟩
      go_wp2_with fail
      refine (format_calls a d _ (HT.out.below HB.out) t 0 F1.out).mono ?_
      rintro e w1 ⟨rfl, hb⟩
      have HBn := Aside0.mk (HB.out.trans (hb.mono HB.out.size))
      clear HB hb
      have HB := HBn
      clear HBn
      go_wp2_with fail
      refine (parse_calls t d F3.out _ (HR.out.below HB.out) a 0 F2.out).mono ?_
      rintro e w2 ⟨rfl, hb⟩
      have HBn := Aside0.mk (HB.out.trans (hb.mono HB.out.size))
      clear HB hb
      have HB := HBn
      clear HBn
      go_wp2_with fail
      refine (lives_calls _ (HT.out.below HB.out)).mono ?_
      rintro e w6 ⟨rfl, hb⟩
      have HBn := Aside0.mk (HB.out.trans (hb.mono HB.out.size))
      clear HB hb
      have HB := HBn
      clear HBn
      go_wp2
      go_ret
      exact ⟨rfl, HB.out⟩
    · have d1 : decide ((s.size : Int) > 100) = false := decide_eq_false (by omega)
      have d2 : decide ((100 : Int) < (s.size : Int)) = false := decide_eq_false (by omega)
      have d3 : decide (100 < s.size) = false := decide_eq_false (by omega)
      have hs1 : s.size ≤ 100 := by omega
      obtain ⟨n, ev, hp⟩ : ∃ n ev, parC s.data.toList d = (n, ev) := ⟨_, _, rfl⟩
      clear h
      by_cases he : ev = 0
      · subst he
        obtain ⟨q1, q2, q3⟩ := text_par hp
        obtain ⟨t2, q4, q5, _⟩ := fmt_ok n d q1 q2
        obtain rfl : t2 = s := bytes_ext (q5.trans q3)
        have P1 := Aside0.mk hp
        have G1 := Aside0.mk q4
        have G2 := Aside0.mk q1
        clear hp q1 q2 q3 q4 q5
        go_enter Tryd.func7, Tryd.ntmps7
        have HB : Aside0 (Below w.heap.size w w) := ⟨Below.refl _ w⟩
        go_wp2_with fail
        refine (format_calls a d _ (HT.out.below HB.out) t 0 F1.out).mono ?_
        rintro e w1 ⟨rfl, hb⟩
        have HBn := Aside0.mk (HB.out.trans (hb.mono HB.out.size))
        clear HB hb
        have HB := HBn
        clear HBn
        go_wp2_with fail
        refine (parse_calls t d F3.out _ (HR.out.below HB.out) a 0 F2.out).mono ?_
        rintro e w2 ⟨rfl, hb⟩
        have HBn := Aside0.mk (HB.out.trans (hb.mono HB.out.size))
        clear HB hb
        have HB := HBn
        clear HBn
        go_wp2_with fail
        refine (parse_calls t2 d hs1 _ (HR.out.below HB.out) n 0 P1.out).mono ?_
        rintro e w3 ⟨rfl, hb⟩
        have HBn := Aside0.mk (HB.out.trans (hb.mono HB.out.size))
        clear HB hb
        have HB := HBn
        clear HBn
        go_wp2_with fail
        refine (format_calls n d _ (HT.out.below HB.out) t2 0 G1.out).mono ?_
        rintro e w4 ⟨rfl, hb⟩
        have HBn := Aside0.mk (HB.out.trans (hb.mono HB.out.size))
        clear HB hb
        have HB := HBn
        clear HBn
        go_wp2_with fail
        refine (money_valid_b n _ G2.out).mono ?_
        rintro e w5 ⟨rfl, hb⟩
        have HBn := Aside0.mk (HB.out.trans (hb.mono HB.out.size))
        clear HB hb
        have HB := HBn
        clear HBn
        go_wp2_with fail
        refine (lives_calls _ (HT.out.below HB.out)).mono ?_
        rintro e w6 ⟨rfl, hb⟩
        have HBn := Aside0.mk (HB.out.trans (hb.mono HB.out.size))
        clear HB hb
        have HB := HBn
        clear HBn
        go_wp2
        go_ret
        exact ⟨rfl, HB.out⟩
      · obtain rfl := par_zero hp he
        have P1 := Aside0.mk hp
        have b1 : (ev == 0) = false := beq_eq_false_iff_ne.mpr he
        have b2 : (ev != 0) = true := bne_iff_ne.mpr he
        clear hp he
        go_enter Tryd.func7, Tryd.ntmps7
        have HB : Aside0 (Below w.heap.size w w) := ⟨Below.refl _ w⟩
        go_wp2_with fail
        refine (format_calls a d _ (HT.out.below HB.out) t 0 F1.out).mono ?_
        rintro e w1 ⟨rfl, hb⟩
        have HBn := Aside0.mk (HB.out.trans (hb.mono HB.out.size))
        clear HB hb
        have HB := HBn
        clear HBn
        go_wp2_with fail
        refine (parse_calls t d F3.out _ (HR.out.below HB.out) a 0 F2.out).mono ?_
        rintro e w2 ⟨rfl, hb⟩
        have HBn := Aside0.mk (HB.out.trans (hb.mono HB.out.size))
        clear HB hb
        have HB := HBn
        clear HBn
        go_wp2_with fail
        refine (parse_calls s d hs1 _ (HR.out.below HB.out) 0 ev P1.out).mono ?_
        rintro e w3 ⟨rfl, hb⟩
        have HBn := Aside0.mk (HB.out.trans (hb.mono HB.out.size))
        clear HB hb
        have HB := HBn
        clear HBn
        go_wp2_with fail
        refine (lives_calls _ (HT.out.below HB.out)).mono ?_
        rintro e w6 ⟨rfl, hb⟩
        have HBn := Aside0.mk (HB.out.trans (hb.mono HB.out.size))
        clear HB hb
        have HB := HBn
        clear HBn
        go_wp2
        go_ret
        exact ⟨rfl, HB.out⟩
  · have F1 : Aside0 (fmtC a d = (⟨#[]⟩, 1)) := ⟨if_neg hf⟩
    clear hf
    by_cases h : s.size > 100
    · have d1 : decide ((s.size : Int) > 100) = true := decide_eq_true (by omega)
      have d2 : decide ((100 : Int) < (s.size : Int)) = true := decide_eq_true (by omega)
      have d3 : decide (100 < s.size) = true := decide_eq_true (by omega)
      clear h
      go_enter Tryd.func7, Tryd.ntmps7
      have HB : Aside0 (Below w.heap.size w w) := ⟨Below.refl _ w⟩
      go_wp2_with fail
      refine (format_calls a d _ (HT.out.below HB.out) ⟨#[]⟩ 1 F1.out).mono ?_
      rintro e w1 ⟨rfl, hb⟩
      have HBn := Aside0.mk (HB.out.trans (hb.mono HB.out.size))
      clear HB hb
      have HB := HBn
      clear HBn
      go_wp2_with fail
      refine (lives_calls _ (HT.out.below HB.out)).mono ?_
      rintro e w6 ⟨rfl, hb⟩
      have HBn := Aside0.mk (HB.out.trans (hb.mono HB.out.size))
      clear HB hb
      have HB := HBn
      clear HBn
      go_wp2
      go_ret
      exact ⟨rfl, HB.out⟩
    · have d1 : decide ((s.size : Int) > 100) = false := decide_eq_false (by omega)
      have d2 : decide ((100 : Int) < (s.size : Int)) = false := decide_eq_false (by omega)
      have d3 : decide (100 < s.size) = false := decide_eq_false (by omega)
      have hs1 : s.size ≤ 100 := by omega
      obtain ⟨n, ev, hp⟩ : ∃ n ev, parC s.data.toList d = (n, ev) := ⟨_, _, rfl⟩
      clear h
      by_cases he : ev = 0
      · subst he
        obtain ⟨q1, q2, q3⟩ := text_par hp
        obtain ⟨t2, q4, q5, _⟩ := fmt_ok n d q1 q2
        obtain rfl : t2 = s := bytes_ext (q5.trans q3)
        have P1 := Aside0.mk hp
        have G1 := Aside0.mk q4
        have G2 := Aside0.mk q1
        clear hp q1 q2 q3 q4 q5
        go_enter Tryd.func7, Tryd.ntmps7
        have HB : Aside0 (Below w.heap.size w w) := ⟨Below.refl _ w⟩
        go_wp2_with fail
        refine (format_calls a d _ (HT.out.below HB.out) ⟨#[]⟩ 1 F1.out).mono ?_
        rintro e w1 ⟨rfl, hb⟩
        have HBn := Aside0.mk (HB.out.trans (hb.mono HB.out.size))
        clear HB hb
        have HB := HBn
        clear HBn
        go_wp2_with fail
        refine (parse_calls t2 d hs1 _ (HR.out.below HB.out) n 0 P1.out).mono ?_
        rintro e w3 ⟨rfl, hb⟩
        have HBn := Aside0.mk (HB.out.trans (hb.mono HB.out.size))
        clear HB hb
        have HB := HBn
        clear HBn
        go_wp2_with fail
        refine (format_calls n d _ (HT.out.below HB.out) t2 0 G1.out).mono ?_
        rintro e w4 ⟨rfl, hb⟩
        have HBn := Aside0.mk (HB.out.trans (hb.mono HB.out.size))
        clear HB hb
        have HB := HBn
        clear HBn
        go_wp2_with fail
        refine (money_valid_b n _ G2.out).mono ?_
        rintro e w5 ⟨rfl, hb⟩
        have HBn := Aside0.mk (HB.out.trans (hb.mono HB.out.size))
        clear HB hb
        have HB := HBn
        clear HBn
        go_wp2_with fail
        refine (lives_calls _ (HT.out.below HB.out)).mono ?_
        rintro e w6 ⟨rfl, hb⟩
        have HBn := Aside0.mk (HB.out.trans (hb.mono HB.out.size))
        clear HB hb
        have HB := HBn
        clear HBn
        go_wp2
        go_ret
        exact ⟨rfl, HB.out⟩
      · obtain rfl := par_zero hp he
        have P1 := Aside0.mk hp
        have b1 : (ev == 0) = false := beq_eq_false_iff_ne.mpr he
        have b2 : (ev != 0) = true := bne_iff_ne.mpr he
        clear hp he
        go_enter Tryd.func7, Tryd.ntmps7
        have HB : Aside0 (Below w.heap.size w w) := ⟨Below.refl _ w⟩
        go_wp2_with fail
        refine (format_calls a d _ (HT.out.below HB.out) ⟨#[]⟩ 1 F1.out).mono ?_
        rintro e w1 ⟨rfl, hb⟩
        have HBn := Aside0.mk (HB.out.trans (hb.mono HB.out.size))
        clear HB hb
        have HB := HBn
        clear HBn
        go_wp2_with fail
        refine (parse_calls s d hs1 _ (HR.out.below HB.out) 0 ev P1.out).mono ?_
        rintro e w3 ⟨rfl, hb⟩
        have HBn := Aside0.mk (HB.out.trans (hb.mono HB.out.size))
        clear HB hb
        have HB := HBn
        clear HBn
        go_wp2_with fail
        refine (lives_calls _ (HT.out.below HB.out)).mono ?_
        rintro e w6 ⟨rfl, hb⟩
        have HBn := Aside0.mk (HB.out.trans (hb.mono HB.out.size))
        clear HB hb
        have HB := HBn
        clear HBn
        go_wp2
        go_ret
        exact ⟨rfl, HB.out⟩
end Go.Proofs.YtbeebjpbmbkodaaDoor.Q
