/- MoneyParses answers true. -/
import Derived.Test.YtbeebjpbmbkodaaDoorHParse
import Derived.Test.YtbeebjpbmbkodaaDoorPRef
namespace Go.Proofs.YtbeebjpbmbkodaaDoor.Q
open Go.RowKit Go.Proofs.YtbeebjpbmbkodaaDoorW.PrintWords Go.Proofs.YtbeebjpbmbkodaaDoorW.PrintLast Go.Proofs.YtbeebjpbmbkodaaDoorW.PrintMore
set_option linter.unusedVariables false
set_option linter.unusedSimpArgs false
set_option maxHeartbeats 4000000 in
set_option maxRecDepth 100000 in
theorem moneyParses_calls (s : ByteArray) (d : Int) (w : World) (ht : Tab w) (hr : RangeV w) (hs : s.size ≤ 9223372036854775807) :
    Calls Tryd.prog 6 #[.string s, .int .i64 d] w fun e w' => e = .returned (.bool true) ∧ Below w.heap.size w w' := by
  have HT := Aside0.mk ht
  have HR := Aside0.mk hr
  clear ht hr
  by_cases h : s.size > 100
  · have d1 : decide ((s.size : Int) > 100) = true := decide_eq_true (by omega)
    have d2 : decide ((100 : Int) < (s.size : Int)) = true := decide_eq_true (by omega)
    have d3 : decide (100 < s.size) = true := decide_eq_true (by omega)
    clear h
    go_enter Tryd.func6, Tryd.ntmps6
    go_wp2_with fail
    refine (lives_calls _ HT.out).mono ?_
    rintro e w6 ⟨rfl, hb6⟩
    have HB6 := Aside0.mk hb6
    clear hb6
    go_wp2
    go_ret
    exact ⟨rfl, HB6.out⟩
  · have d1 : decide ((s.size : Int) > 100) = false := decide_eq_false (by omega)
    have d2 : decide ((100 : Int) < (s.size : Int)) = false := decide_eq_false (by omega)
    have d3 : decide (100 < s.size) = false := decide_eq_false (by omega)
    have hs1 : s.size ≤ 100 := by omega
    obtain ⟨n, ev, hp⟩ : ∃ n ev, parC s.data.toList d = (n, ev) := ⟨_, _, rfl⟩
    have P1 := Aside0.mk hp
    have P2 : Aside0 (corebankref03_Parse.f 300 s d = some (n, ev)) := ⟨by rw [rpar_eq s d hs1, hp]⟩
    clear h hp
    go_enter Tryd.func6, Tryd.ntmps6
    go_wp2_with fail
    refine (parse_calls s d hs1 _ HR.out n ev P1.out).mono ?_
    rintro e w1 ⟨rfl, hb1⟩
    have HB1 := Aside0.mk hb1
    clear hb1
    go_wp2_with fail
    refine (corebankref03_Parse.calls 300 s d n ev _ P2.out).mono ?_
    rintro e w2 ⟨rfl, hd2⟩
    have HB2 := Aside0.mk (HB1.out.trans (hd2.below.mono HB1.out.size))
    clear hd2
    go_wp2_with fail
    refine (lives_calls _ (HT.out.below HB2.out)).mono ?_
    rintro e w6 ⟨rfl, hb6⟩
    have HB6 := Aside0.mk (HB2.out.trans (hb6.mono HB2.out.size))
    clear hb6
    go_wp2
    go_ret
    exact ⟨rfl, HB6.out⟩
end Go.Proofs.YtbeebjpbmbkodaaDoor.Q
