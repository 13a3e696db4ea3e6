/- MoneyCodes answers true. -/
import Derived.Test.YtbeebjpbmbkodaaDoorHAdds
namespace Go.Proofs.YtbeebjpbmbkodaaDoor.Q
open Go.RowKit Go.Proofs.YtbeebjpbmbkodaaDoorW.PrintWords Go.Proofs.YtbeebjpbmbkodaaDoorW.PrintLast Go.Proofs.YtbeebjpbmbkodaaDoorW.PrintMore
set_option linter.unusedVariables false
set_option linter.unusedSimpArgs false
set_option maxHeartbeats 2000000 in
set_option maxRecDepth 100000 in
theorem moneyCodes_calls (s : ByteArray) (w : World) (ht : Tab w) (hs : s.size ≤ 9223372036854775807) :
    Calls Tryd.prog 4 #[.string s] w fun e w' => e = .returned (.bool true) ∧ Below w.heap.size w w' := by
  have HT := Aside0.mk ht
  have HS := Aside0.mk hs
  clear ht hs
  by_cases h : s.size > 100
  · have d1 : decide ((s.size : Int) > 100) = true := decide_eq_true (by omega)
    have d2 : decide ((100 : Int) < (s.size : Int)) = true := decide_eq_true (by omega)
    have d3 : decide (100 < s.size) = true := decide_eq_true (by omega)
    clear h
    go_enter Tryd.func4, Tryd.ntmps4
    go_wp2_with fail
    refine (lives_calls _ HT.out).mono ?_
    rintro e w6 ⟨rfl, hb6⟩
    have HB6 := Aside0.mk hb6
    clear hb6
    go_wp2
    go_ret
    exact ⟨rfl, HB6.out⟩
  · have d1 : decide ((s.size : Int) > 100) = false := decide_eq_false (by omega)
    have d2 : decide ((100 : Int) < (s.size : Int)) = false := decide_eq_false (by omega)
    have d3 : decide (100 < s.size) = false := decide_eq_false (by omega)
    have d4 : decide ((s.size : Int) ≤ 100) = true := decide_eq_true (by omega)
    have d5 : decide (s.size ≤ 100) = true := decide_eq_true (by omega)
    obtain ⟨b, h1, h2⟩ := rcode_eq s 10 (by omega)
    have H1 := Aside0.mk h1
    have H2 := Aside0.mk h2
    clear h h1 h2
    go_enter Tryd.func4, Tryd.ntmps4
    go_wp2_with fail
    refine (money_Code_calls s _ b HS.out H2.out).mono ?_
    rintro e w1 ⟨rfl, hb1⟩
    have HB1 := Aside0.mk hb1
    clear hb1
    go_wp2_with fail
    refine (corebankref03_Code.calls 10 s _ _ H1.out).mono ?_
    rintro e w2 ⟨rfl, hd2⟩
    have HB2 := Aside0.mk (HB1.out.trans (hd2.below.mono HB1.out.size))
    clear hd2
    go_wp2_with fail
    refine (lives_calls _ (HT.out.below HB2.out)).mono ?_
    rintro e w6 ⟨rfl, hb6⟩
    have HB6 := Aside0.mk (HB2.out.trans (hb6.mono HB2.out.size))
    clear hb6
    go_wp2
    go_ret
    exact ⟨rfl, HB6.out⟩
end Go.Proofs.YtbeebjpbmbkodaaDoor.Q
