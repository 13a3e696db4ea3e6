/- MoneySums answers true: the sum of a list and of the list in the opposite order. -/
import Derived.Test.YtbeebjpbmbkodaaDoorHAdds
import Derived.Test.YtbeebjpbmbkodaaDoorQx7
namespace Go.Proofs.YtbeebjpbmbkodaaDoor.Q
open Go.RowKit Go.Proofs.YtbeebjpbmbkodaaDoorW.PrintWords Go.Proofs.YtbeebjpbmbkodaaDoorW.PrintLast Go.Proofs.YtbeebjpbmbkodaaDoorW.PrintMore
set_option linter.unusedVariables false
set_option linter.unusedSimpArgs false

theorem infoInt : (Tryd.prog.info? 3).map (fun i => (i.zero, i.size, i.bytes)) = some (some (.int .i64 0), 1, 8) := by kernel_rfl
def sumI : List Int → Int
  | [] => 0
  | x :: l => x + sumI l
theorem sumI_app (a b : List Int) : sumI (a ++ b) = sumI a + sumI b := by
  induction a with
  | nil => simp [sumI]
  | cons x a ih => simp only [List.cons_append, sumI, ih]; omega
theorem sumI_rev (l : List Int) : sumI l.reverse = sumI l := by
  induction l with
  | nil => rfl
  | cons x l ih => rw [List.reverse_cons, sumI_app, ih]; simp only [sumI]; omega
theorem sumI_range (l : List Int) (h : l.all validB = true) : -(1000000000000 * (l.length : Int)) ≤ sumI l ∧ sumI l ≤ 1000000000000 * (l.length : Int) := by
  induction l with
  | nil => simp [sumI]
  | cons x l ih =>
    rw [List.all_cons, Bool.and_eq_true] at h
    have h1 := of_decide_eq_true h.1
    have h2 := ih h.2
    simp only [sumI, List.length_cons]
    omega
def endC (l : List Int) : Int × Int := if validB (sumI l) = true then (sumI l, 0) else (0, 6)
def sumC (l : List Int) : Int × Int := if l.length > 4096 then (0, 5) else if l.all validB = true then endC l else (0, 1)
theorem sumC_rev (l : List Int) : sumC l.reverse = sumC l := by
  unfold sumC endC
  rw [List.length_reverse, List.all_reverse, sumI_rev]
theorem rd_get (l : List Int) (i : Nat) (h : i < l.length) : rd l (i : Int) = l[i] := by
  show l.getD i 0 = _
  rw [List.getD_eq_getElem?_getD, List.getElem?_eq_getElem h]; rfl
theorem take_one (l : List Int) (i : Nat) (h : i < l.length) : l.take (i + 1) = l.take i ++ [l[i]] := List.take_succ_eq_append_getElem h
theorem sum_from (l : List Int) (hl : l.length ≤ 4096) (d : Nat) : ∀ (k i : Nat), i + d = l.length → d < k → (l.take i).all validB = true →
    money_Sum.l0 k (sumI (l.take i)) l (l.length : Int) (i : Int) = some (if (l.drop i).all validB = true then endC l else (0, 1)) := by
  induction d with
  | zero =>
    intro k i hi hk hv
    obtain ⟨k, rfl, _⟩ := msucc hk
    simp only [money_Sum.l0]
    rw [if_neg (by omega), valid_eq, List.take_of_length_le (by omega), List.drop_eq_nil_of_le (by omega)]
    simp only [Option.bind_some]
    unfold endC
    cases validB (sumI l) <;> rfl
  | succ d ih =>
    intro k i hi hk hv
    obtain ⟨k, rfl, hk2⟩ := msucc hk
    have hi' : i < l.length := by omega
    simp only [money_Sum.l0]
    rw [if_pos (by omega), if_pos (by omega), if_pos (by omega), rd_get l i hi', valid_eq, List.drop_eq_getElem_cons hi', List.all_cons]
    simp only [Option.bind_some]
    cases hx : validB l[i] with
    | false => rfl
    | true =>
      have hv' : (l.take (i + 1)).all validB = true := by rw [take_one l i hi', List.all_append, hv]; simp [hx]
      have hr := sumI_range _ hv'
      have hlen : (l.take (i + 1)).length = i + 1 := by rw [List.length_take]; omega
      have e : sumI (l.take (i + 1)) = sumI (l.take i) + l[i] := by rw [take_one l i hi', sumI_app]; simp [sumI]
      have ih' := ih k (i + 1) (by omega) (by omega) hv'
      rw [hlen] at hr
      rw [if_pos rfl, Bool.true_and, show wrap64 (sumI (l.take i) + l[i]) = sumI (l.take (i + 1)) from by rw [e] at hr ⊢; unfold wrap64; omega, show wrap64 ((i : Int) + 1) = ((i + 1 : Nat) : Int) from by unfold wrap64; omega]
      exact ih'
theorem sum_eq (l : List Int) : money_Sum.f 5000 l = some (sumC l) := by
  unfold money_Sum.f sumC
  by_cases h : (l.length : Int) > 4096
  · rw [if_pos h, if_pos (by omega)]
  · rw [if_neg h, if_neg (by omega)]
    exact sum_from l (by omega) l.length 5000 0 (by omega) (by omega) rfl
theorem rsum_from (l : List Int) (hl : l.length ≤ 4096) (d : Nat) : ∀ (k i : Nat), i + d = l.length → d < k → (l.take i).all validB = true →
    corebankref03_Sum.l0 k l (sumI (l.take i)) (i : Int) = some (if (l.drop i).all validB = true then endC l else (0, 1)) := by
  induction d with
  | zero =>
    intro k i hi hk hv
    obtain ⟨k, rfl, _⟩ := msucc hk
    simp only [corebankref03_Sum.l0]
    rw [if_neg (by omega), rvalid_eq, List.take_of_length_le (by omega), List.drop_eq_nil_of_le (by omega)]
    simp only [Option.bind_some]
    unfold endC
    cases validB (sumI l) <;> rfl
  | succ d ih =>
    intro k i hi hk hv
    obtain ⟨k, rfl, hk2⟩ := msucc hk
    have hi' : i < l.length := by omega
    simp only [corebankref03_Sum.l0]
    rw [if_pos (by omega), if_pos (by omega), rd_get l i hi', rvalid_eq, List.drop_eq_getElem_cons hi', List.all_cons]
    simp only [Option.bind_some]
    cases hx : validB l[i] with
    | false => rfl
    | true =>
      have hv' : (l.take (i + 1)).all validB = true := by rw [take_one l i hi', List.all_append, hv]; simp [hx]
      have hr := sumI_range _ hv'
      have hlen : (l.take (i + 1)).length = i + 1 := by rw [List.length_take]; omega
      have e : sumI (l.take (i + 1)) = sumI (l.take i) + l[i] := by rw [take_one l i hi', sumI_app]; simp [sumI]
      have ih' := ih k (i + 1) (by omega) (by omega) hv'
      rw [hlen] at hr
      rw [if_pos rfl, Bool.true_and, show wrap64 (sumI (l.take i) + l[i]) = sumI (l.take (i + 1)) from by rw [e] at hr ⊢; unfold wrap64; omega, show wrap64 ((i : Int) + 1) = ((i + 1 : Nat) : Int) from by unfold wrap64; omega]
      exact ih'
theorem rsum_eq (l : List Int) : corebankref03_Sum.f 5000 l = some (sumC l) := by
  unfold corebankref03_Sum.f sumC
  by_cases h : (l.length : Int) > 4096
  · rw [if_pos h, if_pos (by omega)]
  · rw [if_neg h, if_neg (by omega)]
    exact rsum_from l (by omega) l.length 5000 0 (by omega) (by omega) rfl

set_option maxHeartbeats 2000000 in
set_option maxRecDepth 100000 in
theorem moneySums_calls (A0 : Option Addr) (c0 : Nat) (l0 : List Int) (w : World) (ht : Tab w) (hr0 : Kd.C (Kd.int .i64) w A0 l0.length l0) (hc0 : l0.length ≤ c0) :
    Calls Tryd.prog 3 #[.slice A0 l0.length c0] w fun e w' => e = .returned (.bool true) ∧ Below w.heap.size w w' := by
  have HT := Aside0.mk ht
  have HR0 := Aside0.mk hr0
  have HC0 := Aside0.mk hc0
  have hm : l0.length ≤ 9223372036854775807 := hr0.2.1
  clear ht hr0 hc0
  by_cases h : l0.length > 5000
  · have d1 : decide ((l0.length : Int) > 5000) = true := decide_eq_true (by omega)
    have d2 : decide ((5000 : Int) < (l0.length : Int)) = true := decide_eq_true (by omega)
    have d3 : decide (5000 < l0.length) = true := decide_eq_true (by omega)
    clear h
    go_enter Tryd.func3, Tryd.ntmps3
    go_wp2_with fail
    refine (lives_calls _ HT.out).mono ?_
    rintro e w6 ⟨rfl, hb6⟩
    have HB6 := Aside0.mk hb6
    clear hb6
    go_wp2
    go_ret
    exact ⟨rfl, HB6.out⟩
  · have d1 : decide ((l0.length : Int) > 5000) = false := decide_eq_false (by omega)
    have d2 : decide ((5000 : Int) < (l0.length : Int)) = false := decide_eq_false (by omega)
    have d3 : decide (5000 < l0.length) = false := decide_eq_false (by omega)
    have HL := Aside0.mk (show l0.length ≤ 5000 by omega)
    obtain ⟨n, m, hn⟩ : ∃ n m, sumC l0 = (n, m) := ⟨_, _, rfl⟩
    have H1 := Aside0.mk ((sum_eq l0).trans (congrArg some hn))
    have H2 := Aside0.mk ((rsum_eq l0).trans (congrArg some hn))
    have H3 := Aside0.mk ((sum_eq l0.reverse).trans (congrArg some ((sumC_rev l0).trans hn)))
    have hw0 : IntKind.i64.wrap ((l0.length : Int) - 1) = (l0.length : Int) - 1 := IntWalk.i64_in _ (by omega)
    clear h hn
    go_enter Tryd.func3, Tryd.ntmps3
    go_wp2
    go_loopg [3, 4] l0.length (fun gg s3 s4 wr => ∃ j : Nat, s4 = .int .i64 ((j : Int) - 1) ∧ Aside0 (j ≤ l0.length ∧ j ≤ gg) ∧ Aside0 (Below w.heap.size w wr) ∧ Aside0 (Kd.R (Kd.int .i64) 3 wr w.heap.size (fun _ => True) s3 (l0.drop j).reverse))
    case atStart => exact ⟨l0.length, rfl, ⟨by omega, by omega⟩, ⟨Below.refl _ w⟩, ⟨by rw [List.drop_length]; exact Kd.R_nil _ _ _ _ _⟩⟩
    case round =>
      clear hw0
      obtain ⟨j, rfl, HJ, HB, HI⟩ := hrel
      cases j with
      | succ j =>
        have hj : j < l0.length := by have := HJ.out; omega
        rw [show ((j + 1 : Nat) : Int) - 1 = (j : Int) by omega]
        obtain ⟨x, hx⟩ : ∃ x, x = l0[j] := ⟨_, rfl⟩
        have HS : Aside0 ((l0.drop (j + 1)).reverse ++ [x] = (l0.drop j).reverse) := ⟨by rw [List.drop_eq_getElem_cons hj, List.reverse_cons, hx]⟩
        have HLn : Aside0 ((l0.drop (j + 1)).reverse.length ≤ 5000) := ⟨by rw [List.length_reverse, List.length_drop]; have := HL.out; omega⟩
        obtain ⟨ad, e, h0⟩ := Kd.at_int HR0.out (j : Int) (by omega) (by omega)
        cases e
        rw [rd_get l0 j hj, ← hx] at h0
        simp only [Int.toNat_natCast] at h0
        replace h0 := (HB.out.cell (World.block_lt_of_cell? w _ h0)).trans h0
        have hwj : IntKind.i64.wrap ((j : Int) - 1) = (j : Int) - 1 := IntWalk.i64_in _ (by omega)
        have c0 : decide (0 ≤ (j : Int)) = true := decide_eq_true (by omega)
        clear hx
        go_wp2_with (at_builtin; refine Kd.R_append (Kd.int .i64) (w0 := w) w.heap.size ?e0 (.tmp 22) (.tmp 27) 22 3 (.int .i64 0) 8 ?e9 Tryd.underlying22 infoInt rfl (by decide) (by decide) u3 ((l0.drop (j + 1)).reverse) x [.int .i64 x] (fun _ => True) (fun k_ => some k_ ≠ u3.ownBlock) ?e1 ?e2 rfl (fun k_ hk => ⟨trivial, hk⟩) (fun _ _ => trivial) HI.out HB.out HB.out.size ?e5 ?_; (case e0 => rfl); (case e9 => rfl); (case e1 => rfl); (case e2 => rfl); (case e5 => have := HLn.out; omega); intro v2 w2 ho2 hb2 hg2 hat2; have HB2 := Aside0.mk hb2; have HI2 := Aside0.mk ho2; rw [HS.out] at HI2; clear ho2 hb2 hg2 hat2 HI HB)
        go_roundg j
        case measure => have := HJ.out; omega
        case rel => exact ⟨j, rfl, ⟨by omega, by omega⟩, HB2, HI2⟩
      | zero =>
        rw [List.drop_zero] at HI
        obtain ⟨A3, c3, rfl⟩ := Kd.R_slice HI.out
        have HX := Aside0.mk (Kd.R_reads' HI.out).2
        clear HI HJ
        go_wp2_with fail
        refine (money_Sum.calls 5000 A0 c0 l0 _ _ _ (Kd.C_below HR0.out HB.out) HC0.out H1.out).mono ?_
        rintro e w1 ⟨rfl, hd1⟩
        have HB1 := Aside0.mk (HB.out.trans (hd1.below.mono HB.out.size))
        have HX1 := Aside0.mk (Kd.C_below HX.out.2 hd1.below)
        clear hd1
        go_wp2_with fail
        refine (corebankref03_Sum.calls 5000 A0 c0 l0 _ _ _ (Kd.C_below HR0.out HB1.out) HC0.out H2.out).mono ?_
        rintro e w2 ⟨rfl, hd2⟩
        have HB2 := Aside0.mk (HB1.out.trans (hd2.below.mono HB1.out.size))
        have HX2 := Aside0.mk (Kd.C_below HX1.out hd2.below)
        clear hd2
        go_wp2_with fail
        refine calls_of_args (args' := #[.slice A3 l0.reverse.length c3]) (by rw [List.length_reverse]) ?_
        refine (money_Sum.calls 5000 A3 c3 l0.reverse _ _ _ HX2.out HX.out.1 H3.out).mono ?_
        rintro e w3 ⟨rfl, hd3⟩
        have HB3 := Aside0.mk (HB2.out.trans (hd3.below.mono HB2.out.size))
        clear hd3
        go_wp2_with fail
        refine (lives_calls _ (HT.out.below HB3.out)).mono ?_
        rintro e w6 ⟨rfl, hb6⟩
        have HB6 := Aside0.mk (HB3.out.trans (hb6.mono HB3.out.size))
        clear hb6
        go_wp2
        go_ret
        exact ⟨rfl, HB6.out⟩
end Go.Proofs.YtbeebjpbmbkodaaDoor.Q
