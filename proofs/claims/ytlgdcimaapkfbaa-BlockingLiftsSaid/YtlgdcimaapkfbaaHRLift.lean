/- The reference's Lift: the order with an Id ends the day before, or goes; or an error. -/
import Derived.Test.YtlgdcimaapkfbaaHLift
import Derived.Test.YtlgdcimaapkfbaaPureL
import Derived.Test.YtlgdcimaapkfbaaQx3
namespace Go.Proofs.Ytlgdcimaapkfbaa.Q
open Go.RowKit Go.Proofs.YtlgdcimaapkfbaaW.PrintWords Go.Proofs.YtlgdcimaapkfbaaW.PrintLast Go.Proofs.YtlgdcimaapkfbaaW.PrintMore
set_option linter.unusedVariables false
set_option linter.unusedSimpArgs false

/-- What stands at the place p when an order is ended there. -/
def putAt (l : List S28) (p : Nat) (on : Int) : List S28 := if (l.getD p z28).f4 ≤ on - 1 then [endAt (l.getD p z28) on] else []
/-- The list when the first i orders have been looked at. -/
def soFar (l : List S28) (p : Nat) (on : Int) (i : Nat) : List S28 := if i ≤ p then l.take i else l.take p ++ putAt l p on ++ (l.take i).drop (p + 1)
theorem soFar_at (l : List S28) (p : Nat) (on : Int) (hp : p < l.length) : soFar l p on (p + 1) = soFar l p on p ++ putAt l p on := by
  unfold soFar
  rw [if_neg (by omega), if_pos (by omega), List.drop_eq_nil_of_le (by rw [List.length_take]; omega), List.append_nil]
theorem soFar_next (l : List S28) (p : Nat) (on : Int) (i : Nat) (hi : i < l.length) (hne : i ≠ p) : soFar l p on (i + 1) = soFar l p on i ++ [l.getD i z28] := by
  unfold soFar
  rcases Nat.lt_or_gt_of_ne hne with h | h
  · rw [if_pos (by omega), if_pos (by omega), take_snoc28 l i hi]
  · rw [if_neg (by omega), if_neg (by omega), take_snoc28 l i hi, List.drop_append_of_le_length (by rw [List.length_take]; omega), List.append_assoc, List.append_assoc, List.append_assoc]
theorem soFar_len (l : List S28) (p : Nat) (on : Int) (i : Nat) : (soFar l p on i).length ≤ l.length + 1 := by
  unfold soFar putAt
  split
  · rw [List.length_take]; omega
  · split
    · simp only [List.length_append, List.length_take, List.length_drop, List.length_cons, List.length_nil]; omega
    · simp only [List.length_append, List.length_take, List.length_drop, List.length_nil]; omega
theorem soFar_end (l : List S28) (p : Nat) (on : Int) (hp : p < l.length) (hd : dayB on = true) (h5 : ¬ (l.getD p z28).f5 < on) : (soFar l p on l.length, (0 : Int)) = liftAt l p on := by
  unfold soFar liftAt
  rw [if_neg (by omega), List.take_length, if_neg (by simp [hd]), if_neg h5]
  unfold putAt
  by_cases h : (l.getD p z28).f4 ≤ on - 1
  · rw [if_pos h, if_neg (by omega), List.set_eq_take_append_cons_drop, if_pos hp, List.append_assoc]
    rfl
  · rw [if_neg h, if_pos (by omega), List.eraseIdx_set_eq, List.eraseIdx_eq_take_drop_succ, List.append_nil]
theorem idx_step (p : S28 → Bool) (l : List S28) (i : Nat) (hi : i < l.length) : idxP p (l.drop i) (i : Int) = if p (l.getD i z28) = true then (i : Int) else idxP p (l.drop (i + 1)) ((i + 1 : Nat) : Int) := by
  have e : l.getD i z28 = l[i] := by rw [List.getD_eq_getElem?_getD, List.getElem?_eq_getElem hi]; rfl
  rw [List.drop_eq_getElem_cons hi, e, idxP]
  rfl
theorem valid_day (n : Int) : corebankref04_Valid.f n = some (dayB n) := by
  unfold corebankref04_Valid.f dayB
  by_cases h : n ≥ 0
  · rw [if_pos h]; congr 1; rw [decide_eq_decide]; omega
  · rw [if_neg h, decide_eq_false (by omega)]
def corebankref23_Lift.f (l0 : List S28) (a1 a2 : Int) : Option (List S28 × Int) := if l0.length < 2199023255500 then some (liftL l0 a1 a2) else none

set_option maxHeartbeats 4000000 in
set_option maxRecDepth 100000 in
theorem corebankref23_Lift.calls (A0 : Option Addr) (c0 : Nat) (l0 : List (S28)) (a1 : Int) (a2 : Int) (r1 : List (S28)) (r2 : Int) (w : World) (hr0 : Kd.C k28 w A0 l0.length l0) (hc0 : l0.length ≤ c0) (h : corebankref23_Lift.f l0 a1 a2 = some (r1, r2)) :
    Calls Try.prog 17 #[.slice A0 l0.length c0, .int .i64 a1, .int .i64 a2] w fun e w' => ∃ v0_ : Value, e = .returned (.tuple #[v0_, .int .i64 r2]) ∧ Kd.R k28 28 w' w.heap.size (fun _ => True) v0_ r1 ∧ Below w.heap.size w w' := by
  have hlt : l0.length < 2199023255500 := by
    unfold corebankref23_Lift.f at h
    by_cases e : l0.length < 2199023255500
    · exact e
    · rw [if_neg e] at h; cases h
  unfold corebankref23_Lift.f at h
  rw [if_pos hlt] at h
  have H : liftL l0 a1 a2 = (r1, r2) := Option.some.inj h
  clear h
  have HH := Aside0.mk H
  have HR0 := Aside0.mk hr0
  have HC0 := Aside0.mk hc0
  have hm : l0.length ≤ 9223372036854775807 := by omega
  have HL := Aside0.mk hlt
  clear hr0 hc0 H hlt
  have hw0 : IntKind.i64.wrap ((l0.length : Int) - 1) = (l0.length : Int) - 1 := IntWalk.i64_in _ (by omega)
  go_enter Try.func17, Try.ntmps17
  go_wp2
  go_loopg [8, 9] l0.length (fun gg s8 s9 wr => ∃ m : Nat, s8 = .int .i64 (idxP (fun x => x.f0 == a1) (l0.drop m) (m : Int)) ∧ s9 = .int .i64 ((m : Int) - 1) ∧ Aside0 (m ≤ l0.length ∧ m ≤ gg) ∧ Aside0 (Below w.heap.size w wr))
  case atStart => exact ⟨l0.length, by rw [List.drop_length]; rfl, rfl, ⟨by omega, by omega⟩, ⟨Below.refl _ w⟩⟩
  case round =>
    clear hw0
    obtain ⟨m, rfl, rfl, HK, HB⟩ := hrel
    cases m with
    | succ m =>
      have hml : m < l0.length := by have := HK.out; omega
      obtain ⟨q, hq⟩ : ∃ q, q = idxP (fun x => x.f0 == a1) (l0.drop (m + 1)) ((m + 1 : Nat) : Int) := ⟨_, rfl⟩
      obtain ⟨x, hx⟩ : ∃ x, x = l0.getD m z28 := ⟨_, rfl⟩
      have HS := Aside0.mk (idx_step (fun x => x.f0 == a1) l0 m hml)
      rw [← hq, ← hx] at HS
      rw [← hq, show ((m + 1 : Nat) : Int) - 1 = (m : Int) by omega]
      obtain ⟨ad, e, h0, _, _, _, _, _, _⟩ := at_T28 HR0.out m (by omega) (by omega)
      cases e
      replace h0 := (HB.out.cell (World.block_lt_of_cell? w _ h0)).trans h0
      rw [show rd_T28 l0 (m : Int) = x by rw [hx]; rfl] at h0
      simp only [Int.toNat_natCast] at h0
      have hwm : IntKind.i64.wrap ((m : Int) - 1) = (m : Int) - 1 := IntWalk.i64_in _ (by omega)
      have c0 : decide (0 ≤ (m : Int)) = true := decide_eq_true (by omega)
      clear hq hx
      by_cases t : x.f0 = a1
      · have t1 : (x.f0 == a1) = true := beq_iff_eq.mpr t
        have HS2 := HS.out
        rw [if_pos t1] at HS2
        have HS3 := Aside0.mk HS2
        clear HS HS2 t
        go_wp2
        go_roundg m
        case measure => have := HK.out; omega
        case rel => exact ⟨m, by rw [HS3.out], rfl, ⟨by omega, by omega⟩, HB⟩
      · have t1 : (x.f0 == a1) = false := beq_eq_false_iff_ne.mpr t
        have HS2 := HS.out
        rw [if_neg (by rw [t1]; simp)] at HS2
        have HS3 := Aside0.mk HS2
        clear HS HS2 t
        go_wp2
        go_roundg m
        case measure => have := HK.out; omega
        case rel => exact ⟨m, by rw [HS3.out], rfl, ⟨by omega, by omega⟩, HB⟩
    | zero =>
      rw [List.drop_zero]
      have H := HH.out
      clear HH HK
      unfold liftL at H
      rcases idxP_range (fun x => x.f0 == a1) l0 0 with ⟨hi, _⟩ | ⟨p, hi, hp, _⟩
      · rw [hi] at H
        rw [show ((0 : Nat) : Int) = 0 from rfl, hi]
        rw [if_pos (by decide)] at H
        obtain ⟨rfl, rfl⟩ := Prod.mk.inj H
        clear H hi
        go_wp2
        go_ret2
        exact ⟨_, rfl, Kd.R_nil _ _ _ _ _, HB.out⟩
      · rw [hi, Int.zero_add] at H
        rw [show ((0 : Nat) : Int) = 0 from rfl, hi, Int.zero_add]
        rw [if_neg (by omega), Int.toNat_natCast] at H
        have hneg : decide ((p : Int) < 0) = false := decide_eq_false (by omega)
        have HV := Aside0.mk (valid_day a2)
        by_cases hd : dayB a2 = false
        · unfold liftAt at H
          rw [if_pos hd] at H
          obtain ⟨rfl, rfl⟩ := Prod.mk.inj H
          rw [hd] at HV
          clear H hi hd
          go_wp2_with fail
          refine (corebankref04_Valid.calls a2 _ _ HV.out).mono ?_
          rintro e w2 ⟨rfl, hd2⟩
          have HB2 := Aside0.mk (HB.out.trans (hd2.below.mono HB.out.size))
          clear hd2
          go_wp2
          go_ret2
          exact ⟨_, rfl, Kd.R_nil _ _ _ _ _, HB2.out⟩
        · have hd' : dayB a2 = true := by simpa using hd
          have hda : 0 ≤ a2 ∧ a2 ≤ 73048 := of_decide_eq_true hd'
          rw [hd'] at HV
          obtain ⟨y, hy⟩ : ∃ y, y = l0.getD p z28 := ⟨_, rfl⟩
          have HY := Aside0.mk hy
          have HP := Aside0.mk hp
          obtain ⟨ad, e, h0, h1, h2, h3, h4, h5, h6⟩ := at_T28 HR0.out p (by omega) (by omega)
          cases e
          rw [show rd_T28 l0 (p : Int) = y by rw [hy]; rfl] at h5
          simp only [Int.toNat_natCast] at h5
          have H5 := Aside0.mk h5
          have HH := Aside0.mk H
          have HD := Aside0.mk hd'
          clear H hi hd hd' hy h0 h1 h2 h3 h4 h5 h6 hp
          go_wp2_with fail
          refine (corebankref04_Valid.calls a2 _ _ HV.out).mono ?_
          rintro e w2 ⟨rfl, hd2⟩
          have HB2 := Aside0.mk (HB.out.trans (hd2.below.mono HB.out.size))
          clear hd2
          have g5 := (HB2.out.cell (World.block_lt_of_cell? w _ H5.out)).trans H5.out
          have hpl : p < l0.length := HP.out
          by_cases hx : y.f5 < a2
          · have H := HH.out
            unfold liftAt at H
            rw [if_neg (by simp [HD.out]), ← HY.out, if_pos hx] at H
            obtain ⟨rfl, rfl⟩ := Prod.mk.inj H
            have hxd : decide (y.f5 < a2) = true := decide_eq_true hx
            clear H hx HH
            go_wp2
            go_ret2
            exact ⟨_, rfl, Kd.R_nil _ _ _ _ _, HB2.out⟩
          · have hxd : decide (y.f5 < a2) = false := decide_eq_false hx
            have H := HH.out
            rw [← soFar_end l0 p a2 hpl HD.out (by rw [← HY.out]; exact hx)] at H
            obtain ⟨h1, rfl⟩ := Prod.mk.inj H
            have HE := Aside0.mk h1
            have hwa : IntKind.i64.wrap (a2 - 1) = a2 - 1 := IntWalk.i64_in _ (by omega)
            clear H hx HH h1
            go_wp2_with ((with_reducible refine gate_dst (N := 40) rfl ?_); refine Kd.R_lit k28 _ 28 ?hg (N := 40) ?hd (xs := ([] : List (S28))) (inner := []) (ok := fun _ => True) (okp := fun _ => True) ?hr ?hp (fun _ hk => hk) trivial (Below.refl _ _) (Nat.le_refl _) (by simp) ?_; (case hd => rfl); (case hg => rfl); (case hr => first | (go_simp; done) | (go_simp; rfl)); (case hp => exact (Reps.none _ _)); intro v4 w4 ho4 hb4 hg_ hnew_; clear hg_ hnew_)
            have HO4 := Aside0.mk (Kd.R_lower ho4 HB2.out.size)
            have HB4 := Aside0.mk (HB2.out.trans (hb4.mono HB2.out.size))
            clear ho4 hb4 g5
            go_loopg [10, 11] l0.length (fun gg s10 s11 wr => ∃ kk : Nat, s11 = .int .i64 kk ∧ Aside0 (kk ≤ l0.length ∧ l0.length - kk ≤ gg) ∧ Aside0 (Below w.heap.size w wr) ∧ Aside0 (Kd.R k28 28 wr w.heap.size (fun _ => True) s10 (soFar l0 p a2 kk)))
            case atStart => exact ⟨0, rfl, ⟨by omega, by omega⟩, HB4, ⟨by rw [show soFar l0 p a2 0 = [] from by unfold soFar; rw [if_pos (by omega), List.take_zero]]; exact HO4.out⟩⟩
            case round =>
              clear HO4 HB4 HB2 HB
              obtain ⟨kk, rfl, HK, HB, HO⟩ := hrel
              by_cases c : kk < l0.length
              · obtain ⟨x, hx⟩ : ∃ x, x = l0.getD kk z28 := ⟨_, rfl⟩
                obtain ⟨ad', e, h0, h1, h2, h3, h4, h5, h6⟩ := at_T28 HR0.out kk (by omega) (by omega)
                obtain rfl : ad = ad' := (by injection e)
                replace h0 := (HB.out.cell (World.block_lt_of_cell? w _ h0)).trans h0
                replace h1 := (HB.out.cell (World.block_lt_of_cell? w _ h1)).trans h1
                replace h2 := (HB.out.cell (World.block_lt_of_cell? w _ h2)).trans h2
                replace h3 := (HB.out.cell (World.block_lt_of_cell? w _ h3)).trans h3
                replace h4 := (HB.out.cell (World.block_lt_of_cell? w _ h4)).trans h4
                replace h5 := (HB.out.cell (World.block_lt_of_cell? w _ h5)).trans h5
                replace h6 := (HB.out.cell (World.block_lt_of_cell? w _ h6)).trans h6
                rw [show rd_T28 l0 (kk : Int) = x by rw [hx]; rfl] at h0 h1 h2 h3 h4 h5 h6
                simp only [Int.toNat_natCast] at h0 h1 h2 h3 h4 h5 h6
                have hX := Aside0.mk hx
                have HLn := Aside0.mk (soFar_len l0 p a2 kk)
                clear hx e
                by_cases t : kk = p
                · subst t
                  have hxy : x = y := by rw [hX.out, HY.out]
                  subst hxy
                  have HS := Aside0.mk (soFar_at l0 kk a2 c)
                  unfold putAt at HS
                  rw [← hX.out] at HS
                  have HBw : Aside0 (Below w.heap.size w (wr.alloc (.cells #[.int .i64 x.f0, .int .i64 x.f1, .int .i64 x.f2, .int .i64 x.f3, .int .i64 x.f4, .int .i64 (a2 - 1), .string x.f6] 28))) := ⟨HB.out.alloc HB.out.size _⟩
                  have HOw := Aside0.mk (Kd.R_alloc HO.out (.cells #[.int .i64 x.f0, .int .i64 x.f1, .int .i64 x.f2, .int .i64 x.f3, .int .i64 x.f4, .int .i64 (a2 - 1), .string x.f6] 28))
                  have t1 : ((kk : Int) == (kk : Int)) = true := beq_iff_eq.mpr rfl
                  have t2 : ((kk : Int) != (kk : Int)) = false := bne_eq_false_iff_eq.mpr rfl
                  by_cases t : x.f4 ≤ a2 - 1
                  · have t3 : decide (x.f4 ≤ a2 - 1) = true := decide_eq_true t
                    rw [if_pos t] at HS
                    clear t
                    go_wp2_with (at_builtin; refine Kd.R_append k28 (w0 := w) w.heap.size ?e20 (.tmp 67) (.tmp 69) 22 28 (.agg #[(.int .i64 0), (.int .i64 0), (.int .i64 0), (.int .i64 0), (.int .i64 0), (.int .i64 0), (.string ⟨#[]⟩)]) 64 ?e29 Try.underlying22 info28 rfl (by decide) (by decide) u10 (soFar l0 kk a2 kk) (endAt x a2) [.int .i64 x.f0, .int .i64 x.f1, .int .i64 x.f2, .int .i64 x.f3, .int .i64 x.f4, .int .i64 (a2 - 1), .string x.f6] (fun _ => True) (fun k_ => some k_ ≠ u10.ownBlock) ?e21 ?e22 (k28_mkM _ _ _ (endAt x a2)) (fun k_ hk => ⟨trivial, hk⟩) (fun _ _ => trivial) HOw.out HBw.out HBw.out.size ?e25 ?_; (case e20 => rfl); (case e29 => rfl); (case e21 => rfl); (case e22 => show Value.slice (some ⟨wr.heap.size + 1, 0, none⟩) 1 1 = _; simp); (case e25 => have := HLn.out; have := HL.out; omega); intro v2 w2 ho2 hb2 hg2 hat2; have HB2 := Aside0.mk hb2; have HO2 := Aside0.mk ho2; rw [← HS.out] at HO2; clear ho2 hb2 hg2 hat2 HOw HBw)
                    go_roundg (l0.length - (kk + 1))
                    case measure => have := HK.out; omega
                    case rel => exact ⟨kk + 1, by go_num, ⟨by omega, by omega⟩, HB2, HO2⟩
                  · have t3 : decide (x.f4 ≤ a2 - 1) = false := decide_eq_false t
                    rw [if_neg t, List.append_nil] at HS
                    rw [← HS.out] at HOw
                    clear t
                    go_wp2
                    go_roundg (l0.length - (kk + 1))
                    case measure => have := HK.out; omega
                    case rel => exact ⟨kk + 1, by go_num, ⟨by omega, by omega⟩, HBw, HOw⟩
                · have t1 : ((kk : Int) == (p : Int)) = false := beq_eq_false_iff_ne.mpr (by omega)
                  have t2 : ((kk : Int) != (p : Int)) = true := bne_iff_ne.mpr (by omega)
                  have HS := Aside0.mk (soFar_next l0 p a2 kk c t)
                  rw [← hX.out] at HS
                  have HBw : Aside0 (Below w.heap.size w (wr.alloc (.cells #[.int .i64 x.f0, .int .i64 x.f1, .int .i64 x.f2, .int .i64 x.f3, .int .i64 x.f4, .int .i64 x.f5, .string x.f6] 28))) := ⟨HB.out.alloc HB.out.size _⟩
                  have HOw := Aside0.mk (Kd.R_alloc HO.out (.cells #[.int .i64 x.f0, .int .i64 x.f1, .int .i64 x.f2, .int .i64 x.f3, .int .i64 x.f4, .int .i64 x.f5, .string x.f6] 28))
                  clear t
                  go_wp2_with (at_builtin; refine Kd.R_append k28 (w0 := w) w.heap.size ?e20 (.tmp 67) (.tmp 69) 22 28 (.agg #[(.int .i64 0), (.int .i64 0), (.int .i64 0), (.int .i64 0), (.int .i64 0), (.int .i64 0), (.string ⟨#[]⟩)]) 64 ?e29 Try.underlying22 info28 rfl (by decide) (by decide) u10 (soFar l0 p a2 kk) x [.int .i64 x.f0, .int .i64 x.f1, .int .i64 x.f2, .int .i64 x.f3, .int .i64 x.f4, .int .i64 x.f5, .string x.f6] (fun _ => True) (fun k_ => some k_ ≠ u10.ownBlock) ?e21 ?e22 (k28_mkM _ _ _ x) (fun k_ hk => ⟨trivial, hk⟩) (fun _ _ => trivial) HOw.out HBw.out HBw.out.size ?e25 ?_; (case e20 => rfl); (case e29 => rfl); (case e21 => rfl); (case e22 => show Value.slice (some ⟨wr.heap.size + 1, 0, none⟩) 1 1 = _; simp); (case e25 => have := HLn.out; have := HL.out; omega); intro v2 w2 ho2 hb2 hg2 hat2; have HB2 := Aside0.mk hb2; have HO2 := Aside0.mk ho2; rw [← HS.out] at HO2; clear ho2 hb2 hg2 hat2 HOw HBw)
                  go_roundg (l0.length - (kk + 1))
                  case measure => have := HK.out; omega
                  case rel => exact ⟨kk + 1, by go_num, ⟨by omega, by omega⟩, HB2, HO2⟩
              · have hk := HK.out
                obtain rfl : kk = l0.length := by omega
                rw [HE.out] at HO
                clear HE HK c hk
                go_wp2
                go_ret2
                exact ⟨_, rfl, HO.out, HB.out⟩
end Go.Proofs.Ytlgdcimaapkfbaa.Q
