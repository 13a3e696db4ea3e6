/- blocking.Lift: the order with an Id ends the day before, or goes; or an error. -/
import Derived.Test.YtlgdcimaapkfbaaHFunc
import Derived.Test.YtlgdcimaapkfbaaHClone
import Derived.Test.YtlgdcimaapkfbaaHDelete
import Derived.IntWalk
import Derived.Test.YtlgdcimaapkfbaaQx2
namespace Go.Proofs.Ytlgdcimaapkfbaa.Q
open Go.RowKit Go.Proofs.YtlgdcimaapkfbaaW.PrintWords Go.Proofs.YtlgdcimaapkfbaaW.PrintLast Go.Proofs.YtlgdcimaapkfbaaW.PrintMore
set_option linter.unusedVariables false
set_option linter.unusedSimpArgs false

theorem predLift (id : Int) (B : Nat) (w : World) (hB : B < w.heap.size) (hcell : w.cell? ⟨B, 0, none⟩ = some (.int .i64 id)) :
    Pred 31 #[.pointer (some ⟨B, 0, none⟩)] (fun x => x.f0 == id) w := fun W x hb => by
  have hc : W.cell? ⟨B, 0, none⟩ = some (.int .i64 id) := (hb.cell (p := ⟨B, 0, none⟩) hB).trans hcell
  have hBW : B < W.heap.size := Nat.lt_of_lt_of_le hB hb.size
  have hne : B ≠ W.heap.size := by omega
  show Calls Try.prog 31 #[.agg #[.int .i64 x.f0, .int .i64 x.f1, .int .i64 x.f2, .int .i64 x.f3, .int .i64 x.f4, .int .i64 x.f5, .string x.f6], .pointer (some ⟨B, 0, none⟩)] W _
  go_enter Try.func31, Try.ntmps31
  go_wp2
  all_goals (go_ret; exact ⟨by simp_all, hb.alloc hb.size _⟩)

/-- The place of the first order of which p holds lies in the list, or is -1. -/
theorem idxP_range (p : S28 → Bool) : ∀ (l : List S28) (i : Int), (idxP p l i = -1 ∧ ∀ x ∈ l, p x = false) ∨ ∃ j : Nat, idxP p l i = i + j ∧ j < l.length ∧ p (l.getD j z28) = true ∧ ∀ m, m < j → p (l.getD m z28) = false
  | [], i => .inl ⟨rfl, by simp⟩
  | x :: l, i => by
    by_cases h : p x = true
    · exact .inr ⟨0, by simp [idxP, h], by simp, by simpa using h, fun m hm => absurd hm (by omega)⟩
    · have h' : p x = false := by simpa using h
      rcases idxP_range p l (i + 1) with ⟨h1, h2⟩ | ⟨j, h1, h2, h3, h4⟩
      · refine .inl ⟨by simp [idxP, h', h1], fun y hy => ?_⟩
        rcases List.mem_cons.1 hy with rfl | hy
        · exact h'
        · exact h2 y hy
      · refine .inr ⟨j + 1, by rw [idxP, if_neg h, h1]; push_cast; omega, by simpa using h2, by simpa using h3, fun m hm => ?_⟩
        match m with
        | 0 => simpa using h'
        | m + 1 => simpa using h4 m (by omega)

def dayB (n : Int) : Bool := decide (0 ≤ n ∧ n ≤ 73048)
theorem day_eq (n : Int) : blocking_day.f n = some (dayB n) := by
  unfold blocking_day.f dayB
  by_cases h : n ≥ 0
  · rw [if_pos h]; congr 1; rw [decide_eq_decide]; omega
  · rw [if_neg h, decide_eq_false (by omega)]
def endAt (x : S28) (on : Int) : S28 := ⟨x.f0, x.f1, x.f2, x.f3, x.f4, on - 1, x.f6⟩
def liftAt (l : List S28) (p : Nat) (on : Int) : List S28 × Int :=
  if dayB on = false then ([], 1) else if (l.getD p z28).f5 < on then ([], 23) else if (l.getD p z28).f4 > on - 1 then ((l.set p (endAt (l.getD p z28) on)).eraseIdx p, 0) else (l.set p (endAt (l.getD p z28) on), 0)
def liftL (l : List S28) (id on : Int) : List S28 × Int := if idxP (fun x => x.f0 == id) l 0 < 0 then ([], 11) else liftAt l (idxP (fun x => x.f0 == id) l 0).toNat on
def blocking_Lift.f (l0 : List S28) (a1 a2 : Int) : Option (List S28 × Int) := if l0.length < 2199023255500 then some (liftL l0 a1 a2) else none

set_option maxHeartbeats 4000000 in
set_option maxRecDepth 100000 in
theorem blocking_Lift.calls (A0 : Option Addr) (c0 : Nat) (l0 : List (S28)) (a1 : Int) (a2 : Int) (r1 : List (S28)) (r2 : Int) (w : World) (hr0 : Kd.C k28 w A0 l0.length l0) (hc0 : l0.length ≤ c0) (h : blocking_Lift.f l0 a1 a2 = some (r1, r2)) :
    Calls Try.prog 16 #[.slice A0 l0.length c0, .int .i64 a1, .int .i64 a2] w fun e w' => ∃ v0_ : Value, e = .returned (.tuple #[v0_, .int .i64 r2]) ∧ Kd.R k28 28 w' w.heap.size (fun _ => True) v0_ r1 ∧ Below w.heap.size w w' := by
  have hlt : l0.length < 2199023255500 := by
    unfold blocking_Lift.f at h
    by_cases e : l0.length < 2199023255500
    · exact e
    · rw [if_neg e] at h; cases h
  unfold blocking_Lift.f at h
  rw [if_pos hlt] at h
  have H : liftL l0 a1 a2 = (r1, r2) := Option.some.inj h
  clear h
  have HR0 := Aside0.mk hr0
  have HC0 := Aside0.mk hc0
  have hm : l0.length ≤ 9223372036854775807 := by omega
  clear hr0 hc0
  have hIF := Aside0.mk (indexFunc (fun x => x.f0 == a1) 31 #[.pointer (some ⟨w.heap.size, 0, none⟩)] (enters_of Try.func31 (by kernel_rfl) rfl) A0 c0 l0 (w.alloc (.cells #[.int .i64 a1] 3)) (Kd.C_below HR0.out (below_alloc (Below.refl _ _) _)) (predLift a1 w.heap.size _ (by simp) (by simp)))
  unfold liftL at H
  rcases idxP_range (fun x => x.f0 == a1) l0 0 with ⟨hi, _⟩ | ⟨p, hi, hp, _⟩
  · rw [hi] at H hIF
    rw [if_pos (by decide)] at H
    obtain ⟨rfl, rfl⟩ := Prod.mk.inj H
    clear H hi
    go_enter Try.func16, Try.ntmps16
    go_wp2_with fail
    refine hIF.out.mono ?_
    rintro e w1 ⟨rfl, hb1⟩
    go_wp2
    go_ret2
    exact ⟨_, rfl, Kd.R_nil _ _ _ _ _, (below_alloc (Below.refl _ _) _).trans (hb1.mono (by simp))⟩
  · rw [hi, Int.zero_add] at H hIF
    rw [if_neg (by omega), Int.toNat_natCast] at H
    unfold liftAt at H
    have HP := Aside0.mk hp
    have hneg : decide ((p : Int) < 0) = false := decide_eq_false (by omega)
    by_cases hd : dayB a2 = false
    · rw [if_pos hd] at H
      obtain ⟨rfl, rfl⟩ := Prod.mk.inj H
      have HD := Aside0.mk (day_eq a2)
      rw [hd] at HD
      clear H hi hd
      go_enter Try.func16, Try.ntmps16
      go_wp2_with fail
      refine hIF.out.mono ?_
      rintro e w1 ⟨rfl, hb1⟩
      have HB1 := Aside0.mk ((below_alloc (Below.refl w.heap.size w) _).trans (hb1.mono (show w.heap.size ≤ _ by simp)))
      clear hb1
      go_wp2_with fail
      refine (blocking_day.calls a2 _ _ HD.out).mono ?_
      rintro e w2 ⟨rfl, hd2⟩
      have HB2 := Aside0.mk (HB1.out.trans (hd2.below.mono HB1.out.size))
      clear hd2
      go_wp2
      go_ret2
      exact ⟨_, rfl, Kd.R_nil _ _ _ _ _, HB2.out⟩
    · rw [if_neg hd] at H
      have HD := Aside0.mk (day_eq a2)
      rw [show dayB a2 = true from by simpa using hd] at HD
      have hda : 0 ≤ a2 ∧ a2 ≤ 73048 := by
        have : dayB a2 = true := by simpa using hd
        exact of_decide_eq_true this
      obtain ⟨y, hy⟩ : ∃ y, y = l0.getD p z28 := ⟨_, rfl⟩
      rw [← hy] at H
      have HY := Aside0.mk hy
      obtain ⟨ad, e, h0, h1, h2, h3, h4, h5, h6⟩ := at_T28 HR0.out p (by omega) (by omega)
      cases e
      rw [show rd_T28 l0 (p : Int) = y by rw [hy]; rfl] at h0 h1 h2 h3 h4 h5 h6
      simp only [Int.toNat_natCast] at h0 h1 h2 h3 h4 h5 h6
      have H5 := Aside0.mk h5
      clear hi hd hy h0 h1 h2 h3 h4 h5 h6 hp
      go_enter Try.func16, Try.ntmps16
      go_wp2_with fail
      refine hIF.out.mono ?_
      rintro e w1 ⟨rfl, hb1⟩
      have HB1 := Aside0.mk ((below_alloc (Below.refl w.heap.size w) _).trans (hb1.mono (show w.heap.size ≤ _ by simp)))
      clear hb1
      go_wp2_with fail
      refine (blocking_day.calls a2 _ _ HD.out).mono ?_
      rintro e w2 ⟨rfl, hd2⟩
      have HB2 := Aside0.mk (HB1.out.trans (hd2.below.mono HB1.out.size))
      clear hd2
      have g5 := (HB2.out.cell (World.block_lt_of_cell? w _ H5.out)).trans H5.out
      have hpl : p < l0.length := HP.out
      by_cases hx : y.f5 < a2
      · rw [if_pos hx] at H
        obtain ⟨rfl, rfl⟩ := Prod.mk.inj H
        have hxd : decide (y.f5 < a2) = true := decide_eq_true hx
        clear H hx
        go_wp2
        go_ret2
        exact ⟨_, rfl, Kd.R_nil _ _ _ _ _, HB2.out⟩
      · rw [if_neg hx] at H
        have hxd : decide (y.f5 < a2) = false := decide_eq_false hx
        have HH := Aside0.mk H
        have HCl : Aside0 (api_Block_29.f l0 = some l0) := ⟨by unfold api_Block_29.f; rw [if_pos (by omega)]⟩
        clear H hx
        go_wp2_with fail
        refine (api_Block_29.calls _ c0 l0 l0 _ (Kd.C_below HR0.out HB2.out) HC0.out HCl.out).mono ?_
        rintro e w3 ⟨v3, rfl, ho3, hb3⟩
        have HB3 := Aside0.mk (HB2.out.trans (hb3.mono HB2.out.size))
        have HO3 := Aside0.mk (Kd.R_lower ho3 HB2.out.size)
        clear ho3 hb3 g5
        obtain ⟨g, c3, rfl, hgb, hgl, hgc⟩ := Kd.R_form HO3.out (by omega)
        have HGB := Aside0.mk hgb
        obtain ⟨ce, hcl, hM, hcc, hfr⟩ := Kd.R_elem HO3.out z28 (p : Int) (by omega) (by omega)
        rw [Int.toNat_natCast, ← HY.out] at hM
        obtain rfl := k28_openM hM
        have HSg := Kd.R_seg HO3.out (p : Int) (by omega) (by omega) (seg := [.int .i64 (a2 - 1)]) (j := 5) hcl hcc (show 6 ≤ 7 from by decide) (x' := endAt y a2) (k28_mkM _ _ _ (endAt y a2)) (fun _ hk => hk)
        rw [Int.toNat_natCast] at HSg
        have HS := Aside0.mk HSg
        have hx5 : w3.cell? ⟨g, p * 7 + 5, none⟩ = some (.int .i64 y.f5) := hcc 5 _ rfl
        have hf5 : w3.frozen? ⟨g, p * 7 + 5, none⟩ = false := hfr 5
        clear HSg hcl hcc hfr hM hgb hgl hgc
        have hwr : IntKind.i64.wrap (a2 - 1) = a2 - 1 := IntWalk.i64_in _ (by omega)
        go_wp2_with (first | ((with_reducible refine gate_store (t := 3) (p := 35) rfl ?_); refine store_event (t := 3) (p := 35) (v := ?vo) (w1 := (w3.setCell ⟨g, p * 7 + 5, none⟩ (.int .i64 (a2 - 1)))) ?hg ?ho ?hn ?hr ?_; (case ho => rfl); (case hg => rfl); (case hn => rfl); (case hr => first | (go_simp; done) | (go_simp; rfl)); intro w4 hw; have HO4 : Aside0 (Kd.R k28 28 w4 w.heap.size (fun _ => True) (.slice (some ⟨g, 0, none⟩) l0.length c3) (l0.set p (endAt y a2))) := ⟨by rw [hw]; exact HS.out.1⟩; have HB4 : Aside0 (Below w.heap.size w w4) := ⟨by rw [hw]; exact below_set HB3.out HGB.out⟩; clear hw hx5 hf5))
        have hlen : (l0.set p (endAt y a2)).length = l0.length := List.length_set
        obtain ⟨ad4, e4, _, _, _, _, k4, k5, _⟩ := at_T28 (Kd.R_reads' HO4.out).2.2 p (by omega) (by omega)
        obtain rfl : (⟨g, 0, none⟩ : Addr) = ad4 := (by injection e4)
        rw [show rd_T28 (l0.set p (endAt y a2)) (p : Int) = endAt y a2 from by show (l0.set p (endAt y a2)).getD p z28 = _; rw [List.getD_eq_getElem?_getD, List.getElem?_set_self hpl]; rfl] at k4 k5
        simp only [Int.toNat_natCast, add_plain] at k4 k5
        have j4 : w4.cell? ⟨g, p * 7 + 4, none⟩ = some (.int .i64 y.f4) := k4
        have j5 : w4.cell? ⟨g, p * 7 + 5, none⟩ = some (.int .i64 (a2 - 1)) := k5
        clear k4 k5 e4
        by_cases hz : y.f4 > a2 - 1
        · have hz1 : decide (y.f4 > a2 - 1) = true := decide_eq_true hz
          have hz2 : decide (a2 - 1 < y.f4) = true := decide_eq_true hz
          have E1 : Aside0 (((l0.set p (endAt y a2)).eraseIdx p, (0 : Int)) = (r1, r2)) := ⟨by have := HH.out; rw [if_pos hz] at this; exact this⟩
          obtain ⟨rfl, rfl⟩ := Prod.mk.inj E1.out
          have HDl : Aside0 (api_Block_33.f (l0.set p (endAt y a2)) (p : Int) ((p : Int) + 1) = some ((l0.set p (endAt y a2)).eraseIdx p)) := ⟨by
            unfold api_Block_33.f
            rw [if_pos ⟨by omega, by omega, rfl⟩, Int.toNat_natCast]⟩
          have hwp : IntKind.i64.wrap ((p : Int) + 1) = (p : Int) + 1 := IntWalk.i64_in _ (by omega)
          clear HH hz E1
          go_quiet (fail)
          go_wp2_with fail
          refine (api_Block_33.calls (fun k_ => some k_ = (.slice (some ⟨g, 0, none⟩) l0.length c3 : Value).ownBlock) (.slice (some ⟨g, 0, none⟩) l0.length c3) _ (p : Int) ((p : Int) + 1) _ w _ (by repeat (first | exact HB4.out | apply pw_below_drewN)) (by (with_reducible repeat (first | apply Kd.R_drewN | apply Kd.R_drew)); exact Kd.R_tight rfl HO4.out) HDl.out).mono ?_
          rintro e w5 ⟨v5, rfl, ho5, hb5, _⟩
          have HO5 := Aside0.mk (Kd.R_mono (ok' := fun k_ => True) ho5 (fun _ _ => trivial))
          have HB5 := Aside0.mk hb5
          clear ho5 hb5
          go_wp2
          go_ret2
          exact ⟨_, rfl, HO5.out, HB5.out⟩
        · have hz1 : decide (y.f4 > a2 - 1) = false := decide_eq_false hz
          have hz2 : decide (a2 - 1 < y.f4) = false := decide_eq_false hz
          have E1 : Aside0 ((l0.set p (endAt y a2), (0 : Int)) = (r1, r2)) := ⟨by have := HH.out; rw [if_neg hz] at this; exact this⟩
          obtain ⟨rfl, rfl⟩ := Prod.mk.inj E1.out
          clear HH hz E1
          go_quiet (fail)
          go_wp2
          go_ret2
          exact ⟨_, rfl, by (with_reducible repeat (first | apply Kd.R_alloc | apply Kd.R_drewN | apply Kd.R_drew)); exact HO4.out, by repeat (first | exact HB4.out | apply pw_below_drewN)⟩

end Go.Proofs.Ytlgdcimaapkfbaa.Q
