/- money.Check and the reference's Check: the same first error. -/
import Derived.Test.YtbeebjpbmbkodaaDoorHAdds
import Derived.Laws.Cover1
import Derived.Test.YtbeebjpbmbkodaaDoorQx2
namespace Go.Proofs.YtbeebjpbmbkodaaDoor.Q
open Go.RowKit Go.Proofs.YtbeebjpbmbkodaaDoorW.PrintWords Go.Proofs.YtbeebjpbmbkodaaDoorW.PrintLast Go.Proofs.YtbeebjpbmbkodaaDoorW.PrintMore
set_option linter.unusedVariables false
set_option linter.unusedSimpArgs false

def leB (x y : ByteArray) : Bool := Op.bytesLess x.toList y.toList || x.toList == y.toList
noncomputable def codeB (s : ByteArray) : Bool := @decide (codeP s) (Classical.propDecidable _)
theorem codeB_iff (s : ByteArray) : codeB s = true ↔ codeP s := @decide_eq_true_iff _ (Classical.propDecidable _)
theorem rcode_b (s : ByteArray) : corebankref03_Code.f 10 s = some (codeB s) := by
  obtain ⟨b, h1, h2⟩ := rcode_eq s 10 (by omega)
  rw [h1]
  congr 1
  rw [Bool.eq_iff_iff, h2, codeB_iff]
def placesB (n : Int) : Bool := decide (0 ≤ n ∧ n ≤ 4)
theorem places_eq (n : Int) : money_places.f n = some (placesB n) := by
  unfold money_places.f placesB
  by_cases h : n ≥ 0
  · rw [if_pos h]; congr 1; rw [decide_eq_decide]; omega
  · rw [if_neg h, decide_eq_false (by omega)]
noncomputable def chkAt (l : List S40) (i : Nat) : Int := if codeB (l.getD i z40).f0 = false then 4 else if placesB (l.getD i z40).f1 = false then 1 else if 0 < i ∧ leB (l.getD i z40).f0 (l.getD (i - 1) z40).f0 = true then 10 else 0
noncomputable def chkFrom (l : List S40) : Nat → Nat → Int
  | 0, _ => 0
  | d + 1, i => if chkAt l i = 0 then chkFrom l d (i + 1) else chkAt l i
noncomputable def chkC (l : List S40) : Int := if l.length < 1 ∨ l.length > 8 then 5 else chkFrom l l.length 0

set_option maxHeartbeats 2000000 in
set_option maxRecDepth 100000 in
theorem rcheck_calls (A0 : Option Addr) (c0 : Nat) (l0 : List S40) (w : World) (r : Int) (hr0 : Kd.C k40 w A0 l0.length l0) (hc0 : l0.length ≤ c0) (h : chkC l0 = r) :
    Calls Tryd.prog 26 #[.slice A0 l0.length c0] w fun e w' => e = .returned (.int .i64 r) ∧ Below w.heap.size w w' := by
  have hm : l0.length ≤ 9223372036854775807 := hr0.2.1
  have HR0 := Aside0.mk hr0
  have HC0 := Aside0.mk hc0
  clear hr0 hc0
  unfold chkC at h
  by_cases c1 : l0.length < 1
  · rw [if_pos (.inl c1)] at h
    subst h
    have d1 : decide ((l0.length : Int) < 1) = true := decide_eq_true (by omega)
    have d2 : decide (l0.length < 1) = true := decide_eq_true c1
    clear c1
    go_enter Tryd.func26, Tryd.ntmps26
    go_wp2
    go_ret
    exact ⟨rfl, Below.refl _ _⟩
  · by_cases c2 : l0.length > 8
    · rw [if_pos (.inr c2)] at h
      subst h
      have d1 : decide ((l0.length : Int) < 1) = false := decide_eq_false (by omega)
      have d2 : decide (l0.length < 1) = false := decide_eq_false (by omega)
      have d3 : decide ((8 : Int) < (l0.length : Int)) = true := decide_eq_true (by omega)
      have d4 : decide (8 < l0.length) = true := decide_eq_true (by omega)
      clear c1 c2
      go_enter Tryd.func26, Tryd.ntmps26
      go_wp2
      go_ret
      exact ⟨rfl, Below.refl _ _⟩
    · rw [if_neg (by omega)] at h
      have HH := Aside0.mk h
      have d1 : decide ((l0.length : Int) < 1) = false := decide_eq_false (by omega)
      have d2 : decide (l0.length < 1) = false := decide_eq_false (by omega)
      have d3 : decide ((8 : Int) < (l0.length : Int)) = false := decide_eq_false (by omega)
      have d4 : decide (8 < l0.length) = false := decide_eq_false (by omega)
      clear h c1 c2
      go_enter Tryd.func26, Tryd.ntmps26
      go_wp2
      go_loopg [3] l0.length (fun gg s3 wr => ∃ kk : Nat, s3 = .int .i64 kk ∧ Aside0 (kk ≤ l0.length ∧ l0.length - kk ≤ gg) ∧ Aside0 (Below w.heap.size w wr) ∧ Aside0 (chkFrom l0 (l0.length - kk) kk = r))
      case atStart => exact ⟨0, rfl, ⟨by omega, by omega⟩, ⟨Below.refl _ w⟩, HH⟩
      case round =>
        clear HH d1 d2 d3 d4
        obtain ⟨kk, rfl, HK, HB, HN⟩ := hrel
        by_cases c : kk < l0.length
        · have hE := HN.out
          obtain ⟨x, hx⟩ : ∃ x, x = l0.getD kk z40 := ⟨_, rfl⟩
          obtain ⟨ad, e, h0, h1⟩ := at_T40 HR0.out kk (by omega) (by omega)
          cases e
          rw [show rd_T40 l0 (kk : Int) = x by rw [hx]; rfl] at h0 h1
          simp only [Int.toNat_natCast] at h0 h1
          have H0 := Aside0.mk h0
          replace h0 := (HB.out.cell (World.block_lt_of_cell? w _ h0)).trans h0
          have H1 := Aside0.mk h1
          obtain ⟨d, hd⟩ : ∃ d, l0.length - kk = d + 1 := ⟨l0.length - kk - 1, by omega⟩
          rw [hd] at hE
          simp only [chkFrom] at hE
          have hX := Aside0.mk hx
          have hD := Aside0.mk hd
          clear hx hd h1
          by_cases t1 : codeB x.f0 = false
          · have E1 : Aside0 ((4 : Int) = r) := ⟨by rw [← hE]; unfold chkAt; rw [← hX.out, if_pos t1]; simp⟩
            have HF := Aside0.mk (rcode_b x.f0)
            rw [t1] at HF
            clear hE t1
            go_wp2_with fail
            refine (corebankref03_Code.calls 10 _ _ _ HF.out).mono ?_
            rintro e w1 ⟨rfl, hd1⟩
            have HB1 := Aside0.mk (HB.out.trans (hd1.below.mono HB.out.size))
            clear hd1 h0
            go_wp2
            go_ret
            exact ⟨by rw [← E1.out]; rfl, HB1.out⟩
          · have hE' : (if (if placesB x.f1 = false then (1 : Int) else if 0 < kk ∧ leB x.f0 (l0.getD (kk - 1) z40).f0 = true then 10 else 0) = 0 then chkFrom l0 d (kk + 1) else (if placesB x.f1 = false then (1 : Int) else if 0 < kk ∧ leB x.f0 (l0.getD (kk - 1) z40).f0 = true then 10 else 0)) = r := by
              rw [← hE]; unfold chkAt; rw [← hX.out, if_neg t1]
            have HE := Aside0.mk hE'
            have HF := Aside0.mk (rcode_b x.f0)
            rw [show codeB x.f0 = true from by simpa using t1] at HF
            clear hE hE' t1
            go_wp2_with fail
            refine (corebankref03_Code.calls 10 _ _ _ HF.out).mono ?_
            rintro e w1 ⟨rfl, hd1⟩
            have HB1 := Aside0.mk (HB.out.trans (hd1.below.mono HB.out.size))
            clear hd1 h0
            have g1 := (HB1.out.cell (World.block_lt_of_cell? w _ H1.out)).trans H1.out
            by_cases t2 : x.f1 < 0
            · have E1 : Aside0 ((1 : Int) = r) := ⟨by have := HE.out; rw [if_pos (show placesB x.f1 = false from decide_eq_false (by omega))] at this; simpa using this⟩
              have p1 : decide (x.f1 < 0) = true := decide_eq_true t2
              clear HE t2
              go_wp2
              go_ret
              exact ⟨by rw [← E1.out]; rfl, HB1.out⟩
            · by_cases t3 : x.f1 > 4
              · have E1 : Aside0 ((1 : Int) = r) := ⟨by have := HE.out; rw [if_pos (show placesB x.f1 = false from decide_eq_false (by omega))] at this; simpa using this⟩
                have p1 : decide (x.f1 < 0) = false := decide_eq_false t2
                have p2 : decide (4 < x.f1) = true := decide_eq_true t3
                clear HE t2 t3
                go_wp2
                go_ret
                exact ⟨by rw [← E1.out]; rfl, HB1.out⟩
              · have HE2 : Aside0 ((if (if 0 < kk ∧ leB x.f0 (l0.getD (kk - 1) z40).f0 = true then (10 : Int) else 0) = 0 then chkFrom l0 d (kk + 1) else (if 0 < kk ∧ leB x.f0 (l0.getD (kk - 1) z40).f0 = true then (10 : Int) else 0)) = r) := ⟨by
                  have := HE.out
                  rw [if_neg (show ¬ placesB x.f1 = false from by rw [show placesB x.f1 = true from decide_eq_true (by omega)]; simp)] at this
                  exact this⟩
                have p1 : decide (x.f1 < 0) = false := decide_eq_false t2
                have p2 : decide (4 < x.f1) = false := decide_eq_false t3
                have g0 := (HB1.out.cell (World.block_lt_of_cell? w _ H0.out)).trans H0.out
                clear HE t2 t3
                cases kk with
                | zero =>
                  have E2 : Aside0 (chkFrom l0 d (0 + 1) = r) := ⟨by
                    have := HE2.out
                    have hc : ¬ (0 < 0 ∧ leB x.f0 (l0.getD (0 - 1) z40).f0 = true) := fun h => absurd h.1 (by omega)
                    rw [if_neg hc, if_pos rfl] at this
                    exact this⟩
                  have ea : ad.add (0 * 2) = ad := by cases ad; rfl
                  rw [ea] at g0 g1
                  clear HE2
                  go_wp2_with fail
                  go_quiet (fail)
                  go_wp2
                  go_roundg (l0.length - (0 + 1))
                  case measure => have := HK.out; omega
                  case rel => exact ⟨0 + 1, by go_num, ⟨by omega, by omega⟩, ⟨by repeat (first | exact HB1.out | apply pw_below_drewN)⟩, ⟨by rw [show l0.length - (0 + 1) = d by have := hD.out; omega]; exact E2.out⟩⟩
                | succ p =>
                  obtain ⟨y, hy⟩ : ∃ y, y = l0.getD p z40 := ⟨_, rfl⟩
                  obtain ⟨ad', e, q0, _⟩ := at_T40 HR0.out p (by omega) (by omega)
                  cases e
                  replace q0 := (HB1.out.cell (World.block_lt_of_cell? w _ q0)).trans q0
                  rw [show rd_T40 l0 (p : Int) = y by rw [hy]; rfl] at q0
                  simp only [Int.toNat_natCast] at q0
                  have HY := Aside0.mk hy
                  clear hy
                  by_cases t4 : leB x.f0 y.f0 = true
                  · have E1 : Aside0 ((10 : Int) = r) := ⟨by 
                      have := HE2.out
                      have hc : 0 < p + 1 ∧ leB x.f0 (l0.getD (p + 1 - 1) z40).f0 = true := ⟨by omega, by rw [Nat.add_sub_cancel, ← HY.out]; exact t4⟩
                      rw [if_pos hc] at this
                      simpa using this⟩
                    have t5 : (Op.bytesLess x.f0.toList y.f0.toList || x.f0.toList == y.f0.toList) = true := t4
                    clear HE2 t4
                    go_wp2_with fail
                    go_quiet (fail)
                    go_wp2
                    go_ret
                    exact ⟨by rw [← E1.out]; rfl, by repeat (first | exact HB1.out | apply pw_below_drewN)⟩
                  · have E2 : Aside0 (chkFrom l0 d (p + 1 + 1) = r) := ⟨by 
                      have := HE2.out
                      have hc : ¬ (0 < p + 1 ∧ leB x.f0 (l0.getD (p + 1 - 1) z40).f0 = true) := fun h => t4 (by have := h.2; rw [Nat.add_sub_cancel, ← HY.out] at this; exact this)
                      rw [if_neg hc, if_pos rfl] at this
                      exact this⟩
                    have t5 : (Op.bytesLess x.f0.toList y.f0.toList || x.f0.toList == y.f0.toList) = false := Bool.eq_false_iff.2 t4
                    clear HE2 t4
                    go_wp2_with fail
                    go_quiet (fail)
                    go_wp2
                    go_roundg (l0.length - ((p + 1) + 1))
                    case measure => have := HK.out; omega
                    case rel => exact ⟨(p + 1) + 1, by go_num, ⟨by omega, by omega⟩, ⟨by repeat (first | exact HB1.out | apply pw_below_drewN)⟩, ⟨by rw [show l0.length - ((p + 1) + 1) = d by have := hD.out; omega]; exact E2.out⟩⟩
        · have HE := HK.out
          have E : Aside0 ((0 : Int) = r) := ⟨by have := HN.out; rw [show l0.length - kk = 0 by omega] at this; exact this⟩
          go_wp2
          go_ret
          exact ⟨by rw [← E.out]; rfl, HB.out⟩
set_option maxHeartbeats 2000000 in
set_option maxRecDepth 100000 in
theorem pcheck_calls (A0 : Option Addr) (c0 : Nat) (l0 : List S40) (w : World) (r : Int) (hr0 : Kd.C k40 w A0 l0.length l0) (hc0 : l0.length ≤ c0) (ok0 : ∀ x ∈ l0, x.f0.size ≤ 9223372036854775807) (h : chkC l0 = r) :
    Calls Tryd.prog 23 #[.slice A0 l0.length c0] w fun e w' => e = .returned (.int .i64 r) ∧ Below w.heap.size w w' := by
  have hm : l0.length ≤ 9223372036854775807 := hr0.2.1
  have HR0 := Aside0.mk hr0
  have HC0 := Aside0.mk hc0
  have HO := Aside0.mk ok0
  clear hr0 hc0 ok0
  unfold chkC at h
  by_cases c1 : l0.length < 1
  · rw [if_pos (.inl c1)] at h
    subst h
    have d1 : decide ((l0.length : Int) < 1) = true := decide_eq_true (by omega)
    have d2 : decide (l0.length < 1) = true := decide_eq_true c1
    clear c1
    go_enter Tryd.func23, Tryd.ntmps23
    go_wp2
    go_ret
    exact ⟨rfl, Below.refl _ _⟩
  · by_cases c2 : l0.length > 8
    · rw [if_pos (.inr c2)] at h
      subst h
      have d1 : decide ((l0.length : Int) < 1) = false := decide_eq_false (by omega)
      have d2 : decide (l0.length < 1) = false := decide_eq_false (by omega)
      have d3 : decide ((8 : Int) < (l0.length : Int)) = true := decide_eq_true (by omega)
      have d4 : decide (8 < l0.length) = true := decide_eq_true (by omega)
      clear c1 c2
      go_enter Tryd.func23, Tryd.ntmps23
      go_wp2
      go_ret
      exact ⟨rfl, Below.refl _ _⟩
    · rw [if_neg (by omega)] at h
      have HH := Aside0.mk h
      have d1 : decide ((l0.length : Int) < 1) = false := decide_eq_false (by omega)
      have d2 : decide (l0.length < 1) = false := decide_eq_false (by omega)
      have d3 : decide ((8 : Int) < (l0.length : Int)) = false := decide_eq_false (by omega)
      have d4 : decide (8 < l0.length) = false := decide_eq_false (by omega)
      clear h c1 c2
      go_enter Tryd.func23, Tryd.ntmps23
      go_wp2
      go_loopg [3, 4, 15] l0.length (fun gg _ _ s15 wr => ∃ kk : Nat, s15 = .int .i64 kk ∧ Aside0 (kk ≤ l0.length ∧ l0.length - kk ≤ gg) ∧ Aside0 (Below w.heap.size w wr) ∧ Aside0 (chkFrom l0 (l0.length - kk) kk = r))
      case atStart => exact ⟨0, rfl, ⟨by omega, by omega⟩, ⟨Below.refl _ w⟩, HH⟩
      case round =>
        clear HH d1 d2 d3 d4
        obtain ⟨kk, rfl, HK, HB, HN⟩ := hrel
        by_cases c : kk < l0.length
        · have hE := HN.out
          obtain ⟨x, hx⟩ : ∃ x, x = l0.getD kk z40 := ⟨_, rfl⟩
          have HSz : Aside0 (x.f0.size ≤ 9223372036854775807) := ⟨HO.out x (by rw [hx, List.getD_eq_getElem?_getD, List.getElem?_eq_getElem c]; exact List.getElem_mem _)⟩
          obtain ⟨ad, e, h0, h1⟩ := at_T40 HR0.out kk (by omega) (by omega)
          cases e
          rw [show rd_T40 l0 (kk : Int) = x by rw [hx]; rfl] at h0 h1
          simp only [Int.toNat_natCast] at h0 h1
          replace h0 := (HB.out.cell (World.block_lt_of_cell? w _ h0)).trans h0
          replace h1 := (HB.out.cell (World.block_lt_of_cell? w _ h1)).trans h1
          obtain ⟨d, hd⟩ : ∃ d, l0.length - kk = d + 1 := ⟨l0.length - kk - 1, by omega⟩
          rw [hd] at hE
          simp only [chkFrom] at hE
          have hX := Aside0.mk hx
          have hD := Aside0.mk hd
          have HBw : Aside0 (Below w.heap.size w (wr.alloc (.cells #[.string x.f0, .int .i64 x.f1] 40))) := ⟨HB.out.alloc HB.out.size _⟩
          clear hx hd
          by_cases t1 : codeB x.f0 = false
          · have E1 : Aside0 ((4 : Int) = r) := ⟨by rw [← hE]; unfold chkAt; rw [← hX.out, if_pos t1]; simp⟩
            have HF := Aside0.mk (codeB_iff x.f0)
            rw [t1] at HF
            clear hE t1
            go_wp2_with fail
            refine (money_Code_calls _ _ false HSz.out HF.out).mono ?_
            rintro e w1 ⟨rfl, hb1⟩
            have HB1 := Aside0.mk (HBw.out.trans (hb1.mono HBw.out.size))
            clear hb1 h0 h1
            go_wp2
            go_ret
            exact ⟨by rw [← E1.out]; rfl, HB1.out⟩
          · have hE' : (if (if placesB x.f1 = false then (1 : Int) else if 0 < kk ∧ leB x.f0 (l0.getD (kk - 1) z40).f0 = true then 10 else 0) = 0 then chkFrom l0 d (kk + 1) else (if placesB x.f1 = false then (1 : Int) else if 0 < kk ∧ leB x.f0 (l0.getD (kk - 1) z40).f0 = true then 10 else 0)) = r := by
              rw [← hE]; unfold chkAt; rw [← hX.out, if_neg t1]
            have HE := Aside0.mk hE'
            have HF := Aside0.mk ((codeB_iff x.f0).1 (by simpa using t1))
            clear hE hE' t1
            go_wp2_with fail
            refine (money_Code_calls _ _ true HSz.out ⟨fun _ => HF.out, fun _ => rfl⟩).mono ?_
            rintro e w1 ⟨rfl, hb1⟩
            have HB1 := Aside0.mk (HBw.out.trans (hb1.mono HBw.out.size))
            have HKB := Aside0.mk (blk_below (blk_new wr (.cells #[.string x.f0, .int .i64 x.f1] 40)) hb1)
            have y0 : w1.cell? ⟨wr.heap.size, 0, none⟩ = some (.string x.f0) := (blk_cell HKB.out 0).trans rfl
            have y1 : w1.cell? ⟨wr.heap.size, 1, none⟩ = some (.int .i64 x.f1) := (blk_cell HKB.out 1).trans rfl
            clear hb1 h0 h1
            have HP := Aside0.mk (places_eq x.f1)
            by_cases t2 : placesB x.f1 = false
            · have E1 : Aside0 ((1 : Int) = r) := ⟨by have := HE.out; rw [if_pos t2] at this; simpa using this⟩
              rw [t2] at HP
              clear HE t2
              go_wp2_with fail
              refine (money_places.calls _ _ _ HP.out).mono ?_
              rintro e w2 ⟨rfl, hd2⟩
              obtain ⟨n2, rfl⟩ := hd2.out
              go_wp2
              go_ret
              exact ⟨by rw [← E1.out]; rfl, pw_below_drewN HB1.out _⟩
            · have HE2 : Aside0 ((if (if 0 < kk ∧ leB x.f0 (l0.getD (kk - 1) z40).f0 = true then (10 : Int) else 0) = 0 then chkFrom l0 d (kk + 1) else (if 0 < kk ∧ leB x.f0 (l0.getD (kk - 1) z40).f0 = true then (10 : Int) else 0)) = r) := ⟨by
                have := HE.out
                rw [if_neg t2] at this
                exact this⟩
              rw [show placesB x.f1 = true from by simpa using t2] at HP
              clear HE t2
              go_wp2_with fail
              refine (money_places.calls _ _ _ HP.out).mono ?_
              rintro e w2 ⟨rfl, hd2⟩
              obtain ⟨n2, rfl⟩ := hd2.out
              cases kk with
              | zero =>
                have E2 : Aside0 (chkFrom l0 d (0 + 1) = r) := ⟨by
                  have := HE2.out
                  have hc : ¬ (0 < 0 ∧ leB x.f0 (l0.getD (0 - 1) z40).f0 = true) := fun h => absurd h.1 (by omega)
                  rw [if_neg hc, if_pos rfl] at this
                  exact this⟩
                clear HE2
                go_wp2_with fail
                go_quiet (fail)
                go_wp2
                go_roundg (l0.length - (0 + 1))
                case measure => have := HK.out; omega
                case rel => exact ⟨0 + 1, by go_num, ⟨by omega, by omega⟩, ⟨by repeat (first | exact HB1.out | apply pw_below_drewN)⟩, ⟨by rw [show l0.length - (0 + 1) = d by have := hD.out; omega]; exact E2.out⟩⟩
              | succ p =>
                obtain ⟨y, hy⟩ : ∃ y, y = l0.getD p z40 := ⟨_, rfl⟩
                obtain ⟨ad', e, q0, _⟩ := at_T40 HR0.out p (by omega) (by omega)
                cases e
                replace q0 := (HB1.out.cell (World.block_lt_of_cell? w _ q0)).trans q0
                rw [show rd_T40 l0 (p : Int) = y by rw [hy]; rfl] at q0
                simp only [Int.toNat_natCast] at q0
                have HY := Aside0.mk hy
                clear hy
                by_cases t4 : leB x.f0 y.f0 = true
                · have E1 : Aside0 ((10 : Int) = r) := ⟨by
                    have := HE2.out
                    have hc : 0 < p + 1 ∧ leB x.f0 (l0.getD (p + 1 - 1) z40).f0 = true := ⟨by omega, by rw [Nat.add_sub_cancel, ← HY.out]; exact t4⟩
                    rw [if_pos hc] at this
                    simpa using this⟩
                  have t5 : (Op.bytesLess x.f0.toList y.f0.toList || x.f0.toList == y.f0.toList) = true := t4
                  clear HE2 t4
                  go_wp2_with fail
                  go_quiet (fail)
                  go_wp2
                  go_ret
                  exact ⟨by rw [← E1.out]; rfl, by repeat (first | exact HB1.out | apply pw_below_drewN)⟩
                · have E2 : Aside0 (chkFrom l0 d (p + 1 + 1) = r) := ⟨by
                    have := HE2.out
                    have hc : ¬ (0 < p + 1 ∧ leB x.f0 (l0.getD (p + 1 - 1) z40).f0 = true) := fun h => t4 (by have := h.2; rw [Nat.add_sub_cancel, ← HY.out] at this; exact this)
                    rw [if_neg hc, if_pos rfl] at this
                    exact this⟩
                  have t5 : (Op.bytesLess x.f0.toList y.f0.toList || x.f0.toList == y.f0.toList) = false := Bool.eq_false_iff.2 t4
                  clear HE2 t4
                  go_wp2_with fail
                  go_quiet (fail)
                  go_wp2
                  go_roundg (l0.length - ((p + 1) + 1))
                  case measure => have := HK.out; omega
                  case rel => exact ⟨(p + 1) + 1, by go_num, ⟨by omega, by omega⟩, ⟨by repeat (first | exact HB1.out | apply pw_below_drewN)⟩, ⟨by rw [show l0.length - ((p + 1) + 1) = d by have := hD.out; omega]; exact E2.out⟩⟩
        · have HE := HK.out
          have E : Aside0 ((0 : Int) = r) := ⟨by have := HN.out; rw [show l0.length - kk = 0 by omega] at this; exact this⟩
          go_wp2
          go_ret
          exact ⟨by rw [← E.out]; rfl, HB.out⟩
end Go.Proofs.YtbeebjpbmbkodaaDoor.Q
