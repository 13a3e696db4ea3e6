/- The law HoldValid answers true: Place, Use and Release make valid lists of valid ones, and leave the other holds. -/
import Derived.Test.YtafkjallmbokaaaPureV
import Derived.Test.YtafkjallmbokaaaHOthers
import Derived.Test.YtafkjallmbokaaaPureB
import Derived.Test.YtafkjallmbokaaaGreat
import Derived.Test.YtafkjallmbokaaaQx6
namespace Go.Proofs.Ytafkjallmbokaaa.Q
open Go.RowKit Go.Proofs.YtafkjallmbokaaaW.PrintWords Go.Proofs.YtafkjallmbokaaaW.PrintLast Go.Proofs.YtafkjallmbokaaaW.PrintMore
set_option linter.unusedVariables false
set_option linter.unusedSimpArgs false

theorem vbox10 {w : World} {g : Nat} {a0 a1 a2 a3 b0 b1 b2 b3 b4 : Int} {b5 : ByteArray} (h : w.heap[g]? = some (.cells #[.int .i64 a0, .int .i64 a1, .int .i64 a2, .int .i64 a3, .int .i64 b0, .int .i64 b1, .int .i64 b2, .int .i64 b3, .int .i64 b4, .string b5] 38 (0, 0))) :
    w.cell? ⟨g, 0, none⟩ = some (.int .i64 a0) ∧ w.cell? ⟨g, 1, none⟩ = some (.int .i64 a1) ∧ w.cell? ⟨g, 2, none⟩ = some (.int .i64 a2) ∧ w.cell? ⟨g, 3, none⟩ = some (.int .i64 a3) ∧ w.cell? ⟨g, 4, none⟩ = some (.int .i64 b0) ∧ w.cell? ⟨g, 5, none⟩ = some (.int .i64 b1) ∧
      w.cell? ⟨g, 6, none⟩ = some (.int .i64 b2) ∧ w.cell? ⟨g, 7, none⟩ = some (.int .i64 b3) ∧ w.cell? ⟨g, 8, none⟩ = some (.int .i64 b4) ∧ w.cell? ⟨g, 9, none⟩ = some (.string b5) :=
  ⟨(blk_cell h 0).trans rfl, (blk_cell h 1).trans rfl, (blk_cell h 2).trans rfl, (blk_cell h 3).trans rfl, (blk_cell h 4).trans rfl, (blk_cell h 5).trans rfl, (blk_cell h 6).trans rfl, (blk_cell h 7).trans rfl, (blk_cell h 8).trans rfl, (blk_cell h 9).trans rfl⟩
theorem check_f {l : List S26} (hl : okL l) : hold_Check.f l = some (checkL l) := by
  unfold hold_Check.f
  rw [if_pos (okS_ok hl)]

set_option maxHeartbeats 4000000 in
set_option maxRecDepth 100000 in
theorem holdValid_calls (A0 : Option Addr) (c0 : Nat) (l0 : List S26) (A1 : Option Addr) (c1 : Nat) (l1 : List S38) (w : World) (hr0 : Kd.C k26 w A0 l0.length l0) (hc0 : l0.length ≤ c0) (ok0 : ∀ x ∈ l0, x.f2 ≤ 9223372036854775807) (hr1 : Kd.C k38 w A1 l1.length l1) (hc1 : l1.length ≤ c1) :
    Calls Try.prog 5 #[.slice A0 l0.length c0, .slice A1 l1.length c1] w fun e w' => e = .returned (.bool true) ∧ Below w.heap.size w w' := by
  have HR0 := Aside0.mk hr0
  have HC0 := Aside0.mk hc0
  have HR1 := Aside0.mk hr1
  have HC1 := Aside0.mk hc1
  have hm1 : l1.length ≤ 9223372036854775807 := hr1.2.1
  have HGr : Aside0 (corebankref22_Great.f (l0.length + 1) l0 = some (greatB l0)) := ⟨great_eq l0 _ (by omega)⟩
  have HLv := Aside0.mk live_true
  obtain ⟨sb, hsb, hsh⟩ := short_eq l1
  have HSb := Aside0.mk hsb
  have HSh := Aside0.mk hsh
  clear hr0 hc0 hr1 hc1 hsb hsh
  by_cases tg : greatB l0 = true
  · rw [tg] at HGr
    clear tg
    go_enter Try.func5, Try.ntmps5
    go_wp2_with fail
    refine (corebankref22_Great.calls _ A0 c0 l0 _ _ HR0.out HC0.out HGr.out).mono ?_
    rintro e w1 ⟨rfl, hd1⟩
    have HB1 := Aside0.mk hd1.below
    clear hd1
    go_wp2_with fail
    refine (corebanklaw22_live.calls _ _ _ HLv.out).mono ?_
    rintro e w9 ⟨rfl, hb9⟩
    have HB9 := Aside0.mk (HB1.out.trans (hb9.mono HB1.out.size))
    clear hb9
    go_wp2
    go_ret
    exact ⟨rfl, HB9.out⟩
  · rw [Bool.eq_false_iff.2 tg] at HGr
    have HOk : Aside0 (okL l0) := ⟨great_ok (Bool.eq_false_iff.2 tg) ok0⟩
    clear tg
    cases sb with
    | false =>
      go_enter Try.func5, Try.ntmps5
      go_wp2_with fail
      refine (corebankref22_Great.calls _ A0 c0 l0 _ _ HR0.out HC0.out HGr.out).mono ?_
      rintro e w1 ⟨rfl, hd1⟩
      have HB1 := Aside0.mk hd1.below
      clear hd1
      go_wp2_with fail
      refine (corebanklaw22_short.calls _ A1 c1 l1 _ _ (Kd.C_below HR1.out HB1.out) HC1.out HSb.out).mono ?_
      rintro e w2 ⟨rfl, hd2⟩
      have HB2 := Aside0.mk (HB1.out.trans (hd2.below.mono HB1.out.size))
      clear hd2
      go_wp2_with fail
      refine (corebanklaw22_live.calls _ _ _ HLv.out).mono ?_
      rintro e w9 ⟨rfl, hb9⟩
      have HB9 := Aside0.mk (HB2.out.trans (hb9.mono HB2.out.size))
      clear hb9
      go_wp2
      go_ret
      exact ⟨rfl, HB9.out⟩
    | true =>
      have HSk := Aside0.mk (HSh.out rfl)
      clear HSh
      have HCh := Aside0.mk (check_f HOk.out)
      by_cases tc : checkL l0 = 0
      · rw [tc] at HCh
        have HV := Aside0.mk tc
        clear tc
        go_enter Try.func5, Try.ntmps5
        go_wp2_with fail
        refine (corebankref22_Great.calls _ A0 c0 l0 _ _ HR0.out HC0.out HGr.out).mono ?_
        rintro e w1 ⟨rfl, hd1⟩
        have HB1 := Aside0.mk hd1.below
        clear hd1
        go_wp2_with fail
        refine (corebanklaw22_short.calls _ A1 c1 l1 _ _ (Kd.C_below HR1.out HB1.out) HC1.out HSb.out).mono ?_
        rintro e w2 ⟨rfl, hd2⟩
        have HB2 := Aside0.mk (HB1.out.trans (hd2.below.mono HB1.out.size))
        clear hd2
        go_wp2_with fail
        refine (hold_Check.calls A0 c0 l0 _ _ (Kd.C_below HR0.out HB2.out) HC0.out HCh.out).mono ?_
        rintro e w3 ⟨rfl, hb3⟩
        have HB3 := Aside0.mk (HB2.out.trans (hb3.mono HB2.out.size))
        clear hb3
        clear HB1 HB2
        go_wp2_with fail
        go_loopg [0, 5] l1.length (fun gg s0 s5 wr => ∃ (kk : Nat) (l : List S26) (A : Option Addr) (c : Nat), s0 = .slice A l.length c ∧ s5 = .int .i64 kk ∧ Aside0 (kk ≤ l1.length ∧ l1.length - kk ≤ gg) ∧ Aside0 (okL l ∧ checkL l = 0) ∧ Aside0 (Kd.C k26 wr A l.length l) ∧ Aside0 (l.length ≤ c) ∧ Aside0 (Below w.heap.size w wr))
        case atStart => exact ⟨0, l0, A0, c0, rfl, rfl, ⟨by omega, by omega⟩, ⟨HOk.out, HV.out⟩, ⟨Kd.C_below HR0.out HB3.out⟩, HC0, HB3⟩
        case round =>
          clear HOk HR0 HC0 HB3 HV HCh
          obtain ⟨kk, l, A, c, rfl, rfl, HK, HO, HR, HC, HB⟩ := hrel
          by_cases t : kk < l1.length
          · obtain ⟨x, hx⟩ : ∃ x, x = l1.getD kk z38 := ⟨_, rfl⟩
            have hk200 := HSk.out.2 kk t
            rw [← hx] at hk200
            have HK2 := Aside0.mk hk200
            obtain ⟨ad, e, h0, h1, h2, h3, h4, h5, h6, h7, h8, h9⟩ := at_T38 HR1.out kk (by omega) (by omega)
            cases e
            replace h0 := (HB.out.cell (World.block_lt_of_cell? w _ h0)).trans h0
            replace h1 := (HB.out.cell (World.block_lt_of_cell? w _ h1)).trans h1
            replace h2 := (HB.out.cell (World.block_lt_of_cell? w _ h2)).trans h2
            replace h3 := (HB.out.cell (World.block_lt_of_cell? w _ h3)).trans h3
            replace h4 := (HB.out.cell (World.block_lt_of_cell? w _ h4)).trans h4
            replace h5 := (HB.out.cell (World.block_lt_of_cell? w _ h5)).trans h5
            replace h6 := (HB.out.cell (World.block_lt_of_cell? w _ h6)).trans h6
            replace h7 := (HB.out.cell (World.block_lt_of_cell? w _ h7)).trans h7
            replace h8 := (HB.out.cell (World.block_lt_of_cell? w _ h8)).trans h8
            replace h9 := (HB.out.cell (World.block_lt_of_cell? w _ h9)).trans h9
            rw [show rd_T38 l1 (kk : Int) = x by rw [hx]; rfl] at h0 h1 h2 h3 h4 h5 h6 h7 h8 h9
            simp only [Int.toNat_natCast] at h0 h1 h2 h3 h4 h5 h6 h7 h8 h9
            have HW := Aside0.mk (Below.refl wr.heap.size wr)
            clear hx hk200
            by_cases q0 : x.f0 = 0
            · have t0 : (x.f0 == 0) = true := beq_iff_eq.mpr q0
              clear q0
              obtain ⟨xs, ev, he⟩ : ∃ xs ev, placeL l x.f4 = (xs, ev) := ⟨_, _, rfl⟩
              have HF := Aside0.mk ((place_eq l x.f4 HO.out.1 HK2.out).trans (congrArg some he))
              have HVal : Aside0 (ev = 0 → okL xs ∧ checkL xs = 0 ∧ checkL l = 0 ∧ Others l xs x.f4.f0 ∧ Others xs l x.f4.f0) := ⟨fun t => by
                have h1 := place_okL HO.out.1 HK2.out (by rw [he]; exact t)
                have h2 := place_valid (by rw [he]; exact t)
                rw [he] at h1 h2
                exact ⟨h1, h2⟩⟩
              clear he
              go_wp2_with fail
              refine (hold_Place.calls A c l x.f4.f0 x.f4.f1 x.f4.f2 x.f4.f3 x.f4.f4 x.f4.f5 xs ev _ (Kd.C_below HR.out (below_alloc (Below.refl _ _) _)) HC.out HF.out).mono ?_
              rintro e w3 ⟨v3, rfl, ho3, hb3⟩
              have HW3 : Aside0 (Below wr.heap.size wr w3) := ⟨(below_alloc (Below.refl _ _) _).trans (hb3.mono (by simp))⟩
              have HKB := Aside0.mk (blk_below (blk_new wr (.cells #[.int .i64 x.f0, .int .i64 x.f1, .int .i64 x.f2, .int .i64 x.f3, .int .i64 x.f4.f0, .int .i64 x.f4.f1, .int .i64 x.f4.f2, .int .i64 x.f4.f3, .int .i64 x.f4.f4, .string x.f4.f5] 38)) hb3)
              obtain ⟨A3, c3, rfl⟩ := Kd.R_slice ho3
              clear h0 h1 h2 h3 h4 h5 h6 h7 h8 h9
              have HOs := Aside0.mk (Kd.R_reads' (Kd.R_far (p := ⟨wr.heap.size, 1, none⟩) (Kd.R_mono (ok' := fun k => k ≠ wr.heap.size) (Kd.R_bound ho3) (fun k hk => by have h := hk.2.1; simp at h; omega)) (fun k hk => hk) (.int .i64 x.f4.f0))).2
              have HWs : Aside0 (Below wr.heap.size wr (w3.setCell ⟨wr.heap.size, 1, none⟩ (.int .i64 x.f4.f0))) := ⟨below_set HW3.out (Nat.le_refl _)⟩
              have HKs := Aside0.mk (blk_put HKB.out 1 (.int .i64 x.f4.f0) rfl)
              obtain ⟨y0, y1, y2, y3, y4, y5, y6, y7, y8, y9⟩ := vbox10 HKB.out
              have yf := blk_frozen HKB.out 1
              clear ho3 hb3
              have HL3 := Aside0.mk (Kd.C_below HR.out HWs.out)
              have HBs := Aside0.mk (HB.out.trans (HWs.out.mono HB.out.size))
              by_cases te : ev = 0
              · subst te
                obtain ⟨hok, hva⟩ := HVal.out rfl
                have HVa := Aside0.mk hva
                have HOx := Aside0.mk hok
                have HCx := check_f hok
                rw [hva.1] at HCx
                have HCx2 := Aside0.mk HCx
                clear hok hva HCx HVal
                go_wp2_with fail
                refine (hold_Check.calls A3 c3 xs _ _ HOs.out.2 HOs.out.1 HCx2.out).mono ?_
                rintro e w4 ⟨rfl, hb4⟩
                have HX4 := Aside0.mk (Kd.C_below HOs.out.2 hb4)
                have HL4 := Aside0.mk (Kd.C_below HL3.out hb4)
                have HB4 := Aside0.mk (HBs.out.trans (hb4.mono HBs.out.size))
                have HK4 := Aside0.mk (blk_below HKs.out hb4)
                clear hb4 y0 y1 y2 y3 y4 y5 y6 y7 y8 y9 yf
                obtain ⟨_, z1, _⟩ := vbox10 HK4.out
                go_wp2_with fail
                refine (others_calls A c l A3 c3 xs x.f4.f0 _ HL4.out HC.out HX4.out HOs.out.1 HVa.out.2.2.1).mono ?_
                rintro e w5 ⟨rfl, hb5⟩
                have HX5 := Aside0.mk (Kd.C_below HX4.out hb5)
                have HL5 := Aside0.mk (Kd.C_below HL4.out hb5)
                have HB5 := Aside0.mk (HB4.out.trans (hb5.mono HB4.out.size))
                have HK5 := Aside0.mk (blk_below HK4.out hb5)
                clear hb5 z1
                obtain ⟨_, z1, _⟩ := vbox10 HK5.out
                go_wp2_with fail
                refine (others_calls A3 c3 xs A c l x.f4.f0 _ HX5.out HOs.out.1 HL5.out HC.out HVa.out.2.2.2).mono ?_
                rintro e w6 ⟨rfl, hb6⟩
                have HX6 := Aside0.mk (Kd.C_below HX5.out hb6)
                have HB6 := Aside0.mk (HB5.out.trans (hb6.mono HB5.out.size))
                have HC6 := Aside0.mk HOs.out.1
                clear hb6 z1
                go_wp2
                go_roundg (l1.length - (kk + 1))
                case measure => have := HK.out; omega
                case rel => exact ⟨kk + 1, xs, A3, c3, rfl, by go_num, ⟨by omega, by omega⟩, ⟨HOx.out, HVa.out.1⟩, HX6, HC6, HB6⟩
              · have te1 : (ev == 0) = false := beq_eq_false_iff_ne.mpr te
                have te2 : (ev != 0) = true := bne_iff_ne.mpr te
                clear te HVal
                go_wp2
                go_roundg (l1.length - (kk + 1))
                case measure => have := HK.out; omega
                case rel => exact ⟨kk + 1, l, A, c, rfl, by go_num, ⟨by omega, by omega⟩, HO, HL3, HC, HBs⟩
            · by_cases q1 : x.f0 = 1
              · have t0 : (x.f0 == 0) = false := beq_eq_false_iff_ne.mpr q0
                have t1 : (x.f0 == 1) = true := beq_iff_eq.mpr q1
                clear q0 q1
                obtain ⟨xs, ev, he⟩ : ∃ xs ev, useL l x.f1 x.f2 x.f3 = (xs, ev) := ⟨_, _, rfl⟩
                have HF := Aside0.mk ((use_eq l HO.out.1 _ _ _ 1000 (by omega)).trans (congrArg some he))
                have HVal : Aside0 (ev = 0 → okL xs ∧ checkL xs = 0 ∧ Others l xs x.f1 ∧ Others xs l x.f1) := ⟨fun t => by
                  have h1 := use_okL HO.out.1 _ _ _ (by rw [he]; exact t)
                  have h2 := use_valid HO.out.2 (by rw [he]; exact t)
                  rw [he] at h1 h2
                  exact ⟨h1, h2⟩⟩
                clear he
                go_wp2_with fail
                refine (hold_Use.calls 1000 A c l x.f1 x.f2 x.f3 xs ev _ (Kd.C_below HR.out (below_alloc (Below.refl _ _) _)) HC.out HF.out).mono ?_
                rintro e w3 ⟨v3, rfl, ho3, hb3⟩
                have HW3 : Aside0 (Below wr.heap.size wr w3) := ⟨(below_alloc (Below.refl _ _) _).trans (hb3.mono (by simp))⟩
                have HKB := Aside0.mk (blk_below (blk_new wr (.cells #[.int .i64 x.f0, .int .i64 x.f1, .int .i64 x.f2, .int .i64 x.f3, .int .i64 x.f4.f0, .int .i64 x.f4.f1, .int .i64 x.f4.f2, .int .i64 x.f4.f3, .int .i64 x.f4.f4, .string x.f4.f5] 38)) hb3)
                obtain ⟨A3, c3, rfl⟩ := Kd.R_slice ho3
                clear h0 h1 h2 h3 h4 h5 h6 h7 h8 h9
                have HX3 := Aside0.mk (Kd.R_reads' ho3).2
                clear ho3 hb3
                have HL3 := Aside0.mk (Kd.C_below HR.out HW3.out)
                have HBs := Aside0.mk (HB.out.trans (HW3.out.mono HB.out.size))
                by_cases te : ev = 0
                · subst te
                  obtain ⟨hok, hva⟩ := HVal.out rfl
                  have HVa := Aside0.mk hva
                  have HOx := Aside0.mk hok
                  have HCx := check_f hok
                  rw [hva.1] at HCx
                  have HCx2 := Aside0.mk HCx
                  clear hok hva HCx HVal
                  go_wp2_with fail
                  refine (hold_Check.calls A3 c3 xs _ _ HX3.out.2 HX3.out.1 HCx2.out).mono ?_
                  rintro e w4 ⟨rfl, hb4⟩
                  have HX4 := Aside0.mk (Kd.C_below HX3.out.2 hb4)
                  have HL4 := Aside0.mk (Kd.C_below HL3.out hb4)
                  have HB4 := Aside0.mk (HBs.out.trans (hb4.mono HBs.out.size))
                  have HK4 := Aside0.mk (blk_below HKB.out hb4)
                  clear hb4
                  obtain ⟨_, z1, _⟩ := vbox10 HK4.out
                  go_wp2_with fail
                  refine (others_calls A c l A3 c3 xs x.f1 _ HL4.out HC.out HX4.out HX3.out.1 HVa.out.2.1).mono ?_
                  rintro e w5 ⟨rfl, hb5⟩
                  have HX5 := Aside0.mk (Kd.C_below HX4.out hb5)
                  have HL5 := Aside0.mk (Kd.C_below HL4.out hb5)
                  have HB5 := Aside0.mk (HB4.out.trans (hb5.mono HB4.out.size))
                  have HK5 := Aside0.mk (blk_below HK4.out hb5)
                  clear hb5 z1
                  obtain ⟨_, z1, _⟩ := vbox10 HK5.out
                  go_wp2_with fail
                  refine (others_calls A3 c3 xs A c l x.f1 _ HX5.out HX3.out.1 HL5.out HC.out HVa.out.2.2).mono ?_
                  rintro e w6 ⟨rfl, hb6⟩
                  have HX6 := Aside0.mk (Kd.C_below HX5.out hb6)
                  have HB6 := Aside0.mk (HB5.out.trans (hb6.mono HB5.out.size))
                  have HC6 := Aside0.mk HX3.out.1
                  clear hb6 z1
                  go_wp2
                  go_roundg (l1.length - (kk + 1))
                  case measure => have := HK.out; omega
                  case rel => exact ⟨kk + 1, xs, A3, c3, rfl, by go_num, ⟨by omega, by omega⟩, ⟨HOx.out, HVa.out.1⟩, HX6, HC6, HB6⟩
                · have te1 : (ev == 0) = false := beq_eq_false_iff_ne.mpr te
                  have te2 : (ev != 0) = true := bne_iff_ne.mpr te
                  clear te HVal
                  go_wp2
                  go_roundg (l1.length - (kk + 1))
                  case measure => have := HK.out; omega
                  case rel => exact ⟨kk + 1, l, A, c, rfl, by go_num, ⟨by omega, by omega⟩, HO, HL3, HC, HBs⟩
              · by_cases q2 : x.f0 = 2
                · have t0 : (x.f0 == 0) = false := beq_eq_false_iff_ne.mpr q0
                  have t1 : (x.f0 == 1) = false := beq_eq_false_iff_ne.mpr q1
                  have t2 : (x.f0 == 2) = true := beq_iff_eq.mpr q2
                  clear q0 q1 q2
                  obtain ⟨xs, ev, he⟩ : ∃ xs ev, releaseL l x.f1 = (xs, ev) := ⟨_, _, rfl⟩
                  have HF := Aside0.mk ((release_eq l HO.out.1 _).trans (congrArg some he))
                  have HVal : Aside0 (ev = 0 → okL xs ∧ checkL xs = 0 ∧ Others l xs x.f1 ∧ Others xs l x.f1) := ⟨fun t => by
                    have h1 := release_okL HO.out.1 _ (by rw [he]; exact t)
                    have h2 := release_valid HO.out.2 (by rw [he]; exact t)
                    rw [he] at h1 h2
                    exact ⟨h1, h2⟩⟩
                  clear he
                  go_wp2_with fail
                  refine (hold_Release.calls A c l x.f1 xs ev _ (Kd.C_below HR.out (below_alloc (Below.refl _ _) _)) HC.out HF.out).mono ?_
                  rintro e w3 ⟨v3, rfl, ho3, hb3⟩
                  have HW3 : Aside0 (Below wr.heap.size wr w3) := ⟨(below_alloc (Below.refl _ _) _).trans (hb3.mono (by simp))⟩
                  have HKB := Aside0.mk (blk_below (blk_new wr (.cells #[.int .i64 x.f0, .int .i64 x.f1, .int .i64 x.f2, .int .i64 x.f3, .int .i64 x.f4.f0, .int .i64 x.f4.f1, .int .i64 x.f4.f2, .int .i64 x.f4.f3, .int .i64 x.f4.f4, .string x.f4.f5] 38)) hb3)
                  obtain ⟨A3, c3, rfl⟩ := Kd.R_slice ho3
                  clear h0 h1 h2 h3 h4 h5 h6 h7 h8 h9
                  have HX3 := Aside0.mk (Kd.R_reads' ho3).2
                  clear ho3 hb3
                  have HL3 := Aside0.mk (Kd.C_below HR.out HW3.out)
                  have HBs := Aside0.mk (HB.out.trans (HW3.out.mono HB.out.size))
                  by_cases te : ev = 0
                  · subst te
                    obtain ⟨hok, hva⟩ := HVal.out rfl
                    have HVa := Aside0.mk hva
                    have HOx := Aside0.mk hok
                    have HCx := check_f hok
                    rw [hva.1] at HCx
                    have HCx2 := Aside0.mk HCx
                    clear hok hva HCx HVal
                    go_wp2_with fail
                    refine (hold_Check.calls A3 c3 xs _ _ HX3.out.2 HX3.out.1 HCx2.out).mono ?_
                    rintro e w4 ⟨rfl, hb4⟩
                    have HX4 := Aside0.mk (Kd.C_below HX3.out.2 hb4)
                    have HL4 := Aside0.mk (Kd.C_below HL3.out hb4)
                    have HB4 := Aside0.mk (HBs.out.trans (hb4.mono HBs.out.size))
                    have HK4 := Aside0.mk (blk_below HKB.out hb4)
                    clear hb4
                    obtain ⟨_, z1, _⟩ := vbox10 HK4.out
                    go_wp2_with fail
                    refine (others_calls A c l A3 c3 xs x.f1 _ HL4.out HC.out HX4.out HX3.out.1 HVa.out.2.1).mono ?_
                    rintro e w5 ⟨rfl, hb5⟩
                    have HX5 := Aside0.mk (Kd.C_below HX4.out hb5)
                    have HL5 := Aside0.mk (Kd.C_below HL4.out hb5)
                    have HB5 := Aside0.mk (HB4.out.trans (hb5.mono HB4.out.size))
                    have HK5 := Aside0.mk (blk_below HK4.out hb5)
                    clear hb5 z1
                    obtain ⟨_, z1, _⟩ := vbox10 HK5.out
                    go_wp2_with fail
                    refine (others_calls A3 c3 xs A c l x.f1 _ HX5.out HX3.out.1 HL5.out HC.out HVa.out.2.2).mono ?_
                    rintro e w6 ⟨rfl, hb6⟩
                    have HX6 := Aside0.mk (Kd.C_below HX5.out hb6)
                    have HB6 := Aside0.mk (HB5.out.trans (hb6.mono HB5.out.size))
                    have HC6 := Aside0.mk HX3.out.1
                    clear hb6 z1
                    go_wp2
                    go_roundg (l1.length - (kk + 1))
                    case measure => have := HK.out; omega
                    case rel => exact ⟨kk + 1, xs, A3, c3, rfl, by go_num, ⟨by omega, by omega⟩, ⟨HOx.out, HVa.out.1⟩, HX6, HC6, HB6⟩
                  · have te1 : (ev == 0) = false := beq_eq_false_iff_ne.mpr te
                    have te2 : (ev != 0) = true := bne_iff_ne.mpr te
                    clear te HVal
                    go_wp2
                    go_roundg (l1.length - (kk + 1))
                    case measure => have := HK.out; omega
                    case rel => exact ⟨kk + 1, l, A, c, rfl, by go_num, ⟨by omega, by omega⟩, HO, HL3, HC, HBs⟩
                · have t0 : (x.f0 == 0) = false := beq_eq_false_iff_ne.mpr q0
                  have t1 : (x.f0 == 1) = false := beq_eq_false_iff_ne.mpr q1
                  have t2 : (x.f0 == 2) = false := beq_eq_false_iff_ne.mpr q2
                  clear q0 q1 q2
                  go_wp2
                  go_roundg (l1.length - (kk + 1))
                  case measure => have := HK.out; omega
                  case rel => exact ⟨kk + 1, l, A, c, rfl, by go_num, ⟨by omega, by omega⟩, HO, ⟨Kd.C_below HR.out (below_alloc (Below.refl _ _) _)⟩, HC, ⟨below_alloc HB.out _⟩⟩
          · have hk := HK.out
            clear HK
            go_wp2_with fail
            refine (corebanklaw22_live.calls _ _ _ HLv.out).mono ?_
            rintro e w9 ⟨rfl, hb9⟩
            have HB9 := Aside0.mk (HB.out.trans (hb9.mono HB.out.size))
            clear hb9
            go_wp2
            go_ret
            exact ⟨rfl, HB9.out⟩
      · have HCh2 := HCh.out
        have tc1 : (checkL l0 == 0) = false := beq_eq_false_iff_ne.mpr tc
        have tc2 : (checkL l0 != 0) = true := bne_iff_ne.mpr tc
        obtain ⟨q, hq⟩ : ∃ q, checkL l0 = q := ⟨_, rfl⟩
        rw [hq] at HCh tc1 tc2
        clear tc hq HCh2
        go_enter Try.func5, Try.ntmps5
        go_wp2_with fail
        refine (corebankref22_Great.calls _ A0 c0 l0 _ _ HR0.out HC0.out HGr.out).mono ?_
        rintro e w1 ⟨rfl, hd1⟩
        have HB1 := Aside0.mk hd1.below
        clear hd1
        go_wp2_with fail
        refine (corebanklaw22_short.calls _ A1 c1 l1 _ _ (Kd.C_below HR1.out HB1.out) HC1.out HSb.out).mono ?_
        rintro e w2 ⟨rfl, hd2⟩
        have HB2 := Aside0.mk (HB1.out.trans (hd2.below.mono HB1.out.size))
        clear hd2
        go_wp2_with fail
        refine (hold_Check.calls A0 c0 l0 _ _ (Kd.C_below HR0.out HB2.out) HC0.out HCh.out).mono ?_
        rintro e w3 ⟨rfl, hb3⟩
        have HB3 := Aside0.mk (HB2.out.trans (hb3.mono HB2.out.size))
        clear hb3
        go_wp2_with fail
        refine (corebanklaw22_live.calls _ _ _ HLv.out).mono ?_
        rintro e w9 ⟨rfl, hb9⟩
        have HB9 := Aside0.mk (HB3.out.trans (hb9.mono HB3.out.size))
        clear hb9
        go_wp2
        go_ret
        exact ⟨rfl, HB9.out⟩
end Go.Proofs.Ytafkjallmbokaaa.Q
