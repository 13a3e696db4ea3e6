/- The law HoldConserves answers true: what is used, released, expired and left adds up to what was held. -/
import Derived.Test.YtafkjallmbokaaaPureN
import Derived.Test.YtafkjallmbokaaaHExpire
import Derived.Test.YtafkjallmbokaaaPureB
import Derived.Test.YtafkjallmbokaaaGreat
import Derived.Test.YtafkjallmbokaaaQx6
namespace Go.Proofs.Ytafkjallmbokaaa.Q
open Go.RowKit Go.Proofs.YtafkjallmbokaaaW.PrintWords Go.Proofs.YtafkjallmbokaaaW.PrintLast Go.Proofs.YtafkjallmbokaaaW.PrintMore
set_option linter.unusedVariables false
set_option linter.unusedSimpArgs false

theorem nbox10 {w : World} {g : Nat} {a0 a1 a2 a3 b0 b1 b2 b3 b4 : Int} {b5 : ByteArray} (h : w.heap[g]? = some (.cells #[.int .i64 a0, .int .i64 a1, .int .i64 a2, .int .i64 a3, .int .i64 b0, .int .i64 b1, .int .i64 b2, .int .i64 b3, .int .i64 b4, .string b5] 38 (0, 0))) :
    w.cell? ⟨g, 0, none⟩ = some (.int .i64 a0) ∧ w.cell? ⟨g, 1, none⟩ = some (.int .i64 a1) ∧ w.cell? ⟨g, 2, none⟩ = some (.int .i64 a2) ∧ w.cell? ⟨g, 3, none⟩ = some (.int .i64 a3) ∧ w.cell? ⟨g, 4, none⟩ = some (.int .i64 b0) ∧ w.cell? ⟨g, 5, none⟩ = some (.int .i64 b1) ∧
      w.cell? ⟨g, 6, none⟩ = some (.int .i64 b2) ∧ w.cell? ⟨g, 7, none⟩ = some (.int .i64 b3) ∧ w.cell? ⟨g, 8, none⟩ = some (.int .i64 b4) ∧ w.cell? ⟨g, 9, none⟩ = some (.string b5) :=
  ⟨(blk_cell h 0).trans rfl, (blk_cell h 1).trans rfl, (blk_cell h 2).trans rfl, (blk_cell h 3).trans rfl, (blk_cell h 4).trans rfl, (blk_cell h 5).trans rfl, (blk_cell h 6).trans rfl, (blk_cell h 7).trans rfl, (blk_cell h 8).trans rfl, (blk_cell h 9).trans rfl⟩
theorem nbox6 {w : World} {g : Nat} {b0 b1 b2 b3 b4 : Int} {b5 : ByteArray} (h : w.heap[g]? = some (.cells #[.int .i64 b0, .int .i64 b1, .int .i64 b2, .int .i64 b3, .int .i64 b4, .string b5] 26 (0, 0))) :
    w.cell? ⟨g, 0, none⟩ = some (.int .i64 b0) ∧ w.cell? ⟨g, 1, none⟩ = some (.int .i64 b1) ∧ w.cell? ⟨g, 2, none⟩ = some (.int .i64 b2) ∧ w.cell? ⟨g, 3, none⟩ = some (.int .i64 b3) ∧ w.cell? ⟨g, 4, none⟩ = some (.int .i64 b4) ∧ w.cell? ⟨g, 5, none⟩ = some (.string b5) :=
  ⟨(blk_cell h 0).trans rfl, (blk_cell h 1).trans rfl, (blk_cell h 2).trans rfl, (blk_cell h 3).trans rfl, (blk_cell h 4).trans rfl, (blk_cell h 5).trans rfl⟩
theorem tup_of (o : Option S26) : ∃ b0 b1 b2 b3 b4 b5 b6, tup o = (b0, b1, b2, b3, b4, b5, b6) := ⟨_, _, _, _, _, _, _, rfl⟩
theorem find_f (l : List S26) (id : Int) {b0 b1 b2 b3 b4 : Int} {b5 : ByteArray} {b6 : Bool} (h : tup (findL l id) = (b0, b1, b2, b3, b4, b5, b6)) : hold_Find.f l id = some (b0, b1, b2, b3, b4, b5, b6) := (find_eq l id).trans (congrArg some h)
theorem ncheck_f {l : List S26} (hl : okL l) : hold_Check.f l = some (checkL l) := by
  unfold hold_Check.f
  rw [if_pos (okS_ok hl)]

set_option maxHeartbeats 4000000 in
set_option maxRecDepth 100000 in
theorem holdConserves_calls (A0 : Option Addr) (c0 : Nat) (l0 : List S26) (A1 : Option Addr) (c1 : Nat) (l1 : List S38) (w : World) (hr0 : Kd.C k26 w A0 l0.length l0) (hc0 : l0.length ≤ c0) (ok0 : ∀ x ∈ l0, x.f2 ≤ 9223372036854775807) (hr1 : Kd.C k38 w A1 l1.length l1) (hc1 : l1.length ≤ c1) :
    Calls Try.prog 6 #[.slice A0 l0.length c0, .slice A1 l1.length c1] w fun e w' => e = .returned (.bool true) ∧ Below w.heap.size w w' := by
  have HR0 := Aside0.mk hr0
  have HC0 := Aside0.mk hc0
  have HR1 := Aside0.mk hr1
  have HC1 := Aside0.mk hc1
  have hm1 : l1.length ≤ 9223372036854775807 := hr1.2.1
  have HGr : Aside0 (corebankref22_Great.f (l0.length + 1) l0 = some (greatB l0)) := ⟨great_eq l0 _ (by omega)⟩
  have HLv := Aside0.mk live_true
  obtain ⟨sb, hsb, hsh⟩ := short_eq l1
  have HSb := Aside0.mk hsb
  have HSh := Aside0.mk hsh
  clear hr0 hc0 hr1 hc1 hsb hsh
  by_cases tg : greatB l0 = true
  · rw [tg] at HGr
    clear tg
    go_enter Try.func6, Try.ntmps6
    go_wp2_with fail
    refine (corebankref22_Great.calls _ A0 c0 l0 _ _ HR0.out HC0.out HGr.out).mono ?_
    rintro e w1 ⟨rfl, hd1⟩
    have HB1 := Aside0.mk hd1.below
    clear hd1
    go_wp2_with fail
    refine (corebanklaw22_live.calls _ _ _ HLv.out).mono ?_
    rintro e w9 ⟨rfl, hb9⟩
    have HB9 := Aside0.mk (HB1.out.trans (hb9.mono HB1.out.size))
    clear hb9
    go_wp2
    go_ret
    exact ⟨rfl, HB9.out⟩
  · rw [Bool.eq_false_iff.2 tg] at HGr
    have HOk : Aside0 (okL l0) := ⟨great_ok (Bool.eq_false_iff.2 tg) ok0⟩
    clear tg
    cases sb with
    | false =>
      go_enter Try.func6, Try.ntmps6
      go_wp2_with fail
      refine (corebankref22_Great.calls _ A0 c0 l0 _ _ HR0.out HC0.out HGr.out).mono ?_
      rintro e w1 ⟨rfl, hd1⟩
      have HB1 := Aside0.mk hd1.below
      clear hd1
      go_wp2_with fail
      refine (corebanklaw22_short.calls _ A1 c1 l1 _ _ (Kd.C_below HR1.out HB1.out) HC1.out HSb.out).mono ?_
      rintro e w2 ⟨rfl, hd2⟩
      have HB2 := Aside0.mk (HB1.out.trans (hd2.below.mono HB1.out.size))
      clear hd2
      go_wp2_with fail
      refine (corebanklaw22_live.calls _ _ _ HLv.out).mono ?_
      rintro e w9 ⟨rfl, hb9⟩
      have HB9 := Aside0.mk (HB2.out.trans (hb9.mono HB2.out.size))
      clear hb9
      go_wp2
      go_ret
      exact ⟨rfl, HB9.out⟩
    | true =>
      have HSk := Aside0.mk (HSh.out rfl)
      clear HSh
      have HCh := Aside0.mk (ncheck_f HOk.out)
      by_cases tc : checkL l0 = 0
      · rw [tc] at HCh
        have HV := Aside0.mk tc
        have HSu := Aside0.mk (sum_eq tc)
        clear tc
        go_enter Try.func6, Try.ntmps6
        go_wp2_with fail
        refine (corebankref22_Great.calls _ A0 c0 l0 _ _ HR0.out HC0.out HGr.out).mono ?_
        rintro e w1 ⟨rfl, hd1⟩
        have HB1 := Aside0.mk hd1.below
        clear hd1
        go_wp2_with fail
        refine (corebanklaw22_short.calls _ A1 c1 l1 _ _ (Kd.C_below HR1.out HB1.out) HC1.out HSb.out).mono ?_
        rintro e w2 ⟨rfl, hd2⟩
        have HB2 := Aside0.mk (HB1.out.trans (hd2.below.mono HB1.out.size))
        clear hd2
        go_wp2_with fail
        refine (hold_Check.calls A0 c0 l0 _ _ (Kd.C_below HR0.out HB2.out) HC0.out HCh.out).mono ?_
        rintro e w3 ⟨rfl, hb3⟩
        have HB3 := Aside0.mk (HB2.out.trans (hb3.mono HB2.out.size))
        clear hb3
        go_wp2_with fail
        refine (corebanklaw22_sum.calls 200 A0 c0 l0 _ _ (Kd.C_below HR0.out HB3.out) HC0.out HSu.out).mono ?_
        rintro e w4 ⟨rfl, hd4⟩
        have HB4 := Aside0.mk (HB3.out.trans (hd4.below.mono HB3.out.size))
        clear hd4
        clear HB1 HB2 HB3
        have hsr := sum_range l0 (amounts HV.out)
        have hs64 := checkL_len HV.out
        have hw0 : sumL l0 = wrap64 (sumL l0 + 0) := by unfold wrap64; omega
        have HW0 := Aside0.mk hw0
        clear hsr hs64 hw0
        go_wp2_with fail
        go_loopg [0, 5, 6, 7] l1.length (fun gg s0 s5 s6 s7 wr => ∃ (kk : Nat) (l : List S26) (A : Option Addr) (c : Nat) (V W G : Int), s0 = .slice A l.length c ∧ s5 = .int .i64 V ∧ s6 = .int .i64 W ∧ s7 = .int .i64 kk ∧ Aside0 (kk ≤ l1.length ∧ l1.length - kk ≤ gg) ∧ Aside0 (okL l ∧ checkL l = 0) ∧ Aside0 (Kd.C k26 wr A l.length l) ∧ Aside0 (l.length ≤ c) ∧ Aside0 (V = wrap64 (sumL l + G) ∧ W = wrap64 G) ∧ Aside0 (Below w.heap.size w wr))
        case atStart => exact ⟨0, l0, A0, c0, sumL l0, 0, 0, rfl, rfl, rfl, rfl, ⟨by omega, by omega⟩, ⟨HOk.out, HV.out⟩, ⟨Kd.C_below HR0.out HB4.out⟩, HC0, ⟨HW0.out, by unfold wrap64; omega⟩, HB4⟩
        case round =>
          clear HOk HR0 HC0 HB4 HV HCh HSu HW0
          obtain ⟨kk, l, A, c, V, W, G, rfl, rfl, rfl, rfl, HK, HO, HR, HC, HG, HB⟩ := hrel
          by_cases t : kk < l1.length
          · obtain ⟨x, hx⟩ : ∃ x, x = l1.getD kk z38 := ⟨_, rfl⟩
            have hk200 := HSk.out.2 kk t
            rw [← hx] at hk200
            have HK2 := Aside0.mk hk200
            obtain ⟨ad, e, h0, h1, h2, h3, h4, h5, h6, h7, h8, h9⟩ := at_T38 HR1.out kk (by omega) (by omega)
            cases e
            replace h0 := (HB.out.cell (World.block_lt_of_cell? w _ h0)).trans h0
            replace h1 := (HB.out.cell (World.block_lt_of_cell? w _ h1)).trans h1
            replace h2 := (HB.out.cell (World.block_lt_of_cell? w _ h2)).trans h2
            replace h3 := (HB.out.cell (World.block_lt_of_cell? w _ h3)).trans h3
            replace h4 := (HB.out.cell (World.block_lt_of_cell? w _ h4)).trans h4
            replace h5 := (HB.out.cell (World.block_lt_of_cell? w _ h5)).trans h5
            replace h6 := (HB.out.cell (World.block_lt_of_cell? w _ h6)).trans h6
            replace h7 := (HB.out.cell (World.block_lt_of_cell? w _ h7)).trans h7
            replace h8 := (HB.out.cell (World.block_lt_of_cell? w _ h8)).trans h8
            replace h9 := (HB.out.cell (World.block_lt_of_cell? w _ h9)).trans h9
            rw [show rd_T38 l1 (kk : Int) = x by rw [hx]; rfl] at h0 h1 h2 h3 h4 h5 h6 h7 h8 h9
            simp only [Int.toNat_natCast] at h0 h1 h2 h3 h4 h5 h6 h7 h8 h9
            obtain ⟨b0, b1, b2, b3, b4, b5, b6, hb⟩ := tup_of (findL l x.f1)
            have HT := Aside0.mk hb
            have HFi := Aside0.mk (find_f l x.f1 hb)
            clear hx hk200 hb
            go_wp2_with fail
            refine (hold_Find.calls A c l x.f1 _ _ _ _ _ _ _ _ (Kd.C_below HR.out (below_alloc (Below.refl _ _) _)) HC.out HFi.out).mono ?_
            rintro e w3 ⟨rfl, hb3⟩
            have HW3 : Aside0 (Below wr.heap.size wr w3) := ⟨(below_alloc (Below.refl _ _) _).trans (hb3.mono (by simp))⟩
            have HK3 := Aside0.mk (blk_below (blk_new wr (.cells #[.int .i64 x.f0, .int .i64 x.f1, .int .i64 x.f2, .int .i64 x.f3, .int .i64 x.f4.f0, .int .i64 x.f4.f1, .int .i64 x.f4.f2, .int .i64 x.f4.f3, .int .i64 x.f4.f4, .string x.f4.f5] 38)) hb3)
            obtain ⟨w4, hw4⟩ : ∃ w4, w4 = w3.alloc (.cells #[.int .i64 b0, .int .i64 b1, .int .i64 b2, .int .i64 b3, .int .i64 b4, .string b5] 26) := ⟨_, rfl⟩
            have HW4 : Aside0 (Below wr.heap.size wr w4) := ⟨by rw [hw4]; exact below_alloc HW3.out _⟩
            have HK4 : Aside0 (w4.heap[wr.heap.size]? = some (.cells #[.int .i64 x.f0, .int .i64 x.f1, .int .i64 x.f2, .int .i64 x.f3, .int .i64 x.f4.f0, .int .i64 x.f4.f1, .int .i64 x.f4.f2, .int .i64 x.f4.f3, .int .i64 x.f4.f4, .string x.f4.f5] 38 (0, 0))) := ⟨by rw [hw4]; exact blk_alloc HK3.out _⟩
            have HJ4 : Aside0 (w4.heap[w3.heap.size]? = some (.cells #[.int .i64 b0, .int .i64 b1, .int .i64 b2, .int .i64 b3, .int .i64 b4, .string b5] 26 (0, 0))) := ⟨by rw [hw4]; exact blk_new w3 _⟩
            have HL4 := Aside0.mk (Kd.C_below HR.out HW4.out)
            have HB4 := Aside0.mk (HB.out.trans (HW4.out.mono HB.out.size))
            have HD4 := Aside0.mk hw4
            clear h0 h1 h2 h3 h4 h5 h6 h7 h8 h9 hb3 HFi hw4
            obtain ⟨y0, y1, y2, y3, y4, y5, y6, y7, y8, y9⟩ := nbox10 (blk_alloc HK3.out (.cells #[.int .i64 b0, .int .i64 b1, .int .i64 b2, .int .i64 b3, .int .i64 b4, .string b5] 26))
            by_cases q0 : x.f0 = 0
            · have t0 : (x.f0 == 0) = true := beq_iff_eq.mpr q0
              clear q0
              obtain ⟨xs, ev, he⟩ : ∃ xs ev, placeL l x.f4 = (xs, ev) := ⟨_, _, rfl⟩
              have HF := Aside0.mk ((place_eq l x.f4 HO.out.1 HK2.out).trans (congrArg some he))
              have HVal : Aside0 (ev = 0 → okL xs ∧ checkL xs = 0 ∧ sumL xs = sumL l + x.f4.f2) := ⟨fun t => by
                have h1 := place_okL HO.out.1 HK2.out (by rw [he]; exact t)
                have h2 := (place_valid (by rw [he]; exact t)).1
                have h3 := place_sum (by rw [he]; exact t)
                rw [he] at h1 h2 h3
                exact ⟨h1, h2, h3⟩⟩
              clear he
              go_wp2_with fail
              rw [← HD4.out]
              clear y0 y1 y2 y3 y4 y5 y6 y7 y8 y9
              refine (hold_Place.calls A c l x.f4.f0 x.f4.f1 x.f4.f2 x.f4.f3 x.f4.f4 x.f4.f5 xs ev _ HL4.out HC.out HF.out).mono ?_
              rintro e w5 ⟨v5, rfl, ho5, hb5⟩
              have HB5 := Aside0.mk (HB4.out.trans (hb5.mono HB4.out.size))
              have HK5 := Aside0.mk (blk_below HK4.out hb5)
              have HL5 := Aside0.mk (Kd.C_below HL4.out hb5)
              obtain ⟨A5, c5, rfl⟩ := Kd.R_slice ho5
              have HX5 := Aside0.mk (Kd.R_reads' ho5).2
              clear ho5 hb5
              obtain ⟨y0, y1, y2, y3, y4, y5, y6, y7, y8, y9⟩ := nbox10 HK5.out
              by_cases te : ev = 0
              · subst te
                have HVa := Aside0.mk (HVal.out rfl)
                obtain ⟨V2, hV2⟩ : ∃ V2, V2 = wrap64 (V + x.f4.f2) := ⟨_, rfl⟩
                have hv : IntKind.i64.wrap (V + x.f4.f2) = V2 := by rw [i64_w, hV2]
                have HV2 := Aside0.mk hV2
                clear hV2
                have HGt := Aside0.mk (show V2 = wrap64 (sumL xs + G) ∧ W = wrap64 G from ⟨by rw [HV2.out, HG.out.1, wrap_add, HVa.out.2.2]; congr 1; omega, HG.out.2⟩)
                have HCt : Aside0 (okL xs ∧ checkL xs = 0) := ⟨HVa.out.1, HVa.out.2.1⟩
                have HSu := Aside0.mk (sum_eq HCt.out.2)
                obtain ⟨S, hS⟩ : ∃ S, S = sumL xs := ⟨_, rfl⟩
                rw [← hS] at HSu
                have HSS := Aside0.mk hS
                clear hS
                have hf : IntKind.i64.wrap (S + W) = V2 := by rw [i64_w, HGt.out.2, HGt.out.1, wrap_add2, HSS.out]
                have hne : (V2 != V2) = false := bne_eq_false_iff_eq.mpr rfl
                go_wp2_with fail
                refine (corebanklaw22_sum.calls 200 A5 c5 xs _ _ HX5.out.2 HX5.out.1 HSu.out).mono ?_
                rintro e w6 ⟨rfl, hd6⟩
                have HDt := Aside0.mk hd6.below
                have HBt := Aside0.mk (HB5.out.trans (hd6.below.mono HB5.out.size))
                have HCo := Aside0.mk (Kd.C_below HX5.out.2 hd6.below)
                have HLe : Aside0 (xs.length ≤ c5) := ⟨HX5.out.1⟩
                clear hd6
                go_wp2
                go_roundg (l1.length - (kk + 1))
                case measure => have := HK.out; omega
                case rel => exact ⟨kk + 1, xs, A5, c5, V2, W, _, rfl, rfl, rfl, by go_num, ⟨by omega, by omega⟩, HCt, HCo, HLe, HGt, HBt⟩
              · have te1 : (ev == 0) = false := beq_eq_false_iff_ne.mpr te
                have te2 : (ev != 0) = true := bne_iff_ne.mpr te
                clear te HVal
                have HGt := Aside0.mk (HG.out)
                have HCt : Aside0 (okL l ∧ checkL l = 0) := HO
                have HSu := Aside0.mk (sum_eq HCt.out.2)
                obtain ⟨S, hS⟩ : ∃ S, S = sumL l := ⟨_, rfl⟩
                rw [← hS] at HSu
                have HSS := Aside0.mk hS
                clear hS
                have hf : IntKind.i64.wrap (S + W) = V := by rw [i64_w, HGt.out.2, HGt.out.1, wrap_add2, HSS.out]
                have hne : (V != V) = false := bne_eq_false_iff_eq.mpr rfl
                go_wp2_with fail
                refine (corebanklaw22_sum.calls 200 A c l _ _ HL5.out HC.out HSu.out).mono ?_
                rintro e w6 ⟨rfl, hd6⟩
                have HDt := Aside0.mk hd6.below
                have HBt := Aside0.mk (HB5.out.trans (hd6.below.mono HB5.out.size))
                have HCo := Aside0.mk (Kd.C_below HL5.out hd6.below)
                have HLe : Aside0 (l.length ≤ c) := ⟨HC.out⟩
                clear hd6
                go_wp2
                go_roundg (l1.length - (kk + 1))
                case measure => have := HK.out; omega
                case rel => exact ⟨kk + 1, l, A, c, V, W, _, rfl, rfl, rfl, by go_num, ⟨by omega, by omega⟩, HCt, HCo, HLe, HGt, HBt⟩
            · by_cases q1 : x.f0 = 1
              · have t0 : (x.f0 == 0) = false := beq_eq_false_iff_ne.mpr q0
                have t1 : (x.f0 == 1) = true := beq_iff_eq.mpr q1
                clear q0 q1
                obtain ⟨xs, ev, he⟩ : ∃ xs ev, useL l x.f1 x.f2 x.f3 = (xs, ev) := ⟨_, _, rfl⟩
                have HF := Aside0.mk ((use_eq l HO.out.1 _ _ _ 1000 (by omega)).trans (congrArg some he))
                have HVal : Aside0 (ev = 0 → okL xs ∧ checkL xs = 0 ∧ sumL xs = sumL l - x.f2) := ⟨fun t => by
                  have h1 := use_okL HO.out.1 _ _ _ (by rw [he]; exact t)
                  have h2 := (use_valid HO.out.2 (by rw [he]; exact t)).1
                  have h3 := use_sum HO.out.2 (by rw [he]; exact t)
                  rw [he] at h1 h2 h3
                  exact ⟨h1, h2, h3⟩⟩
                clear he
                go_wp2_with fail
                rw [← HD4.out]
                clear y0 y1 y2 y3 y4 y5 y6 y7 y8 y9
                refine (hold_Use.calls 1000 A c l x.f1 x.f2 x.f3 xs ev _ HL4.out HC.out HF.out).mono ?_
                rintro e w5 ⟨v5, rfl, ho5, hb5⟩
                have HB5 := Aside0.mk (HB4.out.trans (hb5.mono HB4.out.size))
                have HK5 := Aside0.mk (blk_below HK4.out hb5)
                have HL5 := Aside0.mk (Kd.C_below HL4.out hb5)
                obtain ⟨A5, c5, rfl⟩ := Kd.R_slice ho5
                have HX5 := Aside0.mk (Kd.R_reads' ho5).2
                clear ho5 hb5
                obtain ⟨y0, y1, y2, y3, y4, y5, y6, y7, y8, y9⟩ := nbox10 HK5.out
                by_cases te : ev = 0
                · subst te
                  have HVa := Aside0.mk (HVal.out rfl)
                  obtain ⟨W2, hW2⟩ : ∃ W2, W2 = wrap64 (W + x.f2) := ⟨_, rfl⟩
                  have hv : IntKind.i64.wrap (W + x.f2) = W2 := by rw [i64_w, hW2]
                  have HW2 := Aside0.mk hW2
                  clear hW2
                  have HGt := Aside0.mk (show V = wrap64 (sumL xs + (G + x.f2)) ∧ W2 = wrap64 (G + x.f2) from ⟨by rw [HG.out.1, HVa.out.2.2]; congr 1; omega, by rw [HW2.out, HG.out.2, wrap_add]⟩)
                  have HCt : Aside0 (okL xs ∧ checkL xs = 0) := ⟨HVa.out.1, HVa.out.2.1⟩
                  have HSu := Aside0.mk (sum_eq HCt.out.2)
                  obtain ⟨S, hS⟩ : ∃ S, S = sumL xs := ⟨_, rfl⟩
                  rw [← hS] at HSu
                  have HSS := Aside0.mk hS
                  clear hS
                  have hf : IntKind.i64.wrap (S + W2) = V := by rw [i64_w, HGt.out.2, HGt.out.1, wrap_add2, HSS.out]
                  have hne : (V != V) = false := bne_eq_false_iff_eq.mpr rfl
                  go_wp2_with fail
                  refine (corebanklaw22_sum.calls 200 A5 c5 xs _ _ HX5.out.2 HX5.out.1 HSu.out).mono ?_
                  rintro e w6 ⟨rfl, hd6⟩
                  have HDt := Aside0.mk hd6.below
                  have HBt := Aside0.mk (HB5.out.trans (hd6.below.mono HB5.out.size))
                  have HCo := Aside0.mk (Kd.C_below HX5.out.2 hd6.below)
                  have HLe : Aside0 (xs.length ≤ c5) := ⟨HX5.out.1⟩
                  clear hd6
                  go_wp2
                  go_roundg (l1.length - (kk + 1))
                  case measure => have := HK.out; omega
                  case rel => exact ⟨kk + 1, xs, A5, c5, V, W2, _, rfl, rfl, rfl, by go_num, ⟨by omega, by omega⟩, HCt, HCo, HLe, HGt, HBt⟩
                · have te1 : (ev == 0) = false := beq_eq_false_iff_ne.mpr te
                  have te2 : (ev != 0) = true := bne_iff_ne.mpr te
                  clear te HVal
                  have HGt := Aside0.mk (HG.out)
                  have HCt : Aside0 (okL l ∧ checkL l = 0) := HO
                  have HSu := Aside0.mk (sum_eq HCt.out.2)
                  obtain ⟨S, hS⟩ : ∃ S, S = sumL l := ⟨_, rfl⟩
                  rw [← hS] at HSu
                  have HSS := Aside0.mk hS
                  clear hS
                  have hf : IntKind.i64.wrap (S + W) = V := by rw [i64_w, HGt.out.2, HGt.out.1, wrap_add2, HSS.out]
                  have hne : (V != V) = false := bne_eq_false_iff_eq.mpr rfl
                  go_wp2_with fail
                  refine (corebanklaw22_sum.calls 200 A c l _ _ HL5.out HC.out HSu.out).mono ?_
                  rintro e w6 ⟨rfl, hd6⟩
                  have HDt := Aside0.mk hd6.below
                  have HBt := Aside0.mk (HB5.out.trans (hd6.below.mono HB5.out.size))
                  have HCo := Aside0.mk (Kd.C_below HL5.out hd6.below)
                  have HLe : Aside0 (l.length ≤ c) := ⟨HC.out⟩
                  clear hd6
                  go_wp2
                  go_roundg (l1.length - (kk + 1))
                  case measure => have := HK.out; omega
                  case rel => exact ⟨kk + 1, l, A, c, V, W, _, rfl, rfl, rfl, by go_num, ⟨by omega, by omega⟩, HCt, HCo, HLe, HGt, HBt⟩
              · by_cases q2 : x.f0 = 2
                · have t0 : (x.f0 == 0) = false := beq_eq_false_iff_ne.mpr q0
                  have t1 : (x.f0 == 1) = false := beq_eq_false_iff_ne.mpr q1
                  have t2 : (x.f0 == 2) = true := beq_iff_eq.mpr q2
                  clear q0 q1 q2
                  obtain ⟨xs, ev, he⟩ : ∃ xs ev, releaseL l x.f1 = (xs, ev) := ⟨_, _, rfl⟩
                  have HF := Aside0.mk ((release_eq l HO.out.1 x.f1).trans (congrArg some he))
                  have HE := Aside0.mk he
                  clear he
                  go_wp2_with fail
                  rw [← HD4.out]
                  clear y0 y1 y2 y3 y4 y5 y6 y7 y8 y9
                  refine (hold_Release.calls A c l x.f1 xs ev _ HL4.out HC.out HF.out).mono ?_
                  rintro e w5 ⟨v5, rfl, ho5, hb5⟩
                  have HB5 := Aside0.mk (HB4.out.trans (hb5.mono HB4.out.size))
                  have HJ5 := Aside0.mk (blk_below HJ4.out hb5)
                  have HL5 := Aside0.mk (Kd.C_below HL4.out hb5)
                  obtain ⟨A5, c5, rfl⟩ := Kd.R_slice ho5
                  have HX5 := Aside0.mk (Kd.R_reads' ho5).2
                  clear ho5 hb5
                  obtain ⟨u0, u1, u2, u3, u4, u5⟩ := nbox6 HJ5.out
                  rcases release_find l HO.out.2 x.f1 with ⟨hr, hf⟩ | ⟨y, hf, hr, hs⟩
                  · have ht := HT.out
                    rw [hf] at ht
                    rw [HE.out] at hr
                    obtain ⟨rfl, rfl⟩ := Prod.mk.inj hr
                    simp only [tup, Prod.mk.injEq] at ht
                    obtain ⟨rfl, rfl, rfl, rfl, rfl, rfl, rfl⟩ := ht
                    clear hr hf
                    have HGt := Aside0.mk (HG.out)
                    have HCt : Aside0 (okL l ∧ checkL l = 0) := HO
                    have HSu := Aside0.mk (sum_eq HCt.out.2)
                    obtain ⟨S, hS⟩ : ∃ S, S = sumL l := ⟨_, rfl⟩
                    rw [← hS] at HSu
                    have HSS := Aside0.mk hS
                    clear hS
                    have hf : IntKind.i64.wrap (S + W) = V := by rw [i64_w, HGt.out.2, HGt.out.1, wrap_add2, HSS.out]
                    have hne : (V != V) = false := bne_eq_false_iff_eq.mpr rfl
                    go_wp2_with fail
                    refine (corebanklaw22_sum.calls 200 A c l _ _ HL5.out HC.out HSu.out).mono ?_
                    rintro e w6 ⟨rfl, hd6⟩
                    have HDt := Aside0.mk hd6.below
                    have HBt := Aside0.mk (HB5.out.trans (hd6.below.mono HB5.out.size))
                    have HCo := Aside0.mk (Kd.C_below HL5.out hd6.below)
                    have HLe : Aside0 (l.length ≤ c) := ⟨HC.out⟩
                    clear hd6
                    go_wp2
                    go_roundg (l1.length - (kk + 1))
                    case measure => have := HK.out; omega
                    case rel => exact ⟨kk + 1, l, A, c, V, W, _, rfl, rfl, rfl, by go_num, ⟨by omega, by omega⟩, HCt, HCo, HLe, HGt, HBt⟩
                  · have ht := HT.out
                    rw [hf] at ht
                    have h1 := release_okL HO.out.1 x.f1 hr
                    have h2 := (release_valid HO.out.2 hr).1
                    rw [HE.out] at hr hs h1 h2
                    dsimp only at hr hs h1 h2
                    subst hr
                    have HVa := Aside0.mk (show okL xs ∧ checkL xs = 0 ∧ sumL xs = sumL l - y.f2 from ⟨h1, h2, hs⟩)
                    simp only [tup, Prod.mk.injEq] at ht
                    obtain ⟨rfl, rfl, rfl, rfl, rfl, rfl, rfl⟩ := ht
                    clear hf hs h1 h2
                    obtain ⟨W2, hW2⟩ : ∃ W2, W2 = wrap64 (W + y.f2) := ⟨_, rfl⟩
                    have hv : IntKind.i64.wrap (W + y.f2) = W2 := by rw [i64_w, hW2]
                    have HW2 := Aside0.mk hW2
                    clear hW2
                    have HGt := Aside0.mk (show V = wrap64 (sumL xs + (G + y.f2)) ∧ W2 = wrap64 (G + y.f2) from ⟨by rw [HG.out.1, HVa.out.2.2]; congr 1; omega, by rw [HW2.out, HG.out.2, wrap_add]⟩)
                    have HCt : Aside0 (okL xs ∧ checkL xs = 0) := ⟨HVa.out.1, HVa.out.2.1⟩
                    have HSu := Aside0.mk (sum_eq HCt.out.2)
                    obtain ⟨S, hS⟩ : ∃ S, S = sumL xs := ⟨_, rfl⟩
                    rw [← hS] at HSu
                    have HSS := Aside0.mk hS
                    clear hS
                    have hf : IntKind.i64.wrap (S + W2) = V := by rw [i64_w, HGt.out.2, HGt.out.1, wrap_add2, HSS.out]
                    have hne : (V != V) = false := bne_eq_false_iff_eq.mpr rfl
                    go_wp2_with fail
                    refine (corebanklaw22_sum.calls 200 A5 c5 xs _ _ HX5.out.2 HX5.out.1 HSu.out).mono ?_
                    rintro e w6 ⟨rfl, hd6⟩
                    have HDt := Aside0.mk hd6.below
                    have HBt := Aside0.mk (HB5.out.trans (hd6.below.mono HB5.out.size))
                    have HCo := Aside0.mk (Kd.C_below HX5.out.2 hd6.below)
                    have HLe : Aside0 (xs.length ≤ c5) := ⟨HX5.out.1⟩
                    clear hd6
                    go_wp2
                    go_roundg (l1.length - (kk + 1))
                    case measure => have := HK.out; omega
                    case rel => exact ⟨kk + 1, xs, A5, c5, V, W2, _, rfl, rfl, rfl, by go_num, ⟨by omega, by omega⟩, HCt, HCo, HLe, HGt, HBt⟩
                · by_cases q3 : x.f0 = 3
                  · have t0 : (x.f0 == 0) = false := beq_eq_false_iff_ne.mpr q0
                    have t1 : (x.f0 == 1) = false := beq_eq_false_iff_ne.mpr q1
                    have t2 : (x.f0 == 2) = false := beq_eq_false_iff_ne.mpr q2
                    have t3 : (x.f0 == 3) = true := beq_iff_eq.mpr q3
                    clear q0 q1 q2 q3
                    obtain ⟨es, hes⟩ : ∃ es, es = l.filter (endedB x.f3) := ⟨_, rfl⟩
                    obtain ⟨xs, hxs⟩ : ∃ xs, xs = l.filter (fun y => !endedB x.f3 y) := ⟨_, rfl⟩
                    have HF : Aside0 (hold_Expire.f l x.f3 = some (xs, es.map (·.f0))) := ⟨by rw [hes, hxs]; exact expire_eq l HO.out.1 x.f3⟩
                    have HVa : Aside0 (okL xs ∧ checkL xs = 0 ∧ sumL l = sumL xs + sumL es) := ⟨by rw [hes, hxs]; exact ⟨expire_okL HO.out.1 x.f3, filter_check HO.out.2 _, sum_filter l _⟩⟩
                    have HEn : Aside0 (∀ k, k < es.length → findL l (es.getD k z26).f0 = some (es.getD k z26) ∧ (es.getD k z26).f4 < x.f3) := ⟨by rw [hes]; exact fun k hk => ended_find HO.out.2 x.f3 k hk⟩
                    have hel : es.length ≤ 100 := by rw [hes]; exact Nat.le_trans (List.length_filter_le _ _) HO.out.1.1
                    have HEl := Aside0.mk hel
                    obtain ⟨is, his⟩ : ∃ is, is = es.map (·.f0) := ⟨_, rfl⟩
                    have HIs : Aside0 (is.length = es.length ∧ ∀ k, k < es.length → rd is (k : Int) = (es.getD k z26).f0) := ⟨by rw [his]; exact ⟨List.length_map .., fun k hk => rd_ids es k hk⟩⟩
                    rw [← his] at HF
                    clear hes hxs his hel
                    go_wp2_with fail
                    rw [← HD4.out]
                    clear y0 y1 y2 y3 y4 y5 y6 y7 y8 y9
                    refine (hold_Expire.calls A c l x.f3 xs is _ HL4.out HC.out HF.out).mono ?_
                    rintro e w5 ⟨v5, u5, rfl, ho5, hi5, hb5⟩
                    have HB5 := Aside0.mk (HB4.out.trans (hb5.mono HB4.out.size))
                    have HK5 := Aside0.mk (blk_below HK4.out hb5)
                    have HL5 := Aside0.mk (Kd.C_below HL4.out hb5)
                    obtain ⟨A5, c5, rfl⟩ := Kd.R_slice ho5
                    have HX5 := Aside0.mk (Kd.R_reads' ho5).2
                    obtain ⟨I5, d5, rfl⟩ := Kd.R_slice hi5
                    have HI5 := Aside0.mk (Kd.R_reads' hi5).2
                    clear ho5 hi5 hb5
                    have hil : is.length = es.length := HIs.out.1
                    have hel : es.length ≤ 100 := HEl.out
                    go_wp2_with fail
                    obtain ⟨wo, rfl⟩ : ∃ wo : World, wo = wr := ⟨_, rfl⟩
                    go_loopg [6, 19] es.length (fun gg s6 s19 wq => ∃ (j : Nat) (W2 : Int), s6 = .int .i64 W2 ∧ s19 = .int .i64 j ∧ Aside0 (j ≤ es.length ∧ es.length - j ≤ gg) ∧ Aside0 (W2 = wrap64 (G + sumL (es.take j))) ∧ Aside0 (Below w5.heap.size w5 wq))
                    case atStart => exact ⟨0, W, rfl, rfl, ⟨by omega, by omega⟩, ⟨by rw [HG.out.2]; simp [sumL]⟩, ⟨Below.refl _ _⟩⟩
                    case round =>
                      obtain ⟨j, W2, rfl, rfl, HJ, HW2, HQ⟩ := hrel
                      have HLq := Aside0.mk (Kd.C_below HL5.out HQ.out)
                      have HKq := Aside0.mk (blk_below HK5.out HQ.out)
                      by_cases tj : j < es.length
                      · obtain ⟨z, hz⟩ : ∃ z, z = es.getD j z26 := ⟨_, rfl⟩
                        have HZ := HEn.out j tj
                        have HZr := HIs.out.2 j tj
                        have HSn := Aside0.mk (sum_snoc es j tj)
                        rw [← hz] at HZ HZr HSn
                        obtain ⟨HZ1, HZ2⟩ := HZ
                        have HFz : Aside0 (hold_Find.f l z.f0 = some (z.f0, z.f1, z.f2, z.f3, z.f4, z.f5, true)) := ⟨find_f l z.f0 (by rw [HZ1]; rfl)⟩
                        have hge : decide (z.f4 ≥ x.f3) = false := decide_eq_false (by omega)
                        have hge2 : decide (x.f3 ≤ z.f4) = false := decide_eq_false (by omega)
                        obtain ⟨ai, ei, hi0⟩ := Kd.at_int HI5.out.2 (j : Int) (by omega) (by omega)
                        cases ei
                        rw [HZr] at hi0
                        simp only [Int.toNat_natCast] at hi0
                        replace hi0 := (HQ.out.cell (World.block_lt_of_cell? w5 _ hi0)).trans hi0
                        clear hz HZ1 HZ2 HZr
                        go_wp2_with fail
                        refine (hold_Find.calls A c l z.f0 _ _ _ _ _ _ _ _ HLq.out HC.out HFz.out).mono ?_
                        rintro e w6 ⟨rfl, hb6⟩
                        have HQ6 := Aside0.mk (HQ.out.trans (hb6.mono HQ.out.size))
                        have HK6 := Aside0.mk (blk_below HKq.out hb6)
                        have HK7 : Aside0 ((w6.alloc (.cells #[.int .i64 z.f0, .int .i64 z.f1, .int .i64 z.f2, .int .i64 z.f3, .int .i64 z.f4, .string z.f5] 26)).heap[wo.heap.size]? = some (.cells #[.int .i64 x.f0, .int .i64 x.f1, .int .i64 x.f2, .int .i64 x.f3, .int .i64 x.f4.f0, .int .i64 x.f4.f1, .int .i64 x.f4.f2, .int .i64 x.f4.f3, .int .i64 x.f4.f4, .string x.f4.f5] 38 (0, 0))) := ⟨blk_alloc HK6.out _⟩
                        clear hb6 hi0
                        obtain ⟨y0, y1, y2, y3, y4, y5, y6, y7, y8, y9⟩ := nbox10 HK7.out
                        obtain ⟨W3, hW3⟩ : ∃ W3, W3 = wrap64 (W2 + z.f2) := ⟨_, rfl⟩
                        have hv : IntKind.i64.wrap (W2 + z.f2) = W3 := by rw [i64_w, hW3]
                        have HW3' : Aside0 (W3 = wrap64 (G + sumL (es.take (j + 1)))) := ⟨by rw [hW3, HW2.out, wrap_add, HSn.out]; congr 1; omega⟩
                        clear hW3
                        go_wp2_with fail
                        go_roundg (es.length - (j + 1))
                        case measure => have := HJ.out; omega
                        case rel => exact ⟨j + 1, W3, rfl, by go_num, ⟨by omega, by omega⟩, HW3', ⟨below_alloc HQ6.out _⟩⟩
                      · have hj := HJ.out
                        obtain rfl : j = es.length := by omega
                        have HXq := Aside0.mk (Kd.C_below HX5.out.2 HQ.out)
                        have HBq := Aside0.mk (HB5.out.trans (HQ.out.mono HB5.out.size))
                        have HWq : Aside0 (W2 = wrap64 (G + sumL es)) := ⟨by rw [HW2.out, List.take_length]⟩
                        clear HJ tj hj HW2
                        have HGt := Aside0.mk (show V = wrap64 (sumL xs + (G + sumL es)) ∧ W2 = wrap64 (G + sumL es) from ⟨by rw [HG.out.1, HVa.out.2.2]; congr 1; omega, HWq.out⟩)
                        have HCt : Aside0 (okL xs ∧ checkL xs = 0) := ⟨HVa.out.1, HVa.out.2.1⟩
                        have HSu := Aside0.mk (sum_eq HCt.out.2)
                        obtain ⟨S, hS⟩ : ∃ S, S = sumL xs := ⟨_, rfl⟩
                        rw [← hS] at HSu
                        have HSS := Aside0.mk hS
                        clear hS
                        have hf : IntKind.i64.wrap (S + W2) = V := by rw [i64_w, HGt.out.2, HGt.out.1, wrap_add2, HSS.out]
                        have hne : (V != V) = false := bne_eq_false_iff_eq.mpr rfl
                        go_wp2_with fail
                        refine (corebanklaw22_sum.calls 200 A5 c5 xs _ _ HXq.out HX5.out.1 HSu.out).mono ?_
                        rintro e w7 ⟨rfl, hd7⟩
                        have HDt := Aside0.mk hd7.below
                        have HBt := Aside0.mk (HBq.out.trans (hd7.below.mono HBq.out.size))
                        have HCo := Aside0.mk (Kd.C_below HXq.out hd7.below)
                        have HLe : Aside0 (xs.length ≤ c5) := ⟨HX5.out.1⟩
                        clear hd7
                        go_wp2
                        go_roundg (l1.length - (kk + 1))
                        case measure => have := HK.out; omega
                        case rel => exact ⟨kk + 1, xs, A5, c5, V, W2, _, rfl, rfl, rfl, by go_num, ⟨by omega, by omega⟩, HCt, HCo, HLe, HGt, HBt⟩
                  · have t0 : (x.f0 == 0) = false := beq_eq_false_iff_ne.mpr q0
                    have t1 : (x.f0 == 1) = false := beq_eq_false_iff_ne.mpr q1
                    have t2 : (x.f0 == 2) = false := beq_eq_false_iff_ne.mpr q2
                    have t3 : (x.f0 == 3) = false := beq_eq_false_iff_ne.mpr q3
                    clear q0 q1 q2 q3
                    go_wp2_with fail
                    rw [← HD4.out]
                    have HGt := Aside0.mk (HG.out)
                    have HCt : Aside0 (okL l ∧ checkL l = 0) := HO
                    have HSu := Aside0.mk (sum_eq HCt.out.2)
                    obtain ⟨S, hS⟩ : ∃ S, S = sumL l := ⟨_, rfl⟩
                    rw [← hS] at HSu
                    have HSS := Aside0.mk hS
                    clear hS
                    have hf : IntKind.i64.wrap (S + W) = V := by rw [i64_w, HGt.out.2, HGt.out.1, wrap_add2, HSS.out]
                    have hne : (V != V) = false := bne_eq_false_iff_eq.mpr rfl
                    refine (corebanklaw22_sum.calls 200 A c l _ _ HL4.out HC.out HSu.out).mono ?_
                    rintro e w6 ⟨rfl, hd6⟩
                    have HDt := Aside0.mk hd6.below
                    have HBt := Aside0.mk (HB4.out.trans (hd6.below.mono HB4.out.size))
                    have HCo := Aside0.mk (Kd.C_below HL4.out hd6.below)
                    have HLe : Aside0 (l.length ≤ c) := ⟨HC.out⟩
                    clear hd6
                    go_wp2
                    go_roundg (l1.length - (kk + 1))
                    case measure => have := HK.out; omega
                    case rel => exact ⟨kk + 1, l, A, c, V, W, _, rfl, rfl, rfl, by go_num, ⟨by omega, by omega⟩, HCt, HCo, HLe, HGt, HBt⟩
          · have hk := HK.out
            clear HK
            go_wp2_with fail
            refine (corebanklaw22_live.calls _ _ _ HLv.out).mono ?_
            rintro e w9 ⟨rfl, hb9⟩
            have HB9 := Aside0.mk (HB.out.trans (hb9.mono HB.out.size))
            clear hb9
            go_wp2
            go_ret
            exact ⟨rfl, HB9.out⟩
      · have HCh2 := HCh.out
        have tc1 : (checkL l0 == 0) = false := beq_eq_false_iff_ne.mpr tc
        have tc2 : (checkL l0 != 0) = true := bne_iff_ne.mpr tc
        obtain ⟨q, hq⟩ : ∃ q, checkL l0 = q := ⟨_, rfl⟩
        rw [hq] at HCh tc1 tc2
        clear tc hq HCh2
        go_enter Try.func6, Try.ntmps6
        go_wp2_with fail
        refine (corebankref22_Great.calls _ A0 c0 l0 _ _ HR0.out HC0.out HGr.out).mono ?_
        rintro e w1 ⟨rfl, hd1⟩
        have HB1 := Aside0.mk hd1.below
        clear hd1
        go_wp2_with fail
        refine (corebanklaw22_short.calls _ A1 c1 l1 _ _ (Kd.C_below HR1.out HB1.out) HC1.out HSb.out).mono ?_
        rintro e w2 ⟨rfl, hd2⟩
        have HB2 := Aside0.mk (HB1.out.trans (hd2.below.mono HB1.out.size))
        clear hd2
        go_wp2_with fail
        refine (hold_Check.calls A0 c0 l0 _ _ (Kd.C_below HR0.out HB2.out) HC0.out HCh.out).mono ?_
        rintro e w3 ⟨rfl, hb3⟩
        have HB3 := Aside0.mk (HB2.out.trans (hb3.mono HB2.out.size))
        clear hb3
        go_wp2_with fail
        refine (corebanklaw22_live.calls _ _ _ HLv.out).mono ?_
        rintro e w9 ⟨rfl, hb9⟩
        have HB9 := Aside0.mk (HB3.out.trans (hb9.mono HB3.out.size))
        clear hb9
        go_wp2
        go_ret
        exact ⟨rfl, HB9.out⟩
end Go.Proofs.Ytafkjallmbokaaa.Q
