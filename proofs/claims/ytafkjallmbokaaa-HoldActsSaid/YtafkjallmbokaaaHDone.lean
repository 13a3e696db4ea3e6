/- The law's step 'done' on a list that it only reads: what it returns when the program and the reference agree. -/
import Derived.Test.YtafkjallmbokaaaHPlace
import Derived.Test.YtafkjallmbokaaaHExpire
import Derived.Test.YtafkjallmbokaaaQx5
import Derived.Test.YtafkjallmbokaaaQx9
import Derived.Test.YtafkjallmbokaaaQx10
namespace Go.Proofs.Ytafkjallmbokaaa.Q
open Go.RowKit Go.Proofs.YtafkjallmbokaaaW.PrintWords Go.Proofs.YtafkjallmbokaaaW.PrintLast Go.Proofs.YtafkjallmbokaaaW.PrintMore
set_option linter.unusedVariables false
set_option linter.unusedSimpArgs false

theorem box10 {w : World} {g : Nat} {a0 a1 a2 a3 b0 b1 b2 b3 b4 : Int} {b5 : ByteArray} (h : w.heap[g]? = some (.cells #[.int .i64 a0, .int .i64 a1, .int .i64 a2, .int .i64 a3, .int .i64 b0, .int .i64 b1, .int .i64 b2, .int .i64 b3, .int .i64 b4, .string b5] 38 (0, 0))) :
    w.cell? ⟨g, 0, none⟩ = some (.int .i64 a0) ∧ w.cell? ⟨g, 1, none⟩ = some (.int .i64 a1) ∧ w.cell? ⟨g, 2, none⟩ = some (.int .i64 a2) ∧ w.cell? ⟨g, 3, none⟩ = some (.int .i64 a3) ∧ w.cell? ⟨g, 4, none⟩ = some (.int .i64 b0) ∧ w.cell? ⟨g, 5, none⟩ = some (.int .i64 b1) ∧
      w.cell? ⟨g, 6, none⟩ = some (.int .i64 b2) ∧ w.cell? ⟨g, 7, none⟩ = some (.int .i64 b3) ∧ w.cell? ⟨g, 8, none⟩ = some (.int .i64 b4) ∧ w.cell? ⟨g, 9, none⟩ = some (.string b5) :=
  ⟨(blk_cell h 0).trans rfl, (blk_cell h 1).trans rfl, (blk_cell h 2).trans rfl, (blk_cell h 3).trans rfl, (blk_cell h 4).trans rfl, (blk_cell h 5).trans rfl, (blk_cell h 6).trans rfl, (blk_cell h 7).trans rfl, (blk_cell h 8).trans rfl, (blk_cell h 9).trans rfl⟩
def DonePost (w : World) (r : List S26) (e : Ending) (w' : World) : Prop := ∃ A' c', e = .returned (.tuple #[.slice A' r.length c', .bool true]) ∧ Kd.C k26 w' A' r.length r ∧ r.length ≤ c' ∧ Below w.heap.size w w'
set_option maxHeartbeats 4000000 in
set_option maxRecDepth 100000 in
theorem done_place (A0 : Option Addr) (c0 : Nat) (l0 : List S26) (a1 a2 a3 b0 b1 b2 b3 b4 : Int) (b5 : ByteArray) (w : World) (hr0 : Kd.C k26 w A0 l0.length l0) (hc0 : l0.length ≤ c0) (K : Nat) (xs : List S26) (ev : Int) (h1 : hold_Place.f l0 b0 b1 b2 b3 b4 b5 = some (xs, ev)) (h2 : corebankref22_Place.f K l0 b0 b1 b2 b3 b4 b5 = some (xs, ev)) (h3 : corebankref22_SameAll.f K xs xs = some true) (h4 : ev ≠ 0 → xs = []) (r : List S26) (h5 : ev = 0 → xs = r) (h6 : ev ≠ 0 → l0 = r) :
    Calls Try.prog 16 #[.slice A0 l0.length c0, .agg #[.int .i64 0, .int .i64 a1, .int .i64 a2, .int .i64 a3, .int .i64 b0, .int .i64 b1, .int .i64 b2, .int .i64 b3, .int .i64 b4, .string b5]] w (DonePost w r) := by
  have HR0 := Aside0.mk hr0
  have HC0 := Aside0.mk hc0
  have HKB : Aside0 ((w.alloc (.cells #[.int .i64 0, .int .i64 a1, .int .i64 a2, .int .i64 a3, .int .i64 b0, .int .i64 b1, .int .i64 b2, .int .i64 b3, .int .i64 b4, .string b5] 38)).heap[w.heap.size]? = some (.cells #[.int .i64 0, .int .i64 a1, .int .i64 a2, .int .i64 a3, .int .i64 b0, .int .i64 b1, .int .i64 b2, .int .i64 b3, .int .i64 b4, .string b5] 38 (0, 0))) := ⟨blk_new w _⟩
  clear hr0 hc0
  have H1 := Aside0.mk h1
  have H2 := Aside0.mk h2
  have H3 := Aside0.mk h3
  have H4 := Aside0.mk h4
  have H5 := Aside0.mk h5
  have H6 := Aside0.mk h6
  clear h1 h2 h3 h4 h5 h6
  go_enter Try.func16, Try.ntmps16
  go_wp2_with fail
  refine (hold_Place.calls A0 c0 l0 b0 b1 b2 b3 b4 b5 xs ev _ (Kd.C_below HR0.out (below_alloc (Below.refl _ _) _)) HC0.out H1.out).mono ?_
  rintro e w1 ⟨v1, rfl, ho1, hb1⟩
  have HB1 := Aside0.mk ((below_alloc (Below.refl w.heap.size w) _).trans (hb1.mono (show w.heap.size ≤ _ by simp)))
  have HK1 := Aside0.mk (blk_below HKB.out hb1)
  obtain ⟨A1, c1, rfl⟩ := Kd.R_slice ho1
  have HX1 := Aside0.mk (Kd.R_reads' ho1).2
  clear ho1 hb1 HKB
  obtain ⟨y0, y1, y2, y3, y4, y5, y6, y7, y8, y9⟩ := box10 HK1.out
  go_wp2_with fail
  refine (corebankref22_Place.calls K A0 c0 l0 b0 b1 b2 b3 b4 b5 xs ev _ (Kd.C_below HR0.out HB1.out) HC0.out H2.out).mono ?_
  rintro e w2 ⟨v2, rfl, ho2, hb2⟩
  have HB2 := Aside0.mk (HB1.out.trans (hb2.mono HB1.out.size))
  have HX2 := Aside0.mk (Kd.C_below HX1.out.2 hb2)
  have HK2 := Aside0.mk (blk_below HK1.out hb2)
  obtain ⟨A2, c2, rfl⟩ := Kd.R_slice ho2
  have HY2 := Aside0.mk (Kd.R_reads' ho2).2
  clear ho2 hb2 y0 y1 y2 y3 y4 y5 y6 y7 y8 y9
  by_cases t : ev = 0
  · obtain rfl := H5.out t
    subst t
    go_wp2_with fail
    refine (corebankref22_SameAll.calls K A1 c1 xs A2 c2 xs true _ HX2.out HX1.out.1 HY2.out.2 HY2.out.1 H3.out).mono ?_
    rintro e w3 ⟨rfl, hd3⟩
    have HB3 : Aside0 (Below w.heap.size w w3) := ⟨HB2.out.trans ((by first | exact hd3.below | exact hd3 : Below w2.heap.size w2 w3).mono HB2.out.size)⟩
    have HX3 : Aside0 (Kd.C k26 w3 A1 xs.length xs) := ⟨Kd.C_below HX2.out (by first | exact hd3.below | exact hd3)⟩
    clear hd3
    go_wp2
    go_ret2
    exact ⟨A1, c1, rfl, HX3.out, HX1.out.1, HB3.out⟩
  · have h4 := H4.out t
    obtain rfl := H6.out t
    have t1 : (ev == 0) = false := beq_eq_false_iff_ne.mpr t
    have t2 : (ev != 0) = true := bne_iff_ne.mpr t
    subst h4
    clear t
    go_wp2
    go_ret2
    exact ⟨A0, c0, rfl, Kd.C_below HR0.out HB2.out, HC0.out, HB2.out⟩
set_option maxHeartbeats 4000000 in
set_option maxRecDepth 100000 in
theorem done_use (A0 : Option Addr) (c0 : Nat) (l0 : List S26) (a1 a2 a3 b0 b1 b2 b3 b4 : Int) (b5 : ByteArray) (w : World) (hr0 : Kd.C k26 w A0 l0.length l0) (hc0 : l0.length ≤ c0) (K : Nat) (xs : List S26) (ev : Int) (h1 : hold_Use.f K l0 a1 a2 a3 = some (xs, ev)) (h2 : corebankref22_Use.f K l0 a1 a2 a3 = some (xs, ev)) (h3 : corebankref22_SameAll.f K xs xs = some true) (h4 : ev ≠ 0 → xs = []) (r : List S26) (h5 : ev = 0 → xs = r) (h6 : ev ≠ 0 → l0 = r) :
    Calls Try.prog 16 #[.slice A0 l0.length c0, .agg #[.int .i64 1, .int .i64 a1, .int .i64 a2, .int .i64 a3, .int .i64 b0, .int .i64 b1, .int .i64 b2, .int .i64 b3, .int .i64 b4, .string b5]] w (DonePost w r) := by
  have HR0 := Aside0.mk hr0
  have HC0 := Aside0.mk hc0
  have HKB : Aside0 ((w.alloc (.cells #[.int .i64 1, .int .i64 a1, .int .i64 a2, .int .i64 a3, .int .i64 b0, .int .i64 b1, .int .i64 b2, .int .i64 b3, .int .i64 b4, .string b5] 38)).heap[w.heap.size]? = some (.cells #[.int .i64 1, .int .i64 a1, .int .i64 a2, .int .i64 a3, .int .i64 b0, .int .i64 b1, .int .i64 b2, .int .i64 b3, .int .i64 b4, .string b5] 38 (0, 0))) := ⟨blk_new w _⟩
  clear hr0 hc0
  have H1 := Aside0.mk h1
  have H2 := Aside0.mk h2
  have H3 := Aside0.mk h3
  have H4 := Aside0.mk h4
  have H5 := Aside0.mk h5
  have H6 := Aside0.mk h6
  clear h1 h2 h3 h4 h5 h6
  go_enter Try.func16, Try.ntmps16
  go_wp2_with fail
  refine (hold_Use.calls K A0 c0 l0 a1 a2 a3 xs ev _ (Kd.C_below HR0.out (below_alloc (Below.refl _ _) _)) HC0.out H1.out).mono ?_
  rintro e w1 ⟨v1, rfl, ho1, hb1⟩
  have HB1 := Aside0.mk ((below_alloc (Below.refl w.heap.size w) _).trans (hb1.mono (show w.heap.size ≤ _ by simp)))
  have HK1 := Aside0.mk (blk_below HKB.out hb1)
  obtain ⟨A1, c1, rfl⟩ := Kd.R_slice ho1
  have HX1 := Aside0.mk (Kd.R_reads' ho1).2
  clear ho1 hb1 HKB
  obtain ⟨y0, y1, y2, y3, y4, y5, y6, y7, y8, y9⟩ := box10 HK1.out
  go_wp2_with fail
  refine (corebankref22_Use.calls K A0 c0 l0 a1 a2 a3 xs ev _ (Kd.C_below HR0.out HB1.out) HC0.out H2.out).mono ?_
  rintro e w2 ⟨v2, rfl, ho2, hb2⟩
  have HB2 := Aside0.mk (HB1.out.trans (hb2.mono HB1.out.size))
  have HX2 := Aside0.mk (Kd.C_below HX1.out.2 hb2)
  have HK2 := Aside0.mk (blk_below HK1.out hb2)
  obtain ⟨A2, c2, rfl⟩ := Kd.R_slice ho2
  have HY2 := Aside0.mk (Kd.R_reads' ho2).2
  clear ho2 hb2 y0 y1 y2 y3 y4 y5 y6 y7 y8 y9
  by_cases t : ev = 0
  · obtain rfl := H5.out t
    subst t
    go_wp2_with fail
    refine (corebankref22_SameAll.calls K A1 c1 xs A2 c2 xs true _ HX2.out HX1.out.1 HY2.out.2 HY2.out.1 H3.out).mono ?_
    rintro e w3 ⟨rfl, hd3⟩
    have HB3 : Aside0 (Below w.heap.size w w3) := ⟨HB2.out.trans ((by first | exact hd3.below | exact hd3 : Below w2.heap.size w2 w3).mono HB2.out.size)⟩
    have HX3 : Aside0 (Kd.C k26 w3 A1 xs.length xs) := ⟨Kd.C_below HX2.out (by first | exact hd3.below | exact hd3)⟩
    clear hd3
    go_wp2
    go_ret2
    exact ⟨A1, c1, rfl, HX3.out, HX1.out.1, HB3.out⟩
  · have h4 := H4.out t
    obtain rfl := H6.out t
    have t1 : (ev == 0) = false := beq_eq_false_iff_ne.mpr t
    have t2 : (ev != 0) = true := bne_iff_ne.mpr t
    subst h4
    clear t
    go_wp2
    go_ret2
    exact ⟨A0, c0, rfl, Kd.C_below HR0.out HB2.out, HC0.out, HB2.out⟩
set_option maxHeartbeats 4000000 in
set_option maxRecDepth 100000 in
theorem done_release (A0 : Option Addr) (c0 : Nat) (l0 : List S26) (a1 a2 a3 b0 b1 b2 b3 b4 : Int) (b5 : ByteArray) (w : World) (hr0 : Kd.C k26 w A0 l0.length l0) (hc0 : l0.length ≤ c0) (K : Nat) (xs : List S26) (ev : Int) (h1 : hold_Release.f l0 a1 = some (xs, ev)) (h2 : corebankref22_Release.f K l0 a1 = some (xs, ev)) (h3 : corebankref22_SameAll.f K xs xs = some true) (h4 : ev ≠ 0 → xs = []) (r : List S26) (h5 : ev = 0 → xs = r) (h6 : ev ≠ 0 → l0 = r) :
    Calls Try.prog 16 #[.slice A0 l0.length c0, .agg #[.int .i64 2, .int .i64 a1, .int .i64 a2, .int .i64 a3, .int .i64 b0, .int .i64 b1, .int .i64 b2, .int .i64 b3, .int .i64 b4, .string b5]] w (DonePost w r) := by
  have HR0 := Aside0.mk hr0
  have HC0 := Aside0.mk hc0
  have HKB : Aside0 ((w.alloc (.cells #[.int .i64 2, .int .i64 a1, .int .i64 a2, .int .i64 a3, .int .i64 b0, .int .i64 b1, .int .i64 b2, .int .i64 b3, .int .i64 b4, .string b5] 38)).heap[w.heap.size]? = some (.cells #[.int .i64 2, .int .i64 a1, .int .i64 a2, .int .i64 a3, .int .i64 b0, .int .i64 b1, .int .i64 b2, .int .i64 b3, .int .i64 b4, .string b5] 38 (0, 0))) := ⟨blk_new w _⟩
  clear hr0 hc0
  have H1 := Aside0.mk h1
  have H2 := Aside0.mk h2
  have H3 := Aside0.mk h3
  have H4 := Aside0.mk h4
  have H5 := Aside0.mk h5
  have H6 := Aside0.mk h6
  clear h1 h2 h3 h4 h5 h6
  go_enter Try.func16, Try.ntmps16
  go_wp2_with fail
  refine (hold_Release.calls A0 c0 l0 a1 xs ev _ (Kd.C_below HR0.out (below_alloc (Below.refl _ _) _)) HC0.out H1.out).mono ?_
  rintro e w1 ⟨v1, rfl, ho1, hb1⟩
  have HB1 := Aside0.mk ((below_alloc (Below.refl w.heap.size w) _).trans (hb1.mono (show w.heap.size ≤ _ by simp)))
  have HK1 := Aside0.mk (blk_below HKB.out hb1)
  obtain ⟨A1, c1, rfl⟩ := Kd.R_slice ho1
  have HX1 := Aside0.mk (Kd.R_reads' ho1).2
  clear ho1 hb1 HKB
  obtain ⟨y0, y1, y2, y3, y4, y5, y6, y7, y8, y9⟩ := box10 HK1.out
  go_wp2_with fail
  refine (corebankref22_Release.calls K A0 c0 l0 a1 xs ev _ (Kd.C_below HR0.out HB1.out) HC0.out H2.out).mono ?_
  rintro e w2 ⟨v2, rfl, ho2, hb2⟩
  have HB2 := Aside0.mk (HB1.out.trans (hb2.mono HB1.out.size))
  have HX2 := Aside0.mk (Kd.C_below HX1.out.2 hb2)
  have HK2 := Aside0.mk (blk_below HK1.out hb2)
  obtain ⟨A2, c2, rfl⟩ := Kd.R_slice ho2
  have HY2 := Aside0.mk (Kd.R_reads' ho2).2
  clear ho2 hb2 y0 y1 y2 y3 y4 y5 y6 y7 y8 y9
  by_cases t : ev = 0
  · obtain rfl := H5.out t
    subst t
    go_wp2_with fail
    refine (corebankref22_SameAll.calls K A1 c1 xs A2 c2 xs true _ HX2.out HX1.out.1 HY2.out.2 HY2.out.1 H3.out).mono ?_
    rintro e w3 ⟨rfl, hd3⟩
    have HB3 : Aside0 (Below w.heap.size w w3) := ⟨HB2.out.trans ((by first | exact hd3.below | exact hd3 : Below w2.heap.size w2 w3).mono HB2.out.size)⟩
    have HX3 : Aside0 (Kd.C k26 w3 A1 xs.length xs) := ⟨Kd.C_below HX2.out (by first | exact hd3.below | exact hd3)⟩
    clear hd3
    go_wp2
    go_ret2
    exact ⟨A1, c1, rfl, HX3.out, HX1.out.1, HB3.out⟩
  · have h4 := H4.out t
    obtain rfl := H6.out t
    have t1 : (ev == 0) = false := beq_eq_false_iff_ne.mpr t
    have t2 : (ev != 0) = true := bne_iff_ne.mpr t
    subst h4
    clear t
    go_wp2
    go_ret2
    exact ⟨A0, c0, rfl, Kd.C_below HR0.out HB2.out, HC0.out, HB2.out⟩
set_option maxHeartbeats 4000000 in
set_option maxRecDepth 100000 in
theorem done_expire (A0 : Option Addr) (c0 : Nat) (l0 : List S26) (a1 a2 a3 b0 b1 b2 b3 b4 : Int) (b5 : ByteArray) (w : World) (hr0 : Kd.C k26 w A0 l0.length l0) (hc0 : l0.length ≤ c0) (K : Nat) (xs : List S26) (is : List Int) (h1 : hold_Expire.f l0 a3 = some (xs, is)) (h2 : corebankref22_Expire.f K l0 a3 = some (xs, is)) (h3 : corebankref22_SameAll.f K xs xs = some true) (h4 : corebankref07_SameInts.f K is is = some true) :
    Calls Try.prog 16 #[.slice A0 l0.length c0, .agg #[.int .i64 3, .int .i64 a1, .int .i64 a2, .int .i64 a3, .int .i64 b0, .int .i64 b1, .int .i64 b2, .int .i64 b3, .int .i64 b4, .string b5]] w (DonePost w xs) := by
  have HR0 := Aside0.mk hr0
  have HC0 := Aside0.mk hc0
  have HKB : Aside0 ((w.alloc (.cells #[.int .i64 3, .int .i64 a1, .int .i64 a2, .int .i64 a3, .int .i64 b0, .int .i64 b1, .int .i64 b2, .int .i64 b3, .int .i64 b4, .string b5] 38)).heap[w.heap.size]? = some (.cells #[.int .i64 3, .int .i64 a1, .int .i64 a2, .int .i64 a3, .int .i64 b0, .int .i64 b1, .int .i64 b2, .int .i64 b3, .int .i64 b4, .string b5] 38 (0, 0))) := ⟨blk_new w _⟩
  clear hr0 hc0
  have H1 := Aside0.mk h1
  have H2 := Aside0.mk h2
  have H3 := Aside0.mk h3
  have H4 := Aside0.mk h4
  clear h1 h2 h3 h4
  go_enter Try.func16, Try.ntmps16
  go_wp2_with fail
  refine (hold_Expire.calls A0 c0 l0 a3 xs is _ (Kd.C_below HR0.out (below_alloc (Below.refl _ _) _)) HC0.out H1.out).mono ?_
  rintro e w1 ⟨v1, u1, rfl, ho1, hi1, hb1⟩
  have HB1 := Aside0.mk ((below_alloc (Below.refl w.heap.size w) _).trans (hb1.mono (show w.heap.size ≤ _ by simp)))
  have HK1 := Aside0.mk (blk_below HKB.out hb1)
  obtain ⟨A1, c1, rfl⟩ := Kd.R_slice ho1
  have HX1 := Aside0.mk (Kd.R_reads' ho1).2
  obtain ⟨I1, d1, rfl⟩ := Kd.R_slice hi1
  have HI1 := Aside0.mk (Kd.R_reads' hi1).2
  clear ho1 hi1 hb1 HKB
  obtain ⟨y0, y1, y2, y3, y4, y5, y6, y7, y8, y9⟩ := box10 HK1.out
  go_wp2_with fail
  refine (corebankref22_Expire.calls K A0 c0 l0 a3 xs is _ (Kd.C_below HR0.out HB1.out) HC0.out H2.out).mono ?_
  rintro e w2 ⟨v2, u2, rfl, ho2, hi2, hb2⟩
  have HB2 := Aside0.mk (HB1.out.trans (hb2.mono HB1.out.size))
  have HX2 := Aside0.mk (Kd.C_below HX1.out.2 hb2)
  have HI2 := Aside0.mk (Kd.C_below HI1.out.2 hb2)
  obtain ⟨A2, c2, rfl⟩ := Kd.R_slice ho2
  have HY2 := Aside0.mk (Kd.R_reads' ho2).2
  obtain ⟨I2, d2, rfl⟩ := Kd.R_slice hi2
  have HJ2 := Aside0.mk (Kd.R_reads' hi2).2
  clear ho2 hi2 hb2 y0 y1 y2 y3 y4 y5 y6 y7 y8 y9
  go_wp2_with fail
  refine (corebankref22_SameAll.calls K A1 c1 xs A2 c2 xs true _ HX2.out HX1.out.1 HY2.out.2 HY2.out.1 H3.out).mono ?_
  rintro e w3 ⟨rfl, hd3⟩
  have HD3 : Aside0 (Below w2.heap.size w2 w3) := ⟨by first | exact hd3.below | exact hd3⟩
  have HB3 : Aside0 (Below w.heap.size w w3) := ⟨HB2.out.trans (HD3.out.mono HB2.out.size)⟩
  have HX3 : Aside0 (Kd.C k26 w3 A1 xs.length xs) := ⟨Kd.C_below HX2.out HD3.out⟩
  clear hd3
  go_wp2_with fail
  refine (corebankref07_SameInts.calls K I1 d1 is I2 d2 is true _ (Kd.C_below HI2.out HD3.out) HI1.out.1 (Kd.C_below HJ2.out.2 HD3.out) HJ2.out.1 H4.out).mono ?_
  rintro e w4 ⟨rfl, hd4⟩
  have HD4 : Aside0 (Below w3.heap.size w3 w4) := ⟨by first | exact hd4.below | exact hd4⟩
  have HB4 : Aside0 (Below w.heap.size w w4) := ⟨HB3.out.trans (HD4.out.mono HB3.out.size)⟩
  have HX4 : Aside0 (Kd.C k26 w4 A1 xs.length xs) := ⟨Kd.C_below HX3.out HD4.out⟩
  clear hd4
  go_wp2
  go_ret2
  exact ⟨A1, c1, rfl, HX4.out, HX1.out.1, HB4.out⟩
set_option maxHeartbeats 4000000 in
set_option maxRecDepth 100000 in
theorem done_other (A0 : Option Addr) (c0 : Nat) (l0 : List S26) (a0 a1 a2 a3 b0 b1 b2 b3 b4 : Int) (b5 : ByteArray) (w : World) (hr0 : Kd.C k26 w A0 l0.length l0) (hc0 : l0.length ≤ c0) (h0 : a0 ≠ 0) (h1 : a0 ≠ 1) (h2 : a0 ≠ 2) (h3 : a0 ≠ 3) :
    Calls Try.prog 16 #[.slice A0 l0.length c0, .agg #[.int .i64 a0, .int .i64 a1, .int .i64 a2, .int .i64 a3, .int .i64 b0, .int .i64 b1, .int .i64 b2, .int .i64 b3, .int .i64 b4, .string b5]] w (DonePost w l0) := by
  have HR0 := Aside0.mk hr0
  have HC0 := Aside0.mk hc0
  have HKB : Aside0 ((w.alloc (.cells #[.int .i64 a0, .int .i64 a1, .int .i64 a2, .int .i64 a3, .int .i64 b0, .int .i64 b1, .int .i64 b2, .int .i64 b3, .int .i64 b4, .string b5] 38)).heap[w.heap.size]? = some (.cells #[.int .i64 a0, .int .i64 a1, .int .i64 a2, .int .i64 a3, .int .i64 b0, .int .i64 b1, .int .i64 b2, .int .i64 b3, .int .i64 b4, .string b5] 38 (0, 0))) := ⟨blk_new w _⟩
  clear hr0 hc0
  have t0 : (a0 == 0) = false := beq_eq_false_iff_ne.mpr h0
  have t1 : (a0 == 1) = false := beq_eq_false_iff_ne.mpr h1
  have t2 : (a0 == 2) = false := beq_eq_false_iff_ne.mpr h2
  have t3 : (a0 == 3) = false := beq_eq_false_iff_ne.mpr h3
  clear h0 h1 h2 h3 HKB
  go_enter Try.func16, Try.ntmps16
  go_wp2
  go_ret2
  exact ⟨A0, c0, rfl, Kd.C_below HR0.out (below_alloc (Below.refl _ _) _), HC0.out, below_alloc (Below.refl _ _) _⟩
end Go.Proofs.Ytafkjallmbokaaa.Q
