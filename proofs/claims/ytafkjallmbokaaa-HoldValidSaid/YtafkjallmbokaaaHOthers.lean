/- The law's 'others' answers true where each hold with another Id is found in the second list. -/
import Derived.Test.YtafkjallmbokaaaPureA
import Derived.Test.YtafkjallmbokaaaQx1
namespace Go.Proofs.Ytafkjallmbokaaa.Q
open Go.RowKit Go.Proofs.YtafkjallmbokaaaW.PrintWords Go.Proofs.YtafkjallmbokaaaW.PrintLast Go.Proofs.YtafkjallmbokaaaW.PrintMore
attribute [local go_sem high] eqA26
set_option linter.unusedVariables false
set_option linter.unusedSimpArgs false

theorem tup_ex (o : Option S26) : ∃ b0 b1 b2 b3 b4 b5 b6, tup o = (b0, b1, b2, b3, b4, b5, b6) := ⟨_, _, _, _, _, _, _, rfl⟩
set_option maxHeartbeats 4000000 in
set_option maxRecDepth 100000 in
theorem others_calls (A0 : Option Addr) (c0 : Nat) (l0 : List S26) (A1 : Option Addr) (c1 : Nat) (l1 : List S26) (a2 : Int) (w : World) (hr0 : Kd.C k26 w A0 l0.length l0) (hc0 : l0.length ≤ c0) (hr1 : Kd.C k26 w A1 l1.length l1) (hc1 : l1.length ≤ c1)
    (h : ∀ x ∈ l0, x.f0 ≠ a2 → findL l1 x.f0 = some x) :
    Calls Try.prog 20 #[.slice A0 l0.length c0, .slice A1 l1.length c1, .int .i64 a2] w fun e w' => e = .returned (.bool true) ∧ Below w.heap.size w w' := by
  have hm : l0.length ≤ 9223372036854775807 := hr0.2.1
  have HR0 := Aside0.mk hr0
  have HC0 := Aside0.mk hc0
  have HR1 := Aside0.mk hr1
  have HC1 := Aside0.mk hc1
  have HA := Aside0.mk h
  clear hr0 hc0 hr1 hc1 h
  go_enter Try.func20, Try.ntmps20
  go_wp2
  go_loopg [7] l0.length (fun gg s7 wr => ∃ kk : Nat, s7 = .int .i64 kk ∧ Aside0 (kk ≤ l0.length ∧ l0.length - kk ≤ gg) ∧ Aside0 (Below w.heap.size w wr))
  case atStart => exact ⟨0, rfl, ⟨by omega, by omega⟩, ⟨Below.refl _ w⟩⟩
  case round =>
    obtain ⟨kk, rfl, HK, HB⟩ := hrel
    by_cases c : kk < l0.length
    · obtain ⟨x, hx⟩ : ∃ x, x = l0.getD kk z26 := ⟨_, rfl⟩
      have hmem : x ∈ l0 := by rw [hx, List.getD_eq_getElem?_getD, List.getElem?_eq_getElem c]; exact List.getElem_mem _
      have HX := Aside0.mk (HA.out x hmem)
      obtain ⟨b0, b1, b2, b3, b4, b5, b6, hb⟩ := tup_ex (findL l1 x.f0)
      have HFi : Aside0 (hold_Find.f l1 x.f0 = some (b0, b1, b2, b3, b4, b5, b6)) := ⟨(find_eq l1 x.f0).trans (congrArg some hb)⟩
      have HT := Aside0.mk hb
      obtain ⟨ad, e, h0, h1, h2, h3, h4, h5⟩ := at_T26 HR0.out kk (by omega) (by omega)
      cases e
      rw [show rd_T26 l0 (kk : Int) = x by rw [hx]; rfl] at h0 h1 h2 h3 h4 h5
      simp only [Int.toNat_natCast] at h0 h1 h2 h3 h4 h5
      have H0 := Aside0.mk h0
      have H1 := Aside0.mk h1
      have H2 := Aside0.mk h2
      have H3 := Aside0.mk h3
      have H4 := Aside0.mk h4
      have H5 := Aside0.mk h5
      clear hx hmem hb h1 h2 h3 h4 h5
      replace h0 := (HB.out.cell (World.block_lt_of_cell? w _ h0)).trans h0
      go_wp2_with fail
      refine (hold_Find.calls A1 c1 l1 x.f0 _ _ _ _ _ _ _ _ (Kd.C_below HR1.out HB.out) HC1.out HFi.out).mono ?_
      rintro e w2 ⟨rfl, hb2⟩
      have HB2 := Aside0.mk (HB.out.trans (hb2.mono HB.out.size))
      have HB3 := Aside0.mk (below_alloc HB2.out (.cells #[.int .i64 b0, .int .i64 b1, .int .i64 b2, .int .i64 b3, .int .i64 b4, .string b5] 26))
      clear hb2 h0
      have h0 := (HB3.out.cell (World.block_lt_of_cell? w _ H0.out)).trans H0.out
      have h1 := (HB3.out.cell (World.block_lt_of_cell? w _ H1.out)).trans H1.out
      have h2 := (HB3.out.cell (World.block_lt_of_cell? w _ H2.out)).trans H2.out
      have h3 := (HB3.out.cell (World.block_lt_of_cell? w _ H3.out)).trans H3.out
      have h4 := (HB3.out.cell (World.block_lt_of_cell? w _ H4.out)).trans H4.out
      have h5 := (HB3.out.cell (World.block_lt_of_cell? w _ H5.out)).trans H5.out
      by_cases t : x.f0 = a2
      · have t1 : (x.f0 != a2) = false := bne_eq_false_iff_eq.mpr t
        have t2 : (x.f0 == a2) = true := beq_iff_eq.mpr t
        clear t
        go_wp2_with fail
        go_quiet (fail)
        go_wp2
        go_roundg (l0.length - (kk + 1))
        case measure => have := HK.out; omega
        case rel => exact ⟨kk + 1, by go_num, ⟨by omega, by omega⟩, ⟨by repeat (first | exact HB3.out | apply pw_below_drewN)⟩⟩
      · have t1 : (x.f0 != a2) = true := bne_iff_ne.mpr t
        have t2 : (x.f0 == a2) = false := beq_eq_false_iff_ne.mpr t
        have hf := HX.out t
        have ht := HT.out
        rw [hf] at ht
        simp only [tup, Prod.mk.injEq] at ht
        obtain ⟨rfl, rfl, rfl, rfl, rfl, rfl, rfl⟩ := ht
        clear t hf
        go_wp2_with fail
        go_quiet (fail)
        go_wp2
        go_roundg (l0.length - (kk + 1))
        case measure => have := HK.out; omega
        case rel => exact ⟨kk + 1, by go_num, ⟨by omega, by omega⟩, ⟨by repeat (first | exact HB3.out | apply pw_below_drewN)⟩⟩
    · have hk := HK.out
      go_wp2
      go_ret
      exact ⟨rfl, HB.out⟩
end Go.Proofs.Ytafkjallmbokaaa.Q
