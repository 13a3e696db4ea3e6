/- The law HoldChecks answers true: the program's and the reference's Find, Check and Total agree on every list of at most 100 holds. -/
import Derived.Test.YtafkjallmbokaaaPureA
import Derived.Test.YtafkjallmbokaaaPureB
import Derived.Test.YtafkjallmbokaaaQx1
import Derived.Test.YtafkjallmbokaaaQx12
namespace Go.Proofs.Ytafkjallmbokaaa.Q
open Go.RowKit Go.Proofs.YtafkjallmbokaaaW.PrintWords Go.Proofs.YtafkjallmbokaaaW.PrintLast Go.Proofs.YtafkjallmbokaaaW.PrintMore
attribute [local go_sem high] eqA26
set_option linter.unusedVariables false
set_option linter.unusedSimpArgs false

theorem keys_ok {l : List S26} (h : greatB l = false) : l.length ≤ 100 ∧ ∀ x ∈ l, x.f5.size ≤ 200 := by
  unfold greatB at h
  have h := of_decide_eq_false h
  refine ⟨Nat.le_of_not_lt fun e => h (.inl e), fun x hx => Nat.le_of_not_lt fun e => h (.inr ?_)⟩
  obtain ⟨i, hi, rfl⟩ := List.getElem_of_mem hx
  exact ⟨i, hi, by rw [List.getD_eq_getElem?_getD, List.getElem?_eq_getElem hi]; exact e⟩
theorem okS_of {l : List S26} (h : ∀ x ∈ l, x.f5.size ≤ 200) : okS l = true := by
  unfold okS
  rw [List.all_eq_true]
  exact fun x hx => decide_eq_true (by have := h x hx; omega)
theorem tup_some (l : List S26) (id : Int) : ∃ b0 b1 b2 b3 b4 b5 b6, tup (findL l id) = (b0, b1, b2, b3, b4, b5, b6) := ⟨_, _, _, _, _, _, _, rfl⟩

set_option maxHeartbeats 4000000 in
set_option maxRecDepth 100000 in
theorem holdChecks_calls (A0 : Option Addr) (c0 : Nat) (l0 : List S26) (a1 a2 : Int) (w : World) (hr0 : Kd.C k26 w A0 l0.length l0) (hc0 : l0.length ≤ c0) :
    Calls Try.prog 3 #[.slice A0 l0.length c0, .int .i64 a1, .int .i64 a2] w fun e w' => e = .returned (.bool true) ∧ Below w.heap.size w w' := by
  have hm : l0.length ≤ 9223372036854775807 := hr0.2.1
  have HR0 := Aside0.mk hr0
  have HC0 := Aside0.mk hc0
  have HGr : Aside0 (corebankref22_Great.f (l0.length + 1) l0 = some (greatB l0)) := ⟨great_eq l0 _ (by omega)⟩
  have HLv := Aside0.mk live_true
  clear hr0 hc0
  by_cases tg : greatB l0 = true
  · rw [tg] at HGr
    go_enter Try.func3, Try.ntmps3
    go_wp2_with fail
    refine (corebankref22_Great.calls _ A0 c0 l0 _ _ HR0.out HC0.out HGr.out).mono ?_
    rintro e w1 ⟨rfl, hd1⟩
    have hb1 := hd1.below
    clear hd1
    go_wp2_with fail
    refine (corebanklaw22_live.calls _ _ _ HLv.out).mono ?_
    rintro e w2 ⟨rfl, hb2⟩
    go_wp2
    go_ret
    exact ⟨rfl, hb1.trans (hb2.mono hb1.size)⟩
  · rw [Bool.eq_false_iff.2 tg] at HGr
    obtain ⟨hl100, hk200⟩ := keys_ok (Bool.eq_false_iff.2 tg)
    have hs := okS_of hk200
    obtain ⟨b0, b1, b2, b3, b4, b5, b6, hb⟩ := tup_some l0 a1
    have HFi : Aside0 (hold_Find.f l0 a1 = some (b0, b1, b2, b3, b4, b5, b6)) := ⟨(find_eq l0 a1).trans (congrArg some hb)⟩
    have HRi : Aside0 (corebankref22_Find.f (l0.length + 1) l0 a1 = some (b0, b1, b2, b3, b4, b5, b6)) := ⟨(find_same l0 a1 hm _ (by omega)).trans HFi.out⟩
    obtain ⟨cv, hcv⟩ : ∃ cv, cv = checkL l0 := ⟨_, rfl⟩
    have HCh : Aside0 (hold_Check.f l0 = some cv) := ⟨by unfold hold_Check.f; rw [if_pos hs, hcv]⟩
    have HRc : Aside0 (corebankref22_Check.f 1000 l0 = some cv) := ⟨by rw [hcv]; exact rcheck_eq l0 300 (fun x hx => by have := hk200 x hx; omega) hs (by omega) 1000 (by omega)⟩
    obtain ⟨tv, htv⟩ : ∃ tv : Int → Int, tv = fun acc => l0.foldl (tstep acc a2) 0 := ⟨_, rfl⟩
    have HTo : Aside0 (∀ acc, hold_Total.f (l0.length + 1) l0 acc a2 = some (tv acc)) := ⟨fun acc => by rw [htv]; exact tot_eq l0 acc a2 hm _ (by omega)⟩
    have HRt : Aside0 (∀ acc, corebankref22_Total.f (l0.length + 1) l0 acc a2 = some (tv acc)) := ⟨fun acc => by rw [htv]; exact rtot_eq l0 acc a2 hm _ (by omega)⟩
    clear tg hl100 hk200 hs hb hcv htv
    go_enter Try.func3, Try.ntmps3
    go_wp2_with fail
    refine (corebankref22_Great.calls _ A0 c0 l0 _ _ HR0.out HC0.out HGr.out).mono ?_
    rintro e w1 ⟨rfl, hd1⟩
    have hb1 := hd1.below
    clear hd1
    have HB1 := Aside0.mk hb1
    clear hb1
    go_wp2_with fail
    refine (hold_Find.calls A0 c0 l0 a1 _ _ _ _ _ _ _ _ (Kd.C_below HR0.out HB1.out) HC0.out HFi.out).mono ?_
    rintro e w2 ⟨rfl, hb2⟩
    have HB2 := Aside0.mk (HB1.out.trans (hb2.mono HB1.out.size))
    clear hb2
    go_wp2_with fail
    refine (corebankref22_Find.calls _ A0 c0 l0 a1 _ _ _ _ _ _ _ _ (Kd.C_below HR0.out (below_alloc HB2.out _)) HC0.out HRi.out).mono ?_
    rintro e w3 ⟨rfl, hb3⟩
    have HB3 := Aside0.mk ((below_alloc HB2.out _).trans (hb3.mono (show w.heap.size ≤ _ by have := HB2.out.size; simp; omega)))
    have HK3 : Aside0 (w3.heap[w2.heap.size]? = some (.cells #[.int .i64 b0, .int .i64 b1, .int .i64 b2, .int .i64 b3, .int .i64 b4, .string b5] 26 (0, 0))) := ⟨blk_below (blk_new w2 _) hb3⟩
    clear hb3
    rcases Nat.eq_zero_or_pos l0.length with hl | hl
    · have hl' : decide (0 < l0.length) = false := decide_eq_false (by omega)
      have hl2 : decide ((0 : Int) < (l0.length : Int)) = false := decide_eq_false (by omega)
      clear hl
      go_wp2_with fail
      refine (hold_Check.calls _ c0 l0 _ _ (Kd.C_below HR0.out (below_alloc HB3.out _)) HC0.out HCh.out).mono ?_
      rintro e w4 ⟨rfl, hb4⟩
      have HB4 := Aside0.mk ((below_alloc HB3.out _).trans (hb4.mono (show w.heap.size ≤ _ by have := HB3.out.size; simp; omega)))
      have HK4 : Aside0 (w4.heap[w2.heap.size]? = some (.cells #[.int .i64 b0, .int .i64 b1, .int .i64 b2, .int .i64 b3, .int .i64 b4, .string b5] 26 (0, 0))) := ⟨blk_below (blk_alloc HK3.out _) hb4⟩
      have HL4 : Aside0 (w4.heap[w3.heap.size]? = some (.cells #[.int .i64 b0, .int .i64 b1, .int .i64 b2, .int .i64 b3, .int .i64 b4, .string b5] 26 (0, 0))) := ⟨blk_below (blk_new w3 _) hb4⟩
      clear hb4
      go_wp2_with fail
      refine (corebankref22_Check.calls _ _ c0 l0 _ _ (Kd.C_below HR0.out HB4.out) HC0.out HRc.out).mono ?_
      rintro e w5 ⟨rfl, hb5⟩
      have HB5 := Aside0.mk (HB4.out.trans (hb5.mono (show w.heap.size ≤ _ from HB4.out.size)))
      have HK5 := Aside0.mk (blk_below HK4.out hb5)
      have HL5 := Aside0.mk (blk_below HL4.out hb5)
      clear hb5
      have q0 := blk_cell HK5.out 0
      have q1 := blk_cell HK5.out 1
      have q2 := blk_cell HK5.out 2
      have q3 := blk_cell HK5.out 3
      have q4 := blk_cell HK5.out 4
      have q5 := blk_cell HK5.out 5
      simp at q0 q1 q2 q3 q4 q5
      have u0 := blk_cell HL5.out 0
      have u1 := blk_cell HL5.out 1
      have u2 := blk_cell HL5.out 2
      have u3 := blk_cell HL5.out 3
      have u4 := blk_cell HL5.out 4
      have u5 := blk_cell HL5.out 5
      simp at u0 u1 u2 u3 u4 u5
      go_wp2_with fail
      refine (hold_Total.calls _ _ c0 l0 _ a2 _ _ (Kd.C_below HR0.out HB5.out) HC0.out (HTo.out _)).mono ?_
      rintro e w6 ⟨rfl, hb6⟩
      have HB6 := Aside0.mk (HB5.out.trans (hb6.mono (show w.heap.size ≤ _ from HB5.out.size)))
      clear hb6 q0 q1 q2 q3 q4 q5 u0 u1 u2 u3 u4 u5
      go_wp2_with fail
      refine (corebankref22_Total.calls _ _ c0 l0 _ a2 _ _ (Kd.C_below HR0.out HB6.out) HC0.out (HRt.out _)).mono ?_
      rintro e w7 ⟨rfl, hd7⟩
      have HB7 := Aside0.mk (HB6.out.trans (hd7.below.mono (show w.heap.size ≤ _ from HB6.out.size)))
      clear hd7
      go_wp2_with fail
      refine (corebanklaw22_live.calls _ _ _ HLv.out).mono ?_
      rintro e w8 ⟨rfl, hb8⟩
      have HB8 := Aside0.mk (HB7.out.trans (hb8.mono (show w.heap.size ≤ _ from HB7.out.size)))
      clear hb8
      go_wp2
      go_ret
      exact ⟨rfl, HB8.out⟩
    · obtain ⟨p, hp⟩ : ∃ p, l0.length = p + 1 := ⟨l0.length - 1, by omega⟩
      obtain ⟨y, hy⟩ : ∃ y, y = l0.getD p z26 := ⟨_, rfl⟩
      obtain ⟨ad', e, _, p1, _, _, _, _⟩ := at_T26 HR0.out p (by omega) (by omega)
      cases e
      replace p1 := ((below_alloc HB3.out (.cells #[.int .i64 b0, .int .i64 b1, .int .i64 b2, .int .i64 b3, .int .i64 b4, .string b5] 26)).cell (World.block_lt_of_cell? w _ p1)).trans p1
      rw [show rd_T26 l0 (p : Int) = y by rw [hy]; rfl] at p1
      simp only [Int.toNat_natCast] at p1
      have hl' : decide (0 < l0.length) = true := decide_eq_true (by omega)
      have hl2 : decide ((0 : Int) < (l0.length : Int)) = true := decide_eq_true (by omega)
      have hwp : IntKind.i64.wrap (p : Int) = (p : Int) := IntWalk.i64_in _ (by omega)
      have hpl : p < l0.length := by omega
      have hpe : p = l0.length - 1 := by omega
      subst hpe
      clear hl hy hp
      go_wp2_with fail
      refine (hold_Check.calls _ c0 l0 _ _ (Kd.C_below HR0.out (below_alloc HB3.out _)) HC0.out HCh.out).mono ?_
      rintro e w4 ⟨rfl, hb4⟩
      have HB4 := Aside0.mk ((below_alloc HB3.out _).trans (hb4.mono (show w.heap.size ≤ _ by have := HB3.out.size; simp; omega)))
      have HK4 : Aside0 (w4.heap[w2.heap.size]? = some (.cells #[.int .i64 b0, .int .i64 b1, .int .i64 b2, .int .i64 b3, .int .i64 b4, .string b5] 26 (0, 0))) := ⟨blk_below (blk_alloc HK3.out _) hb4⟩
      have HL4 : Aside0 (w4.heap[w3.heap.size]? = some (.cells #[.int .i64 b0, .int .i64 b1, .int .i64 b2, .int .i64 b3, .int .i64 b4, .string b5] 26 (0, 0))) := ⟨blk_below (blk_new w3 _) hb4⟩
      clear hb4
      go_wp2_with fail
      refine (corebankref22_Check.calls _ _ c0 l0 _ _ (Kd.C_below HR0.out HB4.out) HC0.out HRc.out).mono ?_
      rintro e w5 ⟨rfl, hb5⟩
      have HB5 := Aside0.mk (HB4.out.trans (hb5.mono (show w.heap.size ≤ _ from HB4.out.size)))
      have HK5 := Aside0.mk (blk_below HK4.out hb5)
      have HL5 := Aside0.mk (blk_below HL4.out hb5)
      clear hb5
      have q0 := blk_cell HK5.out 0
      have q1 := blk_cell HK5.out 1
      have q2 := blk_cell HK5.out 2
      have q3 := blk_cell HK5.out 3
      have q4 := blk_cell HK5.out 4
      have q5 := blk_cell HK5.out 5
      simp at q0 q1 q2 q3 q4 q5
      have u0 := blk_cell HL5.out 0
      have u1 := blk_cell HL5.out 1
      have u2 := blk_cell HL5.out 2
      have u3 := blk_cell HL5.out 3
      have u4 := blk_cell HL5.out 4
      have u5 := blk_cell HL5.out 5
      simp at u0 u1 u2 u3 u4 u5
      go_wp2_with fail
      refine (hold_Total.calls _ _ c0 l0 _ a2 _ _ (Kd.C_below HR0.out HB5.out) HC0.out (HTo.out _)).mono ?_
      rintro e w6 ⟨rfl, hb6⟩
      have HB6 := Aside0.mk (HB5.out.trans (hb6.mono (show w.heap.size ≤ _ from HB5.out.size)))
      clear hb6 q0 q1 q2 q3 q4 q5 u0 u1 u2 u3 u4 u5
      go_wp2_with fail
      refine (corebankref22_Total.calls _ _ c0 l0 _ a2 _ _ (Kd.C_below HR0.out HB6.out) HC0.out (HRt.out _)).mono ?_
      rintro e w7 ⟨rfl, hd7⟩
      have HB7 := Aside0.mk (HB6.out.trans (hd7.below.mono (show w.heap.size ≤ _ from HB6.out.size)))
      clear hd7
      go_wp2_with fail
      refine (corebanklaw22_live.calls _ _ _ HLv.out).mono ?_
      rintro e w8 ⟨rfl, hb8⟩
      have HB8 := Aside0.mk (HB7.out.trans (hb8.mono (show w.heap.size ≤ _ from HB7.out.size)))
      clear hb8
      go_wp2
      go_ret
      exact ⟨rfl, HB8.out⟩
end Go.Proofs.Ytafkjallmbokaaa.Q
