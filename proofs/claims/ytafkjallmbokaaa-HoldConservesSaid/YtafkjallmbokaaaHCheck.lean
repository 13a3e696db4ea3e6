/- hold.Check: the first error of a list of holds. -/
import Derived.Test.YtafkjallmbokaaaHFunc
import Derived.Test.YtafkjallmbokaaaHKey
namespace Go.Proofs.Ytafkjallmbokaaa.Q
open Go.RowKit Go.Proofs.YtafkjallmbokaaaW.PrintWords Go.Proofs.YtafkjallmbokaaaW.PrintLast Go.Proofs.YtafkjallmbokaaaW.PrintMore
set_option linter.unusedVariables false
set_option linter.unusedSimpArgs false

/-- What is wrong with the hold at a place, or 0. -/
def checkAt (l : List S26) (i : Nat) : Int :=
  if fieldsB (l.getD i z26) = false then 1 else if keyB (l.getD i z26).f5 = false then 4 else if 0 < i ∧ (l.getD i z26).f0 ≤ (l.getD (i - 1) z26).f0 then 10 else
    if (l.take i).any (fun y => y.f5.toList == (l.getD i z26).f5.toList) = true then 12 else 0
/-- The first error from a place on; d places are left. -/
def checkFrom (l : List S26) : Nat → Nat → Int
  | 0, _ => 0
  | d + 1, i => if checkAt l i = 0 then checkFrom l d (i + 1) else checkAt l i
def checkL (l : List S26) : Int := if l.length > 64 then 5 else checkFrom l l.length 0

theorem below_weakenz {w w1 : World} (h : Below w.heap.size w w1) (n : Nat) : Below w.heap.size w (w1.drewN n) := pw_below_drewN h n
theorem bcell {W w1 : World} (hb : Below W.heap.size W w1) : (∀ b o, b < W.heap.size → w1.cell? ⟨b, o, none⟩ = W.cell? ⟨b, o, none⟩) ∧ (∀ b o, b < W.heap.size → w1.frozen? ⟨b, o, none⟩ = W.frozen? ⟨b, o, none⟩) :=
  ⟨fun b o h => hb.cell (p := ⟨b, o, none⟩) h, fun b o h => hb.frozen (p := ⟨b, o, none⟩) h⟩

theorem predKey (g0 : Nat) (hg : g0 = 29 ∨ g0 = 38) (y : S26) (B : Nat) (w : World) (hB : B < w.heap.size) (hcell : w.cell? ⟨B, 5, none⟩ = some (.string y.f5)) :
    Pred g0 #[.pointer (some ⟨B, 0, none⟩)] (fun x => x.f5.toList == y.f5.toList) w := fun W x hb => by
  have hc : W.cell? ⟨B, 5, none⟩ = some (.string y.f5) := (hb.cell (p := ⟨B, 5, none⟩) hB).trans hcell
  have hBW : B < W.heap.size := Nat.lt_of_lt_of_le hB hb.size
  have hne : B ≠ W.heap.size := by omega
  rcases hg with rfl | rfl
  · show Calls Try.prog 29 #[.agg #[.int .i64 x.f0, .int .i64 x.f1, .int .i64 x.f2, .int .i64 x.f3, .int .i64 x.f4, .string x.f5], .pointer (some ⟨B, 0, none⟩)] W _
    go_enter Try.func29, Try.ntmps29
    go_wp2
    all_goals (go_ret; exact ⟨by simp_all, hb.alloc hb.size _⟩)
  · show Calls Try.prog 38 #[.agg #[.int .i64 x.f0, .int .i64 x.f1, .int .i64 x.f2, .int .i64 x.f3, .int .i64 x.f4, .string x.f5], .pointer (some ⟨B, 0, none⟩)] W _
    go_enter Try.func38, Try.ntmps38
    go_wp2
    all_goals (go_ret; exact ⟨by simp_all, hb.alloc hb.size _⟩)

/-- All keys are texts that can be there. -/
def okS (l : List S26) : Bool := l.all fun x => decide (x.f5.size ≤ 9223372036854775807)
def hold_Check.f (l0 : List S26) : Option Int := if okS l0 = true then some (checkL l0) else none

set_option maxHeartbeats 1000000 in
set_option maxRecDepth 100000 in
theorem hold_Check.calls (A0 : Option Addr) (c0 : Nat) (l0 : List (S26)) (r : Int) (w : World) (hr0 : Kd.C k26 w A0 l0.length l0) (hc0 : l0.length ≤ c0) (h : hold_Check.f l0 = some r) :
    Calls Try.prog 11 #[.slice A0 l0.length c0] w fun e w' => e = .returned (.int .i64 r) ∧ Below w.heap.size w w' := by
  have HR0 := Aside0.mk hr0
  have HC0 := Aside0.mk hc0
  have hm : l0.length ≤ 9223372036854775807 := hr0.2.1
  have hok : okS l0 = true := by
    unfold hold_Check.f at h
    by_cases e : okS l0 = true
    · exact e
    · rw [if_neg e] at h; cases h
  have H : checkL l0 = r := by unfold hold_Check.f at h; rw [if_pos hok] at h; exact Option.some.inj h
  have HO := Aside0.mk hok
  clear h hr0 hc0 hok
  unfold checkL at H
  by_cases c1 : l0.length > 64
  · rw [if_pos c1] at H
    have HH := Aside0.mk H
    clear H
    go_enter Try.func11, Try.ntmps11
    go_wp2
    go_ret
    exact ⟨by rw [← HH.out]; rfl, Below.refl _ _⟩
  · rw [if_neg c1] at H
    have HH := Aside0.mk H
    clear H
    go_enter Try.func11, Try.ntmps11
    go_wp2
    go_loopg [3, 4, 10] l0.length (fun gg _ _ s10 wr => ∃ kk : Nat, s10 = .int .i64 kk ∧ Aside0 (kk ≤ l0.length ∧ l0.length - kk ≤ gg) ∧ Aside0 (Below w.heap.size w wr) ∧ Aside0 (checkFrom l0 (l0.length - kk) kk = r))
    case atStart => exact ⟨0, rfl, ⟨by omega, by omega⟩, ⟨Below.refl _ w⟩, HH⟩
    case round =>
      clear HH
      obtain ⟨kk, rfl, HK, HB, HN⟩ := hrel
      by_cases c : kk < l0.length
      · have hE := HN.out
        obtain ⟨x, hx⟩ : ∃ x, x = l0.getD kk z26 := ⟨_, rfl⟩
        obtain ⟨ad, e, h0, h1, h2, h3, h4, h5⟩ := at_T26 HR0.out kk (by omega) (by omega)
        cases e
        replace h0 := (HB.out.cell (World.block_lt_of_cell? w _ h0)).trans h0
        replace h1 := (HB.out.cell (World.block_lt_of_cell? w _ h1)).trans h1
        replace h2 := (HB.out.cell (World.block_lt_of_cell? w _ h2)).trans h2
        replace h3 := (HB.out.cell (World.block_lt_of_cell? w _ h3)).trans h3
        replace h4 := (HB.out.cell (World.block_lt_of_cell? w _ h4)).trans h4
        replace h5 := (HB.out.cell (World.block_lt_of_cell? w _ h5)).trans h5
        rw [show rd_T26 l0 (kk : Int) = x by rw [hx]; rfl] at h0 h1 h2 h3 h4 h5
        simp only [Int.toNat_natCast] at h0 h1 h2 h3 h4 h5
        have HF := Aside0.mk (fields_eq x)
        obtain ⟨d, hd⟩ : ∃ d, l0.length - kk = d + 1 := ⟨l0.length - kk - 1, by omega⟩
        rw [hd] at hE
        simp only [checkFrom] at hE
        have hX := Aside0.mk hx
        have hD := Aside0.mk hd
        clear hx hd
        have HBw : Aside0 (Below w.heap.size w (wr.alloc (.cells #[.int .i64 x.f0, .int .i64 x.f1, .int .i64 x.f2, .int .i64 x.f3, .int .i64 x.f4, .string x.f5] 26))) := ⟨HB.out.alloc HB.out.size _⟩
        have HS : w.heap.size ≤ wr.heap.size := HB.out.size
        by_cases t1 : fieldsB x = false
        · have E1 : Aside0 ((1 : Int) = r) := ⟨by rw [← hE]; unfold checkAt; rw [← hX.out, if_pos t1]; simp⟩
          rw [t1] at HF
          clear hE t1
          go_wp2_with (go_at_call 26; refine (hold_fields.calls _ _ _ _ _ _ _ _ HF.out).mono ?_; rintro e w1 ⟨rfl, hb1⟩)
          go_ret
          exact ⟨by rw [← E1.out]; rfl, HBw.out.trans (hb1.mono (by simp; omega))⟩
        · have t1' : fieldsB x = true := by simpa using t1
          have hE' : (if (if keyB x.f5 = false then (4 : Int) else if 0 < kk ∧ x.f0 ≤ (l0.getD (kk - 1) z26).f0 then 10 else if (l0.take kk).any (fun y => y.f5.toList == x.f5.toList) = true then 12 else 0) = 0 then checkFrom l0 d (kk + 1) else
              (if keyB x.f5 = false then (4 : Int) else if 0 < kk ∧ x.f0 ≤ (l0.getD (kk - 1) z26).f0 then 10 else if (l0.take kk).any (fun y => y.f5.toList == x.f5.toList) = true then 12 else 0)) = r := by
            rw [← hE]; unfold checkAt; rw [← hX.out, if_neg t1]
          rw [t1'] at HF
          clear hE t1 t1'
          have HE := Aside0.mk hE'
          clear hE'
          have HL := Aside0.mk (Nat.lt_succ_self x.f5.size)
          have hsz : Aside0 (x.f5.size ≤ 9223372036854775807) := ⟨by
            have h1 := HO.out
            unfold okS at h1
            rw [List.all_eq_true] at h1
            have h2 := h1 x (by rw [hX.out, List.getD_eq_getElem?_getD, List.getElem?_eq_getElem c]; exact List.getElem_mem _)
            exact of_decide_eq_true h2⟩
          have HY := Aside0.mk (key_eq x.f5 hsz.out (x.f5.size + 1) HL.out)
          go_wp2_with (go_at_call 26; refine (hold_fields.calls _ _ _ _ _ _ _ _ HF.out).mono ?_; rintro e w1 ⟨rfl, hb1⟩; obtain ⟨hc1, hf1⟩ := bcell hb1)
          have HB1 := Aside0.mk (HBw.out.trans (hb1.mono (show w.heap.size ≤ _ by simp; omega)))
          by_cases t2 : keyB x.f5 = false
          · have E1 : Aside0 ((4 : Int) = r) := ⟨by have := HE.out; rw [if_pos t2] at this; simpa using this⟩
            rw [t2] at HY
            clear HE t2
            refine (hold_key.calls _ _ _ _ HY.out).mono ?_
            rintro e w2 ⟨rfl, hd2⟩
            obtain ⟨n2, rfl⟩ := hd2.out
            go_wp2
            go_ret
            exact ⟨by rw [← E1.out]; rfl, pw_below_drewN HB1.out _⟩
          · have t2' : keyB x.f5 = true := by simpa using t2
            have HE1 := HE.out
            rw [if_neg t2] at HE1
            rw [t2'] at HY
            have HE2 := Aside0.mk HE1
            clear HE HE1 t2 t2'
            refine (hold_key.calls _ _ _ _ HY.out).mono ?_
            rintro e w2 ⟨rfl, hd2⟩
            obtain ⟨n2, rfl⟩ := hd2.out
            go_wp2_with fail
            cases kk with
            | zero =>
              have HE3 : Aside0 ((if (if (l0.take 0).any (fun y => y.f5.toList == x.f5.toList) = true then (12 : Int) else 0) = 0 then checkFrom l0 d (0 + 1) else (if (l0.take 0).any (fun y => y.f5.toList == x.f5.toList) = true then (12 : Int) else 0)) = r) := ⟨by
                have := HE2.out
                have hc : ¬ (0 < 0 ∧ x.f0 ≤ (l0.getD (0 - 1) z26).f0) := fun h => absurd h.1 (by omega)
                rw [if_neg hc] at this
                exact this⟩
              clear HE2
              go_quiet (fail)
              go_wp2_with fail
              have hlen : (l0.take 0).length = 0 := by rw [List.length_take]; omega
              refine calls_of_args (args' := #[.slice (some ad) (l0.take 0).length c0, .func (.func 29) #[] #[.pointer (some ⟨wr.heap.size, 0, none⟩)]]) (by rw [hlen]) ?_
              refine (containsFunc (fun y => y.f5.toList == x.f5.toList) 29 #[.pointer (some ⟨wr.heap.size, 0, none⟩)] (enters_of Try.func29 (by kernel_rfl) rfl) (some ad) c0 (l0.take 0) _ (Kd.C_take (Kd.C_below HR0.out (below_weakenz HB1.out _)) (by omega)) (predKey 29 (.inl rfl) x wr.heap.size _ (by have := hb1.size; simp at this ⊢; omega) (by simp [hc1]))).mono ?_
              rintro e w3 ⟨rfl, hb3⟩
              have HB3 := Aside0.mk ((pw_below_drewN HB1.out _).trans (hb3.mono (show w.heap.size ≤ _ by have := HB1.out.size; simpa using this)))
              clear hlen
              by_cases t5 : (l0.take 0).any (fun y => y.f5.toList == x.f5.toList) = true
              · have E1 : Aside0 ((12 : Int) = r) := ⟨by have := HE3.out; rw [if_pos t5] at this; simpa using this⟩
                clear HE3
                rw [t5]
                clear t5
                go_wp2
                go_ret
                exact ⟨by rw [← E1.out]; rfl, HB3.out⟩
              · have E2 : Aside0 (checkFrom l0 d (0 + 1) = r) := ⟨by have := HE3.out; rw [if_neg t5] at this; simpa using this⟩
                clear HE3
                rw [Bool.eq_false_iff.2 t5]
                clear t5
                go_wp2
                go_roundg (l0.length - (0 + 1))
                case measure => have := HK.out; omega
                case rel => exact ⟨0 + 1, by go_num, ⟨by omega, by omega⟩, HB3, ⟨by rw [show l0.length - (0 + 1) = d by have := hD.out; omega]; exact E2.out⟩⟩
            | succ p =>
              obtain ⟨y, hy⟩ : ∃ y, y = l0.getD p z26 := ⟨_, rfl⟩
              obtain ⟨ad', e, q0, _, _, _, _, _⟩ := at_T26 HR0.out p (by omega) (by omega)
              cases e
              replace q0 := (HB1.out.cell (World.block_lt_of_cell? w _ q0)).trans q0
              rw [show rd_T26 l0 (p : Int) = y by rw [hy]; rfl] at q0
              simp only [Int.toNat_natCast] at q0
              have hcap : p + 1 ≤ c0 := by have := HC0.out; omega
              have HY2 := Aside0.mk hy
              clear hy
              by_cases t3 : x.f0 ≤ y.f0
              · have E1 : Aside0 ((10 : Int) = r) := ⟨by
                  have := HE2.out
                  have hc : 0 < p + 1 ∧ x.f0 ≤ (l0.getD (p + 1 - 1) z26).f0 := ⟨by omega, by rw [Nat.add_sub_cancel, ← HY2.out]; exact t3⟩
                  rw [if_pos hc] at this
                  simpa using this⟩
                clear HE2
                have d3 : decide (x.f0 ≤ y.f0) = true := decide_eq_true t3
                clear t3
                go_quiet (fail)
                go_wp2
                go_ret
                exact ⟨by rw [← E1.out]; rfl, by repeat (first | exact HB1.out | apply pw_below_drewN)⟩
              · have HE3 : Aside0 ((if (if (l0.take (p + 1)).any (fun y => y.f5.toList == x.f5.toList) = true then (12 : Int) else 0) = 0 then checkFrom l0 d (p + 1 + 1) else (if (l0.take (p + 1)).any (fun y => y.f5.toList == x.f5.toList) = true then (12 : Int) else 0)) = r) := ⟨by
                  have := HE2.out
                  have hc : ¬ (0 < p + 1 ∧ x.f0 ≤ (l0.getD (p + 1 - 1) z26).f0) := fun h => t3 (by have := h.2; rw [Nat.add_sub_cancel, ← HY2.out] at this; exact this)
                  rw [if_neg hc] at this
                  exact this⟩
                clear HE2
                have d3 : decide (x.f0 ≤ y.f0) = false := decide_eq_false t3
                clear t3
                go_quiet (fail)
                go_wp2_with fail
                have hlen : (l0.take (p + 1)).length = (p + 1) := by rw [List.length_take]; omega
                refine calls_of_args (args' := #[.slice (some ad) (l0.take (p + 1)).length c0, .func (.func 29) #[] #[.pointer (some ⟨wr.heap.size, 0, none⟩)]]) (by rw [hlen]) ?_
                refine (containsFunc (fun y => y.f5.toList == x.f5.toList) 29 #[.pointer (some ⟨wr.heap.size, 0, none⟩)] (enters_of Try.func29 (by kernel_rfl) rfl) (some ad) c0 (l0.take (p + 1)) _ (Kd.C_take (Kd.C_below HR0.out (below_weakenz HB1.out _)) (by omega)) (predKey 29 (.inl rfl) x wr.heap.size _ (by have := hb1.size; simp at this ⊢; omega) (by simp [hc1]))).mono ?_
                rintro e w3 ⟨rfl, hb3⟩
                have HB3 := Aside0.mk ((pw_below_drewN HB1.out _).trans (hb3.mono (show w.heap.size ≤ _ by have := HB1.out.size; simpa using this)))
                clear hlen
                by_cases t5 : (l0.take (p + 1)).any (fun y => y.f5.toList == x.f5.toList) = true
                · have E1 : Aside0 ((12 : Int) = r) := ⟨by have := HE3.out; rw [if_pos t5] at this; simpa using this⟩
                  clear HE3
                  rw [t5]
                  clear t5
                  go_wp2
                  go_ret
                  exact ⟨by rw [← E1.out]; rfl, HB3.out⟩
                · have E2 : Aside0 (checkFrom l0 d ((p + 1) + 1) = r) := ⟨by have := HE3.out; rw [if_neg t5] at this; simpa using this⟩
                  clear HE3
                  rw [Bool.eq_false_iff.2 t5]
                  clear t5
                  go_wp2
                  go_roundg (l0.length - ((p + 1) + 1))
                  case measure => have := HK.out; omega
                  case rel => exact ⟨(p + 1) + 1, by go_num, ⟨by omega, by omega⟩, HB3, ⟨by rw [show l0.length - ((p + 1) + 1) = d by have := hD.out; omega]; exact E2.out⟩⟩
      · have HE := HK.out
        have E : Aside0 ((0 : Int) = r) := ⟨by have := HN.out; rw [show l0.length - kk = 0 by omega] at this; exact this⟩
        go_wp2
        go_ret
        exact ⟨by rw [← E.out]; rfl, HB.out⟩

end Go.Proofs.Ytafkjallmbokaaa.Q
