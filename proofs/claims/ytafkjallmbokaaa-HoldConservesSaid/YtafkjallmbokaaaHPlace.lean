/- hold.Place: a hold at the end of a list, or an error. -/
import Derived.Test.YtafkjallmbokaaaHCheck
import Derived.Test.YtafkjallmbokaaaHClone
import Derived.IntWalk
import Derived.Deep.RegionLaw
namespace Go.Proofs.Ytafkjallmbokaaa.Q
open Go.RowKit Go.Proofs.YtafkjallmbokaaaW.PrintWords Go.Proofs.YtafkjallmbokaaaW.PrintLast Go.Proofs.YtafkjallmbokaaaW.PrintMore
set_option linter.unusedVariables false
set_option linter.unusedSimpArgs false

def placeL (l : List S26) (h : S26) : List S26 × Int :=
  if checkL l ≠ 0 ∨ checkL [h] ≠ 0 then ([], 1) else if 0 < l.length ∧ h.f0 ≤ (l.getD (l.length - 1) z26).f0 then ([], 10) else
    if l.any (fun y => y.f5.toList == h.f5.toList) = true then ([], 12) else if l.length = 64 then ([], 5) else (l ++ [h], 0)
def hold_Place.f (l0 : List S26) (a1_0 : Int) (a1_1 : Int) (a1_2 : Int) (a1_3 : Int) (a1_4 : Int) (a1_5 : ByteArray) : Option (List S26 × Int) :=
  if okS l0 = true ∧ a1_5.size ≤ 9223372036854775807 then some (placeL l0 ⟨a1_0, a1_1, a1_2, a1_3, a1_4, a1_5⟩) else none

theorem C_one (w : World) (x : S26) : Kd.C k26 (w.alloc (.cells #[.int .i64 x.f0, .int .i64 x.f1, .int .i64 x.f2, .int .i64 x.f3, .int .i64 x.f4, .string x.f5] 26)) (some ⟨w.heap.size, 0, none⟩) [x].length [x] :=
  ⟨rfl, by simp, fun _ => ⟨_, rfl, fun j p hj => by
    match j, hj with
    | 0, hj =>
      simp only [List.getElem?_cons_zero, Option.some.injEq] at hj
      subst hj
      refine ⟨_, rfl, k26_mk _ x, fun i u hu => ?_⟩
      have h := blk_cell (blk_new w (.cells #[.int .i64 x.f0, .int .i64 x.f1, .int .i64 x.f2, .int .i64 x.f3, .int .i64 x.f4, .string x.f5] 26)) i
      rw [Nat.zero_mul, Nat.zero_add, add_plain, h, ← hu]
      simp
    | j + 1, hj => simp at hj⟩⟩

theorem box6 {w : World} {g : Nat} {x : S26} (h : w.heap[g]? = some (.cells #[.int .i64 x.f0, .int .i64 x.f1, .int .i64 x.f2, .int .i64 x.f3, .int .i64 x.f4, .string x.f5] 26 (0, 0))) :
    w.cell? ⟨g, 0, none⟩ = some (.int .i64 x.f0) ∧ w.cell? ⟨g, 1, none⟩ = some (.int .i64 x.f1) ∧ w.cell? ⟨g, 2, none⟩ = some (.int .i64 x.f2) ∧ w.cell? ⟨g, 3, none⟩ = some (.int .i64 x.f3) ∧ w.cell? ⟨g, 4, none⟩ = some (.int .i64 x.f4) ∧ w.cell? ⟨g, 5, none⟩ = some (.string x.f5) :=
  ⟨(blk_cell h 0).trans rfl, (blk_cell h 1).trans rfl, (blk_cell h 2).trans rfl, (blk_cell h 3).trans rfl, (blk_cell h 4).trans rfl, (blk_cell h 5).trans rfl⟩
/-- append of the one hold to the cloned list, in either order of the two. -/
theorem placeApp {ops : Array Oper} {o : Oper} {a : Act} {Q : Exit → Act → World → Prop} {Kc : Act → World → Prop} {w w3 w4 W : World} (v4 : Value) (l0 : List S26) (x : S26) {g : Nat} (hw : Region.wanted o (yielded ops a.tmps) = true)
    (ho : o.op = .call { callee := .builtin .append, args := #[.tmp 41, .tmp 43], argTypes := #[22, 22] }) (hs : a.eval (.tmp 41) = v4) (hx : a.eval (.tmp 43) = .slice (some ⟨g, 0, none⟩) 1 1) (HB3 : Below w.heap.size w w3) (hl : l0.length ≤ 64)
    (hA : (g = w4.heap.size ∧ W = w4.alloc (.cells #[.int .i64 x.f0, .int .i64 x.f1, .int .i64 x.f2, .int .i64 x.f3, .int .i64 x.f4, .string x.f5] 26) ∧ Kd.R k26 26 w4 w3.drew.heap.size (fun _ => True) v4 l0 ∧ Below w3.drew.heap.size w3.drew w4) ∨
      (g = w3.drew.heap.size ∧ W = w4 ∧ Kd.R k26 26 w4 (w3.drew.alloc (.cells #[.int .i64 x.f0, .int .i64 x.f1, .int .i64 x.f2, .int .i64 x.f3, .int .i64 x.f4, .string x.f5] 26)).heap.size (fun _ => True) v4 l0 ∧
        Below (w3.drew.alloc (.cells #[.int .i64 x.f0, .int .i64 x.f1, .int .i64 x.f2, .int .i64 x.f3, .int .i64 x.f4, .string x.f5] 26)).heap.size (w3.drew.alloc (.cells #[.int .i64 x.f0, .int .i64 x.f1, .int .i64 x.f2, .int .i64 x.f3, .int .i64 x.f4, .string x.f5] 26)) w4))
    (h : ∀ v5 w5, Kd.R k26 26 w5 w.heap.size (fun _ => True) v5 (l0 ++ [x]) → Below w.heap.size w w5 → Kc (a.put o.dst v5) w5) :
    if Region.wanted o (yielded ops a.tmps) = true then Oper.wp Try.prog o a W Kc Q else Kc (a.put o.dst undef) W := by
  have HBD := below_drew HB3
  have hkm : ∀ (W0 : World) (x : S26) cs, k26.K W0 x cs → k26.M W w.heap.size (fun k_ => some k_ ≠ v4.ownBlock) x cs := fun _ x cs hk => by obtain rfl := k26_open hk; exact k26_mkM _ _ _ x
  rcases hA with ⟨rfl, rfl, ho4, hb4⟩ | ⟨rfl, rfl, ho4, hb4⟩
  · refine Kd.R_append_rows_step k26 (Rr := k26.K _) (w0 := w) w.heap.size hw (.tmp 41) (.tmp 43) 22 26 _ _ ho Try.underlying22 info26 rfl (by decide) (by decide) v4 l0 [x] _ 1 1 (fun _ => True) _ hs hx (Kd.R_alloc (Kd.R_lower ho4 HBD.size) _) (C_one w4 x) (hkm _) (fun _ hk => ⟨trivial, hk⟩) (fun _ _ => trivial)
      ((HBD.trans (hb4.mono HBD.size)).alloc ?_ _) ?_ (by omega) (fun v1 w1 h1 h2 _ _ => h v1 w1 h1 h2)
    · exact Nat.le_trans HBD.size hb4.size
    · have := Nat.le_trans HBD.size hb4.size; simp; omega
  · refine Kd.R_append_rows_step k26 (Rr := k26.K _) (w0 := w) w.heap.size hw (.tmp 41) (.tmp 43) 22 26 _ _ ho Try.underlying22 info26 rfl (by decide) (by decide) v4 l0 [x] _ 1 1 (fun _ => True) _ hs hx (Kd.R_lower ho4 ?_) (Kd.C_below (C_one w3.drew x) hb4) (hkm _) (fun _ hk => ⟨trivial, hk⟩) (fun _ _ => trivial)
      ((HBD.alloc HBD.size _).trans (hb4.mono ?_)) ?_ (by omega) (fun v1 w1 h1 h2 _ _ => h v1 w1 h1 h2)
    · have := HBD.size; simp at this ⊢; omega
    · have := HBD.size; simp at this ⊢; omega
    · have := HBD.size; have h2 := hb4.size; simp at this h2 ⊢; omega

set_option maxHeartbeats 4000000 in
set_option maxRecDepth 100000 in
theorem hold_Place.calls (A0 : Option Addr) (c0 : Nat) (l0 : List (S26)) (a1_0 : Int) (a1_1 : Int) (a1_2 : Int) (a1_3 : Int) (a1_4 : Int) (a1_5 : ByteArray) (r1 : List (S26)) (r2 : Int) (w : World) (hr0 : Kd.C k26 w A0 l0.length l0) (hc0 : l0.length ≤ c0) (h : hold_Place.f l0 a1_0 a1_1 a1_2 a1_3 a1_4 a1_5 = some (r1, r2)) :
    Calls Try.prog 17 #[.slice A0 l0.length c0, .agg #[.int .i64 a1_0, .int .i64 a1_1, .int .i64 a1_2, .int .i64 a1_3, .int .i64 a1_4, .string a1_5]] w fun e w' => ∃ v0_ : Value, e = .returned (.tuple #[v0_, .int .i64 r2]) ∧ Kd.R k26 26 w' w.heap.size (fun _ => True) v0_ r1 ∧ Below w.heap.size w w' := by
  have hok : okS l0 = true ∧ a1_5.size ≤ 9223372036854775807 := by
    unfold hold_Place.f at h
    by_cases e : okS l0 = true ∧ a1_5.size ≤ 9223372036854775807
    · exact e
    · rw [if_neg e] at h; cases h
  unfold hold_Place.f at h
  rw [if_pos hok] at h
  have H : placeL l0 ⟨a1_0, a1_1, a1_2, a1_3, a1_4, a1_5⟩ = (r1, r2) := Option.some.inj h
  have HO := Aside0.mk hok
  have HR0 := Aside0.mk hr0
  have HC0 := Aside0.mk hc0
  have hm : l0.length ≤ 9223372036854775807 := hr0.2.1
  clear h hr0 hc0 hok
  have HF : Aside0 (hold_Check.f l0 = some (checkL l0)) := ⟨by unfold hold_Check.f; rw [if_pos HO.out.1]⟩
  have HG : Aside0 (hold_Check.f [⟨a1_0, a1_1, a1_2, a1_3, a1_4, a1_5⟩] = some (checkL [⟨a1_0, a1_1, a1_2, a1_3, a1_4, a1_5⟩])) := ⟨by unfold hold_Check.f; rw [if_pos (by simp [okS, HO.out.2])]⟩
  have hLe : checkL l0 = 0 → l0.length ≤ 64 := fun h => by
    unfold checkL at h
    by_cases e : l0.length > 64
    · rw [if_pos e] at h; cases h
    · omega
  unfold placeL at H
  obtain ⟨W0, hW0⟩ : ∃ W0, W0 = w.alloc (.cells #[.int .i64 a1_0, .int .i64 a1_1, .int .i64 a1_2, .int .i64 a1_3, .int .i64 a1_4, .string a1_5] 26) := ⟨_, rfl⟩
  by_cases t1 : checkL l0 = 0
  · by_cases t2 : checkL [⟨a1_0, a1_1, a1_2, a1_3, a1_4, a1_5⟩] = 0
    · rw [if_neg (fun h => h.elim (fun h => h t1) (fun h => h t2))] at H
      rw [t1] at HF
      rw [t2] at HG
      have HH := Aside0.mk H
      have HLe := Aside0.mk (hLe t1)
      clear H t1 t2 hW0 hLe
      go_enter Try.func17, Try.ntmps17
      go_wp2_with fail
      refine (hold_Check.calls A0 c0 l0 _ _ (Kd.C_below HR0.out (below_alloc (Below.refl _ _) _)) HC0.out HF.out).mono ?_
      rintro e w1 ⟨rfl, hb1⟩
      have HB1 := Aside0.mk ((below_alloc (Below.refl w.heap.size w) _).trans (hb1.mono (show w.heap.size ≤ _ by simp)))
      obtain ⟨hc1, hf1⟩ := bcell hb1
      go_wp2_with fail
      refine (hold_Check.calls (some ⟨w1.heap.size, 0, none⟩) 1 [⟨a1_0, a1_1, a1_2, a1_3, a1_4, a1_5⟩] _ _ (C_one w1 ⟨a1_0, a1_1, a1_2, a1_3, a1_4, a1_5⟩) (Nat.le_refl 1) HG.out).mono ?_
      rintro e w2 ⟨rfl, hb2⟩
      have HB2 := Aside0.mk ((HB1.out.alloc HB1.out.size _).trans (hb2.mono (show w.heap.size ≤ _ by have := HB1.out.size; simp; omega)))
      have hz1 : w.heap.size + 1 ≤ w1.heap.size := by have := hb1.size; simp at this; omega
      have HK2 : Aside0 (w2.heap[w.heap.size]? = some (.cells #[.int .i64 a1_0, .int .i64 a1_1, .int .i64 a1_2, .int .i64 a1_3, .int .i64 a1_4, .string a1_5] 26 (0, 0))) := ⟨blk_below (blk_alloc (blk_below (blk_new w _) hb1) _) hb2⟩
      have q0 := blk_cell HK2.out 0
      have q1 := blk_cell HK2.out 1
      have q2 := blk_cell HK2.out 2
      have q3 := blk_cell HK2.out 3
      have q4 := blk_cell HK2.out 4
      have q5 := blk_cell HK2.out 5
      simp at q0 q1 q2 q3 q4 q5
      clear hb2 hc1 hf1 hb1
      go_wp2_with fail
      rcases Nat.eq_zero_or_pos l0.length with hl | hl
      · have HX : Aside0 ((if l0.any (fun y => y.f5.toList == a1_5.toList) = true then (([] : List S26), (12 : Int)) else if l0.length = 64 then ([], 5) else (l0 ++ [⟨a1_0, a1_1, a1_2, a1_3, a1_4, a1_5⟩], 0)) = (r1, r2)) := ⟨by
          have := HH.out
          have hc : ¬ (0 < l0.length ∧ a1_0 ≤ (l0.getD (l0.length - 1) z26).f0) := fun h => by omega
          rw [if_neg hc] at this
          exact this⟩
        have hl' : decide (0 < l0.length) = false := decide_eq_false (by omega)
        have hl2 : decide ((0 : Int) < (l0.length : Int)) = false := decide_eq_false (by omega)
        clear HH hl
        go_quiet (fail)
        go_wp2_with fail
        refine (containsFunc (fun y => y.f5.toList == a1_5.toList) 38 #[.pointer (some ⟨w.heap.size, 0, none⟩)] (enters_of Try.func38 (by kernel_rfl) rfl) A0 c0 l0 _ (Kd.C_below HR0.out (below_weakenz HB2.out _)) (predKey 38 (.inr rfl) ⟨a1_0, a1_1, a1_2, a1_3, a1_4, a1_5⟩ w.heap.size _ (by have := blk_lt HK2.out; simpa using this) (by simp [q5]))).mono ?_
        rintro e w3 ⟨rfl, hb3⟩
        have HB3 := Aside0.mk ((pw_below_drewN HB2.out _).trans (hb3.mono (show w.heap.size ≤ _ by have := HB2.out.size; simpa using this)))
        have HK3 := Aside0.mk (blk_below (blk_drewN HK2.out _) hb3)
        clear q0 q1 q2 q3 q4 q5 hb3
        by_cases t5 : l0.any (fun y => y.f5.toList == a1_5.toList) = true
        · have E1 : Aside0 ((([] : List S26), (12 : Int)) = (r1, r2)) := ⟨by have := HX.out; rw [if_pos t5] at this; exact this⟩
          obtain ⟨rfl, rfl⟩ := Prod.mk.inj E1.out
          clear HX E1
          rw [t5]
          clear t5
          go_wp2
          go_ret2
          exact ⟨_, rfl, Kd.R_nil _ _ _ _ _, HB3.out⟩
        · have E2 : Aside0 ((if l0.length = 64 then (([] : List S26), (5 : Int)) else (l0 ++ [⟨a1_0, a1_1, a1_2, a1_3, a1_4, a1_5⟩], 0)) = (r1, r2)) := ⟨by have := HX.out; rw [if_neg t5] at this; exact this⟩
          clear HX
          rw [Bool.eq_false_iff.2 t5]
          clear t5
          by_cases t6 : l0.length = 64
          · have E1 : Aside0 ((([] : List S26), (5 : Int)) = (r1, r2)) := ⟨by have := E2.out; rw [if_pos t6] at this; exact this⟩
            obtain ⟨rfl, rfl⟩ := Prod.mk.inj E1.out
            have t6' : (((l0.length : Nat) : Int) == 64) = true := by rw [beq_iff_eq]; omega
            clear E2 E1 t6
            go_wp2
            go_ret2
            exact ⟨_, rfl, Kd.R_nil _ _ _ _ _, HB3.out⟩
          · have E1 : Aside0 ((l0 ++ [⟨a1_0, a1_1, a1_2, a1_3, a1_4, a1_5⟩], (0 : Int)) = (r1, r2)) := ⟨by have := E2.out; rw [if_neg t6] at this; exact this⟩
            obtain ⟨rfl, rfl⟩ := Prod.mk.inj E1.out
            have t6' : (((l0.length : Nat) : Int) == 64) = false := by rw [beq_eq_false_iff_ne]; omega
            have HCl : Aside0 (api_Hold_39.f l0 = some l0) := ⟨by unfold api_Hold_39.f; rw [if_pos (by have := HLe.out; omega)]⟩
            have hl64 : Aside0 (l0.length ≤ 64) := ⟨HLe.out⟩
            clear E2 E1 t6
            have p0' := blk_cell HK3.out 0
            have p1' := blk_cell HK3.out 1
            have p2' := blk_cell HK3.out 2
            have p3' := blk_cell HK3.out 3
            have p4' := blk_cell HK3.out 4
            have p5' := blk_cell HK3.out 5
            simp at p0' p1' p2' p3' p4' p5'
            go_wp2_with fail
            have HBD := Aside0.mk (below_drew HB3.out)
            have HRD := Aside0.mk (Kd.C_below HR0.out HBD.out)
            go_region_law (first | (refine goes_ Try.func39 (by kernel_rfl) rfl #[.slice A0 l0.length c0] (by rfl) rfl rfl (by (try simp only [List.map_toArray, List.map_cons, List.map_nil]); first | done | rfl) ?_; refine (api_Hold_39.calls A0 c0 l0 l0 _ (by first | exact HRD.out | exact Kd.C_below HRD.out (below_alloc (Below.refl _ _) _)) HC0.out HCl.out).mono ?_; rintro e w4 ⟨v4, rfl, ho4, hb4⟩; obtain ⟨y0, y1, y2, y3, y4, y5⟩ := box6 (w := w4) (g := w.heap.size) (x := ⟨a1_0, a1_1, a1_2, a1_3, a1_4, a1_5⟩) (by first | exact blk_below (blk_drew HK3.out) hb4 | exact blk_below (blk_alloc (blk_drew HK3.out) _) hb4); refine ⟨_, rfl, ?_⟩) | (refine placeApp (w := w) (w3 := w3) v4 l0 ⟨a1_0, a1_1, a1_2, a1_3, a1_4, a1_5⟩ (by rfl) (by rfl) (by rfl) (by rfl) (w4 := w4) HB3.out hl64.out (by first | exact .inl ⟨rfl, rfl, ho4, hb4⟩ | exact .inr ⟨rfl, rfl, ho4, hb4⟩) ?_; intro v5 w5 ho5 hb5))
            all_goals (go_wp2; go_ret2; exact ⟨_, rfl, ho5, hb5⟩)
      · obtain ⟨p, hp⟩ : ∃ p, l0.length = p + 1 := ⟨l0.length - 1, by omega⟩
        obtain ⟨y, hy⟩ : ∃ y, y = l0.getD p z26 := ⟨_, rfl⟩
        obtain ⟨ad', e, p0, _, _, _, _, _⟩ := at_T26 HR0.out p (by omega) (by omega)
        cases e
        replace p0 := (HB2.out.cell (World.block_lt_of_cell? w _ p0)).trans p0
        rw [show rd_T26 l0 (p : Int) = y by rw [hy]; rfl] at p0
        simp only [Int.toNat_natCast] at p0
        have hl' : decide (0 < l0.length) = true := decide_eq_true (by omega)
        have hl2 : decide ((0 : Int) < (l0.length : Int)) = true := decide_eq_true (by omega)
        by_cases t3 : a1_0 ≤ y.f0
        · have E1 : Aside0 ((([] : List S26), (10 : Int)) = (r1, r2)) := ⟨by
            have := HH.out
            have hc : 0 < l0.length ∧ a1_0 ≤ (l0.getD (l0.length - 1) z26).f0 := ⟨by omega, by rw [hp, Nat.add_sub_cancel, ← hy]; exact t3⟩
            rw [if_pos hc] at this
            exact this⟩
          obtain ⟨rfl, rfl⟩ := Prod.mk.inj E1.out
          have d3 : decide (a1_0 ≤ y.f0) = true := decide_eq_true t3
          have HP := Aside0.mk hp
          have HY := Aside0.mk hy
          clear HH t3 E1 hy hl
          have hwp : IntKind.i64.wrap (p : Int) = (p : Int) := IntWalk.i64_in _ (by omega)
          rw [hp] at hl' hl2 ⊢
          clear hp
          go_quiet (fail)
          go_wp2
          go_ret2
          exact ⟨_, rfl, Kd.R_nil _ _ _ _ _, by repeat (first | exact HB2.out | apply pw_below_drewN)⟩
        · have HX : Aside0 ((if l0.any (fun y => y.f5.toList == a1_5.toList) = true then (([] : List S26), (12 : Int)) else if l0.length = 64 then ([], 5) else (l0 ++ [⟨a1_0, a1_1, a1_2, a1_3, a1_4, a1_5⟩], 0)) = (r1, r2)) := ⟨by
            have := HH.out
            have hc : ¬ (0 < l0.length ∧ a1_0 ≤ (l0.getD (l0.length - 1) z26).f0) := fun h => t3 (by have := h.2; rw [hp, Nat.add_sub_cancel, ← hy] at this; exact this)
            rw [if_neg hc] at this
            exact this⟩
          have d3 : decide (a1_0 ≤ y.f0) = false := decide_eq_false t3
          have hwl : IntKind.i64.wrap ((l0.length : Int) - 1) = (p : Int) := by rw [IntWalk.i64_in _ (by omega)]; omega
          have hpl : p < l0.length := by omega
          have hpi : (p : Int) < (l0.length : Int) := by omega
          clear HH t3 hy hl hp
          go_quiet (fail)
          go_wp2_with fail
          refine (containsFunc (fun y => y.f5.toList == a1_5.toList) 38 #[.pointer (some ⟨w.heap.size, 0, none⟩)] (enters_of Try.func38 (by kernel_rfl) rfl) (some ad') c0 l0 _ (Kd.C_below HR0.out (below_weakenz HB2.out _)) (predKey 38 (.inr rfl) ⟨a1_0, a1_1, a1_2, a1_3, a1_4, a1_5⟩ w.heap.size _ (by have := blk_lt HK2.out; simpa using this) (by simp [q5]))).mono ?_
          rintro e w3 ⟨rfl, hb3⟩
          have HB3 := Aside0.mk ((pw_below_drewN HB2.out _).trans (hb3.mono (show w.heap.size ≤ _ by have := HB2.out.size; simpa using this)))
          have HK3 := Aside0.mk (blk_below (blk_drewN HK2.out _) hb3)
          clear q0 q1 q2 q3 q4 q5 hb3
          by_cases t5 : l0.any (fun y => y.f5.toList == a1_5.toList) = true
          · have E1 : Aside0 ((([] : List S26), (12 : Int)) = (r1, r2)) := ⟨by have := HX.out; rw [if_pos t5] at this; exact this⟩
            obtain ⟨rfl, rfl⟩ := Prod.mk.inj E1.out
            clear HX E1
            rw [t5]
            clear t5
            go_wp2
            go_ret2
            exact ⟨_, rfl, Kd.R_nil _ _ _ _ _, HB3.out⟩
          · have E2 : Aside0 ((if l0.length = 64 then (([] : List S26), (5 : Int)) else (l0 ++ [⟨a1_0, a1_1, a1_2, a1_3, a1_4, a1_5⟩], 0)) = (r1, r2)) := ⟨by have := HX.out; rw [if_neg t5] at this; exact this⟩
            clear HX
            rw [Bool.eq_false_iff.2 t5]
            clear t5
            by_cases t6 : l0.length = 64
            · have E1 : Aside0 ((([] : List S26), (5 : Int)) = (r1, r2)) := ⟨by have := E2.out; rw [if_pos t6] at this; exact this⟩
              obtain ⟨rfl, rfl⟩ := Prod.mk.inj E1.out
              have t6' : (((l0.length : Nat) : Int) == 64) = true := by rw [beq_iff_eq]; omega
              clear E2 E1 t6
              go_wp2
              go_ret2
              exact ⟨_, rfl, Kd.R_nil _ _ _ _ _, HB3.out⟩
            · have E1 : Aside0 ((l0 ++ [⟨a1_0, a1_1, a1_2, a1_3, a1_4, a1_5⟩], (0 : Int)) = (r1, r2)) := ⟨by have := E2.out; rw [if_neg t6] at this; exact this⟩
              obtain ⟨rfl, rfl⟩ := Prod.mk.inj E1.out
              have t6' : (((l0.length : Nat) : Int) == 64) = false := by rw [beq_eq_false_iff_ne]; omega
              have HCl : Aside0 (api_Hold_39.f l0 = some l0) := ⟨by unfold api_Hold_39.f; rw [if_pos (by have := HLe.out; omega)]⟩
              have hl64 : Aside0 (l0.length ≤ 64) := ⟨HLe.out⟩
              clear E2 E1 t6
              have p0' := blk_cell HK3.out 0
              have p1' := blk_cell HK3.out 1
              have p2' := blk_cell HK3.out 2
              have p3' := blk_cell HK3.out 3
              have p4' := blk_cell HK3.out 4
              have p5' := blk_cell HK3.out 5
              simp at p0' p1' p2' p3' p4' p5'
              go_wp2_with fail
              have HBD := Aside0.mk (below_drew HB3.out)
              have HRD := Aside0.mk (Kd.C_below HR0.out HBD.out)
              go_region_law (first | (refine goes_ Try.func39 (by kernel_rfl) rfl #[.slice (some ad') l0.length c0] (by rfl) rfl rfl (by (try simp only [List.map_toArray, List.map_cons, List.map_nil]); first | done | rfl) ?_; refine (api_Hold_39.calls (some ad') c0 l0 l0 _ (by first | exact HRD.out | exact Kd.C_below HRD.out (below_alloc (Below.refl _ _) _)) HC0.out HCl.out).mono ?_; rintro e w4 ⟨v4, rfl, ho4, hb4⟩; obtain ⟨y0, y1, y2, y3, y4, y5⟩ := box6 (w := w4) (g := w.heap.size) (x := ⟨a1_0, a1_1, a1_2, a1_3, a1_4, a1_5⟩) (by first | exact blk_below (blk_drew HK3.out) hb4 | exact blk_below (blk_alloc (blk_drew HK3.out) _) hb4); refine ⟨_, rfl, ?_⟩) | (refine placeApp (w := w) (w3 := w3) v4 l0 ⟨a1_0, a1_1, a1_2, a1_3, a1_4, a1_5⟩ (by rfl) (by rfl) (by rfl) (by rfl) (w4 := w4) HB3.out hl64.out (by first | exact .inl ⟨rfl, rfl, ho4, hb4⟩ | exact .inr ⟨rfl, rfl, ho4, hb4⟩) ?_; intro v5 w5 ho5 hb5))
              all_goals (go_wp2; go_ret2; exact ⟨_, rfl, ho5, hb5⟩)
    · have H' : (([] : List S26), (1 : Int)) = (r1, r2) := by rw [← H, if_pos (.inr t2)]
      obtain ⟨rfl, rfl⟩ := Prod.mk.inj H'
      rw [t1] at HF
      have t2' : (checkL [⟨a1_0, a1_1, a1_2, a1_3, a1_4, a1_5⟩] != 0) = true := by simpa using t2
      obtain ⟨q, hq⟩ : ∃ q, checkL [⟨a1_0, a1_1, a1_2, a1_3, a1_4, a1_5⟩] = q := ⟨_, rfl⟩
      rw [hq] at HG t2'
      clear H H' t1 t2 hW0 hq
      go_enter Try.func17, Try.ntmps17
      go_wp2_with fail
      refine (hold_Check.calls A0 c0 l0 _ _ (Kd.C_below HR0.out (below_alloc (Below.refl _ _) _)) HC0.out HF.out).mono ?_
      rintro e w1 ⟨rfl, hb1⟩
      have HB1 := Aside0.mk ((below_alloc (Below.refl w.heap.size w) _).trans (hb1.mono (show w.heap.size ≤ _ by simp)))
      obtain ⟨hc1, hf1⟩ := bcell hb1
      go_wp2_with fail
      refine (hold_Check.calls (some ⟨w1.heap.size, 0, none⟩) 1 [⟨a1_0, a1_1, a1_2, a1_3, a1_4, a1_5⟩] _ _ (C_one w1 ⟨a1_0, a1_1, a1_2, a1_3, a1_4, a1_5⟩) (Nat.le_refl 1) HG.out).mono ?_
      rintro e w2 ⟨rfl, hb2⟩
      have HB2 := Aside0.mk ((HB1.out.alloc HB1.out.size _).trans (hb2.mono (show w.heap.size ≤ _ by have := HB1.out.size; simp; omega)))
      go_wp2
      go_ret2
      exact ⟨_, rfl, Kd.R_nil _ _ _ _ _, HB2.out⟩
  · have H' : (([] : List S26), (1 : Int)) = (r1, r2) := by rw [← H, if_pos (.inl t1)]
    obtain ⟨rfl, rfl⟩ := Prod.mk.inj H'
    have t1' : (checkL l0 != 0) = true := by simpa using t1
    obtain ⟨q, hq⟩ : ∃ q, checkL l0 = q := ⟨_, rfl⟩
    rw [hq] at HF t1'
    clear H H' t1 hW0 hq
    go_enter Try.func17, Try.ntmps17
    go_wp2_with fail
    refine (hold_Check.calls A0 c0 l0 _ _ (Kd.C_below HR0.out (below_alloc (Below.refl _ _) _)) HC0.out HF.out).mono ?_
    rintro e w1 ⟨rfl, hb1⟩
    have HB1 := Aside0.mk ((below_alloc (Below.refl w.heap.size w) _).trans (hb1.mono (show w.heap.size ≤ _ by simp)))
    obtain ⟨hc1, hf1⟩ := bcell hb1
    go_wp2
    go_ret2
    exact ⟨_, rfl, Kd.R_nil _ _ _ _ _, HB1.out⟩

end Go.Proofs.Ytafkjallmbokaaa.Q
