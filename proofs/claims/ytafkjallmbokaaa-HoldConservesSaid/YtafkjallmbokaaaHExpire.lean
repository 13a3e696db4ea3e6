/- hold.Expire: the holds that did not end before a day, and the Ids of those that did. -/
import Derived.Test.YtafkjallmbokaaaHMap
namespace Go.Proofs.Ytafkjallmbokaaa.Q
open Go.RowKit Go.Maps Go.Proofs.YtafkjallmbokaaaW.PrintWords Go.Proofs.YtafkjallmbokaaaW.PrintLast Go.Proofs.YtafkjallmbokaaaW.PrintMore
set_option linter.unusedVariables false
set_option linter.unusedSimpArgs false

def endedB (day : Int) (x : S26) : Bool := decide (x.f4 < day)
def hold_Expire.f (l0 : List S26) (a1 : Int) : Option (List S26 × List Int) :=
  if l0.length < 2513169434916 then some (l0.filter (fun x => !endedB a1 x), (l0.filter (endedB a1)).map (·.f0)) else none

/-- What the map holds when the first kk holds have been looked at. -/
def leftF (l0 : List S26) (day : Int) (kk j : Nat) : Option S26 := if j < kk ∧ endedB day (l0.getD j z26) = true then none else l0[j]?
theorem take_snoc26 (l : List S26) (k : Nat) (h : k < l.length) : l.take (k + 1) = l.take k ++ [l.getD k z26] := by
  rw [List.take_succ_eq_append_getElem h, List.getD_eq_getElem?_getD, List.getElem?_eq_getElem h]; rfl
theorem some_at26 (l : List S26) (k : Nat) (h : k < l.length) : l[k]? = some (l.getD k z26) := by
  rw [List.getD_eq_getElem?_getD, List.getElem?_eq_getElem h]; rfl

theorem ended_snoc (l0 : List S26) (a1 : Int) (kk : Nat) (c : kk < l0.length) (hT : endedB a1 (l0.getD kk z26) = true) : ((l0.take (kk + 1)).filter (endedB a1)).map (·.f0) = ((l0.take kk).filter (endedB a1)).map (·.f0) ++ [(l0.getD kk z26).f0] := by
  rw [take_snoc26 l0 kk c, List.filter_append, List.filter_cons, hT, if_pos rfl, List.filter_nil, List.map_append, List.map_cons, List.map_nil]
theorem ended_same (l0 : List S26) (a1 : Int) (kk : Nat) (c : kk < l0.length) (hT : endedB a1 (l0.getD kk z26) = false) : ((l0.take (kk + 1)).filter (endedB a1)).map (·.f0) = ((l0.take kk).filter (endedB a1)).map (·.f0) := by
  rw [take_snoc26 l0 kk c, List.filter_append, List.filter_cons, hT, if_neg (by simp), List.filter_nil, List.append_nil]
theorem ended_len (l0 : List S26) (a1 : Int) (kk : Nat) : (((l0.take kk).filter (endedB a1)).map (·.f0)).length ≤ l0.length := by
  rw [List.length_map]; exact Nat.le_trans (List.length_filter_le _ _) (List.length_take_le' _ _)
theorem live_snoc (l0 : List S26) (a1 : Int) (kk : Nat) (c : kk < l0.length) (hT : endedB a1 (l0.getD kk z26) = false) : (l0.take (kk + 1)).filter (fun x => !endedB a1 x) = (l0.take kk).filter (fun x => !endedB a1 x) ++ [l0.getD kk z26] := by
  rw [take_snoc26 l0 kk c, List.filter_append, List.filter_cons, hT]; simp
theorem live_same (l0 : List S26) (a1 : Int) (kk : Nat) (c : kk < l0.length) (hT : endedB a1 (l0.getD kk z26) = true) : (l0.take (kk + 1)).filter (fun x => !endedB a1 x) = (l0.take kk).filter (fun x => !endedB a1 x) := by
  rw [take_snoc26 l0 kk c, List.filter_append, List.filter_cons, hT]; simp
theorem live_len (l0 : List S26) (a1 : Int) (kk : Nat) : ((l0.take kk).filter (fun x => !endedB a1 x)).length ≤ l0.length :=
  Nat.le_trans (List.length_filter_le _ _) (List.length_take_le' _ _)
theorem left_step (l0 : List S26) (a1 : Int) (kk : Nat) (hT : endedB a1 (l0.getD kk z26) = true) {w1 : World} {b n : Nat} (hm1 : Mp w1 b n (fun i => if i = kk then none else leftF l0 a1 kk i)) : Aside0 (Mp w1 b n (leftF l0 a1 (kk + 1))) := ⟨hm1.ext (fun j => by
  unfold leftF
  by_cases e : j = kk
  · subst e; rw [if_pos rfl, if_pos ⟨by omega, hT⟩]
  · rw [if_neg e]
    by_cases e2 : j < kk ∧ endedB a1 (l0.getD j z26) = true
    · rw [if_pos e2, if_pos ⟨by omega, e2.2⟩]
    · rw [if_neg e2, if_neg (fun h => e2 ⟨by omega, h.2⟩)])⟩
theorem left_same (l0 : List S26) (a1 : Int) (kk : Nat) (hT : endedB a1 (l0.getD kk z26) = false) {w1 : World} {b n : Nat} (hm1 : Mp w1 b n (leftF l0 a1 kk)) : Aside0 (Mp w1 b n (leftF l0 a1 (kk + 1))) := ⟨hm1.ext (fun j => by
  unfold leftF
  by_cases e2 : j < kk ∧ endedB a1 (l0.getD j z26) = true
  · rw [if_pos e2, if_pos ⟨by omega, e2.2⟩]
  · rw [if_neg e2, if_neg (fun h => e2 ⟨by
      rcases Nat.lt_or_ge j kk with h1 | h1
      · exact h1
      · have : j = kk := by omega
        subst this
        rw [hT] at h
        exact absurd h.2 (by simp), h.2⟩)])⟩
theorem del_facts {w W w1 : World} {n : Nat} {f : Nat → Option S26} {u : Value} {xs : List Int} (HBw : Below w.heap.size w W) (HMw : Mp W w.heap.size n f) (HIw : Kd.R (Kd.int .i64) 3 W w.heap.size (fun _ => True) u xs) (g : Nat) (v : Value) (hc : W.cell? ⟨g, 0, none⟩ = some v) (hne : g ≠ w.heap.size) (hg1 : W.grownBy w1 (some w.heap.size)) :
    Aside0 (Below w.heap.size w w1) ∧ Aside0 (Kd.R (Kd.int .i64) 3 w1 w.heap.size (fun _ => True) u xs) ∧ w1.cell? ⟨g, 0, none⟩ = some v := by
  obtain ⟨inner, ho, _⟩ := HIw.2
  exact ⟨⟨HBw.grown hg1 HBw.size (fun k e => by injection e with e; omega)⟩, ⟨flat_other rfl HIw hg1 (fun k hk e => HMw.row ho (by rw [hk, e]))⟩, hg1.cell (a := ⟨g, 0, none⟩) hc (fun e => hne (by injection e))⟩
theorem app_facts {w W w1 : World} {n : Nat} {f : Nat → Option S26} {u v : Value} {xs ys : List Int} (HM : Mp W w.heap.size n f) (HB : Below w.heap.size w W) (HI : Kd.R (Kd.int .i64) 3 W w.heap.size (fun _ => True) u xs)
    (ho : Kd.R (Kd.int .i64) 3 w1 w.heap.size (fun _ => True) v ys) (hb : Below w.heap.size w w1) (hg : W.grownBy w1 u.ownBlock) : Aside0 (Mp w1 w.heap.size n f) ∧ Aside0 (Below w.heap.size w w1) ∧ Aside0 (Kd.R (Kd.int .i64) 3 w1 w.heap.size (fun _ => True) v ys) := by
  obtain ⟨inner, h1, _⟩ := HI.2
  exact ⟨⟨HM.kept hg (HM.row h1)⟩, ⟨hb⟩, ⟨ho⟩⟩

theorem app2_facts {B : Nat} {W w1 : World} {n : Nat} {f : Nat → Option S26} {u v : Value} {xs : List S26} {ys : List Int} (HM : Mp W B n f) (HR : Kd.R k26 26 W B (fun _ => True) u xs) (HI : Kd.R (Kd.int .i64) 3 W B (fun _ => True) v ys)
    (hg : W.grownBy w1 u.ownBlock) : Aside0 (Mp w1 B n f) ∧ Aside0 (Kd.R (Kd.int .i64) 3 w1 B (fun _ => True) v ys) := by
  obtain ⟨inner, h1, _⟩ := HR.2
  obtain ⟨inner2, h2, _⟩ := HI.2
  refine ⟨⟨HM.kept hg (HM.row h1)⟩, ⟨flat_other rfl HI hg (fun k hk e => ?_)⟩⟩
  rcases own_type_ne h2 h1 (by decide) with h3 | h3
  · rw [hk] at h3; cases h3
  · exact h3 (by rw [hk, e])

set_option maxHeartbeats 4000000 in
set_option maxRecDepth 100000 in
theorem hold_Expire.calls (A0 : Option Addr) (c0 : Nat) (l0 : List (S26)) (a1 : Int) (r1 : List (S26)) (r2 : List Int) (w : World) (hr0 : Kd.C k26 w A0 l0.length l0) (hc0 : l0.length ≤ c0) (h : hold_Expire.f l0 a1 = some (r1, r2)) :
    Calls Try.prog 22 #[.slice A0 l0.length c0, .int .i64 a1] w fun e w' => ∃ v0_ v1_ : Value, e = .returned (.tuple #[v0_, v1_]) ∧ Kd.R k26 26 w' w.heap.size (fun _ => True) v0_ r1 ∧ Kd.R (Kd.int .i64) 3 w' w.heap.size (fun _ => True) v1_ r2 ∧ Below w.heap.size w w' := by
  have hlt : l0.length < 2513169434916 := by
    unfold hold_Expire.f at h
    by_cases e : l0.length < 2513169434916
    · exact e
    · rw [if_neg e] at h; cases h
  unfold hold_Expire.f at h
  rw [if_pos hlt] at h
  obtain ⟨rfl, rfl⟩ := Prod.mk.inj (Option.some.inj h)
  clear h
  have HR0 := Aside0.mk hr0
  have HC0 := Aside0.mk hc0
  have hm : l0.length ≤ 9223372036854775807 := by omega
  have HL := Aside0.mk hlt
  clear hr0 hc0 hlt
  have hmm := @run_makeMap Try.prog
  go_enter Try.func22, Try.ntmps22
  go_wp2
  go_loopg [7, 8, 19] l0.length (fun gg _ _ s19 wr => ∃ kk : Nat, s19 = .int .i64 kk ∧ Aside0 (kk ≤ l0.length ∧ l0.length - kk ≤ gg) ∧ Aside0 (Below w.heap.size w wr) ∧ Aside0 (Mp wr w.heap.size kk (fun j => if j < kk then l0[j]? else none)))
  case atStart => exact ⟨0, rfl, ⟨by omega, by omega⟩, ⟨below_alloc (Below.refl _ w) _⟩, ⟨(Mp.made w).ext (fun j => by rw [if_neg (by omega)])⟩⟩
  case round =>
    obtain ⟨kk, rfl, HK, HB, HM⟩ := hrel
    by_cases c : kk < l0.length
    · obtain ⟨x, hx⟩ : ∃ x, x = l0.getD kk z26 := ⟨_, rfl⟩
      obtain ⟨ad, e, h0, h1, h2, h3, h4, h5⟩ := at_T26 HR0.out kk (by omega) (by omega)
      cases e
      replace h0 := (HB.out.cell (World.block_lt_of_cell? w _ h0)).trans h0
      replace h1 := (HB.out.cell (World.block_lt_of_cell? w _ h1)).trans h1
      replace h2 := (HB.out.cell (World.block_lt_of_cell? w _ h2)).trans h2
      replace h3 := (HB.out.cell (World.block_lt_of_cell? w _ h3)).trans h3
      replace h4 := (HB.out.cell (World.block_lt_of_cell? w _ h4)).trans h4
      replace h5 := (HB.out.cell (World.block_lt_of_cell? w _ h5)).trans h5
      rw [show rd_T26 l0 (kk : Int) = x by rw [hx]; rfl] at h0 h1 h2 h3 h4 h5
      simp only [Int.toNat_natCast] at h0 h1 h2 h3 h4 h5
      have hX := Aside0.mk hx
      clear hx
      have HBw : Aside0 (Below w.heap.size w (wr.alloc (.cells #[.int .i64 x.f0, .int .i64 x.f1, .int .i64 x.f2, .int .i64 x.f3, .int .i64 x.f4, .string x.f5] 26))) := ⟨HB.out.alloc HB.out.size _⟩
      have HMw : Aside0 (Mp (wr.alloc (.cells #[.int .i64 x.f0, .int .i64 x.f1, .int .i64 x.f2, .int .i64 x.f3, .int .i64 x.f4, .string x.f5] 26)) w.heap.size kk (fun j => if j < kk then l0[j]? else none)) := ⟨HM.out.below (below_alloc (Below.refl _ _) _)⟩
      go_wp2_with (at_mapUpdate; refine Mp.update _ rfl (.tmp 24) (.tmp 25) (.tmp 26) rfl kk (by omega) x rfl HMw.out (by unfold maxLen; omega) rfl rfl ?_; intro w1 hm1 hg1)
      have HB1 : Aside0 (Below w.heap.size w w1) := ⟨HBw.out.grown hg1 HBw.out.size (fun k e => by injection e with e; omega)⟩
      have HM1 : Aside0 (Mp w1 w.heap.size (kk + 1) (fun j => if j < kk + 1 then l0[j]? else none)) := ⟨hm1.ext (fun j => by
        by_cases e : j = kk
        · subst e; rw [if_pos rfl, if_pos (by omega), hX.out]; exact (some_at26 l0 j c).symm
        · rw [if_neg e]
          by_cases e2 : j < kk
          · rw [if_pos e2, if_pos (by omega)]
          · rw [if_neg e2, if_neg (by omega)])⟩
      clear hm1 hg1 HBw HMw
      go_wp2
      go_roundg (l0.length - (kk + 1))
      case measure => have := HK.out; omega
      case rel => exact ⟨kk + 1, by go_num, ⟨by omega, by omega⟩, HB1, HM1⟩
    · have HE := HK.out
      obtain rfl : kk = l0.length := by omega
      have HM2 : Aside0 (Mp wr w.heap.size l0.length (fun j => l0[j]?)) := ⟨HM.out.ext (fun j => by
        by_cases e : j < l0.length
        · rw [if_pos e]
        · rw [if_neg e, List.getElem?_eq_none (by omega)])⟩
      clear HM HE HK c hmm
      go_wp2
      obtain ⟨wo, rfl⟩ : ∃ wo : World, wo = wr := ⟨_, rfl⟩
      go_loopg [10, 11, 12, 30] l0.length (fun gg s10 _ _ s30 wr => ∃ kk : Nat, s30 = .int .i64 kk ∧ Aside0 (kk ≤ l0.length ∧ l0.length - kk ≤ gg) ∧ Aside0 (Below w.heap.size w wr) ∧ Aside0 (Mp wr w.heap.size l0.length (leftF l0 a1 kk)) ∧ Aside0 (Kd.R (Kd.int .i64) 3 wr w.heap.size (fun _ => True) s10 (((l0.take kk).filter (endedB a1)).map (·.f0))))
      case atStart => exact ⟨0, rfl, ⟨by omega, by omega⟩, HB, ⟨HM2.out.ext (fun j => by unfold leftF; rw [if_neg (by omega)])⟩, ⟨Kd.R_nil _ _ _ _ _⟩⟩
      case round =>
        clear HM2 HB
        obtain ⟨kk, rfl, HK, HB, HM, HI⟩ := hrel
        by_cases c : kk < l0.length
        · obtain ⟨x, hx⟩ : ∃ x, x = l0.getD kk z26 := ⟨_, rfl⟩
          obtain ⟨ad, e, h0, h1, h2, h3, h4, h5⟩ := at_T26 HR0.out kk (by omega) (by omega)
          cases e
          replace h0 := (HB.out.cell (World.block_lt_of_cell? w _ h0)).trans h0
          replace h1 := (HB.out.cell (World.block_lt_of_cell? w _ h1)).trans h1
          replace h2 := (HB.out.cell (World.block_lt_of_cell? w _ h2)).trans h2
          replace h3 := (HB.out.cell (World.block_lt_of_cell? w _ h3)).trans h3
          replace h4 := (HB.out.cell (World.block_lt_of_cell? w _ h4)).trans h4
          replace h5 := (HB.out.cell (World.block_lt_of_cell? w _ h5)).trans h5
          rw [show rd_T26 l0 (kk : Int) = x by rw [hx]; rfl] at h0 h1 h2 h3 h4 h5
          simp only [Int.toNat_natCast] at h0 h1 h2 h3 h4 h5
          have hX := Aside0.mk hx
          clear hx
          have HBw : Aside0 (Below w.heap.size w (wr.alloc (.cells #[.int .i64 x.f0, .int .i64 x.f1, .int .i64 x.f2, .int .i64 x.f3, .int .i64 x.f4, .string x.f5] 26))) := ⟨HB.out.alloc HB.out.size _⟩
          have HMw : Aside0 (Mp (wr.alloc (.cells #[.int .i64 x.f0, .int .i64 x.f1, .int .i64 x.f2, .int .i64 x.f3, .int .i64 x.f4, .string x.f5] 26)) w.heap.size l0.length (leftF l0 a1 kk)) := ⟨HM.out.below (below_alloc (Below.refl _ _) _)⟩
          have HIw := Aside0.mk (flat_other rfl HI.out (World.grownBy_alloc wr (.cells #[.int .i64 x.f0, .int .i64 x.f1, .int .i64 x.f2, .int .i64 x.f3, .int .i64 x.f4, .string x.f5] 26) none) (fun k _ => by simp))
          by_cases t : x.f4 < a1
          · have ht : decide (x.f4 < a1) = true := decide_eq_true t
            have HT : Aside0 (endedB a1 (l0.getD kk z26) = true) := ⟨by rw [← hX.out]; exact ht⟩
            clear t
            have HS := Aside0.mk (ended_snoc l0 a1 kk c HT.out)
            rw [← hX.out] at HS
            have HLn := Aside0.mk (ended_len l0 a1 kk)
            have hgB : wr.heap.size ≠ w.heap.size := by have := HM.out.lt; omega
            have HGB := Aside0.mk hgB
            clear hgB
            go_wp2_with (first | (at_delete; refine Mp.delete _ rfl (.tmp 39) (.tmp 40) rfl kk (by omega) rfl HMw.out rfl ?_; intro w1 hm1 hg1; obtain ⟨HB1, HI1, hb0⟩ := del_facts HBw.out HMw.out HIw.out (wr.heap.size) (.int .i64 x.f0) (by simp) HGB.out hg1; have HM1 := left_step l0 a1 kk HT.out hm1; clear hm1 hg1 HBw HMw HIw) | (at_builtin; refine Kd.R_append (Kd.int .i64) (w0 := w) w.heap.size ?e0 (.tmp 41) (.tmp 44) 46 3 (.int .i64 0) 8 ?e9 Try.underlying46 info3 rfl (by decide) (by decide) u10 (((l0.take kk).filter (endedB a1)).map (·.f0)) x.f0 [.int .i64 x.f0] (fun _ => True) (fun k_ => some k_ ≠ u10.ownBlock) ?e1 ?e2 rfl (fun k_ hk => ⟨trivial, hk⟩) (fun _ _ => trivial) HI1.out HB1.out HB1.out.size ?e5 ?_; (case e0 => rfl); (case e9 => rfl); (case e1 => rfl); (case e2 => rfl); (case e5 => have := HLn.out; have := HL.out; omega); intro v2 w2 ho2 hb2 hg2 hat2; obtain ⟨HM2, HB2, HI2⟩ := app_facts HM1.out HB1.out HI1.out ho2 hb2 hg2; rw [← HS.out] at HI2; clear ho2 hb2 hg2 hat2 HM1 HB1 HI1))
            go_roundg (l0.length - (kk + 1))
            case measure => have := HK.out; omega
            case rel => exact ⟨kk + 1, by go_num, ⟨by omega, by omega⟩, HB2, HM2, HI2⟩
          · have ht : decide (x.f4 < a1) = false := decide_eq_false t
            have HT : Aside0 (endedB a1 (l0.getD kk z26) = false) := ⟨by rw [← hX.out]; exact ht⟩
            clear t
            have HM2 := left_same l0 a1 kk HT.out HMw.out
            have HI2 := HIw
            rw [← ended_same l0 a1 kk c HT.out] at HI2
            clear HMw HIw
            go_wp2
            go_roundg (l0.length - (kk + 1))
            case measure => have := HK.out; omega
            case rel => exact ⟨kk + 1, by go_num, ⟨by omega, by omega⟩, HBw, HM2, HI2⟩
        · have HE := HK.out
          obtain rfl : kk = l0.length := by omega
          rw [List.take_length] at HI
          clear HE HK c
          go_wp2
          obtain ⟨wo2, rfl⟩ : ∃ wo2 : World, wo2 = wr := ⟨_, rfl⟩
          go_loopg [9, 13, 14, 15, 49] l0.length (fun gg s9 _ _ _ s49 wr => ∃ kk : Nat, s49 = .int .i64 kk ∧ Aside0 (kk ≤ l0.length ∧ l0.length - kk ≤ gg) ∧ Aside0 (Below w.heap.size w wr) ∧ Aside0 (Mp wr w.heap.size l0.length (leftF l0 a1 l0.length)) ∧ Aside0 (Kd.R (Kd.int .i64) 3 wr w.heap.size (fun _ => True) u10 ((l0.filter (endedB a1)).map (·.f0))) ∧ Aside0 (Kd.R k26 26 wr w.heap.size (fun _ => True) s9 ((l0.take kk).filter (fun x => !endedB a1 x))))
          case atStart => exact ⟨0, rfl, ⟨by omega, by omega⟩, HB, HM, HI, ⟨Kd.R_nil _ _ _ _ _⟩⟩
          case round =>
            clear HM HB HI
            obtain ⟨kk, rfl, HK, HB, HM, HI, HR⟩ := hrel
            by_cases c : kk < l0.length
            · obtain ⟨x, hx⟩ : ∃ x, x = l0.getD kk z26 := ⟨_, rfl⟩
              cases hT : endedB a1 (l0.getD kk z26) with
              | true =>
                have HF : Aside0 (leftF l0 a1 l0.length kk = none) := ⟨by unfold leftF; rw [if_pos ⟨c, hT⟩]⟩
                have HS := Aside0.mk (live_same l0 a1 kk c hT)
                clear hT hx
                go_wp2_with (at_lookup; refine Mp.look _ rfl (.tmp 53) (.tmp 54) rfl kk (by omega) rfl HM.out rfl ?_; rw [HF.out]; simp only [Option.getD_none, Option.isSome_none])
                go_roundg (l0.length - (kk + 1))
                case measure => have := HK.out; omega
                case rel => exact ⟨kk + 1, by go_num, ⟨by omega, by omega⟩, ⟨HB.out.alloc HB.out.size _⟩, ⟨HM.out.below (below_alloc (Below.refl _ _) _)⟩, ⟨flat_other rfl HI.out (World.grownBy_alloc wr _ none) (fun k _ => by simp)⟩, ⟨by rw [HS.out]; exact flat_other rfl HR.out (World.grownBy_alloc wr _ none) (fun k _ => by simp)⟩⟩
              | false =>
                have HF : Aside0 (leftF l0 a1 l0.length kk = some x) := ⟨by unfold leftF; rw [if_neg (fun h => by rw [hT] at h; exact absurd h.2 (by simp)), hx]; exact some_at26 l0 kk c⟩
                have HS := Aside0.mk (live_snoc l0 a1 kk c hT)
                rw [← hx] at HS
                have HLn := Aside0.mk (live_len l0 a1 kk)
                clear hT hx
                have HBw : Aside0 (Below w.heap.size w (wr.alloc (.cells #[.int .i64 x.f0, .int .i64 x.f1, .int .i64 x.f2, .int .i64 x.f3, .int .i64 x.f4, .string x.f5] 26))) := ⟨HB.out.alloc HB.out.size _⟩
                have HMw : Aside0 (Mp (wr.alloc (.cells #[.int .i64 x.f0, .int .i64 x.f1, .int .i64 x.f2, .int .i64 x.f3, .int .i64 x.f4, .string x.f5] 26)) w.heap.size l0.length (leftF l0 a1 l0.length)) := ⟨HM.out.below (below_alloc (Below.refl _ _) _)⟩
                have HIw := Aside0.mk (flat_other rfl HI.out (World.grownBy_alloc wr (.cells #[.int .i64 x.f0, .int .i64 x.f1, .int .i64 x.f2, .int .i64 x.f3, .int .i64 x.f4, .string x.f5] 26) none) (fun k _ => by simp))
                have HRw := Aside0.mk (flat_other rfl HR.out (World.grownBy_alloc wr (.cells #[.int .i64 x.f0, .int .i64 x.f1, .int .i64 x.f2, .int .i64 x.f3, .int .i64 x.f4, .string x.f5] 26) none) (fun k _ => by simp))
                go_wp2_with (first | (at_lookup; refine Mp.look _ rfl (.tmp 53) (.tmp 54) rfl kk (by omega) rfl HM.out rfl ?_; rw [HF.out]; simp only [Option.getD_some, Option.isSome_some, enc26]) | (at_builtin; refine Kd.R_append k26 (w0 := w) w.heap.size ?e20 (.tmp 59) (.tmp 61) 22 26 (.agg #[(.int .i64 0), (.int .i64 0), (.int .i64 0), (.int .i64 0), (.int .i64 0), (.string ⟨#[]⟩)]) 56 ?e29 Try.underlying22 info26 rfl (by decide) (by decide) u9 ((l0.take kk).filter (fun x => !endedB a1 x)) x [.int .i64 x.f0, .int .i64 x.f1, .int .i64 x.f2, .int .i64 x.f3, .int .i64 x.f4, .string x.f5] (fun _ => True) (fun k_ => some k_ ≠ u9.ownBlock) ?e21 ?e22 (k26_mkM _ _ _ x) (fun k_ hk => ⟨trivial, hk⟩) (fun _ _ => trivial) HRw.out HBw.out HBw.out.size ?e25 ?_; (case e20 => rfl); (case e29 => rfl); (case e21 => rfl); (case e22 => show Value.slice (some ⟨wr.heap.size + 1, 0, none⟩) 1 1 = _; simp); (case e25 => have := HLn.out; have := HL.out; omega); intro v2 w2 ho2 hb2 hg2 hat2; obtain ⟨HM2, HI2⟩ := app2_facts HMw.out HRw.out HIw.out hg2; have HB2 := Aside0.mk hb2; have HR2 := Aside0.mk ho2; rw [← HS.out] at HR2; clear ho2 hb2 hg2 hat2 HMw HIw HRw HBw))
                go_roundg (l0.length - (kk + 1))
                case measure => have := HK.out; omega
                case rel => exact ⟨kk + 1, by go_num, ⟨by omega, by omega⟩, HB2, HM2, HI2, HR2⟩
            · have HE := HK.out
              obtain rfl : kk = l0.length := by omega
              rw [List.take_length] at HR
              clear HE HK c
              go_wp2
              go_ret2
              exact ⟨_, _, rfl, HR.out, HI.out, HB.out⟩

end Go.Proofs.Ytafkjallmbokaaa.Q
