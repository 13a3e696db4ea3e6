/- money.Parse at every text: its closed form. -/
import Derived.Test.YtbeebjpbmbkodaaDoorPPar
namespace Go.Proofs.YtbeebjpbmbkodaaDoor.Q
open Go.RowKit Go.Proofs.YtbeebjpbmbkodaaDoorW.PrintWords Go.Proofs.YtbeebjpbmbkodaaDoorW.PrintLast Go.Proofs.YtbeebjpbmbkodaaDoorW.PrintMore
set_option linter.unusedVariables false
set_option linter.unusedSimpArgs false

/-- The error that Atoi tells of a number that is too large is set. -/
def RangeV (w : World) : Prop := ∃ tp p, w.var? Tryd.prog "strconv.ErrRange" = some #[.iface tp p]
theorem RangeV.below {w w' : World} (h : RangeV w) (hb : Below w.heap.size w w') : RangeV w' := by
  obtain ⟨tp, p, h⟩ := h
  refine ⟨tp, p, ?_⟩
  unfold World.var? at h ⊢
  cases hg : Tryd.prog.globalNamed "strconv.ErrRange" with
  | none => rw [hg] at h; simp at h
  | some g =>
  rw [hg] at h
  simp only [Option.bind_some] at h ⊢
  have hlt : g < w.heap.size := by
    rcases Nat.lt_or_ge g w.heap.size with h' | h'
    · exact h'
    · rw [Array.getElem?_eq_none h'] at h; cases h
  rw [hb.block g hlt]
  exact h
theorem atoi_ok (s : ByteArray) (n : Int) (w : World) (hl : s.size ≤ 100) (h : Lib.atoiAll s.data.toList = .ok n) :
    Calls Tryd.prog 34 #[.string s] w fun e w' => e = .returned (.tuple #[.int .i64 n, .nilIface]) ∧ Below w.heap.size w w' :=
  (Tryd.strconv_Atoi_ok s (by omega) n h w).mono fun e w' ⟨h1, h2⟩ => ⟨h1, h2.elim (fun h => by rw [h]; exact Below.refl _ _) (fun ⟨t, h⟩ => by rw [h]; exact bytes_below (Below.refl _ w) (Nat.le_refl _) 5 t)⟩
theorem atoi_range (s : ByteArray) (w : World) (hl : s.size ≤ 100) (hr : RangeV w) (h : Lib.atoiAll s.data.toList = .range) :
    Calls Tryd.prog 34 #[.string s] w fun e w' => ∃ N n, e = .returned (.tuple #[.int .i64 n, .iface 71 (.pointer (some ⟨N, 0, none⟩))]) ∧ Below w.heap.size w w' := by
  obtain ⟨tp, p, hv⟩ := hr
  exact (Tryd.strconv_Atoi_range_var s (by omega) h tp p w hv).mono fun e w' ⟨N, h1, _, _, h2⟩ => ⟨N, _, h1, h2⟩

set_option maxHeartbeats 4000000 in
set_option maxRecDepth 100000 in
theorem parse_calls (s : ByteArray) (d : Int) (hs : s.size ≤ 100) (w : World) (hr : RangeV w) (n ev : Int) (h : parC s.data.toList d = (n, ev)) :
    Calls Tryd.prog 17 #[.string s, .int .i64 d] w fun e w' => e = .returned (.tuple #[.int .i64 n, .int .i64 ev]) ∧ Below w.heap.size w w' := by
  have HG := Aside0.mk hr
  clear hr
  have HPl := Aside0.mk (places_eq d)
  unfold parC at h
  by_cases t1 : placesB d = true
  · rw [if_pos t1] at h
    rw [t1] at HPl
    have hpd := of_decide_eq_true t1
    obtain ⟨dn, rfl⟩ : ∃ dn : Nat, d = dn := ⟨d.toNat, by omega⟩
    rw [Int.toNat_natCast] at h
    obtain ⟨m, hm⟩ : ∃ m, minusB s.data.toList = m := ⟨_, rfl⟩
    have HM : Aside0 (Lib.hasPrefix s.data.toList (⟨#[45]⟩ : ByteArray).data.toList = m) := ⟨(has_minus _).trans hm⟩
    rw [hm] at h
    have hd4 : dn ≤ 4 := by omega
    clear t1 hpd hm
    cases hsp : splitC (bodyL s.data.toList) dn with
    | none =>
      rw [hsp] at h
      have HS : Aside0 (splitR (splitC (bodyL s.data.toList) dn) = (⟨#[]⟩, false)) := ⟨by rw [hsp]; rfl⟩
      obtain ⟨rfl, rfl⟩ := Prod.mk.inj (show ((0 : Int), (2 : Int)) = (n, ev) from h)
      clear h hsp
      go_enter Tryd.func17, Tryd.ntmps17
      go_wp2_with fail
      refine (money_places.calls dn _ _ HPl.out).mono ?_
      rintro e w1 ⟨rfl, hd1⟩
      have HB := Aside0.mk hd1.below
      clear hd1
      go_wp2_with fail
      refine (split_calls s dn hd4 hs _ _ _ HS.out).mono ?_
      rintro e w2 ⟨rfl, hb⟩
      have HBn := Aside0.mk (HB.out.trans (hb.mono HB.out.size))
      clear HB hb
      have HB := HBn
      clear HBn
      go_wp2_with fail
      refine (tl_calls _ ⟨#[]⟩ _ (by rfl)).mono ?_
      rintro e w3 ⟨rfl, hw3⟩
      subst hw3
      go_wp2_with fail
      refine (hp_calls _ _ m _ HM.out).mono ?_
      rintro e w4 ⟨rfl, hw4⟩
      subst hw4
      cases m with
      | false =>
        go_wp2
        go_ret2
        exact ⟨rfl, HB.out⟩
      | true =>
        go_wp2
        go_ret2
        exact ⟨rfl, HB.out⟩
    | some D =>
      rw [hsp] at h
      have HS : Aside0 (splitR (splitC (bodyL s.data.toList) dn) = (⟨D.toArray⟩, true)) := ⟨by rw [hsp]; rfl⟩
      have hD := splitC_spec hsp
      have hDl : D.length ≤ 100 := by have := body_len s.data.toList; rw [Lib.size_eq] at hs; omega
      obtain ⟨u, hu⟩ : ∃ u : ByteArray, (⟨(Lib.trimLeftB (⟨D.toArray⟩ : ByteArray).data.toList 48).toArray⟩ : ByteArray) = u := ⟨_, rfl⟩
      have hul : u.data.toList = D.dropWhile (· == 48) := by rw [← hu]; rfl
      have hud : u.data.toList.all isD = true := by rw [hul]; exact drop_all hD.1
      have huz : u.size ≤ 100 := by rw [Lib.size_eq, hul]; exact Nat.le_trans (List.dropWhile_sublist _).length_le hDl
      have h1 : parV m u.data.toList = (n, ev) := by rw [hul]; exact h
      unfold parV at h1
      have HU := Aside0.mk hu
      clear h hsp hD hDl hul hu
      by_cases e0 : u.data.toList = []
      · have hE : u.toList.isEmpty = true := by rw [Lib.toList_data, e0]; rfl
        rw [if_pos e0] at h1
        clear e0 hud
        cases m with
        | false =>
          obtain ⟨rfl, rfl⟩ := Prod.mk.inj (show ((0 : Int), (0 : Int)) = (n, ev) from h1)
          clear h1
          go_enter Tryd.func17, Tryd.ntmps17
          go_wp2_with fail
          refine (money_places.calls dn _ _ HPl.out).mono ?_
          rintro e w1 ⟨rfl, hd1⟩
          have HB := Aside0.mk hd1.below
          clear hd1
          go_wp2_with fail
          refine (split_calls s dn hd4 hs _ _ _ HS.out).mono ?_
          rintro e w2 ⟨rfl, hb⟩
          have HBn := Aside0.mk (HB.out.trans (hb.mono HB.out.size))
          clear HB hb
          have HB := HBn
          clear HBn
          go_wp2_with fail
          refine (tl_calls _ u _ HU.out).mono ?_
          rintro e w3 ⟨rfl, hw3⟩
          subst hw3
          go_wp2_with fail
          refine (hp_calls _ _ _ _ HM.out).mono ?_
          rintro e w4 ⟨rfl, hw4⟩
          subst hw4
          go_wp2
          go_ret2
          exact ⟨rfl, HB.out⟩
        | true =>
          obtain ⟨rfl, rfl⟩ := Prod.mk.inj (show ((0 : Int), (2 : Int)) = (n, ev) from h1)
          clear h1
          go_enter Tryd.func17, Tryd.ntmps17
          go_wp2_with fail
          refine (money_places.calls dn _ _ HPl.out).mono ?_
          rintro e w1 ⟨rfl, hd1⟩
          have HB := Aside0.mk hd1.below
          clear hd1
          go_wp2_with fail
          refine (split_calls s dn hd4 hs _ _ _ HS.out).mono ?_
          rintro e w2 ⟨rfl, hb⟩
          have HBn := Aside0.mk (HB.out.trans (hb.mono HB.out.size))
          clear HB hb
          have HB := HBn
          clear HBn
          go_wp2_with fail
          refine (tl_calls _ u _ HU.out).mono ?_
          rintro e w3 ⟨rfl, hw3⟩
          subst hw3
          go_wp2_with fail
          refine (hp_calls _ _ _ _ HM.out).mono ?_
          rintro e w4 ⟨rfl, hw4⟩
          subst hw4
          go_wp2
          go_ret2
          exact ⟨rfl, HB.out⟩
      · have hE : u.toList.isEmpty = false := by rw [Lib.toList_data]; cases hW : u.data.toList with | nil => exact absurd hW e0 | cons c r => rfl
        rw [if_neg e0] at h1
        obtain ⟨v, hv⟩ : ∃ v, valF 0 u.data.toList = v := ⟨_, rfl⟩
        rw [hv] at h1
        by_cases c1 : v < 9223372036854775808
        · have ha := atoi_ok_of _ hud e0 (by rw [hv]; exact c1)
          rw [hv] at ha
          clear e0 hud hv
          have HA := Aside0.mk ha
          clear ha
          by_cases c2 : 1000000000000 < v
          · rw [if_pos c2] at h1
            obtain ⟨rfl, rfl⟩ := Prod.mk.inj h1
            have g1 : decide (1000000000000 < (v : Int)) = true := decide_eq_true (by omega)
            have g2 : decide (1000000000000 < v) = true := decide_eq_true c2
            clear h1 c1 c2
            cases m with
            | false =>
              go_enter Tryd.func17, Tryd.ntmps17
              go_wp2_with fail
              refine (money_places.calls dn _ _ HPl.out).mono ?_
              rintro e w1 ⟨rfl, hd1⟩
              have HB := Aside0.mk hd1.below
              clear hd1
              go_wp2_with fail
              refine (split_calls s dn hd4 hs _ _ _ HS.out).mono ?_
              rintro e w2 ⟨rfl, hb⟩
              have HBn := Aside0.mk (HB.out.trans (hb.mono HB.out.size))
              clear HB hb
              have HB := HBn
              clear HBn
              go_wp2_with fail
              refine (tl_calls _ u _ HU.out).mono ?_
              rintro e w3 ⟨rfl, hw3⟩
              subst hw3
              go_wp2_with fail
              refine (hp_calls _ _ _ _ HM.out).mono ?_
              rintro e w4 ⟨rfl, hw4⟩
              subst hw4
              go_wp2_with fail
              refine (atoi_ok _ _ _ huz HA.out).mono ?_
              rintro e w5 ⟨rfl, hb⟩
              have HBn := Aside0.mk (HB.out.trans (hb.mono HB.out.size))
              clear HB hb
              have HB := HBn
              clear HBn
              go_wp2
              go_ret2
              exact ⟨rfl, HB.out⟩
            | true =>
              go_enter Tryd.func17, Tryd.ntmps17
              go_wp2_with fail
              refine (money_places.calls dn _ _ HPl.out).mono ?_
              rintro e w1 ⟨rfl, hd1⟩
              have HB := Aside0.mk hd1.below
              clear hd1
              go_wp2_with fail
              refine (split_calls s dn hd4 hs _ _ _ HS.out).mono ?_
              rintro e w2 ⟨rfl, hb⟩
              have HBn := Aside0.mk (HB.out.trans (hb.mono HB.out.size))
              clear HB hb
              have HB := HBn
              clear HBn
              go_wp2_with fail
              refine (tl_calls _ u _ HU.out).mono ?_
              rintro e w3 ⟨rfl, hw3⟩
              subst hw3
              go_wp2_with fail
              refine (hp_calls _ _ _ _ HM.out).mono ?_
              rintro e w4 ⟨rfl, hw4⟩
              subst hw4
              go_wp2_with fail
              refine (atoi_ok _ _ _ huz HA.out).mono ?_
              rintro e w5 ⟨rfl, hb⟩
              have HBn := Aside0.mk (HB.out.trans (hb.mono HB.out.size))
              clear HB hb
              have HB := HBn
              clear HBn
              go_wp2
              go_ret2
              exact ⟨rfl, HB.out⟩
          · rw [if_neg c2] at h1
            have g1 : decide (1000000000000 < (v : Int)) = false := decide_eq_false (by omega)
            have g2 : decide (1000000000000 < v) = false := decide_eq_false c2
            have g3 : IntKind.i64.wrap (-(v : Int)) = -(v : Int) := IntWalk.i64_in _ (by omega)
            clear c1 c2
            cases m with
            | false =>
              obtain ⟨rfl, rfl⟩ := Prod.mk.inj (show (((v : Int) : Int), (0 : Int)) = (n, ev) from h1)
              clear h1
              go_enter Tryd.func17, Tryd.ntmps17
              go_wp2_with fail
              refine (money_places.calls dn _ _ HPl.out).mono ?_
              rintro e w1 ⟨rfl, hd1⟩
              have HB := Aside0.mk hd1.below
              clear hd1
              go_wp2_with fail
              refine (split_calls s dn hd4 hs _ _ _ HS.out).mono ?_
              rintro e w2 ⟨rfl, hb⟩
              have HBn := Aside0.mk (HB.out.trans (hb.mono HB.out.size))
              clear HB hb
              have HB := HBn
              clear HBn
              go_wp2_with fail
              refine (tl_calls _ u _ HU.out).mono ?_
              rintro e w3 ⟨rfl, hw3⟩
              subst hw3
              go_wp2_with fail
              refine (hp_calls _ _ _ _ HM.out).mono ?_
              rintro e w4 ⟨rfl, hw4⟩
              subst hw4
              go_wp2_with fail
              refine (atoi_ok _ _ _ huz HA.out).mono ?_
              rintro e w5 ⟨rfl, hb⟩
              have HBn := Aside0.mk (HB.out.trans (hb.mono HB.out.size))
              clear HB hb
              have HB := HBn
              clear HBn
              go_wp2
              go_ret2
              exact ⟨rfl, HB.out⟩
            | true =>
              obtain ⟨rfl, rfl⟩ := Prod.mk.inj (show ((-(v : Int) : Int), (0 : Int)) = (n, ev) from h1)
              clear h1
              go_enter Tryd.func17, Tryd.ntmps17
              go_wp2_with fail
              refine (money_places.calls dn _ _ HPl.out).mono ?_
              rintro e w1 ⟨rfl, hd1⟩
              have HB := Aside0.mk hd1.below
              clear hd1
              go_wp2_with fail
              refine (split_calls s dn hd4 hs _ _ _ HS.out).mono ?_
              rintro e w2 ⟨rfl, hb⟩
              have HBn := Aside0.mk (HB.out.trans (hb.mono HB.out.size))
              clear HB hb
              have HB := HBn
              clear HBn
              go_wp2_with fail
              refine (tl_calls _ u _ HU.out).mono ?_
              rintro e w3 ⟨rfl, hw3⟩
              subst hw3
              go_wp2_with fail
              refine (hp_calls _ _ _ _ HM.out).mono ?_
              rintro e w4 ⟨rfl, hw4⟩
              subst hw4
              go_wp2_with fail
              refine (atoi_ok _ _ _ huz HA.out).mono ?_
              rintro e w5 ⟨rfl, hb⟩
              have HBn := Aside0.mk (HB.out.trans (hb.mono HB.out.size))
              clear HB hb
              have HB := HBn
              clear HBn
              go_wp2
              go_ret2
              exact ⟨rfl, HB.out⟩
        · have ha := atoi_range_of _ hud e0 (by rw [hv]; omega)
          clear e0 hud hv
          rw [if_pos (by omega)] at h1
          obtain ⟨rfl, rfl⟩ := Prod.mk.inj h1
          have HA := Aside0.mk ha
          clear ha h1 c1
          cases m with
          | false =>
            go_enter Tryd.func17, Tryd.ntmps17
            go_wp2_with fail
            refine (money_places.calls dn _ _ HPl.out).mono ?_
            rintro e w1 ⟨rfl, hd1⟩
            have HB := Aside0.mk hd1.below
            clear hd1
            go_wp2_with fail
            refine (split_calls s dn hd4 hs _ _ _ HS.out).mono ?_
            rintro e w2 ⟨rfl, hb⟩
            have HBn := Aside0.mk (HB.out.trans (hb.mono HB.out.size))
            clear HB hb
            have HB := HBn
            clear HBn
            go_wp2_with fail
            refine (tl_calls _ u _ HU.out).mono ?_
            rintro e w3 ⟨rfl, hw3⟩
            subst hw3
            go_wp2_with fail
            refine (hp_calls _ _ _ _ HM.out).mono ?_
            rintro e w4 ⟨rfl, hw4⟩
            subst hw4
            go_wp2_with fail
            refine (atoi_range _ _ huz (HG.out.below HB.out) HA.out).mono ?_
            rintro e w5 ⟨N, y, rfl, hb⟩
            have HBn := Aside0.mk (HB.out.trans (hb.mono HB.out.size))
            clear HB hb
            have HB := HBn
            clear HBn
            go_wp2
            go_ret2
            exact ⟨rfl, HB.out⟩
          | true =>
            go_enter Tryd.func17, Tryd.ntmps17
            go_wp2_with fail
            refine (money_places.calls dn _ _ HPl.out).mono ?_
            rintro e w1 ⟨rfl, hd1⟩
            have HB := Aside0.mk hd1.below
            clear hd1
            go_wp2_with fail
            refine (split_calls s dn hd4 hs _ _ _ HS.out).mono ?_
            rintro e w2 ⟨rfl, hb⟩
            have HBn := Aside0.mk (HB.out.trans (hb.mono HB.out.size))
            clear HB hb
            have HB := HBn
            clear HBn
            go_wp2_with fail
            refine (tl_calls _ u _ HU.out).mono ?_
            rintro e w3 ⟨rfl, hw3⟩
            subst hw3
            go_wp2_with fail
            refine (hp_calls _ _ _ _ HM.out).mono ?_
            rintro e w4 ⟨rfl, hw4⟩
            subst hw4
            go_wp2_with fail
            refine (atoi_range _ _ huz (HG.out.below HB.out) HA.out).mono ?_
            rintro e w5 ⟨N, y, rfl, hb⟩
            have HBn := Aside0.mk (HB.out.trans (hb.mono HB.out.size))
            clear HB hb
            have HB := HBn
            clear HBn
            go_wp2
            go_ret2
            exact ⟨rfl, HB.out⟩
  · rw [if_neg t1] at h
    obtain ⟨rfl, rfl⟩ := Prod.mk.inj h
    rw [show placesB d = false from by simpa using t1] at HPl
    clear h t1
    go_enter Tryd.func17, Tryd.ntmps17
    go_wp2_with fail
    refine (money_places.calls d _ _ HPl.out).mono ?_
    rintro e w1 ⟨rfl, hd1⟩
    have HB := Aside0.mk hd1.below
    clear hd1
    go_wp2
    go_ret2
    exact ⟨rfl, HB.out⟩
end Go.Proofs.YtbeebjpbmbkodaaDoor.Q
