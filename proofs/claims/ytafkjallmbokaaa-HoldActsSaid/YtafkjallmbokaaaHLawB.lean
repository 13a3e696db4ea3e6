/- The law HoldActs answers true: in every sequence of calls each result is the reference's. -/
import Derived.Test.YtafkjallmbokaaaPureD
import Derived.Test.YtafkjallmbokaaaHDone
import Derived.Test.YtafkjallmbokaaaPureB
import Derived.Test.YtafkjallmbokaaaGreat
import Derived.Test.YtafkjallmbokaaaQx6
namespace Go.Proofs.Ytafkjallmbokaaa.Q
open Go.RowKit Go.Proofs.YtafkjallmbokaaaW.PrintWords Go.Proofs.YtafkjallmbokaaaW.PrintLast Go.Proofs.YtafkjallmbokaaaW.PrintMore
set_option linter.unusedVariables false
set_option linter.unusedSimpArgs false

theorem done_ok (A0 : Option Addr) (c0 : Nat) (l0 : List S26) (x : S38) (w : World) (hr0 : Kd.C k26 w A0 l0.length l0) (hc0 : l0.length ≤ c0) (hl : okL l0) (hb : x.f4.f5.size ≤ 200) :
    Calls Try.prog 16 #[.slice A0 l0.length c0, .agg #[.int .i64 x.f0, .int .i64 x.f1, .int .i64 x.f2, .int .i64 x.f3, .int .i64 x.f4.f0, .int .i64 x.f4.f1, .int .i64 x.f4.f2, .int .i64 x.f4.f3, .int .i64 x.f4.f4, .string x.f4.f5]] w
      (fun e w' => ∃ r, okL r ∧ DonePost w r e w') := by
  by_cases h0 : x.f0 = 0
  · rw [h0]
    obtain ⟨xs, ev, he⟩ : ∃ xs ev, placeL l0 x.f4 = (xs, ev) := ⟨_, _, rfl⟩
    have hlen : xs.length ≤ 101 := by
      rcases place_all l0 x.f4 with ⟨e, _, h64, _⟩ | ⟨e, _⟩
      · rw [he] at e; obtain ⟨rfl, _⟩ := Prod.mk.inj e; simp; omega
      · rw [he] at e; dsimp only at e; subst e; exact Nat.zero_le _
    refine (done_place A0 c0 l0 x.f1 x.f2 x.f3 x.f4.f0 x.f4.f1 x.f4.f2 x.f4.f3 x.f4.f4 x.f4.f5 w hr0 hc0 1000 xs ev ((place_eq l0 x.f4 hl hb).trans (congrArg some he)) ((rplace_eq l0 x.f4 hl hb 1000 (by omega)).trans (congrArg some he)) (same_refl xs (by omega) _ (by omega)) (fun h => ?_) (if ev = 0 then xs else l0) (fun t => (if_pos t).symm) (fun t => (if_neg t).symm)).mono (fun e w' hp => ⟨_, ?_, hp⟩)
    · rcases place_all l0 x.f4 with ⟨e, _⟩ | ⟨e, _⟩
      · rw [he] at e; exact absurd (Prod.mk.inj e).2 h
      · rw [he] at e; exact e
    · by_cases t : ev = 0
      · rw [if_pos t]
        have := place_okL hl hb (by rw [he]; exact t)
        rw [he] at this
        exact this
      · rw [if_neg t]; exact hl
  · by_cases h1 : x.f0 = 1
    · rw [h1]
      obtain ⟨xs, ev, he⟩ : ∃ xs ev, useL l0 x.f1 x.f2 x.f3 = (xs, ev) := ⟨_, _, rfl⟩
      have hz : ev ≠ 0 → xs = [] := fun h => by
        rcases use_all l0 x.f1 x.f2 x.f3 with ⟨e, _⟩ | ⟨p, _, _, _, ⟨_, e⟩ | ⟨_, e⟩⟩
        · rw [he] at e; exact e
        · rw [he] at e; exact absurd (Prod.mk.inj e).2 h
        · rw [he] at e; exact absurd (Prod.mk.inj e).2 h
      have hok : ev = 0 → okL xs := fun t => by
        have := use_okL hl x.f1 x.f2 x.f3 (by rw [he]; exact t)
        rw [he] at this
        exact this
      have hlen : xs.length ≤ 101 := by
        by_cases t : ev = 0
        · have := (hok t).1; omega
        · rw [hz t]; exact Nat.zero_le _
      refine (done_use A0 c0 l0 x.f1 x.f2 x.f3 x.f4.f0 x.f4.f1 x.f4.f2 x.f4.f3 x.f4.f4 x.f4.f5 w hr0 hc0 1000 xs ev ((use_eq l0 hl _ _ _ 1000 (by omega)).trans (congrArg some he)) ((ruse_eq l0 hl _ _ _ 1000 (by omega)).trans (congrArg some he)) (same_refl xs (by omega) _ (by omega)) hz (if ev = 0 then xs else l0) (fun t => (if_pos t).symm) (fun t => (if_neg t).symm)).mono (fun e w' hp => ⟨_, ?_, hp⟩)
      by_cases t : ev = 0
      · rw [if_pos t]; exact hok t
      · rw [if_neg t]; exact hl
    · by_cases h2 : x.f0 = 2
      · rw [h2]
        obtain ⟨xs, ev, he⟩ : ∃ xs ev, releaseL l0 x.f1 = (xs, ev) := ⟨_, _, rfl⟩
        have hz : ev ≠ 0 → xs = [] := fun h => by
          rcases release_all l0 x.f1 with ⟨e, _⟩ | ⟨p, _, _, _, e⟩
          · rw [he] at e; exact (Prod.mk.inj e).1
          · rw [he] at e; exact absurd (Prod.mk.inj e).2 h
        have hok : ev = 0 → okL xs := fun t => by
          have := release_okL hl x.f1 (by rw [he]; exact t)
          rw [he] at this
          exact this
        have hlen : xs.length ≤ 101 := by
          by_cases t : ev = 0
          · have := (hok t).1; omega
          · rw [hz t]; exact Nat.zero_le _
        refine (done_release A0 c0 l0 x.f1 x.f2 x.f3 x.f4.f0 x.f4.f1 x.f4.f2 x.f4.f3 x.f4.f4 x.f4.f5 w hr0 hc0 1000 xs ev ((release_eq l0 hl _).trans (congrArg some he)) ((rrelease_eq l0 hl _ 1000 (by omega)).trans (congrArg some he)) (same_refl xs (by omega) _ (by omega)) hz (if ev = 0 then xs else l0) (fun t => (if_pos t).symm) (fun t => (if_neg t).symm)).mono (fun e w' hp => ⟨_, ?_, hp⟩)
        by_cases t : ev = 0
        · rw [if_pos t]; exact hok t
        · rw [if_neg t]; exact hl
      · by_cases h3 : x.f0 = 3
        · rw [h3]
          have hok := expire_okL hl x.f3
          have h100 := hok.1
          have hl1 := hl.1
          have hi : ((l0.filter (endedB x.f3)).map (·.f0)).length ≤ 100 := by rw [List.length_map]; exact Nat.le_trans (List.length_filter_le _ _) hl1
          exact (done_expire A0 c0 l0 x.f1 x.f2 x.f3 x.f4.f0 x.f4.f1 x.f4.f2 x.f4.f3 x.f4.f4 x.f4.f5 w hr0 hc0 1000 _ _ (expire_eq l0 hl x.f3) (rexpire_eq l0 hl x.f3 1000 (by omega)) (same_refl _ (by omega) _ (by omega)) (ints_refl _ (by omega) _ (by omega))).mono (fun e w' hp => ⟨_, hok, hp⟩)
        · exact (done_other A0 c0 l0 x.f0 x.f1 x.f2 x.f3 x.f4.f0 x.f4.f1 x.f4.f2 x.f4.f3 x.f4.f4 x.f4.f5 w hr0 hc0 h0 h1 h2 h3).mono (fun e w' hp => ⟨_, hl, hp⟩)

set_option maxHeartbeats 4000000 in
set_option maxRecDepth 100000 in
theorem holdActs_calls (A0 : Option Addr) (c0 : Nat) (l0 : List S26) (A1 : Option Addr) (c1 : Nat) (l1 : List S38) (w : World) (hr0 : Kd.C k26 w A0 l0.length l0) (hc0 : l0.length ≤ c0) (ok0 : ∀ x ∈ l0, x.f2 ≤ 9223372036854775807) (hr1 : Kd.C k38 w A1 l1.length l1) (hc1 : l1.length ≤ c1) :
    Calls Try.prog 4 #[.slice A0 l0.length c0, .slice A1 l1.length c1] w fun e w' => e = .returned (.bool true) ∧ Below w.heap.size w w' := by
  have HR0 := Aside0.mk hr0
  have HC0 := Aside0.mk hc0
  have HR1 := Aside0.mk hr1
  have HC1 := Aside0.mk hc1
  have hm1 : l1.length ≤ 9223372036854775807 := hr1.2.1
  have HGr : Aside0 (corebankref22_Great.f (l0.length + 1) l0 = some (greatB l0)) := ⟨great_eq l0 _ (by omega)⟩
  have HLv := Aside0.mk live_true
  obtain ⟨sb, hsb, hsh⟩ := short_eq l1
  have HSb := Aside0.mk hsb
  have HSh := Aside0.mk hsh
  clear hr0 hc0 hr1 hc1 hsb hsh
  by_cases tg : greatB l0 = true
  · rw [tg] at HGr
    clear tg
    go_enter Try.func4, Try.ntmps4
    go_wp2_with fail
    refine (corebankref22_Great.calls _ A0 c0 l0 _ _ HR0.out HC0.out HGr.out).mono ?_
    rintro e w1 ⟨rfl, hd1⟩
    have HB1 := Aside0.mk hd1.below
    clear hd1
    go_wp2_with fail
    refine (corebanklaw22_live.calls _ _ _ HLv.out).mono ?_
    rintro e w2 ⟨rfl, hb2⟩
    have HB2 := Aside0.mk (HB1.out.trans (hb2.mono HB1.out.size))
    clear hb2
    go_wp2
    go_ret
    exact ⟨rfl, HB2.out⟩
  · rw [Bool.eq_false_iff.2 tg] at HGr
    have HOk : Aside0 (okL l0) := ⟨great_ok (Bool.eq_false_iff.2 tg) ok0⟩
    clear tg
    cases sb with
    | false =>
      go_enter Try.func4, Try.ntmps4
      go_wp2_with fail
      refine (corebankref22_Great.calls _ A0 c0 l0 _ _ HR0.out HC0.out HGr.out).mono ?_
      rintro e w1 ⟨rfl, hd1⟩
      have HB1 := Aside0.mk hd1.below
      clear hd1
      go_wp2_with fail
      refine (corebanklaw22_short.calls _ A1 c1 l1 _ _ (Kd.C_below HR1.out HB1.out) HC1.out HSb.out).mono ?_
      rintro e w2 ⟨rfl, hd2⟩
      have HB2 := Aside0.mk (HB1.out.trans (hd2.below.mono HB1.out.size))
      clear hd2
      go_wp2_with fail
      refine (corebanklaw22_live.calls _ _ _ HLv.out).mono ?_
      rintro e w3 ⟨rfl, hb3⟩
      have HB3 := Aside0.mk (HB2.out.trans (hb3.mono HB2.out.size))
      clear hb3
      go_wp2
      go_ret
      exact ⟨rfl, HB3.out⟩
    | true =>
      have HSk := Aside0.mk (HSh.out rfl)
      clear HSh
      go_enter Try.func4, Try.ntmps4
      go_wp2_with fail
      refine (corebankref22_Great.calls _ A0 c0 l0 _ _ HR0.out HC0.out HGr.out).mono ?_
      rintro e w1 ⟨rfl, hd1⟩
      have HB1 := Aside0.mk hd1.below
      clear hd1
      go_wp2_with fail
      refine (corebanklaw22_short.calls _ A1 c1 l1 _ _ (Kd.C_below HR1.out HB1.out) HC1.out HSb.out).mono ?_
      rintro e w2 ⟨rfl, hd2⟩
      have HB2 := Aside0.mk (HB1.out.trans (hd2.below.mono HB1.out.size))
      clear hd2 HB1
      go_wp2_with fail
      go_loopg [0, 5] l1.length (fun gg s0 s5 wr => ∃ (kk : Nat) (l : List S26) (A : Option Addr) (c : Nat), s0 = .slice A l.length c ∧ s5 = .int .i64 kk ∧ Aside0 (kk ≤ l1.length ∧ l1.length - kk ≤ gg) ∧ Aside0 (okL l) ∧ Aside0 (Kd.C k26 wr A l.length l) ∧ Aside0 (l.length ≤ c) ∧ Aside0 (Below w.heap.size w wr))
      case atStart => exact ⟨0, l0, A0, c0, rfl, rfl, ⟨by omega, by omega⟩, HOk, ⟨Kd.C_below HR0.out HB2.out⟩, HC0, HB2⟩
      case round =>
        clear HOk HR0 HC0 HB2
        obtain ⟨kk, l, A, c, rfl, rfl, HK, HO, HR, HC, HB⟩ := hrel
        by_cases t : kk < l1.length
        · obtain ⟨x, hx⟩ : ∃ x, x = l1.getD kk z38 := ⟨_, rfl⟩
          have hk200 := HSk.out.2 kk t
          rw [← hx] at hk200
          have HK2 := Aside0.mk hk200
          obtain ⟨ad, e, h0, h1, h2, h3, h4, h5, h6, h7, h8, h9⟩ := at_T38 HR1.out kk (by omega) (by omega)
          cases e
          replace h0 := (HB.out.cell (World.block_lt_of_cell? w _ h0)).trans h0
          replace h1 := (HB.out.cell (World.block_lt_of_cell? w _ h1)).trans h1
          replace h2 := (HB.out.cell (World.block_lt_of_cell? w _ h2)).trans h2
          replace h3 := (HB.out.cell (World.block_lt_of_cell? w _ h3)).trans h3
          replace h4 := (HB.out.cell (World.block_lt_of_cell? w _ h4)).trans h4
          replace h5 := (HB.out.cell (World.block_lt_of_cell? w _ h5)).trans h5
          replace h6 := (HB.out.cell (World.block_lt_of_cell? w _ h6)).trans h6
          replace h7 := (HB.out.cell (World.block_lt_of_cell? w _ h7)).trans h7
          replace h8 := (HB.out.cell (World.block_lt_of_cell? w _ h8)).trans h8
          replace h9 := (HB.out.cell (World.block_lt_of_cell? w _ h9)).trans h9
          rw [show rd_T38 l1 (kk : Int) = x by rw [hx]; rfl] at h0 h1 h2 h3 h4 h5 h6 h7 h8 h9
          simp only [Int.toNat_natCast] at h0 h1 h2 h3 h4 h5 h6 h7 h8 h9
          clear hx hk200
          go_wp2_with fail
          refine (done_ok A c l x wr HR.out HC.out HO.out HK2.out).mono ?_
          rintro e w3 ⟨r, hr, A', c', rfl, hC, hc', hb3⟩
          have HO3 := Aside0.mk hr
          have HR3 := Aside0.mk hC
          have HC3 := Aside0.mk hc'
          have HB3 := Aside0.mk (HB.out.trans (hb3.mono HB.out.size))
          clear hr hC hc' hb3 h0 h1 h2 h3 h4 h5 h6 h7 h8 h9
          go_wp2
          go_roundg (l1.length - (kk + 1))
          case measure => have := HK.out; omega
          case rel => exact ⟨kk + 1, r, A', c', rfl, by go_num, ⟨by omega, by omega⟩, HO3, HR3, HC3, HB3⟩
        · have hk := HK.out
          go_wp2_with fail
          refine (corebanklaw22_live.calls _ _ _ HLv.out).mono ?_
          rintro e w3 ⟨rfl, hb3⟩
          have HB3 := Aside0.mk (HB.out.trans (hb3.mono HB.out.size))
          clear hb3
          go_wp2
          go_ret
          exact ⟨rfl, HB3.out⟩
end Go.Proofs.Ytafkjallmbokaaa.Q
