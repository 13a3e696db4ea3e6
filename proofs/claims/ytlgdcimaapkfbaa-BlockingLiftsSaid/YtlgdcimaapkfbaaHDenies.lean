/- blocking.Denies and blocking.Reserved. -/
import Derived.Test.YtlgdcimaapkfbaaHCover
import Derived.Test.YtlgdcimaapkfbaaPureL
namespace Go.Proofs.Ytlgdcimaapkfbaa.Q
open Go.RowKit Go.Proofs.YtlgdcimaapkfbaaW.PrintWords Go.Proofs.YtlgdcimaapkfbaaW.PrintLast Go.Proofs.YtlgdcimaapkfbaaW.PrintMore
set_option linter.unusedVariables false
set_option linter.unusedSimpArgs false

theorem predDenies (amount : Int) (B : Nat) (w : World) (hB : B < w.heap.size) (hcell : w.cell? ⟨B, 0, none⟩ = some (.int .i64 amount)) :
    Pred 35 #[.pointer (some ⟨B, 0, none⟩)] (denB amount) w := fun W x hb => by
  have hc : W.cell? ⟨B, 0, none⟩ = some (.int .i64 amount) := (hb.cell (p := ⟨B, 0, none⟩) hB).trans hcell
  have hBW : B < W.heap.size := Nat.lt_of_lt_of_le hB hb.size
  have hne : B ≠ W.heap.size := by omega
  show Calls Try.prog 35 #[.agg #[.int .i64 x.f0, .int .i64 x.f1, .int .i64 x.f2, .int .i64 x.f3, .int .i64 x.f4, .int .i64 x.f5, .string x.f6], .pointer (some ⟨B, 0, none⟩)] W _
  have HD := Aside0.mk (fun W => denies_calls x amount W)
  go_enter Try.func35, Try.ntmps35
  go_wp2_with fail
  have HZ := HD.out
  refine (HZ _).mono ?_
  rintro e w1 ⟨rfl, hb1⟩
  go_wp2
  go_ret
  exact ⟨rfl, by first | exact hb.trans (hb1.mono hb.size) | exact (below_alloc hb _).trans (hb1.mono (by have := hb.size; simp; omega))⟩

def blocking_Denies.f (l0 : List S28) (a1 a2 a3 : Int) : Option Bool := if l0.length < 2199023255552 then some ((l0.filter (actB a1 a2)).any (denB a3)) else none

set_option maxHeartbeats 2000000 in
theorem blocking_Denies.calls (A0 : Option Addr) (c0 : Nat) (l0 : List (S28)) (a1 : Int) (a2 : Int) (a3 : Int) (r : Bool) (w : World) (hr0 : Kd.C k28 w A0 l0.length l0) (hc0 : l0.length ≤ c0) (h : blocking_Denies.f l0 a1 a2 a3 = some r) :
    Calls Try.prog 20 #[.slice A0 l0.length c0, .int .i64 a1, .int .i64 a2, .int .i64 a3] w fun e w' => e = .returned (.bool r) ∧ Below w.heap.size w w' := by
  have hlt : l0.length < 2199023255552 := by
    unfold blocking_Denies.f at h
    by_cases e : l0.length < 2199023255552
    · exact e
    · rw [if_neg e] at h; cases h
  unfold blocking_Denies.f at h
  rw [if_pos hlt] at h
  have HAc := Aside0.mk (active_eq l0 a1 a2 hlt (l0.length + 1) (by omega))
  obtain ⟨xs, hxs⟩ : ∃ xs, xs = l0.filter (actB a1 a2) := ⟨_, rfl⟩
  rw [← hxs] at HAc h
  have HR0 := Aside0.mk hr0
  have HC0 := Aside0.mk hc0
  have HH := Aside0.mk h
  clear hr0 hc0 hxs h
  go_enter Try.func20, Try.ntmps20
  go_wp2_with fail
  refine (blocking_Active.calls _ A0 c0 l0 a1 a2 xs _ (Kd.C_below HR0.out (below_alloc (Below.refl _ _) _)) HC0.out HAc.out).mono ?_
  rintro e w1 ⟨v1, rfl, ho1, hb1⟩
  have HB1 := Aside0.mk ((below_alloc (Below.refl w.heap.size w) _).trans (hb1.mono (show w.heap.size ≤ _ by simp)))
  have HK1 : Aside0 (w1.heap[w.heap.size]? = some (.cells #[.int .i64 a3] 3 (0, 0))) := ⟨blk_below (blk_new w _) hb1⟩
  obtain ⟨A1, c1, rfl⟩ := Kd.R_slice ho1
  have HX := Aside0.mk (Kd.R_reads' ho1).2.2
  clear ho1 hb1
  go_wp2_with fail
  refine (containsFunc (denB a3) 35 #[.pointer (some ⟨w.heap.size, 0, none⟩)] (enters_of Try.func35 (by kernel_rfl) rfl) A1 c1 xs _ HX.out (predDenies a3 w.heap.size _ (blk_lt HK1.out) (by have := blk_cell HK1.out 0; simpa using this))).mono ?_
  rintro e w2 ⟨rfl, hb2⟩
  have HB2 := Aside0.mk (HB1.out.trans (hb2.mono (show w.heap.size ≤ _ from HB1.out.size)))
  clear hb2
  go_wp2
  go_ret
  exact ⟨by rw [Option.some.inj HH.out]; rfl, HB2.out⟩

theorem cover_other (x : S28) (h : x.f2 ≠ 4) : ∃ V, coverV x.f2 x.f3 = V ∧ ∀ w, (Instr.typeAssert V 20 51 true).run Try.prog w = .ok (.tuple #[.agg #[.int .i64 0], .bool false]) w := by
  unfold coverV
  by_cases c1 : x.f2 = 1
  · rw [if_pos c1]; exact ⟨_, rfl, asrt55_51 _⟩
  · rw [if_neg c1]
    by_cases c2 : x.f2 = 2
    · rw [if_pos c2]; exact ⟨_, rfl, asrt56_51 _⟩
    · rw [if_neg c2]
      by_cases c3 : x.f2 = 3
      · rw [if_pos c3]; exact ⟨_, rfl, asrt57_51 _⟩
      · rw [if_neg c3, if_neg h]; exact ⟨_, rfl, asrt58_51 _⟩
attribute [local go_sem] asrt51_51
def resStep (acc : Int) (x : S28) : Int := if x.f2 = 4 then wrap64 (acc + x.f3) else acc
def blocking_Reserved.f (l0 : List S28) (a1 a2 : Int) : Option Int := if l0.length < 2199023255552 then some ((l0.filter (actB a1 a2)).foldl resStep 0) else none

set_option maxHeartbeats 2000000 in
theorem blocking_Reserved.calls (A0 : Option Addr) (c0 : Nat) (l0 : List (S28)) (a1 : Int) (a2 : Int) (r : Int) (w : World) (hr0 : Kd.C k28 w A0 l0.length l0) (hc0 : l0.length ≤ c0) (h : blocking_Reserved.f l0 a1 a2 = some r) :
    Calls Try.prog 22 #[.slice A0 l0.length c0, .int .i64 a1, .int .i64 a2] w fun e w' => e = .returned (.int .i64 r) ∧ Below w.heap.size w w' := by
  have hlt : l0.length < 2199023255552 := by
    unfold blocking_Reserved.f at h
    by_cases e : l0.length < 2199023255552
    · exact e
    · rw [if_neg e] at h; cases h
  unfold blocking_Reserved.f at h
  rw [if_pos hlt] at h
  have HAc := Aside0.mk (active_eq l0 a1 a2 hlt (l0.length + 1) (by omega))
  obtain ⟨xs, hxs⟩ : ∃ xs, xs = l0.filter (actB a1 a2) := ⟨_, rfl⟩
  rw [← hxs] at HAc h
  have HR0 := Aside0.mk hr0
  have HC0 := Aside0.mk hc0
  have HH := Aside0.mk h
  clear hr0 hc0 hxs h hlt
  go_enter Try.func22, Try.ntmps22
  go_wp2_with fail
  refine (blocking_Active.calls _ A0 c0 l0 a1 a2 xs _ HR0.out HC0.out HAc.out).mono ?_
  rintro e w1 ⟨v1, rfl, ho1, hb1⟩
  have HB1 := Aside0.mk hb1
  obtain ⟨A1, c1, rfl⟩ := Kd.R_slice ho1
  have HX := Aside0.mk (Kd.R_reads' ho1).2.2
  have hm : xs.length ≤ 9223372036854775807 := HX.out.2.1
  clear ho1 hb1
  go_wp2
  go_loopg [7, 9, 10, 11, 17] xs.length (fun gg s7 _ _ _ s17 wr => ∃ kk : Nat, s17 = .int .i64 kk ∧ s7 = .int .i64 ((xs.take kk).foldl resStep 0) ∧ Aside0 (kk ≤ xs.length ∧ xs.length - kk ≤ gg) ∧ Aside0 (Below w1.heap.size w1 wr))
  case atStart => exact ⟨0, rfl, rfl, ⟨by omega, by omega⟩, ⟨Below.refl _ _⟩⟩
  case round =>
    obtain ⟨kk, rfl, rfl, HK, HB⟩ := hrel
    by_cases c : kk < xs.length
    · obtain ⟨x, hx⟩ : ∃ x, x = xs.getD kk z28 := ⟨_, rfl⟩
      obtain ⟨ad, e, h0, h1, h2, h3, h4, h5, h6⟩ := at_T28 HX.out kk (by omega) (by omega)
      cases e
      replace h0 := (HB.out.cell (World.block_lt_of_cell? w1 _ h0)).trans h0
      replace h1 := (HB.out.cell (World.block_lt_of_cell? w1 _ h1)).trans h1
      replace h2 := (HB.out.cell (World.block_lt_of_cell? w1 _ h2)).trans h2
      replace h3 := (HB.out.cell (World.block_lt_of_cell? w1 _ h3)).trans h3
      replace h4 := (HB.out.cell (World.block_lt_of_cell? w1 _ h4)).trans h4
      replace h5 := (HB.out.cell (World.block_lt_of_cell? w1 _ h5)).trans h5
      replace h6 := (HB.out.cell (World.block_lt_of_cell? w1 _ h6)).trans h6
      rw [show rd_T28 xs (kk : Int) = x by rw [hx]; rfl] at h0 h1 h2 h3 h4 h5 h6
      simp only [Int.toNat_natCast] at h0 h1 h2 h3 h4 h5 h6
      have HS : Aside0 ((xs.take (kk + 1)).foldl resStep 0 = resStep ((xs.take kk).foldl resStep 0) x) := ⟨by rw [take_snoc28 xs kk c, List.foldl_append, ← hx]; rfl⟩
      have HCv := Aside0.mk (fun W => cover_calls x W)
      clear hx
      generalize (xs.take kk).foldl resStep 0 = acc at HS ⊢
      by_cases c4 : x.f2 = 4
      · rw [show coverV x.f2 x.f3 = .iface 51 (.agg #[.int .i64 x.f3]) from by unfold coverV; rw [c4]; rfl] at HCv
        rw [show resStep acc x = wrap64 (acc + x.f3) from by unfold resStep; rw [if_pos c4]] at HS
        clear c4
        go_wp2_with fail
        have HZ := HCv.out
        refine (HZ _).mono ?_
        rintro e w2 ⟨rfl, hb2⟩
        have HB2 := Aside0.mk ((below_alloc HB.out (.cells #[.int .i64 x.f0, .int .i64 x.f1, .int .i64 x.f2, .int .i64 x.f3, .int .i64 x.f4, .int .i64 x.f5, .string x.f6] 28)).trans (hb2.mono (show w1.heap.size ≤ _ by have := HB.out.size; simp; omega)))
        clear hb2 HZ HCv
        go_wp2
        go_roundg (xs.length - (kk + 1))
        case measure => have := HK.out; omega
        case rel => exact ⟨kk + 1, by go_num, by rw [HS.out], ⟨by omega, by omega⟩, ⟨by repeat (first | exact HB2.out | apply below_alloc)⟩⟩
      · obtain ⟨V, hV, hA⟩ := cover_other x c4
        rw [hV] at HCv
        rw [show resStep acc x = acc from by unfold resStep; rw [if_neg c4]] at HS
        clear c4 hV
        go_wp2_with fail
        have HZ := HCv.out
        refine (HZ _).mono ?_
        rintro e w2 ⟨rfl, hb2⟩
        have HB2 := Aside0.mk ((below_alloc HB.out (.cells #[.int .i64 x.f0, .int .i64 x.f1, .int .i64 x.f2, .int .i64 x.f3, .int .i64 x.f4, .int .i64 x.f5, .string x.f6] 28)).trans (hb2.mono (show w1.heap.size ≤ _ by have := HB.out.size; simp; omega)))
        clear hb2 HZ HCv
        go_wp2
        go_roundg (xs.length - (kk + 1))
        case measure => have := HK.out; omega
        case rel => exact ⟨kk + 1, by go_num, by rw [HS.out], ⟨by omega, by omega⟩, ⟨by repeat (first | exact HB2.out | apply below_alloc)⟩⟩
    · have HE := HK.out
      obtain rfl : kk = xs.length := by omega
      have HL : Aside0 ((xs.take xs.length).foldl resStep 0 = r) := ⟨by rw [List.take_length]; exact Option.some.inj HH.out⟩
      rw [HL.out]
      clear HE HK c
      go_wp2
      go_ret
      exact ⟨by rfl, HB1.out.trans (HB.out.mono HB1.out.size)⟩

end Go.Proofs.Ytlgdcimaapkfbaa.Q
