/- money.Format at the two amounts of the examples. -/
import Derived.Test.YtbeebjpbmbkodaaDoorShelf
import Derived.Test.YtbeebjpbmbkodaaDoorQx1
import Derived.Test.YtbeebjpbmbkodaaDoorQx2
import Derived.IntWalk
namespace Go.Proofs.YtbeebjpbmbkodaaDoor.Q
open Go.RowKit Go.Proofs.YtbeebjpbmbkodaaDoorW.PrintWords Go.Proofs.YtbeebjpbmbkodaaDoorW.PrintLast Go.Proofs.YtbeebjpbmbkodaaDoorW.PrintMore
set_option linter.unusedVariables false
set_option linter.unusedSimpArgs false

theorem below_laid (w : World) (q : Nat) (os : Array Obj) : Below w.heap.size w (Go.Sort.grow (w.drewN q) os) :=
  ⟨rfl, rfl, rfl, by first | (simp [Go.Sort.grow]; done) | (simp [Go.Sort.grow]; omega), fun i hi => by
    show ((w.drewN q).heap ++ os)[i]? = _
    rw [Array.getElem?_append_left (by show i < w.heap.size; omega)]
    rfl⟩
/-- The table of powers of ten that Itoa reads. -/
def Tab (w : World) : Prop := Lib.TabIs Tryd.prog w "internal/strconv.uint64pow10" .u64 Lib.pow10Tab
theorem Tab.below {w w' : World} (h : Tab w) (hb : Below w.heap.size w w') : Tab w' := by
  have hg : Tryd.prog.globalNamed "internal/strconv.uint64pow10" = some 2 := by kernel_rfl
  unfold Tab Lib.TabIs World.var? at h ⊢
  rw [hg] at h ⊢
  simp only [Option.bind_some] at h ⊢
  have hlt : 2 < w.heap.size := by
    rcases Nat.lt_or_ge 2 w.heap.size with h' | h'
    · exact h'
    · rw [Array.getElem?_eq_none h'] at h; cases h
  rw [hb.block 2 hlt]
  exact h
theorem itoa_calls (n : Int) (s : ByteArray) (w : World) (h0 : -9223372036854775808 ≤ n) (h1 : n ≤ 9223372036854775807) (ht : Tab w) (hs : (⟨(Lib.itoa n).toArray⟩ : ByteArray) = s) :
    Calls Tryd.prog 28 #[.int .i64 n] w fun e w' => e = .returned (.string s) ∧ Below w.heap.size w w' :=
  (Tryd.strconv_Itoa n h0 h1 w ht).mono fun e w' ⟨h, k, os, hw⟩ => ⟨by rw [h, hs], by rw [hw]; exact below_laid w k os⟩

set_option maxHeartbeats 1000000 in
set_option maxRecDepth 100000 in
theorem fmt_a (w : World) (ht : Tab w) :
    Calls Tryd.prog 15 #[.int .i64 (-1234), .int .i64 2] w fun e w' => e = .returned (.tuple #[.string ⟨#[45, 49, 50, 46, 51, 52]⟩, .int .i64 0]) ∧ Below w.heap.size w w' := by
  have HT := Aside0.mk ht
  clear ht
  have HV : Aside0 (money_Valid.f (-1234) = some true) := ⟨by decide⟩
  have HP : Aside0 (money_places.f 2 = some true) := ⟨by decide⟩
  go_enter Tryd.func15, Tryd.ntmps15
  go_wp2_with fail
  refine (money_Valid.calls (-1234) _ _ HV.out).mono ?_
  rintro e w1 ⟨rfl, hd1⟩
  have HB1 := Aside0.mk hd1.below
  clear hd1
  go_wp2_with fail
  refine (money_places.calls 2 _ _ HP.out).mono ?_
  rintro e w2 ⟨rfl, hd2⟩
  have HB2 := Aside0.mk (HB1.out.trans (hd2.below.mono HB1.out.size))
  clear hd2
  go_wp2_with fail
  refine (itoa_calls 1234 ⟨#[49, 50, 51, 52]⟩ _ (by decide) (by decide) (HT.out.below HB2.out) (by simp [Lib.itoa, Lib.decDigits])).mono ?_
  rintro e w3 ⟨rfl, hb3⟩
  have HB3 := Aside0.mk (HB2.out.trans (hb3.mono HB2.out.size))
  clear hb3
  go_wp2_with fail
  go_loopg [7] 1 (fun gg s7 wr => s7 = .string ⟨#[49, 50, 51, 52]⟩ ∧ Aside0 (Below w.heap.size w wr))
  case atStart => exact ⟨rfl, HB3⟩
  case round =>
    clear HB3
    obtain ⟨rfl, HB⟩ := hrel
    go_wp2_with fail
    go_quiet (fail)
    go_wp2
    go_ret2
    exact ⟨by kernel_rfl, by repeat (first | exact HB.out | apply pw_below_drewN)⟩
set_option maxHeartbeats 1000000 in
set_option maxRecDepth 100000 in
theorem fmt_b (w : World) (ht : Tab w) :
    Calls Tryd.prog 15 #[.int .i64 5, .int .i64 2] w fun e w' => e = .returned (.tuple #[.string ⟨#[48, 46, 48, 53]⟩, .int .i64 0]) ∧ Below w.heap.size w w' := by
  have HT := Aside0.mk ht
  clear ht
  have HV : Aside0 (money_Valid.f 5 = some true) := ⟨by decide⟩
  have HP : Aside0 (money_places.f 2 = some true) := ⟨by decide⟩
  go_enter Tryd.func15, Tryd.ntmps15
  go_wp2_with fail
  refine (money_Valid.calls 5 _ _ HV.out).mono ?_
  rintro e w1 ⟨rfl, hd1⟩
  have HB1 := Aside0.mk hd1.below
  clear hd1
  go_wp2_with fail
  refine (money_places.calls 2 _ _ HP.out).mono ?_
  rintro e w2 ⟨rfl, hd2⟩
  have HB2 := Aside0.mk (HB1.out.trans (hd2.below.mono HB1.out.size))
  clear hd2
  go_wp2_with fail
  refine (itoa_calls 5 ⟨#[53]⟩ _ (by decide) (by decide) (HT.out.below HB2.out) (by simp [Lib.itoa, Lib.decDigits])).mono ?_
  rintro e w3 ⟨rfl, hb3⟩
  have HB3 := Aside0.mk (HB2.out.trans (hb3.mono HB2.out.size))
  clear hb3
  go_wp2_with fail
  go_loopg [7] 2 (fun gg s7 wr => (s7 = .string ⟨#[53]⟩ ∧ gg = 2 ∨ s7 = .string ⟨#[48, 53]⟩ ∧ gg = 1 ∨ s7 = .string ⟨#[48, 48, 53]⟩ ∧ gg = 0) ∧ Aside0 (Below w.heap.size w wr))
  case atStart => exact ⟨.inl ⟨rfl, rfl⟩, HB3⟩
  case round =>
    clear HB3
    obtain ⟨⟨rfl, rfl⟩ | ⟨rfl, rfl⟩ | ⟨rfl, rfl⟩, HB⟩ := hrel
    · go_wp2
      go_roundg 1
      case measure => omega
      case rel => exact ⟨.inr (.inl ⟨by kernel_rfl, rfl⟩), HB⟩
    · go_wp2
      go_roundg 0
      case measure => omega
      case rel => exact ⟨.inr (.inr ⟨by kernel_rfl, rfl⟩), HB⟩
    · go_wp2_with fail
      go_quiet (fail)
      go_wp2
      go_ret2
      exact ⟨by kernel_rfl, by repeat (first | exact HB.out | apply pw_below_drewN)⟩
end Go.Proofs.YtbeebjpbmbkodaaDoor.Q
