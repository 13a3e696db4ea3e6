/- What an order covers, whether it denies a leg, and what is reserved: interface values, told by the order's kind. -/
import Derived.Test.YtlgdcimaapkfbaaHFunc
import Derived.IntWalk
namespace Go.Proofs.Ytlgdcimaapkfbaa.Q
open Go.RowKit Go.Proofs.YtlgdcimaapkfbaaW.PrintWords Go.Proofs.YtlgdcimaapkfbaaW.PrintLast Go.Proofs.YtlgdcimaapkfbaaW.PrintMore
set_option linter.unusedVariables false
set_option linter.unusedSimpArgs false

def coverV (kind amount : Int) : Value :=
  if kind = 1 then .iface 55 (.agg #[]) else if kind = 2 then .iface 56 (.agg #[]) else if kind = 3 then .iface 57 (.agg #[]) else if kind = 4 then .iface 51 (.agg #[.int .i64 amount]) else .iface 58 (.agg #[])
def denB (amount : Int) (x : S28) : Bool := if x.f2 = 1 then true else if x.f2 = 2 then decide (amount > 0) else if x.f2 = 3 then decide (amount < 0) else false

theorem asrt55_55 (v : Value) (w : World) : (Instr.typeAssert (.iface 55 v) 20 55 true).run Try.prog w = .ok (.tuple #[v, .bool true]) w := by kernel_rfl
theorem asrt55_56 (v : Value) (w : World) : (Instr.typeAssert (.iface 55 v) 20 56 true).run Try.prog w = .ok (.tuple #[.agg #[], .bool false]) w := by kernel_rfl
theorem asrt55_57 (v : Value) (w : World) : (Instr.typeAssert (.iface 55 v) 20 57 true).run Try.prog w = .ok (.tuple #[.agg #[], .bool false]) w := by kernel_rfl
theorem asrt55_51 (v : Value) (w : World) : (Instr.typeAssert (.iface 55 v) 20 51 true).run Try.prog w = .ok (.tuple #[.agg #[.int .i64 0], .bool false]) w := by kernel_rfl
theorem asrt56_55 (v : Value) (w : World) : (Instr.typeAssert (.iface 56 v) 20 55 true).run Try.prog w = .ok (.tuple #[.agg #[], .bool false]) w := by kernel_rfl
theorem asrt56_56 (v : Value) (w : World) : (Instr.typeAssert (.iface 56 v) 20 56 true).run Try.prog w = .ok (.tuple #[v, .bool true]) w := by kernel_rfl
theorem asrt56_57 (v : Value) (w : World) : (Instr.typeAssert (.iface 56 v) 20 57 true).run Try.prog w = .ok (.tuple #[.agg #[], .bool false]) w := by kernel_rfl
theorem asrt56_51 (v : Value) (w : World) : (Instr.typeAssert (.iface 56 v) 20 51 true).run Try.prog w = .ok (.tuple #[.agg #[.int .i64 0], .bool false]) w := by kernel_rfl
theorem asrt57_55 (v : Value) (w : World) : (Instr.typeAssert (.iface 57 v) 20 55 true).run Try.prog w = .ok (.tuple #[.agg #[], .bool false]) w := by kernel_rfl
theorem asrt57_56 (v : Value) (w : World) : (Instr.typeAssert (.iface 57 v) 20 56 true).run Try.prog w = .ok (.tuple #[.agg #[], .bool false]) w := by kernel_rfl
theorem asrt57_57 (v : Value) (w : World) : (Instr.typeAssert (.iface 57 v) 20 57 true).run Try.prog w = .ok (.tuple #[v, .bool true]) w := by kernel_rfl
theorem asrt57_51 (v : Value) (w : World) : (Instr.typeAssert (.iface 57 v) 20 51 true).run Try.prog w = .ok (.tuple #[.agg #[.int .i64 0], .bool false]) w := by kernel_rfl
theorem asrt51_55 (v : Value) (w : World) : (Instr.typeAssert (.iface 51 v) 20 55 true).run Try.prog w = .ok (.tuple #[.agg #[], .bool false]) w := by kernel_rfl
theorem asrt51_56 (v : Value) (w : World) : (Instr.typeAssert (.iface 51 v) 20 56 true).run Try.prog w = .ok (.tuple #[.agg #[], .bool false]) w := by kernel_rfl
theorem asrt51_57 (v : Value) (w : World) : (Instr.typeAssert (.iface 51 v) 20 57 true).run Try.prog w = .ok (.tuple #[.agg #[], .bool false]) w := by kernel_rfl
theorem asrt51_51 (v : Value) (w : World) : (Instr.typeAssert (.iface 51 v) 20 51 true).run Try.prog w = .ok (.tuple #[v, .bool true]) w := by kernel_rfl
theorem asrt58_55 (v : Value) (w : World) : (Instr.typeAssert (.iface 58 v) 20 55 true).run Try.prog w = .ok (.tuple #[.agg #[], .bool false]) w := by kernel_rfl
theorem asrt58_56 (v : Value) (w : World) : (Instr.typeAssert (.iface 58 v) 20 56 true).run Try.prog w = .ok (.tuple #[.agg #[], .bool false]) w := by kernel_rfl
theorem asrt58_57 (v : Value) (w : World) : (Instr.typeAssert (.iface 58 v) 20 57 true).run Try.prog w = .ok (.tuple #[.agg #[], .bool false]) w := by kernel_rfl
theorem asrt58_51 (v : Value) (w : World) : (Instr.typeAssert (.iface 58 v) 20 51 true).run Try.prog w = .ok (.tuple #[.agg #[.int .i64 0], .bool false]) w := by kernel_rfl
attribute [local go_sem] asrt55_55 asrt55_56 asrt55_57 asrt55_51 asrt56_55 asrt56_56 asrt56_57 asrt56_51 asrt57_55 asrt57_56 asrt57_57 asrt57_51 asrt51_55 asrt51_56 asrt51_57 asrt51_51 asrt58_55 asrt58_56 asrt58_57 asrt58_51

set_option maxHeartbeats 2000000 in
theorem cover_calls (x : S28) (w : World) : Calls Try.prog 37 #[enc28 x] w fun e w' => e = .returned (coverV x.f2 x.f3) ∧ Below w.heap.size w w' := by
  have HW : Aside0 (coverV x.f2 x.f3 = coverV x.f2 x.f3) := ⟨rfl⟩
  have HN := Aside0.mk ((below_alloc (Below.refl w.heap.size w) (.cells #[.int .i64 x.f0, .int .i64 x.f1, .int .i64 x.f2, .int .i64 x.f3, .int .i64 x.f4, .int .i64 x.f5, .string x.f6] 28)))
  show Calls Try.prog 37 #[.agg #[.int .i64 x.f0, .int .i64 x.f1, .int .i64 x.f2, .int .i64 x.f3, .int .i64 x.f4, .int .i64 x.f5, .string x.f6]] w _
  unfold coverV
  by_cases c1 : x.f2 = 1
  · rw [if_pos c1]
    have b1 : (x.f2 == 1) = true := beq_iff_eq.2 c1
    clear c1
    go_enter Try.func37, Try.ntmps37
    go_wp2
    go_ret
    exact ⟨by rfl, HN.out⟩
  · rw [if_neg c1]
    have b1 : (x.f2 == 1) = false := beq_eq_false_iff_ne.2 c1
    clear c1
    by_cases c2 : x.f2 = 2
    · rw [if_pos c2]
      have b2 : (x.f2 == 2) = true := beq_iff_eq.2 c2
      clear c2
      go_enter Try.func37, Try.ntmps37
      go_wp2
      go_ret
      exact ⟨by rfl, HN.out⟩
    · rw [if_neg c2]
      have b2 : (x.f2 == 2) = false := beq_eq_false_iff_ne.2 c2
      clear c2
      by_cases c3 : x.f2 = 3
      · rw [if_pos c3]
        have b3 : (x.f2 == 3) = true := beq_iff_eq.2 c3
        clear c3
        go_enter Try.func37, Try.ntmps37
        go_wp2
        go_ret
        exact ⟨by rfl, HN.out⟩
      · rw [if_neg c3]
        have b3 : (x.f2 == 3) = false := beq_eq_false_iff_ne.2 c3
        clear c3
        by_cases c4 : x.f2 = 4
        · rw [if_pos c4]
          have b4 : (x.f2 == 4) = true := beq_iff_eq.2 c4
          clear c4
          go_enter Try.func37, Try.ntmps37
          go_wp2
          go_ret
          exact ⟨by rfl, HN.out⟩
        · rw [if_neg c4]
          have b4 : (x.f2 == 4) = false := beq_eq_false_iff_ne.2 c4
          clear c4
          go_enter Try.func37, Try.ntmps37
          go_wp2
          go_ret
          exact ⟨by rfl, HN.out⟩

set_option maxHeartbeats 2000000 in
theorem denies_calls (x : S28) (amount : Int) (w : World) : Calls Try.prog 36 #[enc28 x, .int .i64 amount] w fun e w' => e = .returned (.bool (denB amount x)) ∧ Below w.heap.size w w' := by
  have HC := Aside0.mk (fun W => cover_calls x W)
  obtain ⟨W0, hW0⟩ : ∃ W0, W0 = (w.alloc (.cells #[.int .i64 x.f0, .int .i64 x.f1, .int .i64 x.f2, .int .i64 x.f3, .int .i64 x.f4, .int .i64 x.f5, .string x.f6] 28)) := ⟨_, rfl⟩
  clear W0 hW0
  unfold denB
  by_cases c1 : x.f2 = 1
  · rw [show coverV x.f2 x.f3 = .iface 55 (.agg #[]) from by unfold coverV; rw [if_pos c1]] at HC
    rw [if_pos c1]
    clear c1
    go_enter Try.func36, Try.ntmps36
    go_wp2_with fail
    have HZ := HC.out
    refine (HZ _).mono ?_
    rintro e w1 ⟨rfl, hb1⟩
    have HB1 := Aside0.mk ((below_alloc (Below.refl w.heap.size w) _).trans (hb1.mono (show w.heap.size ≤ _ by simp)))
    go_wp2
    go_ret
    exact ⟨by rfl, HB1.out⟩
  · rw [if_neg c1]
    by_cases c2 : x.f2 = 2
    · rw [show coverV x.f2 x.f3 = .iface 56 (.agg #[]) from by unfold coverV; rw [if_neg c1, if_pos c2]] at HC
      rw [if_pos c2]
      clear c1 c2
      go_enter Try.func36, Try.ntmps36
      go_wp2_with fail
      have HZ := HC.out
      refine (HZ _).mono ?_
      rintro e w1 ⟨rfl, hb1⟩
      have HB1 := Aside0.mk ((below_alloc (Below.refl w.heap.size w) _).trans (hb1.mono (show w.heap.size ≤ _ by simp)))
      go_wp2
      go_ret
      exact ⟨by rfl, HB1.out⟩
    · rw [if_neg c2]
      by_cases c3 : x.f2 = 3
      · rw [show coverV x.f2 x.f3 = .iface 57 (.agg #[]) from by unfold coverV; rw [if_neg c1, if_neg c2, if_pos c3]] at HC
        rw [if_pos c3]
        clear c1 c2 c3
        go_enter Try.func36, Try.ntmps36
        go_wp2_with fail
        have HZ := HC.out
        refine (HZ _).mono ?_
        rintro e w1 ⟨rfl, hb1⟩
        have HB1 := Aside0.mk ((below_alloc (Below.refl w.heap.size w) _).trans (hb1.mono (show w.heap.size ≤ _ by simp)))
        go_wp2
        go_ret
        exact ⟨by rfl, HB1.out⟩
      · rw [if_neg c3]
        by_cases c4 : x.f2 = 4
        · rw [show coverV x.f2 x.f3 = .iface 51 (.agg #[.int .i64 x.f3]) from by unfold coverV; rw [if_neg c1, if_neg c2, if_neg c3, if_pos c4]] at HC
          clear c1 c2 c3 c4
          go_enter Try.func36, Try.ntmps36
          go_wp2_with fail
          have HZ := HC.out
          refine (HZ _).mono ?_
          rintro e w1 ⟨rfl, hb1⟩
          have HB1 := Aside0.mk ((below_alloc (Below.refl w.heap.size w) _).trans (hb1.mono (show w.heap.size ≤ _ by simp)))
          go_wp2
          go_ret
          exact ⟨by rfl, HB1.out⟩
        · rw [show coverV x.f2 x.f3 = .iface 58 (.agg #[]) from by unfold coverV; rw [if_neg c1, if_neg c2, if_neg c3, if_neg c4]] at HC
          clear c1 c2 c3 c4
          go_enter Try.func36, Try.ntmps36
          go_wp2_with fail
          have HZ := HC.out
          refine (HZ _).mono ?_
          rintro e w1 ⟨rfl, hb1⟩
          have HB1 := Aside0.mk ((below_alloc (Below.refl w.heap.size w) _).trans (hb1.mono (show w.heap.size ≤ _ by simp)))
          go_wp2
          go_ret
          exact ⟨by rfl, HB1.out⟩

end Go.Proofs.Ytlgdcimaapkfbaa.Q
