/- BlockingLifts: the walk and the plain law joined. -/
import Derived.Test.YtlgdcimaapkfbaaQx12
import Derived.Test.YtlgdcimaapkfbaaPureS
import Derived.Test.YtlgdcimaapkfbaaHRLift
namespace Go.Proofs.Ytlgdcimaapkfbaa.Q
open Go.RowKit Go.Proofs.YtlgdcimaapkfbaaW.PrintWords Go.Proofs.YtlgdcimaapkfbaaW.PrintLast Go.Proofs.YtlgdcimaapkfbaaW.PrintMore
set_option linter.unusedVariables false
set_option linter.unusedSimpArgs false

theorem lift_len (l : List S28) (id on : Int) : (liftL l id on).1.length ≤ l.length := by
  unfold liftL liftAt
  split
  · exact Nat.zero_le _
  · split
    · exact Nat.zero_le _
    · split
      · exact Nat.zero_le _
      · split
        · rw [List.length_eraseIdx, List.length_set]; split <;> omega
        · rw [List.length_set]; exact Nat.le_refl _
theorem lifts_true (l : List S28) (id d : Int) : ∃ k, corebanklaw23_BlockingLifts.f k l id d = some true := by
  refine ⟨300 + (l.length + 300), ?_⟩
  unfold corebanklaw23_BlockingLifts.f
  rw [live_true]
  by_cases h : (l.length : Int) > 100
  · rw [if_pos h]; rfl
  · have h1 := lift_len l id d
    rw [if_neg h]
    unfold blocking_Lift.f corebankref23_Lift.f
    rw [if_pos (by omega)]
    simp only [Option.bind_some]
    rw [same_refl _ (by omega) _ (by omega)]
    simp only [Option.bind_some, if_true]
theorem blockingLifts_calls (A0 : Option Addr) (c0 : Nat) (l0 : List S28) (a1 a2 : Int) (w : World) (hr0 : Kd.C k28 w A0 l0.length l0) (hc0 : l0.length ≤ c0) :
    Calls Try.prog 5 #[.slice A0 l0.length c0, .int .i64 a1, .int .i64 a2] w fun e w' => e = .returned (.bool true) ∧ Below w.heap.size w w' := by
  obtain ⟨k, hk⟩ := lifts_true l0 a1 a2
  exact corebanklaw23_BlockingLifts.calls k A0 c0 l0 a1 a2 true w hr0 hc0 hk
end Go.Proofs.Ytlgdcimaapkfbaa.Q
