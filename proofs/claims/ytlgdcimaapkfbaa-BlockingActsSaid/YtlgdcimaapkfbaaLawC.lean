/- BlockingActs: the walk and the plain law joined. -/
import Derived.Test.YtlgdcimaapkfbaaQx13
import Derived.Test.YtlgdcimaapkfbaaPureC
namespace Go.Proofs.Ytlgdcimaapkfbaa.Q
open Go.RowKit Go.Proofs.YtlgdcimaapkfbaaW.PrintWords Go.Proofs.YtlgdcimaapkfbaaW.PrintLast Go.Proofs.YtlgdcimaapkfbaaW.PrintMore

theorem acts_true (l : List S28) (a d m : Int) : ∃ k, corebanklaw23_BlockingActs.f k l a d m = some true := by
  refine ⟨300 + (l.length + 300), ?_⟩
  unfold corebanklaw23_BlockingActs.f
  rw [live_true]
  by_cases h : (l.length : Int) > 100
  · rw [if_pos h]; rfl
  · have h1 : (l.filter (actB a d)).length ≤ l.length := List.length_filter_le _ _
    rw [if_neg h, active_eq l a d (by omega) _ (by omega), ractive_eq l a d (by omega) _ (by omega)]
    simp only [Option.bind_some]
    rw [same_refl _ (by omega) _ (by omega)]
    simp only [Option.bind_some, if_true]
    rw [rden_eq l a d m (by omega) _ (by omega), rres_eq l a d (by omega) _ (by omega)]
    unfold blocking_Denies.f blocking_Reserved.f
    rw [if_pos (by omega), if_pos (by omega)]
    simp only [Option.bind_some, beq_self_eq_true, if_true]
theorem blockingActs_calls (A0 : Option Addr) (c0 : Nat) (l0 : List S28) (y : Int × Int × Int) (w : World) (hr0 : Kd.C k28 w A0 l0.length l0) (hc0 : l0.length ≤ c0) :
    Calls Try.prog 6 #[.slice A0 l0.length c0, .agg #[.int .i64 y.1, .int .i64 y.2.1, .int .i64 y.2.2]] w fun e w' => e = .returned (.bool true) ∧ Below w.heap.size w w' := by
  obtain ⟨k, hk⟩ := acts_true l0 y.1 y.2.1 y.2.2
  exact corebanklaw23_BlockingActs.calls k A0 c0 l0 y.1 y.2.1 y.2.2 true w hr0 hc0 hk
end Go.Proofs.Ytlgdcimaapkfbaa.Q
