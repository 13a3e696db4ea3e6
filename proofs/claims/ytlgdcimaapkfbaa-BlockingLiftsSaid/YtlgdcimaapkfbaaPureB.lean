/- The example calls that every statement of this layer requires answer as the chapter says; and BlockingChecks. -/
import Derived.Test.YtlgdcimaapkfbaaQx9
import Derived.Test.YtlgdcimaapkfbaaPureA
import Derived.KernelRfl
namespace Go.Proofs.Ytlgdcimaapkfbaa.Q
open Go.RowKit Go.Proofs.YtlgdcimaapkfbaaW.PrintWords Go.Proofs.YtlgdcimaapkfbaaW.PrintLast Go.Proofs.YtlgdcimaapkfbaaW.PrintMore
theorem live_300 : corebanklaw23_live.f 300 = some true := by kernel_rfl
theorem live_true (k : Nat) : corebanklaw23_live.f (300 + k) = some true := by
  induction k with
  | zero => exact live_300
  | succ k ih => exact corebanklaw23_live.mono (300 + k) _ ih
theorem checks_true (l : List S28) (hl : l.length ≤ 9223372036854775807) : ∃ k, corebanklaw23_BlockingChecks.f k l = some true := by
  refine ⟨300 + (l.length + 300), ?_⟩
  unfold corebanklaw23_BlockingChecks.f
  rw [live_true]
  by_cases h : (l.length : Int) > 100
  · rw [if_pos h]; rfl
  · rw [if_neg h, short_eq l hl _ (by omega)]
    simp only [Option.bind_some]
    cases hs : shortB l with
    | false => rfl
    | true =>
      rw [if_pos rfl, check_eq l (short_all hs) _ (by omega), rcheck_eq l (short_all hs) _ (by omega)]
      simp only [Option.bind_some, if_true]
theorem blockingChecks_calls (A0 : Option Addr) (c0 : Nat) (l0 : List S28) (w : World) (hr0 : Kd.C k28 w A0 l0.length l0) (hc0 : l0.length ≤ c0) :
    Calls Try.prog 3 #[.slice A0 l0.length c0] w fun e w' => e = .returned (.bool true) ∧ Below w.heap.size w w' := by
  obtain ⟨k, hk⟩ := checks_true l0 hr0.2.1
  exact corebanklaw23_BlockingChecks.calls k A0 c0 l0 true w hr0 hc0 hk
end Go.Proofs.Ytlgdcimaapkfbaa.Q
