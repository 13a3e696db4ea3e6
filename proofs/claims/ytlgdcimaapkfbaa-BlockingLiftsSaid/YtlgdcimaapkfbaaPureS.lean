/- SameAll of a list with itself is true. -/
import Derived.Test.YtlgdcimaapkfbaaQx11
import Derived.Test.YtlgdcimaapkfbaaPureB
namespace Go.Proofs.Ytlgdcimaapkfbaa.Q
open Go.RowKit Go.Proofs.YtlgdcimaapkfbaaW.PrintWords Go.Proofs.YtlgdcimaapkfbaaW.PrintLast Go.Proofs.YtlgdcimaapkfbaaW.PrintMore
set_option linter.unusedVariables false
set_option linter.unusedSimpArgs false

theorem same_from (l : List S28) (hl : l.length ≤ 9223372036854775807) (d : Nat) : ∀ (k i : Nat), i + d = l.length → d < k → corebankref23_SameAll.l0 k l l (i : Int) = some true := by
  induction d with
  | zero =>
    intro k i hi hk
    obtain ⟨k, rfl, _⟩ := succ_of hk
    simp only [corebankref23_SameAll.l0]
    rw [if_neg (by omega)]
  | succ d ih =>
    intro k i hi hk
    obtain ⟨k, rfl, hk2⟩ := succ_of hk
    simp only [corebankref23_SameAll.l0]
    rw [if_pos (by omega), if_pos (by omega), if_pos (by omega), if_neg (by simp), next_nat (show i < l.length by omega) hl]
    exact ih k (i + 1) (by omega) (by omega)
theorem same_refl (l : List S28) (hl : l.length ≤ 9223372036854775807) (k : Nat) (hk : l.length < k) : corebankref23_SameAll.f k l l = some true := by
  unfold corebankref23_SameAll.f
  rw [if_pos rfl]
  exact same_from l hl l.length k 0 (by omega) hk
end Go.Proofs.Ytlgdcimaapkfbaa.Q
