/- What it means that a list is not great. -/
import Derived.Test.YtafkjallmbokaaaPureD
namespace Go.Proofs.Ytafkjallmbokaaa.Q
open Go.RowKit Go.Proofs.YtafkjallmbokaaaW.PrintWords Go.Proofs.YtafkjallmbokaaaW.PrintLast Go.Proofs.YtafkjallmbokaaaW.PrintMore
theorem great_ok {l : List S26} (h : greatB l = false) (h2 : ∀ x ∈ l, x.f2 ≤ 9223372036854775807) : okL l := by
  unfold greatB at h
  have h := of_decide_eq_false h
  refine ⟨Nat.le_of_not_lt fun e => h (.inl e), fun x hx => ⟨Nat.le_of_not_lt fun e => h (.inr ?_), h2 x hx⟩⟩
  obtain ⟨i, hi, rfl⟩ := List.getElem_of_mem hx
  exact ⟨i, hi, by rw [List.getD_eq_getElem?_getD, List.getElem?_eq_getElem hi]; exact e⟩
end Go.Proofs.Ytafkjallmbokaaa.Q
