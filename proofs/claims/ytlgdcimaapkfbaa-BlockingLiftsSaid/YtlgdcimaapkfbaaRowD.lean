/- BlockingLifts returns true for every list of orders, every Id and every day; the arguments read behind the call as before. No condition. -/
import Derived.Test.YtlgdcimaapkfbaaRows
import Derived.Test.YtlgdcimaapkfbaaLawD
import Derived.Test.YtlgdcimaapkfbaaOpen
import Derived.WalkKit
import Derived.ProofKit
import Derived.OpenShut
import Derived.ShutString
import Derived.ChangeOld
import Derived.Below
import Derived.SizedLaws
import Derived.Carry
namespace Go.Proofs.Ytlgdcimaapkfbaa.blockingLifts
open Go.ChangeShapes Go.WideShapes Go.ChangeAt Go.RowKit Go.Proofs.YtlgdcimaapkfbaaW.PrintWords Go.Proofs.Ytlgdcimaapkfbaa.Opn Go.Proofs.Ytlgdcimaapkfbaa.Q
open Go.ChangeMaps (open_string shut_string)
set_option linter.unusedVariables false
theorem own : ownKnob Try.prog.godebug = none := by kernel_rfl
theorem laidOut : laidOutB Try.prog = true := by kernel_rfl
theorem op28 (n : Nat) : OpAt (n + 1) k28 Try.prog 28 (fun _ => True) := by
  refine struct0 (fun x : S28 => (x.f0, x.f1, x.f2, x.f3, x.f4, x.f5, x.f6)) (fun p => ⟨p.1, p.2.1, p.2.2.1, p.2.2.2.1, p.2.2.2.2.1, p.2.2.2.2.2.1, p.2.2.2.2.2.2⟩) (fun _ => rfl) Try.underlying28 (by kernel_rfl) ?_
  refine cons0 (by kernel_rfl) rfl (int0 Try.underlying3) ?_
  refine cons0 (by kernel_rfl) rfl (int0 Try.underlying3) ?_
  refine cons0 (by kernel_rfl) rfl (int0 Try.underlying3) ?_
  refine cons0 (by kernel_rfl) rfl (int0 Try.underlying3) ?_
  refine cons0 (by kernel_rfl) rfl (int0 Try.underlying3) ?_
  refine cons0 (by kernel_rfl) rfl (int0 Try.underlying3) ?_
  exact last0 (by kernel_rfl) rfl (str0 Try.underlying9)
theorem op22 (n : Nat) : OpAt (n + 2) (Kd.slice 28 k28) Try.prog 22 (fun _ => True) := slice0 z28 Try.underlying22 (by kernel_rfl) (op28 n)
set_option maxRecDepth 100000 in
theorem lifted (os : Os) (started : os.Started) (H : Type) (enc : TypeId × Value → H) :
    ReturnsInHanded {} Try.checked os 5 .any (Rows.blockingLiftsSpec.pre6 enc Try.prog Try.f5 Rows.blockingLiftsRow.domain false) (Rows.blockingLiftsSpec.post enc Try.prog Try.f5 false true false false) := by
  refine returnsInHanded_of_change_sized (C := Try.checked) own started (by kernel_rfl) Try.func5
    (ChangeSpec.witness6 (enc := enc) (C := Try.checked) false ⟨#[], #[.slice none 0 0, .int .i64 0, .int .i64 0], []⟩ 12 (by kernel_rfl) (by kernel_rfl) (by kernel_rfl) (by kernel_rfl)) ?_
  intro W base args ds gs before hval0 hW hcnd hsz0 _
  have hval : ∀ (j : Nat) t v, Try.f5.params[j]? = some t → args[j]? = some v → Value.okWide Try.prog W .any base t v := hval0
  have hW' := hW
  obtain ⟨p, q, hA0, hV, rfl, hfz, hnd⟩ := hW
  have hA : DataW.TrodAll enc Try.prog W 0 (fun _ => true) true Try.f5.params.toList args.toList ds p := hA0
  rw [Try.params5] at hA hval
  obtain ⟨v0, vs0, d0, ds0, p0, q0, hargs, rfl, rfl, h0, r0⟩ := trodAll_cons hA
  obtain ⟨v1, vs1, d1, ds1, p1, q1, rfl, rfl, rfl, h1, r1⟩ := trodAll_cons r0
  obtain ⟨v2, vs2, d2, ds2, p2, q2, rfl, rfl, rfl, h2, r2⟩ := trodAll_cons r1
  obtain ⟨rfl, rfl, rfl⟩ := trodAll_nil r2
  obtain rfl : args = #[v0, v1, v2] := by cases args; simp_all
  obtain ⟨rfl, rfl⟩ := trodVars_none hV
  have k0 := h0
  have lt0 : ∀ x ∈ p0, x.block < W.heap.size := by obtain ⟨m, hm⟩ := k0; exact DataW.trod_lt m _ _ _ hm
  obtain ⟨a0, len0, cap0, rfl⟩ := okWide_slice Try.underlying22 (hval 0 22 v0 rfl rfl)
  obtain ⟨m0, hm0⟩ := h0
  obtain ⟨y0, ⟨A0, c0, e0, hc0, hr0⟩, ok0⟩ := (op22 m0).out enc W m0 _ _ (by omega) hm0
  simp only [Value.cells, List.cons.injEq, Value.slice.injEq, and_true] at e0
  obtain ⟨rfl, rfl, rfl⟩ := e0
  obtain ⟨a1, rfl, rfl, rfl, w1⟩ := open_int Try.underlying3 (hval 1 3 v1 rfl rfl) h1
  obtain ⟨a2, rfl, rfl, rfl, w2⟩ := open_int Try.underlying3 (hval 2 3 v2 rfl rfl) h2
  clear hA0 hval0 hsz0
  refine (blockingLifts_calls a0 cap0 y0 a1 a2 W hr0 hc0  ).mono fun e W' ⟨he, bel⟩ => ?_
  subst he
  exact ⟨_, rfl, _, _, _, [], _, [], hW', trodAll_mk1 (shut_bool Try.underlying4 _), (trodAll_cons_mk (Below.trod laidOut (by kernel_rfl) (of_decide_eq_true (by kernel_rfl)) k0 bel lt0) (trodAll_cons_mk (shut_int Try.underlying3 w1) (trodAll_cons_mk (shut_int Try.underlying3 w2) trodAll_mk0))), rfl, bel.frame _, fun h => by cases h⟩
theorem over : Rows.blockingLiftsRow.holds Try.pinned (OpenSpec.ofChange Rows.blockingLiftsSpec) :=
  OpenClaim.holds_of_wide 5 Try.f5 rfl rfl rfl rfl rfl rfl rfl ⟨rfl, rfl, rfl, rfl, rfl⟩ rfl rfl rfl rfl rfl (by kernel_rfl) Try.func5 (by kernel_rfl)
    (of_decide_eq_true (by kernel_rfl)) (by unfold Func.isWrapper; first | (rw [if_pos (by decide +kernel)]; kernel_rfl) | (rw [if_neg (by decide +kernel)]; exact ⟨rfl, rfl⟩))
    (fun os started H enc _ => lifted os started H enc)
theorem proved : Rows.BlockingLiftsSaid := over
#print axioms proved
end Go.Proofs.Ytlgdcimaapkfbaa.blockingLifts
namespace Go.Proofs.Ytlgdcimaapkfbaa
/-- The row, under a short name, for the claim. -/
theorem blockingLifts_holds : Rows.BlockingLiftsSaid := blockingLifts.proved
end Go.Proofs.Ytlgdcimaapkfbaa
