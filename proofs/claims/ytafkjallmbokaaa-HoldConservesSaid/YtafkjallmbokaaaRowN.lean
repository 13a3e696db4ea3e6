/- HoldConserves returns true for every list of holds and every sequence of calls; the arguments read behind the call as before. No condition. -/
import Derived.Test.YtafkjallmbokaaaRows
import Derived.Test.YtafkjallmbokaaaHLawN
import Derived.Test.YtafkjallmbokaaaOpen
import Derived.WalkKit
import Derived.ProofKit
import Derived.OpenShut
import Derived.ShutString
import Derived.ChangeOld
import Derived.Below
import Derived.SizedLaws
import Derived.Carry
namespace Go.Proofs.Ytafkjallmbokaaa.holdConserves
open Go.ChangeShapes Go.WideShapes Go.ChangeAt Go.RowKit Go.Proofs.YtafkjallmbokaaaW.PrintWords Go.Proofs.Ytafkjallmbokaaa.Opn Go.Proofs.Ytafkjallmbokaaa.Q
open Go.ChangeMaps (open_string shut_string)
set_option linter.unusedVariables false
theorem own : ownKnob Try.prog.godebug = none := by kernel_rfl
theorem laidOut : laidOutB Try.prog = true := by kernel_rfl
theorem wf_le {m : Int} (h : (Lit.int .i64 m).wf = true) : m ≤ 9223372036854775807 := by
  unfold Lit.wf at h
  rw [Bool.and_eq_true] at h
  have h2 : m ≤ IntKind.max .i64 := of_decide_eq_true h.2
  exact Int.le_trans h2 (by decide)
theorem op26 (n : Nat) : OpAt (n + 1) k26 Try.prog 26 (fun x => x.f2 ≤ 9223372036854775807) := by
  refine (op_struct (fun x : S26 => (x.f0, x.f1, x.f2, x.f3, x.f4, x.f5)) (fun p => ⟨p.1, p.2.1, p.2.2.1, p.2.2.2.1, p.2.2.2.2.1, p.2.2.2.2.2⟩) (fun _ => rfl) Try.underlying26 (by kernel_rfl) (opf_cons (by kernel_rfl) rfl (int0 Try.underlying3) (opf_cons (by kernel_rfl) rfl (int0 Try.underlying3) (opf_cons (by kernel_rfl) rfl (op_int Try.underlying3) (cons0 (by kernel_rfl) rfl (int0 Try.underlying3) (cons0 (by kernel_rfl) rfl (int0 Try.underlying3) (last0 (by kernel_rfl) rfl (str0 Try.underlying9)))))))).imp ?_
  intro y h
  exact wf_le h.2.2.1
theorem op22 (n : Nat) : OpAt (n + 2) (Kd.slice 26 k26) Try.prog 22 (fun xs => ∀ x ∈ xs, x.f2 ≤ 9223372036854775807) := (op_slice z26 Try.underlying22 (by kernel_rfl) (op26 n)).imp (fun y h => h.2)
theorem op38 (n : Nat) : OpAt (n + 2) k38 Try.prog 38 (fun _ => True) := by
  refine struct0 (fun x : S38 => (x.f0, x.f1, x.f2, x.f3, x.f4)) (fun p => ⟨p.1, p.2.1, p.2.2.1, p.2.2.2.1, p.2.2.2.2⟩) (fun _ => rfl) Try.underlying38 (by kernel_rfl) ?_
  refine cons0 (by kernel_rfl) rfl (int0 Try.underlying3) ?_
  refine cons0 (by kernel_rfl) rfl (int0 Try.underlying3) ?_
  refine cons0 (by kernel_rfl) rfl (int0 Try.underlying3) ?_
  refine cons0 (by kernel_rfl) rfl (int0 Try.underlying3) ?_
  exact last0 (by kernel_rfl) rfl (op26 n).any
theorem op33 (n : Nat) : OpAt (n + 3) (Kd.slice 38 k38) Try.prog 33 (fun _ => True) := slice0 z38 Try.underlying33 (by kernel_rfl) (op38 n)
set_option maxRecDepth 100000 in
theorem lifted (os : Os) (started : os.Started) (H : Type) (enc : TypeId × Value → H) :
    ReturnsInHanded {} Try.checked os 6 .any (Rows.holdConservesSpec.pre6 enc Try.prog Try.f6 Rows.holdConservesRow.domain false) (Rows.holdConservesSpec.post enc Try.prog Try.f6 false true false false) := by
  refine returnsInHanded_of_change_sized (C := Try.checked) own started (by kernel_rfl) Try.func6
    (ChangeSpec.witness6 (enc := enc) (C := Try.checked) false ⟨#[], #[.slice none 0 0, .slice none 0 0], []⟩ 12 (by kernel_rfl) (by kernel_rfl) (by kernel_rfl) (by kernel_rfl)) ?_
  intro W base args ds gs before hval0 hW hcnd hsz0 _
  have hval : ∀ (j : Nat) t v, Try.f6.params[j]? = some t → args[j]? = some v → Value.okWide Try.prog W .any base t v := hval0
  have hW' := hW
  obtain ⟨p, q, hA0, hV, rfl, hfz, hnd⟩ := hW
  have hA : DataW.TrodAll enc Try.prog W 0 (fun _ => true) true Try.f6.params.toList args.toList ds p := hA0
  rw [Try.params6] at hA hval
  obtain ⟨v0, vs0, d0, ds0, p0, q0, hargs, rfl, rfl, h0, r0⟩ := trodAll_cons hA
  obtain ⟨v1, vs1, d1, ds1, p1, q1, rfl, rfl, rfl, h1, r1⟩ := trodAll_cons r0
  obtain ⟨rfl, rfl, rfl⟩ := trodAll_nil r1
  obtain rfl : args = #[v0, v1] := by cases args; simp_all
  obtain ⟨rfl, rfl⟩ := trodVars_none hV
  have k0 := h0
  have lt0 : ∀ x ∈ p0, x.block < W.heap.size := by obtain ⟨m, hm⟩ := k0; exact DataW.trod_lt m _ _ _ hm
  obtain ⟨a0, len0, cap0, rfl⟩ := okWide_slice Try.underlying22 (hval 0 22 v0 rfl rfl)
  obtain ⟨m0, hm0⟩ := h0
  obtain ⟨y0, ⟨A0, c0, e0, hc0, hr0⟩, ok0⟩ := (op22 m0).out enc W m0 _ _ (by omega) hm0
  simp only [Value.cells, List.cons.injEq, Value.slice.injEq, and_true] at e0
  obtain ⟨rfl, rfl, rfl⟩ := e0
  have k1 := h1
  have lt1 : ∀ x ∈ p1, x.block < W.heap.size := by obtain ⟨m, hm⟩ := k1; exact DataW.trod_lt m _ _ _ hm
  obtain ⟨a1, len1, cap1, rfl⟩ := okWide_slice Try.underlying33 (hval 1 33 v1 rfl rfl)
  obtain ⟨m1, hm1⟩ := h1
  obtain ⟨y1, ⟨A1, c1, e1, hc1, hr1⟩, ok1⟩ := (op33 m1).out enc W m1 _ _ (by omega) hm1
  simp only [Value.cells, List.cons.injEq, Value.slice.injEq, and_true] at e1
  obtain ⟨rfl, rfl, rfl⟩ := e1
  clear hA0 hval0 hsz0
  refine (holdConserves_calls a0 cap0 y0 a1 cap1 y1 W hr0 hc0 ok0 hr1 hc1).mono fun e W' ⟨he, bel⟩ => ?_
  subst he
  exact ⟨_, rfl, _, _, _, [], _, [], hW', trodAll_mk1 (shut_bool Try.underlying4 _), (trodAll_cons_mk (Below.trod laidOut (by kernel_rfl) (of_decide_eq_true (by kernel_rfl)) k0 bel lt0) (trodAll_cons_mk (Below.trod laidOut (by kernel_rfl) (of_decide_eq_true (by kernel_rfl)) k1 bel lt1) trodAll_mk0)), rfl, bel.frame _, fun h => by cases h⟩
theorem over : Rows.holdConservesRow.holds Try.pinned (OpenSpec.ofChange Rows.holdConservesSpec) :=
  OpenClaim.holds_of_wide 6 Try.f6 rfl rfl rfl rfl rfl rfl rfl ⟨rfl, rfl, rfl, rfl, rfl⟩ rfl rfl rfl rfl rfl (by kernel_rfl) Try.func6 (by kernel_rfl)
    (of_decide_eq_true (by kernel_rfl)) (by unfold Func.isWrapper; first | (rw [if_pos (by decide +kernel)]; kernel_rfl) | (rw [if_neg (by decide +kernel)]; exact ⟨rfl, rfl⟩))
    (fun os started H enc _ => lifted os started H enc)
theorem proved : Rows.HoldConservesSaid := over
#print axioms proved
end Go.Proofs.Ytafkjallmbokaaa.holdConserves
namespace Go.Proofs.Ytafkjallmbokaaa
/-- The row, under a short name, for the claim. -/
theorem holdConserves_holds : Rows.HoldConservesSaid := holdConserves.proved
end Go.Proofs.Ytafkjallmbokaaa
