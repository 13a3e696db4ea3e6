/- BlockingReserves returns true for every list of orders, every order and every account, day and amount; the arguments read behind the call as before. No condition. -/
import Derived.Test.YtlgdcimaapkfbaaRows
import Derived.Test.YtlgdcimaapkfbaaPureR
import Derived.Test.YtlgdcimaapkfbaaOpen
import Derived.WalkKit
import Derived.ProofKit
import Derived.OpenShut
import Derived.ShutString
import Derived.ChangeOld
import Derived.Below
import Derived.SizedLaws
import Derived.Carry
namespace Go.Proofs.Ytlgdcimaapkfbaa.blockingReserves
open Go.ChangeShapes Go.WideShapes Go.ChangeAt Go.RowKit Go.Proofs.YtlgdcimaapkfbaaW.PrintWords Go.Proofs.Ytlgdcimaapkfbaa.Opn Go.Proofs.Ytlgdcimaapkfbaa.Q
open Go.ChangeMaps (open_string shut_string)
set_option linter.unusedVariables false
theorem own : ownKnob Try.prog.godebug = none := by kernel_rfl
theorem laidOut : laidOutB Try.prog = true := by kernel_rfl
theorem op28 (n : Nat) : OpAt (n + 1) k28 Try.prog 28 (fun _ => True) := by
  refine struct0 (fun x : S28 => (x.f0, x.f1, x.f2, x.f3, x.f4, x.f5, x.f6)) (fun p => ⟨p.1, p.2.1, p.2.2.1, p.2.2.2.1, p.2.2.2.2.1, p.2.2.2.2.2.1, p.2.2.2.2.2.2⟩) (fun _ => rfl) Try.underlying28 (by kernel_rfl) ?_
  refine cons0 (by kernel_rfl) rfl (int0 Try.underlying3) ?_
  refine cons0 (by kernel_rfl) rfl (int0 Try.underlying3) ?_
  refine cons0 (by kernel_rfl) rfl (int0 Try.underlying3) ?_
  refine cons0 (by kernel_rfl) rfl (int0 Try.underlying3) ?_
  refine cons0 (by kernel_rfl) rfl (int0 Try.underlying3) ?_
  refine cons0 (by kernel_rfl) rfl (int0 Try.underlying3) ?_
  exact last0 (by kernel_rfl) rfl (str0 Try.underlying9)
theorem op22 (n : Nat) : OpAt (n + 2) (Kd.slice 28 k28) Try.prog 22 (fun _ => True) := slice0 z28 Try.underlying22 (by kernel_rfl) (op28 n)
theorem op36 (n : Nat) : OpAt (n + 1) (Kd.iso (Kd.pair (Kd.int .i64) (Kd.pair (Kd.int .i64) (Kd.int .i64))) (fun x : Int × Int × Int => x)) Try.prog 36 (fun _ => True) := by
  refine struct0 (fun x : Int × Int × Int => x) (fun p => p) (fun _ => rfl) Try.underlying36 (by kernel_rfl) ?_
  refine cons0 (by kernel_rfl) rfl (int0 Try.underlying3) ?_
  refine cons0 (by kernel_rfl) rfl (int0 Try.underlying3) ?_
  exact last0 (by kernel_rfl) rfl (int0 Try.underlying3)
theorem open36 {w : World} {x : Int × Int × Int} {cs : List Value} (h : (Kd.iso (Kd.pair (Kd.int .i64) (Kd.pair (Kd.int .i64) (Kd.int .i64))) (fun x : Int × Int × Int => x)).K w x cs) : cs = [.int .i64 x.1, .int .i64 x.2.1, .int .i64 x.2.2] := by
  obtain ⟨_, _, rfl, rfl, ⟨_, _, rfl, rfl, rfl⟩⟩ := h
  rfl
set_option maxRecDepth 100000 in
theorem lifted (os : Os) (started : os.Started) (H : Type) (enc : TypeId × Value → H) :
    ReturnsInHanded {} Try.checked os 7 .any (Rows.blockingReservesSpec.pre6 enc Try.prog Try.f7 Rows.blockingReservesRow.domain false) (Rows.blockingReservesSpec.post enc Try.prog Try.f7 false true false false) := by
  refine returnsInHanded_of_change_sized (C := Try.checked) own started (by kernel_rfl) Try.func7
    (ChangeSpec.witness6 (enc := enc) (C := Try.checked) false ⟨#[], #[.slice none 0 0, .agg #[.int .i64 0, .int .i64 0, .int .i64 0, .int .i64 0, .int .i64 0, .int .i64 0, .string ByteArray.empty], .agg #[.int .i64 0, .int .i64 0, .int .i64 0]], []⟩ 12 (by kernel_rfl) (by kernel_rfl) (by kernel_rfl) (by kernel_rfl)) ?_
  intro W base args ds gs before hval0 hW hcnd hsz0 _
  have hval : ∀ (j : Nat) t v, Try.f7.params[j]? = some t → args[j]? = some v → Value.okWide Try.prog W .any base t v := hval0
  have hW' := hW
  obtain ⟨p, q, hA0, hV, rfl, hfz, hnd⟩ := hW
  have hA : DataW.TrodAll enc Try.prog W 0 (fun _ => true) true Try.f7.params.toList args.toList ds p := hA0
  rw [Try.params7] at hA hval
  obtain ⟨v0, vs0, d0, ds0, p0, q0, hargs, rfl, rfl, h0, r0⟩ := trodAll_cons hA
  obtain ⟨v1, vs1, d1, ds1, p1, q1, rfl, rfl, rfl, h1, r1⟩ := trodAll_cons r0
  obtain ⟨v2, vs2, d2, ds2, p2, q2, rfl, rfl, rfl, h2, r2⟩ := trodAll_cons r1
  obtain ⟨rfl, rfl, rfl⟩ := trodAll_nil r2
  obtain rfl : args = #[v0, v1, v2] := by cases args; simp_all
  obtain ⟨rfl, rfl⟩ := trodVars_none hV
  have k0 := h0
  have lt0 : ∀ x ∈ p0, x.block < W.heap.size := by obtain ⟨m, hm⟩ := k0; exact DataW.trod_lt m _ _ _ hm
  obtain ⟨a0, len0, cap0, rfl⟩ := okWide_slice Try.underlying22 (hval 0 22 v0 rfl rfl)
  obtain ⟨m0, hm0⟩ := h0
  obtain ⟨y0, ⟨A0, c0, e0, hc0, hr0⟩, ok0⟩ := (op22 m0).out enc W m0 _ _ (by omega) hm0
  simp only [Value.cells, List.cons.injEq, Value.slice.injEq, and_true] at e0
  obtain ⟨rfl, rfl, rfl⟩ := e0
  have k1 := h1
  have lt1 : ∀ x ∈ p1, x.block < W.heap.size := by obtain ⟨m, hm⟩ := k1; exact DataW.trod_lt m _ _ _ hm
  obtain ⟨cs1, rfl, hz1⟩ := okWide_struct Try.underlying28 (hval 1 28 v1 rfl rfl)
  obtain ⟨m1, hm1⟩ := h1
  obtain ⟨y1, e1, ok1⟩ := (op28 m1).out enc W m1 _ _ (by omega) hm1
  obtain rfl : cs1 = #[.int .i64 y1.f0, .int .i64 y1.f1, .int .i64 y1.f2, .int .i64 y1.f3, .int .i64 y1.f4, .int .i64 y1.f5, .string y1.f6] := by have e := k28_open e1; cases cs1; exact congrArg Array.mk e
  have k2 := h2
  have lt2 : ∀ x ∈ p2, x.block < W.heap.size := by obtain ⟨m, hm⟩ := k2; exact DataW.trod_lt m _ _ _ hm
  obtain ⟨cs2, rfl, hz2⟩ := okWide_struct Try.underlying36 (hval 2 36 v2 rfl rfl)
  obtain ⟨m2, hm2⟩ := h2
  obtain ⟨y2, e2, ok2⟩ := (op36 m2).out enc W m2 _ _ (by omega) hm2
  obtain rfl : cs2 = #[.int .i64 y2.1, .int .i64 y2.2.1, .int .i64 y2.2.2] := by have e := open36 e2; cases cs2; exact congrArg Array.mk e
  clear hA0 hval0 hsz0
  refine (blockingReserves_calls a0 cap0 y0 y1 y2 W hr0 hc0  ).mono fun e W' ⟨he, bel⟩ => ?_
  subst he
  exact ⟨_, rfl, _, _, _, [], _, [], hW', trodAll_mk1 (shut_bool Try.underlying4 _), (trodAll_cons_mk (Below.trod laidOut (by kernel_rfl) (of_decide_eq_true (by kernel_rfl)) k0 bel lt0) (trodAll_cons_mk (Below.trod laidOut (by kernel_rfl) (of_decide_eq_true (by kernel_rfl)) k1 bel lt1) (trodAll_cons_mk (Below.trod laidOut (by kernel_rfl) (of_decide_eq_true (by kernel_rfl)) k2 bel lt2) trodAll_mk0))), rfl, bel.frame _, fun h => by cases h⟩
theorem over : Rows.blockingReservesRow.holds Try.pinned (OpenSpec.ofChange Rows.blockingReservesSpec) :=
  OpenClaim.holds_of_wide 7 Try.f7 rfl rfl rfl rfl rfl rfl rfl ⟨rfl, rfl, rfl, rfl, rfl⟩ rfl rfl rfl rfl rfl (by kernel_rfl) Try.func7 (by kernel_rfl)
    (of_decide_eq_true (by kernel_rfl)) (by unfold Func.isWrapper; first | (rw [if_pos (by decide +kernel)]; kernel_rfl) | (rw [if_neg (by decide +kernel)]; exact ⟨rfl, rfl⟩))
    (fun os started H enc _ => lifted os started H enc)
theorem proved : Rows.BlockingReservesSaid := over
#print axioms proved
end Go.Proofs.Ytlgdcimaapkfbaa.blockingReserves
namespace Go.Proofs.Ytlgdcimaapkfbaa
/-- The row, under a short name, for the claim. -/
theorem blockingReserves_holds : Rows.BlockingReservesSaid := blockingReserves.proved
end Go.Proofs.Ytlgdcimaapkfbaa
