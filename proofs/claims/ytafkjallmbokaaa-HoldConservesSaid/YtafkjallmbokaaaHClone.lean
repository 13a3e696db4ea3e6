/- slices.Clone at lists of holds: the same holds in memory of the call's own. -/
import Derived.Test.YtafkjallmbokaaaQx0
import Derived.Lib.SliceRun
namespace Go.Proofs.Ytafkjallmbokaaa.Q
open Go.RowKit Go.Proofs.YtafkjallmbokaaaW.PrintWords Go.Proofs.YtafkjallmbokaaaW.PrintLast Go.Proofs.YtafkjallmbokaaaW.PrintMore
set_option linter.unusedVariables false
set_option linter.unusedSimpArgs false

def api_Hold_39.f (l0 : List S26) : Option (List S26) := if l0.length < 2513169434916 then some l0 else none

set_option maxHeartbeats 2000000 in
set_option maxRecDepth 100000 in
theorem api_Hold_39.calls (A0 : Option Addr) (c0 : Nat) (l0 : List (S26)) (r : List (S26)) (w : World) (hr0 : Kd.C k26 w A0 l0.length l0) (hc0 : l0.length ≤ c0) (h : api_Hold_39.f l0 = some r) :
    Calls Try.prog 39 #[.slice A0 l0.length c0] w fun e w' => ∃ v0_ : Value, e = .returned (v0_) ∧ Kd.R k26 26 w' w.heap.size (fun _ => True) v0_ r ∧ Below w.heap.size w w' := by
  have hlt : l0.length < 2513169434916 := by
    unfold api_Hold_39.f at h
    by_cases e : l0.length < 2513169434916
    · exact e
    · rw [if_neg e] at h; cases h
  have hr : l0 = r := by unfold api_Hold_39.f at h; rw [if_pos hlt] at h; exact Option.some.inj h
  subst hr
  clear h
  have HR0 := Aside0.mk hr0
  have HC0 := Aside0.mk hc0
  have HL := Aside0.mk hlt
  cases A0 with
  | none =>
    have h0 : l0 = [] := by
      rcases Nat.eq_zero_or_pos l0.length with e | e
      · exact List.eq_nil_of_length_eq_zero e
      · obtain ⟨ad, h, _⟩ := hr0.2.2 e
        cases h
    subst h0
    clear hr0 hc0 hlt
    have q22 : ∀ (w : World) (a : Option Addr) (n c n' c' : Nat), (binOp .eql 22 (.slice a n c) (.slice none n' c')).run Try.prog w = .ok (.bool a.isNone) w := fun w a n c n' c' => Lib.run_eql_slice_nil w _ _ a n c n' c' Try.underlying22
    go_enter Try.func39, Try.ntmps39
    go_wp2
    go_ret
    exact ⟨_, rfl, Kd.R_nil _ _ _ _ _, Below.refl _ _⟩
  | some ad =>
    clear hr0 hc0 hlt
    have q22 : ∀ (w : World) (a : Option Addr) (n c n' c' : Nat), (binOp .eql 22 (.slice a n c) (.slice none n' c')).run Try.prog w = .ok (.bool a.isNone) w := fun w a n c n' c' => Lib.run_eql_slice_nil w _ _ a n c n' c' Try.underlying22
    have HOW : Aside0 (Kd.R k26 26 (w.alloc (.cells #[] 26)) w.heap.size (fun _ => True) (.slice (some ⟨w.heap.size, 0, none⟩) 0 0) []) := ⟨⟨fun _ _ => trivial, [], World.ownsRow_made w #[] 0 (Nat.le_refl _) (Nat.zero_le _) (by simp), Reps.none _ _⟩⟩
    go_enter Try.func39, Try.ntmps39
    go_wp2_with (at_builtin; refine Kd.R_append_rows k26 (Rr := k26.K w) (w0 := w) w.heap.size rfl (.tmp 5) (.tmp 6) 22 26 _ _ rfl Try.underlying22 info26 rfl (by decide) (by decide) (.slice (some ⟨w.heap.size, 0, none⟩) 0 0) [] l0 (some ad) l0.length c0 (fun _ => True) (fun k_ => some k_ ≠ (Value.slice (some ⟨w.heap.size, 0, none⟩) 0 0).ownBlock) rfl rfl HOW.out ?qc1 ?qc2 ?qc3 ?qc4 ?qc5 ?qc6 ?qc7 ?_)
    case qc1 => exact ⟨HR0.out.1, HR0.out.2.1, fun hn => by
      obtain ⟨ad', e, hc⟩ := HR0.out.2.2 hn
      refine ⟨ad', e, fun j p hj => ?_⟩
      obtain ⟨c, h1, h2, h3⟩ := hc j p hj
      exact ⟨c, h1, h2, fun i u hu => pw_cell_below (below_alloc (Below.refl _ _) _) (h3 i u hu)⟩⟩
    case qc2 => exact fun x cs hk => by obtain rfl := k26_open hk; exact k26_mkM _ _ _ x
    case qc3 => exact fun k_ hk => ⟨trivial, hk⟩
    case qc4 => exact fun _ _ => trivial
    case qc5 => exact below_alloc (Below.refl _ _) _
    case qc6 => simp
    case qc7 => have := HL.out; simp; omega
    intro v1 w1 hown hb hg hat
    have HO1 := Aside0.mk hown
    have HB1 := Aside0.mk hb
    clear hown hb hg hat
    go_wp2
    go_ret
    exact ⟨_, rfl, by simpa using HO1.out, HB1.out⟩

end Go.Proofs.Ytafkjallmbokaaa.Q
