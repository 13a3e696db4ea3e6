/- slices.Delete of one hold out of a list of the call's own. -/
import Derived.Test.YtafkjallmbokaaaQx0
import Derived.Test.YtafkjallmbokaaaHClear
import Derived.Deep.RegionLaw
namespace Go.Proofs.Ytafkjallmbokaaa.Q
open Go.RowKit Go.Proofs.YtafkjallmbokaaaW.PrintWords Go.Proofs.YtafkjallmbokaaaW.PrintLast Go.Proofs.YtafkjallmbokaaaW.PrintMore
set_option linter.unusedVariables false
set_option linter.unusedSimpArgs false

def api_Hold_40.f (l0 : List S26) (a1 a2 : Int) : Option (List S26) :=
  if 0 ≤ a1 ∧ a1 < l0.length ∧ a2 = a1 + 1 then some (l0.eraseIdx a1.toNat) else none

theorem zero26 : ∀ w, (zeroValue 26).run Try.prog w = .ok (.agg #[.int .i64 0, .int .i64 0, .int .i64 0, .int .i64 0, .int .i64 0, .string ⟨#[]⟩]) w := fun w => by kernel_rfl

theorem add_plain0 (g j : Nat) : (⟨g, 0, none⟩ : Addr).add j = ⟨g, j, none⟩ := by unfold Addr.add; split <;> simp_all
theorem delA (g c k : Nat) : (if c = k + 1 then some (⟨g, 0, none⟩ : Addr) else some ⟨g, (k + 1) * 6, none⟩) = if c = k + 1 then some ⟨g, 0, none⟩ else (some (⟨g, 0, none⟩ : Addr)).map (·.add ((k + 1) * k26.sz)) := by
  have : (⟨g, 0, none⟩ : Addr).add ((k + 1) * k26.sz) = ⟨g, (k + 1) * 6, none⟩ := add_plain0 g _
  rw [Option.map_some, this]

set_option maxHeartbeats 4000000 in
set_option maxRecDepth 100000 in
theorem api_Hold_40.calls (P0_ : Nat → Prop) (u9000_ : Value) (l0 : List (S26)) (a1 : Int) (a2 : Int) (r : List (S26)) (w0 w : World) (hB : Below w0.heap.size w0 w) (ho0 : Kd.R k26 26 w w0.heap.size P0_ u9000_ l0)
    (h : api_Hold_40.f l0 a1 a2 = some r) :
    Calls Try.prog 40 #[u9000_, .int .i64 a1, .int .i64 a2] w fun e w' => ∃ v0_ : Value, e = .returned (v0_) ∧ Kd.R k26 26 w' w0.heap.size (fun k_ => P0_ k_ ∨ w.heap.size ≤ k_) v0_ r ∧ Below w0.heap.size w0 w' ∧ Kept w w' (fun k_ => P0_ k_) := by
  have hc : 0 ≤ a1 ∧ a1 < l0.length ∧ a2 = a1 + 1 := by
    unfold api_Hold_40.f at h
    by_cases e : 0 ≤ a1 ∧ a1 < l0.length ∧ a2 = a1 + 1
    · exact e
    · rw [if_neg e] at h; cases h
  have hr : l0.eraseIdx a1.toNat = r := by unfold api_Hold_40.f at h; rw [if_pos hc] at h; exact Option.some.inj h
  clear h
  obtain ⟨h0, h1, rfl⟩ := hc
  obtain ⟨k, rfl⟩ := Int.eq_ofNat_of_zero_le h0
  subst hr
  rw [Int.toNat_natCast]
  obtain ⟨m, hm⟩ : ∃ m, l0.length = m + 1 := ⟨l0.length - 1, by omega⟩
  have hk : k < m + 1 := by omega
  obtain ⟨g, c, rfl, hnc, hcm⟩ : ∃ g c, u9000_ = .slice (some ⟨g, 0, none⟩) (m + 1) c ∧ m + 1 ≤ c ∧ c ≤ 9223372036854775807 := by
    obtain ⟨_, inner, hown, _⟩ := ho0
    rcases hown.2 with ⟨_, e⟩ | ⟨g, cap, cur, rfl, _, _, hnc, hcm, _⟩
    · omega
    · rw [hm] at hnc ⊢
      exact ⟨g, cap, rfl, hnc, by unfold maxLen at hcm; omega⟩
  have HO := Aside0.mk ho0
  have HB := Aside0.mk hB
  have HM := Aside0.mk hm
  clear ho0 hB h0 h1 hm
  have hg0 : P0_ g := HO.out.1 g rfl
  have HP := Aside0.mk hg0
  clear hg0
  go_enter Try.func40, Try.ntmps40
  go_wp2_with fail
  have f1 : k ≤ c := by omega
  have f2 : k + 1 ≤ c := by omega
  have f3 : k ≤ m := by omega
  have f4 : m + 1 ≤ c := hnc
  have f5 : (0 : Int) ≤ (k : Int) + 1 := by omega
  go_region_law (refine Kd.R_delete_step k26 (w0 := w0) w0.heap.size (by rfl) (.tmp 22) (.tmp 25) 22 26 rfl Try.underlying22 (by kernel_rfl) (g := g) (n := m + 1) (c := c) (k := k) rfl rfl ?hA ?hm HO.out hk (below_drew HB.out) (HB.out.size) ?_; (case hA => exact delA g c k); (case hm => omega); intro w1 ho hb hg)
  rw [Nat.add_sub_cancel] at ho
  have f6 : ¬ c = m := by omega
  obtain ⟨w2, hcl, ho2, hg2⟩ := Clr.clear_tail k26 w0.heap.size 22 0 26 _ Try.underlying22 zero26 (by rfl) (by simp [Value.cells, Value.oneCell']) (by decide) (c2 := c - m) ho (by omega)
  have hcl' : ∀ ty, (Builtin.clear_ #[22] ty #[.slice (some ⟨g, m * 6, none⟩) 1 (c - m)]).run Try.prog w1 = .ok (.tuple #[]) w2 := fun _ => hcl
  have HO2 := Aside0.mk ho2
  have HB1 := Aside0.mk hb
  have HG1 := Aside0.mk hg
  have HG2 := Aside0.mk hg2
  clear ho2 ho hcl hb hg hg2
  have HKp : Aside0 (Kept w w2 (fun k_ => P0_ k_)) := ⟨Kept.of_grown HG2.out (Kept.of_grown HG1.out (Kept.drew (Kept.refl w _)) (fun k e => .inl (by injection e with e; subst e; exact HP.out))) (fun k e => .inl (by injection e with e; subst e; exact HP.out))⟩
  have HB2 : Aside0 (Below w0.heap.size w0 w2) := ⟨HB1.out.grown HG2.out HB1.out.size (fun k e => Kd.R_base HO2.out k e)⟩
  have HR2 := Aside0.mk (Kd.R_mono (ok' := fun k_ => P0_ k_ ∨ w.heap.size ≤ k_) HO2.out (fun k hk => .inl hk))
  clear HG1 HG2 HB1 HO2 HP HO HB HM
  go_wp2
  all_goals go_ret
  · subst h; exact ⟨_, rfl, HR2.out, HB2.out, HKp.out⟩
  · exact ⟨_, rfl, HR2.out, HB2.out, HKp.out⟩

end Go.Proofs.Ytafkjallmbokaaa.Q
