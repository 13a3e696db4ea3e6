/- slices.IndexFunc and slices.ContainsFunc at lists of holds, for whatever predicate that leaves what was there as it was. -/
import Derived.Test.YtafkjallmbokaaaQx0
import Derived.Shelf.Abstract
namespace Go.Proofs.Ytafkjallmbokaaa.Q
open Go.RowKit Go.Proofs.YtafkjallmbokaaaW.PrintWords Go.Proofs.YtafkjallmbokaaaW.PrintLast Go.Proofs.YtafkjallmbokaaaW.PrintMore
set_option linter.unusedVariables false
set_option linter.unusedSimpArgs false

@[reducible] def enc26 (x : S26) : Value := .agg #[.int .i64 x.f0, .int .i64 x.f1, .int .i64 x.f2, .int .i64 x.f3, .int .i64 x.f4, .string x.f5]
/-- The function value g, with what it captured, answers p, and leaves what was there as it was. -/
def Pred (g : Nat) (lb : Array Value) (p : S26 → Bool) (w : World) : Prop :=
  ∀ (W : World) (x : S26), Below w.heap.size w W → Calls Try.prog g (#[enc26 x] ++ lb) W fun e w' => e = .returned (.bool (p x)) ∧ Below w.heap.size w w'

def idxP (p : S26 → Bool) : List S26 → Int → Int
  | [], _ => -1
  | x :: l, i => if p x = true then i else idxP p l (i + 1)
theorem idxP_hit (p : S26 → Bool) : ∀ (l : List S26) (j : Nat) (i : Int), j < l.length → (∀ m, m < j → p (l.getD m z26) = false) → p (l.getD j z26) = true → idxP p l i = i + j
  | [], j, i, h, _, _ => absurd h (by simp)
  | x :: l, 0, i, _, _, h => by simp only [List.getD_cons_zero] at h; simp [idxP, h]
  | x :: l, j + 1, i, h, hn, hj => by
    have h0 := hn 0 (by omega)
    simp only [List.getD_cons_zero] at h0
    have := idxP_hit p l j (i + 1) (by simpa using h) (fun m hm => by simpa using hn (m + 1) (by omega)) (by simpa using hj)
    simp only [idxP, h0]
    rw [if_neg (by simp), this]
    push_cast
    omega
theorem idxP_miss (p : S26 → Bool) : ∀ (l : List S26) (i : Int), (∀ m, m < l.length → p (l.getD m z26) = false) → idxP p l i = -1
  | [], i, _ => rfl
  | x :: l, i, hn => by
    have h0 := hn 0 (by simp)
    simp only [List.getD_cons_zero] at h0
    simp only [idxP, h0]
    rw [if_neg (by simp)]
    exact idxP_miss p l (i + 1) (fun m hm => by simpa using hn (m + 1) (by simpa using hm))
theorem idxP_any (p : S26 → Bool) : ∀ (l : List S26) (i : Int), 0 ≤ i → decide (idxP p l i ≥ 0) = l.any p
  | [], i, _ => by simp [idxP]
  | x :: l, i, h => by
    by_cases hx : p x = true
    · rw [idxP, if_pos hx, List.any_cons, hx]; simpa using h
    · rw [idxP, if_neg hx, List.any_cons, Bool.eq_false_iff.2 hx, Bool.false_or]; exact idxP_any p l (i + 1) (by omega)

set_option maxHeartbeats 4000000 in
set_option maxRecDepth 100000 in
theorem indexFunc (p : S26 → Bool) (g : Nat) (lb : Array Value) (eg : ∀ args w, (callFunc g args).run Try.prog w = .ok (.enter g args) w) (A0 : Option Addr) (c0 : Nat) (l0 : List S26) (w : World)
    (hr0 : Kd.C k26 w A0 l0.length l0) (hp : Pred g lb p w) :
    Calls Try.prog 41 #[.slice A0 l0.length c0, .func (.func g) #[] lb] w fun e w' => e = .returned (.int .i64 (idxP p l0 0)) ∧ Below w.heap.size w w' := by
  have HR0 := Aside0.mk hr0
  have HP := Aside0.mk hp
  have hm : l0.length ≤ 9223372036854775807 := hr0.2.1
  clear hr0 hp
  go_enter Try.func41, Try.ntmps41
  go_wp2
  go_loopg [5, 8] l0.length (fun gg _ s8 wr => ∃ kk : Int, s8 = .int .i64 kk ∧ Aside0 (0 ≤ kk ∧ kk ≤ l0.length ∧ l0.length - kk.toNat ≤ gg) ∧ Aside0 (Below w.heap.size w wr) ∧ Aside0 (∀ m : Nat, m < kk.toNat → p (l0.getD m z26) = false))
  case atStart => exact ⟨0, rfl, ⟨by omega, by omega, by omega⟩, ⟨Below.refl _ w⟩, ⟨fun m hm => absurd hm (by simp)⟩⟩
  case round =>
    obtain ⟨kk, rfl, HK, HB, HN⟩ := hrel
    by_cases c : kk < (l0.length : Int)
    · have p1 : 0 ≤ kk := HK.out.1
      obtain ⟨ad, e, h0, h1, h2, h3, h4, h5⟩ := at_T26 HR0.out kk p1 c
      cases e
      replace h0 := (HB.out.cell (World.block_lt_of_cell? w _ h0)).trans h0
      replace h1 := (HB.out.cell (World.block_lt_of_cell? w _ h1)).trans h1
      replace h2 := (HB.out.cell (World.block_lt_of_cell? w _ h2)).trans h2
      replace h3 := (HB.out.cell (World.block_lt_of_cell? w _ h3)).trans h3
      replace h4 := (HB.out.cell (World.block_lt_of_cell? w _ h4)).trans h4
      replace h5 := (HB.out.cell (World.block_lt_of_cell? w _ h5)).trans h5
      have HC := Aside0.mk (HP.out wr (rd_T26 l0 kk) HB.out)
      have hx : Aside0 (rd_T26 l0 kk = l0.getD kk.toNat z26) := ⟨rfl⟩
      generalize rd_T26 l0 kk = x at h0 h1 h2 h3 h4 h5 HC hx
      cases hq : p x with
      | true =>
        have HQ := Aside0.mk hq
        rw [hq] at HC
        clear hq
        go_wp2_with (go_at_fn g; refine HC.out.mono ?_; rintro e w' ⟨rfl, hb'⟩)
        go_ret
        refine ⟨?_, hb'⟩
        rw [idxP_hit p l0 kk.toNat 0 (by omega) HN.out (by rw [← hx.out]; exact HQ.out)]
        rw [show (0 : Int) + (kk.toNat : Int) = kk by omega]
        rfl
      | false =>
        have HQ := Aside0.mk hq
        rw [hq] at HC
        clear hq
        go_wp2_with (go_at_fn g; refine HC.out.mono ?_; rintro e w' ⟨rfl, hb'⟩)
        go_roundg (l0.length - (kk.toNat + 1))
        case measure => have := HK.out; omega
        case rel =>
          refine ⟨kk + 1, by go_num, ⟨by omega, by omega, by omega⟩, ⟨hb'⟩, ⟨fun m hm => ?_⟩⟩
          by_cases e : m = kk.toNat
          · subst e
            rw [← hx.out]; exact HQ.out
          · exact HN.out m (by omega)
    · have HE := HK.out
      go_wp2
      go_ret
      refine ⟨?_, HB.out⟩
      rw [idxP_miss p l0 0 (fun m hm => HN.out m (by omega))]
      rfl

set_option maxHeartbeats 4000000 in
set_option maxRecDepth 100000 in
theorem containsFunc (p : S26 → Bool) (g : Nat) (lb : Array Value) (eg : ∀ args w, (callFunc g args).run Try.prog w = .ok (.enter g args) w) (A0 : Option Addr) (c0 : Nat) (l0 : List S26) (w : World)
    (hr0 : Kd.C k26 w A0 l0.length l0) (hp : Pred g lb p w) :
    Calls Try.prog 28 #[.slice A0 l0.length c0, .func (.func g) #[] lb] w fun e w' => e = .returned (.bool (l0.any p)) ∧ Below w.heap.size w w' := by
  have HI := Aside0.mk (indexFunc p g lb eg A0 c0 l0 w hr0 hp)
  have HA := Aside0.mk (idxP_any p l0 0 (by omega))
  clear hr0 hp
  generalize idxP p l0 0 = r at HI HA
  go_enter Try.func28, Try.ntmps28
  go_wp2_with (go_at_call 41; refine HI.out.mono ?_; rintro e w' ⟨rfl, hb'⟩)
  go_ret
  refine ⟨?_, hb'⟩
  rw [← HA.out]
  rfl

end Go.Proofs.Ytafkjallmbokaaa.Q
