/- MoneyAdds and MoneyCodes answer true, where the table of powers of ten lies as the library lays it. -/
import Derived.Test.YtbeebjpbmbkodaaDoorHLives
import Derived.Test.YtbeebjpbmbkodaaDoorQx6
import Derived.Test.YtbeebjpbmbkodaaDoorQx8
namespace Go.Proofs.YtbeebjpbmbkodaaDoor.Q
open Go.RowKit Go.Proofs.YtbeebjpbmbkodaaDoorW.PrintWords Go.Proofs.YtbeebjpbmbkodaaDoorW.PrintLast Go.Proofs.YtbeebjpbmbkodaaDoorW.PrintMore
set_option linter.unusedVariables false
set_option linter.unusedSimpArgs false

def validB (a : Int) : Bool := decide (-1000000000000 ≤ a ∧ a ≤ 1000000000000)
theorem valid_eq (a : Int) : money_Valid.f a = some (validB a) := by
  unfold money_Valid.f validB
  by_cases h : a ≥ -1000000000000
  · rw [if_pos h]; congr 1; rw [decide_eq_decide]; omega
  · rw [if_neg h, decide_eq_false (by omega)]
theorem rvalid_eq (a : Int) : corebankref03_Valid.f a = some (validB a) := valid_eq a
def addL (a b : Int) : Int × Int := if validB a = true ∧ validB b = true then (if validB (wrap64 (a + b)) = true then (wrap64 (a + b), 0) else (0, 6)) else (0, 1)
theorem add_eq (a b : Int) : money_Add.f 5 a b = some (addL a b) := by
  unfold money_Add.f addL
  rw [valid_eq, valid_eq]
  simp only [Option.bind_some, money_Add.j0, valid_eq]
  cases validB a <;> cases validB b <;> cases validB (wrap64 (a + b)) <;> rfl
theorem radd_eq (a b : Int) : corebankref03_Add.f 5 a b = some (addL a b) := by
  unfold corebankref03_Add.f addL
  rw [rvalid_eq, rvalid_eq]
  simp only [Option.bind_some, corebankref03_Add.j0, rvalid_eq]
  cases validB a <;> cases validB b <;> cases validB (wrap64 (a + b)) <;> rfl
theorem add_comm (a b : Int) : addL b a = addL a b := by
  unfold addL
  rw [Int.add_comm b a]
  cases validB a <;> cases validB b <;> rfl

set_option maxHeartbeats 2000000 in
set_option maxRecDepth 100000 in
theorem moneyAdds_calls (a b : Int) (w : World) (ht : Tab w) :
    Calls Tryd.prog 8 #[.int .i64 a, .int .i64 b] w fun e w' => e = .returned (.bool true) ∧ Below w.heap.size w w' := by
  have HT := Aside0.mk ht
  clear ht
  obtain ⟨n, m, hn⟩ : ∃ n m, addL a b = (n, m) := ⟨_, _, rfl⟩
  have H1 := Aside0.mk ((add_eq a b).trans (congrArg some hn))
  have H2 := Aside0.mk ((radd_eq a b).trans (congrArg some hn))
  have H3 := Aside0.mk ((add_eq b a).trans (congrArg some ((add_comm a b).trans hn)))
  obtain ⟨v, hv⟩ : ∃ v, v = validB a := ⟨_, rfl⟩
  have H4 := Aside0.mk (valid_eq a)
  have H5 := Aside0.mk (rvalid_eq a)
  rw [← hv] at H4 H5
  clear hn hv
  go_enter Tryd.func8, Tryd.ntmps8
  go_wp2_with fail
  refine (money_Add.calls 5 a b _ _ _ H1.out).mono ?_
  rintro e w1 ⟨rfl, hd1⟩
  have HB1 := Aside0.mk hd1.below
  clear hd1
  go_wp2_with fail
  refine (corebankref03_Add.calls 5 a b _ _ _ H2.out).mono ?_
  rintro e w2 ⟨rfl, hd2⟩
  have HB2 := Aside0.mk (HB1.out.trans (hd2.below.mono HB1.out.size))
  clear hd2
  go_wp2_with fail
  refine (money_Add.calls 5 b a _ _ _ H3.out).mono ?_
  rintro e w3 ⟨rfl, hd3⟩
  have HB3 := Aside0.mk (HB2.out.trans (hd3.below.mono HB2.out.size))
  clear hd3
  go_wp2_with fail
  refine (money_Valid.calls a _ _ H4.out).mono ?_
  rintro e w4 ⟨rfl, hd4⟩
  have HB4 := Aside0.mk (HB3.out.trans (hd4.below.mono HB3.out.size))
  clear hd4
  go_wp2_with fail
  refine (corebankref03_Valid.calls a _ _ H5.out).mono ?_
  rintro e w5 ⟨rfl, hd5⟩
  have HB5 := Aside0.mk (HB4.out.trans (hd5.below.mono HB4.out.size))
  clear hd5
  go_wp2_with fail
  refine (lives_calls _ (HT.out.below HB5.out)).mono ?_
  rintro e w6 ⟨rfl, hb6⟩
  have HB6 := Aside0.mk (HB5.out.trans (hb6.mono HB5.out.size))
  clear hb6
  go_wp2
  go_ret
  exact ⟨rfl, HB6.out⟩

/-! Codes -/
theorem msucc {k d : Nat} (h : d < k) : ∃ m, k = m + 1 ∧ d ≤ m := ⟨k - 1, by omega, by omega⟩
theorem bt_get (s : ByteArray) (i : Nat) (h : i < s.size) : bt s (i : Int) = ((s[i]'h).toNat : Int) := by
  exact (bt_at s (i : Int) h).symm
theorem rcode_from (s : ByteArray) (h3 : s.size = 3) (d : Nat) : ∀ (k i : Nat), i + d = 3 → d < k → (∀ j, j < i → upperAt s j) → ∃ b, corebankref03_Code.l0 k s (i : Int) = some b ∧ (b = true ↔ codeP s) := by
  induction d with
  | zero =>
    intro k i hi hk hall
    obtain ⟨k, rfl, _⟩ := msucc hk
    simp only [corebankref03_Code.l0]
    rw [if_neg (by omega)]
    exact ⟨true, rfl, fun _ => ⟨h3, fun j hj => hall j (by omega)⟩, fun _ => rfl⟩
  | succ d ih =>
    intro k i hi hk hall
    obtain ⟨k, rfl, hk2⟩ := msucc hk
    have hi' : i < s.size := by omega
    simp only [corebankref03_Code.l0]
    rw [if_pos (by omega), if_pos (by omega), if_pos (by omega), bt_get s i hi']
    by_cases c1 : ((s[i]'hi').toNat : Int) < 65
    · rw [if_pos c1]
      exact ⟨false, rfl, fun h => absurd h (by decide), fun h => by obtain ⟨_, h1, _⟩ := h.2 i hi'; omega⟩
    · rw [if_neg c1]
      by_cases c2 : ((s[i]'hi').toNat : Int) > 90
      · rw [if_pos c2]
        exact ⟨false, rfl, fun h => absurd h (by decide), fun h => by obtain ⟨_, _, h1⟩ := h.2 i hi'; omega⟩
      · rw [if_neg c2, show wrap64 ((i : Int) + 1) = ((i + 1 : Nat) : Int) from by unfold wrap64; omega]
        refine ih k (i + 1) (by omega) (by omega) (fun j hj => ?_)
        by_cases e : j = i
        · subst e; exact ⟨hi', by omega, by omega⟩
        · exact hall j (by omega)
theorem rcode_eq (s : ByteArray) (k : Nat) (hk : 3 < k) : ∃ b, corebankref03_Code.f k s = some b ∧ (b = true ↔ codeP s) := by
  unfold corebankref03_Code.f
  by_cases h3 : (s.size : Int) = 3
  · rw [if_pos h3]; exact rcode_from s (by omega) 3 k 0 (by omega) hk (fun j hj => absurd hj (by omega))
  · rw [if_neg h3]; exact ⟨false, rfl, fun h => absurd h (by decide), fun h => absurd (by have := h.1; omega) h3⟩
end Go.Proofs.YtbeebjpbmbkodaaDoor.Q
