/- What Parse computes, in plain lists. -/
import Derived.Test.YtbeebjpbmbkodaaDoorHSplit
namespace Go.Proofs.YtbeebjpbmbkodaaDoor.Q
open Go.RowKit Go.Proofs.YtbeebjpbmbkodaaDoorW.PrintWords Go.Proofs.YtbeebjpbmbkodaaDoorW.PrintLast Go.Proofs.YtbeebjpbmbkodaaDoorW.PrintMore
set_option linter.unusedVariables false
set_option linter.unusedSimpArgs false

/-- What digits spell behind acc. -/
def valF (acc : Nat) (l : List UInt8) : Nat := l.foldl (fun a c => a * 10 + (c.toNat - 48)) acc
theorem valF_cons (acc : Nat) (c : UInt8) (r : List UInt8) : valF acc (c :: r) = valF (acc * 10 + (c.toNat - 48)) r := by unfold valF; rw [List.foldl_cons]
theorem valF_nil (acc : Nat) : valF acc [] = acc := by unfold valF; rw [List.foldl_nil]
theorem valF_ge (l : List UInt8) : ∀ acc : Nat, acc ≤ valF acc l := by
  induction l with
  | nil => intro acc; rw [valF_nil]; exact Nat.le_refl _
  | cons c r ih =>
    intro acc
    have h := ih (acc * 10 + (c.toNat - 48))
    rw [valF_cons]
    generalize valF (acc * 10 + (c.toNat - 48)) r = x at h ⊢
    omega
theorem uint_ok (l : List UInt8) : ∀ acc : Nat, l.all isD = true → valF acc l < 18446744073709551616 → Lib.parseUint10 acc l = .ok (valF acc l) := by
  induction l with
  | nil => intro acc _ _; rw [Lib.parseUint10, valF_nil]
  | cons c r ih =>
    intro acc h hv
    rw [List.all_cons, Bool.and_eq_true] at h
    have hc : 48 ≤ c.toNat ∧ c.toNat ≤ 57 := of_decide_eq_true h.1
    have hg := valF_ge r (acc * 10 + (c.toNat - 48))
    rw [valF_cons] at hv ⊢
    have h1 : acc * 10 + (c.toNat - 48) < 18446744073709551616 := Nat.lt_of_le_of_lt hg hv
    rw [Lib.parseUint10, if_pos hc, if_neg (by omega), if_neg (by omega)]
    exact ih _ h.2 hv
theorem uint_range (l : List UInt8) : ∀ acc : Nat, acc < 18446744073709551616 → l.all isD = true → 18446744073709551616 ≤ valF acc l → Lib.parseUint10 acc l = .range := by
  induction l with
  | nil => intro acc ha _ hv; rw [valF_nil] at hv; omega
  | cons c r ih =>
    intro acc ha h hv
    rw [List.all_cons, Bool.and_eq_true] at h
    have hc : 48 ≤ c.toNat ∧ c.toNat ≤ 57 := of_decide_eq_true h.1
    rw [valF_cons] at hv
    rw [Lib.parseUint10, if_pos hc]
    by_cases h1 : 1844674407370955162 ≤ acc
    · rw [if_pos h1]
    · rw [if_neg h1]
      by_cases h2 : 18446744073709551616 ≤ acc * 10 + (c.toNat - 48)
      · rw [if_pos h2]
      · rw [if_neg h2]
        exact ih _ (by omega) h.2 hv
theorem atoi_ok_of (l : List UInt8) (h : l.all isD = true) (hne : l ≠ []) (hv : valF 0 l < 9223372036854775808) : Lib.atoiAll l = .ok (valF 0 l : Int) := by
  cases l with
  | nil => exact absurd rfl hne
  | cons c r =>
    have h0 := h
    rw [List.all_cons, Bool.and_eq_true] at h
    have hc : 48 ≤ c.toNat ∧ c.toNat ≤ 57 := of_decide_eq_true h.1
    have h2 := uint_ok _ 0 h0 (by omega)
    simp only [Lib.atoiAll]
    rw [if_neg (show ¬ (c.toNat = 43 ∨ c.toNat = 45) by omega)]
    unfold Lib.parseMag
    rw [if_neg (by simp), h2]
    simp only []
    rw [if_neg (by omega), if_neg (by omega), if_neg (by omega)]
theorem atoi_range_of (l : List UInt8) (h : l.all isD = true) (hne : l ≠ []) (hv : 9223372036854775808 ≤ valF 0 l) : Lib.atoiAll l = .range := by
  cases l with
  | nil => exact absurd rfl hne
  | cons c r =>
    have h0 := h
    rw [List.all_cons, Bool.and_eq_true] at h
    have hc : 48 ≤ c.toNat ∧ c.toNat ≤ 57 := of_decide_eq_true h.1
    simp only [Lib.atoiAll]
    rw [if_neg (show ¬ (c.toNat = 43 ∨ c.toNat = 45) by omega)]
    unfold Lib.parseMag
    rw [if_neg (by simp)]
    by_cases h1 : valF 0 (c :: r) < 18446744073709551616
    · rw [uint_ok _ 0 h0 h1]
      simp only []
      rw [if_pos (by omega)]
    · rw [uint_range _ 0 (by omega) h0 (by omega)]
theorem has_minus (L : List UInt8) : Lib.hasPrefix L [45] = minusB L := by
  unfold Lib.hasPrefix
  cases L with
  | nil => rfl
  | cons c r => simp only [List.isPrefixOf, minusB, Bool.and_true]; rw [show ((45 : UInt8) == c) = (c == 45) from Bool.beq_comm]
def parV (m : Bool) (t : List UInt8) : Int × Int :=
  if t = [] then (if m = true then (0, 2) else (0, 0)) else if 1000000000000 < valF 0 t then (0, 6) else (if m = true then -(valF 0 t : Int) else (valF 0 t : Int), 0)
def parD (m : Bool) : Option (List UInt8) → Int × Int
  | none => (0, 2)
  | some D => parV m (D.dropWhile (· == 48))
def parC (L : List UInt8) (d : Int) : Int × Int := if placesB d = true then parD (minusB L) (splitC (bodyL L) d.toNat) else (0, 1)
theorem partsL_spec {W R D : List UInt8} (h : partsL W R = some D) : D = W ++ R ∧ W ≠ [] ∧ headB W = false ∧ W.all isD = true ∧ R.all isD = true := by
  unfold partsL at h
  split at h
  · cases h
  · rename_i h1
    split at h
    · cases h
    · rename_i h2
      split at h
      · rename_i h3
        split at h
        · rename_i h4
          exact ⟨(Option.some.inj h).symm, h1, by simpa using h2, h3, h4⟩
        · cases h
      · cases h
theorem splitC_spec {T : List UInt8} {d : Nat} {D : List UInt8} (h : splitC T d = some D) : D.all isD = true ∧ D.length ≤ T.length := by
  unfold splitC at h
  split at h
  · obtain ⟨rfl, _, _, h1, h2⟩ := partsL_spec h
    exact ⟨by rw [List.all_append, h1, h2]; rfl, by simp⟩
  · split at h
    · split at h
      · obtain ⟨rfl, _, _, h1, h2⟩ := partsL_spec h
        refine ⟨by rw [List.all_append, h1, h2]; rfl, ?_⟩
        rw [List.length_append, List.length_take, List.length_drop]
        omega
      · cases h
    · cases h
theorem drop_all {D : List UInt8} (h : D.all isD = true) : (D.dropWhile (· == 48)).all isD = true :=
  List.all_eq_true.2 fun x hx => List.all_eq_true.1 h x ((List.dropWhile_sublist _).subset hx)
theorem body_len (L : List UInt8) : (bodyL L).length ≤ L.length := by
  unfold bodyL
  split
  · rw [List.length_drop]; omega
  · exact Nat.le_refl _
end Go.Proofs.YtbeebjpbmbkodaaDoor.Q
