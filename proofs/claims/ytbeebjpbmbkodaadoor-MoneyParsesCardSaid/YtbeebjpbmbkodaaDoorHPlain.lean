/- money.plain: whether a text consists of digits; money.Code: whether a text is a code. -/
import Derived.Test.YtbeebjpbmbkodaaDoorQx0
import Derived.Laws.RangeString
import Derived.Laws.RangeAny
import Derived.LoopTactic
import Derived.IntWalk
namespace Go.Proofs.YtbeebjpbmbkodaaDoor.Q
open Go.RowKit Go.Proofs.YtbeebjpbmbkodaaDoorW.PrintWords Go.Proofs.YtbeebjpbmbkodaaDoorW.PrintLast Go.Proofs.YtbeebjpbmbkodaaDoorW.PrintMore
set_option linter.unusedVariables false
set_option linter.unusedSimpArgs false

def digitAt (s : ByteArray) (i : Nat) : Prop := ∃ h : i < s.size, 48 ≤ (s[i]'h).toNat ∧ (s[i]'h).toNat ≤ 57
def plainP (s : ByteArray) : Prop := ∀ i, i < s.size → digitAt s i
theorem mwidth (s : ByteArray) (pos : Nat) (h : pos < s.size) : 1 ≤ (Utf8.decode s pos).2 := by
  by_cases ha : (s[pos]'h).toNat < 128
  · rw [decode_ascii s pos h ha]
    exact Nat.le_refl _
  · exact (decode_high s pos h (by omega)).2
theorem mrune (s : ByteArray) (pos : Nat) (h : pos < s.size) (n : Nat) (hn : n < 128) (hle : (Utf8.decode s pos).1 ≤ n) : (Utf8.decode s pos).1 = (s[pos]'h).toNat ∧ (Utf8.decode s pos).2 = 1 := by
  by_cases ha : (s[pos]'h).toNat < 128
  · rw [decode_ascii s pos h ha]
    exact ⟨rfl, rfl⟩
  · have := (decode_high s pos h (by omega)).1
    omega

theorem not_plain (s : ByteArray) (pos : Nat) (h : pos < s.size) (hc : ¬ (48 ≤ (Utf8.decode s pos).1 ∧ (Utf8.decode s pos).1 ≤ 57)) : ¬ plainP s := fun hp => by
  obtain ⟨h', h1, h2⟩ := hp pos h
  rw [decode_ascii s pos h (by omega)] at hc
  exact hc ⟨h1, h2⟩
def upperAt (s : ByteArray) (i : Nat) : Prop := ∃ h : i < s.size, 65 ≤ (s[i]'h).toNat ∧ (s[i]'h).toNat ≤ 90
def codeP (s : ByteArray) : Prop := s.size = 3 ∧ ∀ i, i < s.size → upperAt s i
theorem not_code (s : ByteArray) (pos : Nat) (h : pos < s.size) (hc : ¬ (65 ≤ (Utf8.decode s pos).1 ∧ (Utf8.decode s pos).1 ≤ 90)) : ¬ codeP s := fun hp => by
  obtain ⟨h', h1, h2⟩ := hp.2 pos h
  rw [decode_ascii s pos h (by omega)] at hc
  exact hc ⟨h1, h2⟩
theorem below_iter (w : World) (s : ByteArray) (pos : Nat) : Below w.heap.size w (w.iter s pos) := below_alloc (Below.refl _ w) _

set_option maxHeartbeats 1000000 in
set_option maxRecDepth 100000 in
theorem money_plain_calls (s : ByteArray) (w : World) (b : Bool) (hb : b = true ↔ plainP s) :
    Calls Tryd.prog 37 #[.string s] w fun e w' => e = .returned (.bool b) ∧ Below w.heap.size w w' := by
  have HBb := Aside0.mk hb
  clear hb
  go_enter Tryd.func37, Tryd.ntmps37
  go_wp2
  go_loopw [4] (fun _ w' => ∃ pos : Nat, w' = w.iter s pos ∧ Aside0 (∀ j, j < pos → digitAt s j)) (fun _ w' => s.size - w'.iterPos w.heap.size)
  case atStart => exact ⟨0, rfl, ⟨fun j hj => absurd hj (by omega)⟩⟩
  case round =>
    obtain ⟨pos, rfl, HA⟩ := hrel
    by_cases hp : pos < s.size
    · have hnx : ∀ ty, (Instr.next (.pointer (some ⟨w.heap.size, 0, none⟩)) true ty).run Tryd.prog (w.iter s pos) = _ := fun ty => run_next_any w s pos ty hp
      have HP := Aside0.mk hp
      have HW := Aside0.mk (mwidth s pos hp)
      have HM := Aside0.mk (mrune s pos hp 57 (by decide))
      have HN := Aside0.mk (not_plain s pos hp)
      obtain ⟨c, hc⟩ : ∃ c, c = (Utf8.decode s pos).1 := ⟨_, rfl⟩
      obtain ⟨d, hd⟩ : ∃ d, d = (Utf8.decode s pos).2 := ⟨_, rfl⟩
      simp only [← hc, ← hd] at hnx
      rw [← hc, ← hd] at HM
      rw [← hd] at HW
      rw [← hc] at HN
      clear hc hd
      by_cases c1 : c < 48
      · have hf : b = false := by
          cases b with
          | false => rfl
          | true => exact absurd (HBb.out.1 rfl) (HN.out (by omega))
        subst hf
        have d1 : decide ((c : Int) < 48) = true := decide_eq_true (by omega)
        clear c1
        go_wp2
        go_ret
        exact ⟨rfl, below_iter _ _ _⟩
      · by_cases c2 : 57 < c
        · have hf : b = false := by
            cases b with
            | false => rfl
            | true => exact absurd (HBb.out.1 rfl) (HN.out (by omega))
          subst hf
          have d1 : decide ((c : Int) < 48) = false := decide_eq_false (by omega)
          have d2 : decide (57 < (c : Int)) = true := decide_eq_true (by omega)
          clear c1 c2
          go_wp2
          go_ret
          exact ⟨rfl, below_iter _ _ _⟩
        · have d1 : decide ((c : Int) < 48) = false := decide_eq_false (by omega)
          have d2 : decide (57 < (c : Int)) = false := decide_eq_false (by omega)
          have HC := Aside0.mk (show 48 ≤ c ∧ c ≤ 57 from ⟨by omega, by omega⟩)
          clear c1 c2
          go_wp2
          go_roundw
          case rel =>
            obtain ⟨e1, e2⟩ := HM.out HC.out.2
            refine ⟨pos + d, rfl, ⟨fun j hj => ?_⟩⟩
            by_cases e : j = pos
            · subst e
              exact ⟨HP.out, by rw [← e1]; exact HC.out⟩
            · exact HA.out j (by omega)
          case measure =>
            have h1 := HW.out
            have h2 := HP.out
            simp
            omega
    · have hnx : ∀ ty, (Instr.next (.pointer (some ⟨w.heap.size, 0, none⟩)) true ty).run Tryd.prog (w.iter s pos) = _ := fun ty => run_next_end w s pos ty hp
      obtain rfl : b = true := HBb.out.2 (fun i hi => HA.out i (by omega))
      go_wp2
      go_ret
      exact ⟨rfl, below_iter _ _ _⟩

set_option maxHeartbeats 1000000 in
set_option maxRecDepth 100000 in
theorem money_Code_calls (s : ByteArray) (w : World) (b : Bool) (hs : s.size ≤ 9223372036854775807) (hb : b = true ↔ codeP s) :
    Calls Tryd.prog 13 #[.string s] w fun e w' => e = .returned (.bool b) ∧ Below w.heap.size w w' := by
  have HBb := Aside0.mk hb
  clear hb
  go_enter Tryd.func13, Tryd.ntmps13
  go_wp2
  go_loopw [3, 5] (fun n _ w' => ∃ pos : Nat, w' = w.iter s pos ∧ n = .int .i64 pos ∧ Aside0 (pos ≤ s.size ∧ ∀ j, j < pos → upperAt s j)) (fun _ _ w' => s.size - w'.iterPos w.heap.size)
  case atStart => exact ⟨0, rfl, rfl, ⟨Nat.zero_le _, fun j hj => absurd hj (by omega)⟩⟩
  case round =>
    obtain ⟨pos, rfl, rfl, HA⟩ := hrel
    by_cases hp : pos < s.size
    · have hnx : ∀ ty, (Instr.next (.pointer (some ⟨w.heap.size, 0, none⟩)) true ty).run Tryd.prog (w.iter s pos) = _ := fun ty => run_next_any w s pos ty hp
      have HP := Aside0.mk hp
      have HW := Aside0.mk (mwidth s pos hp)
      have HM := Aside0.mk (mrune s pos hp 90 (by decide))
      have HN := Aside0.mk (not_code s pos hp)
      obtain ⟨c, hc⟩ : ∃ c, c = (Utf8.decode s pos).1 := ⟨_, rfl⟩
      obtain ⟨d, hd⟩ : ∃ d, d = (Utf8.decode s pos).2 := ⟨_, rfl⟩
      simp only [← hc, ← hd] at hnx
      rw [← hc, ← hd] at HM
      rw [← hd] at HW
      rw [← hc] at HN
      clear hc hd
      by_cases c1 : c < 65
      · have hf : b = false := by
          cases b with
          | false => rfl
          | true => exact absurd (HBb.out.1 rfl) (HN.out (by omega))
        subst hf
        have d1 : decide ((c : Int) < 65) = true := decide_eq_true (by omega)
        clear c1
        go_wp2
        go_ret
        exact ⟨rfl, below_iter _ _ _⟩
      · by_cases c2 : 90 < c
        · have hf : b = false := by
            cases b with
            | false => rfl
            | true => exact absurd (HBb.out.1 rfl) (HN.out (by omega))
          subst hf
          have d1 : decide ((c : Int) < 65) = false := decide_eq_false (by omega)
          have d2 : decide (90 < (c : Int)) = true := decide_eq_true (by omega)
          clear c1 c2
          go_wp2
          go_ret
          exact ⟨rfl, below_iter _ _ _⟩
        · have d1 : decide ((c : Int) < 65) = false := decide_eq_false (by omega)
          have d2 : decide (90 < (c : Int)) = false := decide_eq_false (by omega)
          have HC := Aside0.mk (show 65 ≤ c ∧ c ≤ 90 from ⟨by omega, by omega⟩)
          have hwp : IntKind.i64.wrap ((pos : Int) + 1) = (pos : Int) + 1 := IntWalk.i64_in _ (by have := HP.out; omega)
          clear c1 c2
          go_wp2
          go_roundw
          case rel =>
            obtain ⟨e1, e2⟩ := HM.out HC.out.2
            have h2 := HP.out
            refine ⟨pos + d, rfl, by rw [e2]; rfl, ⟨by omega, fun j hj => ?_⟩⟩
            by_cases e : j = pos
            · subst e
              exact ⟨HP.out, by rw [← e1]; exact HC.out⟩
            · exact HA.out.2 j (by omega)
          case measure =>
            have h1 := HW.out
            have h2 := HP.out
            simp
            omega
    · have hnx : ∀ ty, (Instr.next (.pointer (some ⟨w.heap.size, 0, none⟩)) true ty).run Tryd.prog (w.iter s pos) = _ := fun ty => run_next_end w s pos ty hp
      have hle := HA.out.1
      have hb : b = ((pos : Int) == 3) := by
        rw [Bool.eq_iff_iff, HBb.out, beq_iff_eq]
        exact ⟨fun h => by have := h.1; omega, fun h => ⟨by omega, fun i hi => HA.out.2 i (by omega)⟩⟩
      have hb2 := Aside0.mk hb
      clear hb
      go_wp2
      go_ret
      exact ⟨by rw [hb2.out]; rfl, below_iter _ _ _⟩
end Go.Proofs.YtbeebjpbmbkodaaDoor.Q
