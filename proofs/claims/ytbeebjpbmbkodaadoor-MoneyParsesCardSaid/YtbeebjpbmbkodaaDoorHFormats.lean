/- MoneyFormats answers true: the texts of Format are the reference's. -/
import Derived.Test.YtbeebjpbmbkodaaDoorHFormat
import Derived.Test.YtbeebjpbmbkodaaDoorQx10
namespace Go.Proofs.YtbeebjpbmbkodaaDoor.Q
open Go.RowKit Go.Proofs.YtbeebjpbmbkodaaDoorW.PrintWords Go.Proofs.YtbeebjpbmbkodaaDoorW.PrintLast Go.Proofs.YtbeebjpbmbkodaaDoorW.PrintMore
set_option linter.unusedVariables false
set_option linter.unusedSimpArgs false

/-- The d last digits. -/
def dig : Nat → Nat → List UInt8
  | 0, _ => []
  | d + 1, n => dig d (n / 10) ++ [UInt8.ofNat (48 + n % 10)]
theorem dig_len (d : Nat) : ∀ n, (dig d n).length = d := by
  induction d with
  | zero => intro n; rfl
  | succ d ih => intro n; simp [dig, ih]
theorem dec_small {n : Nat} (h : n < 10) : Lib.decDigits n = [UInt8.ofNat (48 + n)] := by rw [Lib.decDigits, dif_pos h]
theorem dec_big {n : Nat} (h : ¬ n < 10) : Lib.decDigits n = Lib.decDigits (n / 10) ++ [UInt8.ofNat (48 + n % 10)] := by rw [Lib.decDigits, dif_neg h]
theorem dig_mod (d : Nat) : ∀ n, dig d (n % 10 ^ d) = dig d n := by
  induction d with
  | zero => intro n; rfl
  | succ d ih =>
    intro n
    simp only [dig]
    have e1 : n % 10 ^ (d + 1) / 10 = n / 10 % 10 ^ d := by rw [Nat.pow_succ]; exact Nat.mod_mul_left_div_self ..
    have e2 : n % 10 ^ (d + 1) % 10 = n % 10 := Nat.mod_mod_of_dvd _ (by rw [Nat.pow_succ]; exact Nat.dvd_mul_left _ _)
    rw [e1, e2, ih]
theorem one_dig (d : Nat) : ∀ r, r < 10 ^ d → Lib.decDigits (10 ^ d + r) = 49 :: dig d r := by
  induction d with
  | zero =>
    intro r h
    have : r = 0 := by simpa using h
    subst this
    exact dec_small (by decide)
  | succ d ih =>
    intro r h
    have hp : 1 ≤ 10 ^ d := Nat.one_le_pow _ _ (by decide)
    rw [Nat.pow_succ] at h ⊢
    rw [dec_big (by omega), show (10 ^ d * 10 + r) / 10 = 10 ^ d + r / 10 by omega, show (10 ^ d * 10 + r) % 10 = r % 10 by omega, ih (r / 10) (by omega)]
    rfl
theorem pad_eq (d : Nat) : ∀ n, padded d n = Lib.decDigits (n / 10 ^ d) ++ dig d n := by
  induction d with
  | zero =>
    intro n
    have := dec_pos n
    unfold padded
    rw [show 0 + 1 - (Lib.decDigits n).length = 0 by omega]
    simp [dig]
  | succ d ih =>
    intro n
    have hd : n / 10 ^ (d + 1) = n / 10 / 10 ^ d := by rw [Nat.pow_succ, Nat.mul_comm, Nat.div_div_eq_div_mul]
    simp only [dig]
    rw [← List.append_assoc, hd, ← ih (n / 10)]
    unfold padded
    by_cases h : n < 10
    · have h0 : n / 10 = 0 := by omega
      have hm : n % 10 = n := Nat.mod_eq_of_lt h
      rw [dec_small h, h0, hm, dec_small (n := 0) (by decide)]
      simp only [List.length_cons, List.length_nil]
      rw [show d + 1 + 1 - (0 + 1) = d + 1 by omega, show d + 1 - (0 + 1) = d by omega, List.replicate_succ']
      rfl
    · rw [dec_big h, ← List.append_assoc]
      simp only [List.length_append, List.length_cons, List.length_nil]
      rw [show d + 1 + 1 - ((Lib.decDigits (n / 10)).length + (0 + 1)) = d + 1 - (Lib.decDigits (n / 10)).length by omega]
def digs : ByteArray := ⟨#[48, 49, 50, 51, 52, 53, 54, 55, 56, 57]⟩
theorem digs_at : ∀ c : Nat, c < 10 → digs.extract c (c + 1) = ⟨#[UInt8.ofNat (48 + c)]⟩
  | 0, _ => by kernel_rfl
  | 1, _ => by kernel_rfl
  | 2, _ => by kernel_rfl
  | 3, _ => by kernel_rfl
  | 4, _ => by kernel_rfl
  | 5, _ => by kernel_rfl
  | 6, _ => by kernel_rfl
  | 7, _ => by kernel_rfl
  | 8, _ => by kernel_rfl
  | 9, _ => by kernel_rfl
  | _ + 10, h => absurd h (by omega)
theorem one_size (b : UInt8) : (⟨#[b]⟩ : ByteArray).size = 1 := rfl
theorem digits_from (m : Nat) : ∀ (k n : Nat) (s : ByteArray), 1 ≤ m → n < 10 ^ m → n ≤ 9000000000000000000 → m < k → s.size + m ≤ 1000 → corebankref03_digits.l0 k (n : Int) s = some ⟨(Lib.decDigits n ++ s.data.toList).toArray⟩ := by
  induction m with
  | zero => intro k n s h; omega
  | succ m ih =>
    intro k n s _ hn hb hk hs
    obtain ⟨k, rfl, hk2⟩ := msucc hk
    simp only [corebankref03_digits.l0]
    by_cases h : n < 10
    · rw [if_neg (by omega), if_pos (by omega), show wrap64 ((n : Int) + 1) = ((n + 1 : Nat) : Int) from by unfold wrap64; omega, if_pos (by omega), if_pos (by omega), Int.toNat_natCast, Int.toNat_natCast, show (⟨#[48, 49, 50, 51, 52, 53, 54, 55, 56, 57]⟩ : ByteArray).extract n (n + 1) = ⟨#[UInt8.ofNat (48 + n)]⟩ from digs_at n h, if_pos (by rw [one_size]; omega), dec_small h]
      congr 1
    · have e1 : Int.tmod (n : Int) 10 = ((n % 10 : Nat) : Int) := by rw [Int.tmod_eq_emod_of_nonneg (by omega)]; omega
      have e2 : wrap64 (Int.tdiv (n : Int) 10) = ((n / 10 : Nat) : Int) := by rw [Int.tdiv_eq_ediv_of_nonneg (by omega)]; unfold wrap64; omega
      have hm : 1 ≤ m := by
        rcases Nat.eq_zero_or_pos m with e | e
        · subst e; omega
        · exact e
      rw [if_pos (by omega), e1, if_pos (by omega), show wrap64 (((n % 10 : Nat) : Int) + 1) = ((n % 10 + 1 : Nat) : Int) from by unfold wrap64; omega, if_pos (by omega), if_pos (by omega), Int.toNat_natCast, Int.toNat_natCast, show (⟨#[48, 49, 50, 51, 52, 53, 54, 55, 56, 57]⟩ : ByteArray).extract (n % 10) (n % 10 + 1) = ⟨#[UInt8.ofNat (48 + n % 10)]⟩ from digs_at _ (by omega), if_pos (by rw [one_size]; omega), e2,
        ih k (n / 10) _ hm (by rw [Nat.pow_succ] at hn; omega) (by omega) (by omega) (by rw [ByteArray.size_append, one_size]; omega), dec_big h, app_list, List.append_assoc]
theorem digits_eq (n : Nat) (hn : n ≤ 2000000000000) (k : Nat) (hk : 13 < k) : corebankref03_digits.f k (n : Int) = some ⟨(Lib.decDigits n).toArray⟩ := by
  unfold corebankref03_digits.f
  rw [digits_from 13 k n _ (by omega) (by omega) (by omega) hk (by decide)]
  simp
theorem pow_from (d : Nat) (hd : d ≤ 4) (m : Nat) : ∀ (k i : Nat), i + m = d → m < k → corebankref03_Power.l0 k (d : Int) ((10 ^ i : Nat) : Int) (i : Int) = some ((10 ^ d : Nat) : Int) := by
  induction m with
  | zero =>
    intro k i hi hk
    obtain ⟨k, rfl, _⟩ := msucc hk
    simp only [corebankref03_Power.l0]
    obtain rfl : i = d := by omega
    rw [if_neg (by omega)]
  | succ m ih =>
    intro k i hi hk
    obtain ⟨k, rfl, hk2⟩ := msucc hk
    have hb : 10 ^ i ≤ 10 ^ 4 := Nat.pow_le_pow_right (by decide) (by omega)
    simp only [corebankref03_Power.l0]
    rw [if_pos (by omega), show wrap64 (10 * ((10 ^ i : Nat) : Int)) = ((10 ^ (i + 1) : Nat) : Int) from by rw [Nat.pow_succ]; unfold wrap64; omega, show wrap64 ((i : Int) + 1) = ((i + 1 : Nat) : Int) from by unfold wrap64; omega]
    exact ih k (i + 1) (by omega) (by omega)
theorem pow_eq (d : Nat) (hd : d ≤ 4) (k : Nat) (hk : 10 < k) : corebankref03_Power.f k (d : Int) = some ((10 ^ d : Nat) : Int) := by
  have := pow_from d hd d k 0 (by omega) (by omega)
  exact this
theorem ext_left (x y : List UInt8) : (⟨(x ++ y).toArray⟩ : ByteArray).extract 0 x.length = ⟨x.toArray⟩ := bytes_ext (by simp)
theorem ext_right (x y : List UInt8) : (⟨(x ++ y).toArray⟩ : ByteArray).extract x.length (x ++ y).length = ⟨y.toArray⟩ := bytes_ext (by simp)
theorem lsize (l : List UInt8) : (⟨l.toArray⟩ : ByteArray).size = l.length := by rw [Lib.size_eq]
theorem fmt_zero (sg : ByteArray) (n : Nat) : fmtR sg (padS 0 n) 0 = sg ++ ⟨(Lib.decDigits n).toArray⟩ := by
  unfold fmtR padS
  rw [if_pos rfl, pad_eq]
  simp [dig]
theorem fmt_alt (sg : ByteArray) (n d : Nat) (h0 : d ≠ 0) : fmtR sg (padS d n) d = ((sg ++ (⟨(Lib.decDigits (n / 10 ^ d)).toArray⟩ : ByteArray)) ++ (⟨#[46]⟩ : ByteArray)) ++ (⟨(Lib.decDigits (10 ^ d + n % 10 ^ d)).toArray⟩ : ByteArray).extract 1 (⟨(Lib.decDigits (10 ^ d + n % 10 ^ d)).toArray⟩ : ByteArray).size := by
  have hp1 : 1 ≤ 10 ^ d := Nat.one_le_pow _ _ (by decide)
  have hr : n % 10 ^ d < 10 ^ d := Nat.mod_lt _ (by omega)
  have pe := pad_eq d n
  have pl : (padded d n).length - d = (Lib.decDigits (n / 10 ^ d)).length := by rw [pe, List.length_append, dig_len]; omega
  have x1 : (⟨(Lib.decDigits (10 ^ d + n % 10 ^ d)).toArray⟩ : ByteArray).extract 1 (⟨(Lib.decDigits (10 ^ d + n % 10 ^ d)).toArray⟩ : ByteArray).size = ⟨(dig d n).toArray⟩ := by
    rw [lsize, one_dig d _ hr, dig_mod]
    exact ext_right [49] (dig d n)
  have x2 : (⟨(padded d n).toArray⟩ : ByteArray).extract 0 ((⟨(padded d n).toArray⟩ : ByteArray).size - d) = ⟨(Lib.decDigits (n / 10 ^ d)).toArray⟩ := by
    rw [lsize, pl, pe]
    exact ext_left _ _
  have x3 : (⟨(padded d n).toArray⟩ : ByteArray).extract ((⟨(padded d n).toArray⟩ : ByteArray).size - d) (⟨(padded d n).toArray⟩ : ByteArray).size = ⟨(dig d n).toArray⟩ := by
    rw [lsize, pl, pe]
    exact ext_right _ _
  unfold fmtR padS
  rw [if_neg h0, x1, x2, x3]
theorem digits_calls (n : Nat) (hn : n ≤ 2000000000000) (s : ByteArray) (hs : s = ⟨(Lib.decDigits n).toArray⟩) (w : World) : Calls Tryd.prog 30 #[.int .i64 (n : Int)] w fun e w' => e = .returned (.string s) ∧ Drawn0 w w' :=
  corebankref03_digits.calls 20 n s w (by rw [hs]; exact digits_eq n hn 20 (by omega))

set_option maxHeartbeats 4000000 in
set_option maxRecDepth 100000 in
theorem rformat_calls (a d : Int) (w : World) (r : ByteArray) (ev : Int) (h : fmtC a d = (r, ev)) :
    Calls Tryd.prog 16 #[.int .i64 a, .int .i64 d] w fun e w' => e = .returned (.tuple #[.string r, .int .i64 ev]) ∧ Below w.heap.size w w' := by
  unfold fmtC at h
  by_cases t1 : validB a = true
  · have HV := Aside0.mk (rvalid_eq a)
    rw [t1] at HV
    by_cases t2 : placesB d = true
    · rw [if_pos ⟨t1, t2⟩] at h
      obtain ⟨h, rfl⟩ := Prod.mk.inj h
      have hva := of_decide_eq_true t1
      have hpd := of_decide_eq_true t2
      obtain ⟨dn, rfl⟩ : ∃ dn : Nat, d = dn := ⟨d.toNat, by omega⟩
      rw [Int.toNat_natCast] at h
      obtain ⟨n, hn⟩ : ∃ n, n = a.natAbs := ⟨_, rfl⟩
      rw [← hn] at h
      have HH := Aside0.mk h
      have hn12 : n ≤ 1000000000000 := by omega
      have HN := Aside0.mk hn
      have hd4 : dn ≤ 4 := by omega
      obtain ⟨P, hP⟩ : ∃ P : Int, P = ((10 ^ dn : Nat) : Int) := ⟨_, rfl⟩
      have HPw : Aside0 (corebankref03_Power.f 50 (dn : Int) = some P) := ⟨by rw [hP]; exact pow_eq dn hd4 50 (by omega)⟩
      have HPe := Aside0.mk hP
      have p1 : decide ((dn : Int) < 0) = false := decide_eq_false (by omega)
      have p2 : decide (4 < (dn : Int)) = false := decide_eq_false (by omega)
      have p3 : decide (4 < dn) = false := decide_eq_false (by omega)
      clear h t1 t2 hn hP
      go_enter Tryd.func16, Tryd.ntmps16
      go_wp2_with fail
      refine (corebankref03_Valid.calls a _ _ HV.out).mono ?_
      rintro e w1 ⟨rfl, hd1⟩
      have HB1 := Aside0.mk hd1.below
      clear hd1
      by_cases hneg : a < 0
      · have dneg : decide (a < 0) = true := decide_eq_true hneg
        have hw0 : IntKind.i64.wrap (-a) = (n : Int) := by have hn := HN.out; rw [IntWalk.i64_in _ (by omega), hn]; omega
        have hsg' : sgn a = ⟨#[45]⟩ := if_pos hneg
        clear hneg
        go_wp2_with fail
        refine (corebankref03_Power.calls 50 _ P _ HPw.out).mono ?_
        rintro e w2 ⟨rfl, hd2⟩
        have HB2 := Aside0.mk (HB1.out.trans (hd2.below.mono HB1.out.size))
        clear hd2 HB1
        have HR := (Prod.mk.inj HH.out).1
        rw [hsg'] at HR
        have HRa := Aside0.mk HR
        clear HR hsg'
        by_cases h0 : dn = 0
        · have k0 : ((dn : Int) == 0) = true := beq_iff_eq.mpr (by omega)
          have HQ := HRa.out
          rw [h0, fmt_zero] at HQ
          obtain ⟨t, ht⟩ : ∃ t, t = (⟨(Lib.decDigits n).toArray⟩ : ByteArray) := ⟨_, rfl⟩
          rw [← ht] at HQ
          have htz : t.size ≤ 13 := by rw [ht, lsize]; exact dec_len n 13 (by omega) (by omega)
          have HTe := Aside0.mk ht
          have z1 := eq_true (show 1 + t.size ≤ 9223372036854775807 by omega)
          clear h0 ht HRa
          go_wp2_with fail
          refine (digits_calls n (by omega) t HTe.out _).mono ?_
          rintro e w3 ⟨rfl, hd3⟩
          have HB3 := Aside0.mk (HB2.out.trans (hd3.below.mono HB2.out.size))
          clear hd3
          go_wp2
          go_ret2
          exact ⟨by first | rfl | (rw [← HQ]; rfl), HB3.out⟩
        · have k0 : ((dn : Int) == 0) = false := beq_eq_false_iff_ne.mpr (by omega)
          have HQ := HRa.out
          rw [fmt_alt _ _ _ h0] at HQ
          have hp1 : 1 ≤ 10 ^ dn := Nat.one_le_pow _ _ (by decide)
          have hp4 : 10 ^ dn ≤ 10 ^ 4 := Nat.pow_le_pow_right (by decide) hd4
          have hq : n / 10 ^ dn ≤ n := Nat.div_le_self _ _
          have hr : n % 10 ^ dn < 10 ^ dn := Nat.mod_lt _ (by omega)
          have hPe := HPe.out
          have g1 : Int.tdiv (n : Int) P = ((n / 10 ^ dn : Nat) : Int) := by rw [hPe, Int.tdiv_eq_ediv_of_nonneg (by omega)]; rfl
          have g2 : Int.tmod (n : Int) P = ((n % 10 ^ dn : Nat) : Int) := by rw [hPe, Int.tmod_eq_emod_of_nonneg (by omega)]; rfl
          obtain ⟨q, hqe⟩ : ∃ q, q = n / 10 ^ dn := ⟨_, rfl⟩
          obtain ⟨rr, hre⟩ : ∃ rr, rr = n % 10 ^ dn := ⟨_, rfl⟩
          obtain ⟨u, hue⟩ : ∃ u, u = 10 ^ dn + rr := ⟨_, rfl⟩
          rw [← hqe] at g1
          rw [← hre] at g2
          rw [← hqe, ← hre, ← hue] at HQ
          obtain ⟨t, ht⟩ : ∃ t, t = (⟨(Lib.decDigits q).toArray⟩ : ByteArray) := ⟨_, rfl⟩
          obtain ⟨v, hv⟩ : ∃ v, v = (⟨(Lib.decDigits u).toArray⟩ : ByteArray) := ⟨_, rfl⟩
          rw [← ht, ← hv] at HQ
          have htz : t.size ≤ 13 := by rw [ht, lsize]; exact dec_len q 13 (by omega) (by omega)
          have hvz : v.size ≤ 13 := by rw [hv, lsize]; exact dec_len u 13 (by omega) (by omega)
          have hv1 : 1 ≤ v.size := by rw [hv, lsize]; exact dec_pos u
          have HTe := Aside0.mk ht
          have HVe := Aside0.mk hv
          have hq12 : q ≤ 2000000000000 := by omega
          have hu12 : u ≤ 2000000000000 := by omega
          have w1' : IntKind.i64.wrap (q : Int) = (q : Int) := IntWalk.i64_in _ (by omega)
          have w2' : IntKind.i64.wrap (P + (rr : Int)) = (u : Int) := by rw [IntWalk.i64_in _ (by omega)]; omega
          have kp : (P == 0) = false := beq_eq_false_iff_ne.mpr (by omega)
          have kp2 := eq_false (show ¬ P = 0 by omega)
          have j1 := eq_true (show 1 ≤ v.size from hv1)
          have j2 := eq_true (show (1 : Int) ≤ (v.size : Int) by omega)
          have e2 : (v.extract 1 v.size).size = v.size - 1 := by rw [ByteArray.size_extract]; omega
          clear h0 ht hv HRa hqe hre hue hPe hp1 hp4 hq hr hd4 hn12
          go_wp2_with fail
          go_quiet (first | (go_at_call 30; (with_reducible refine (digits_calls q hq12 t HTe.out _).mono ?_); rintro e w' ⟨rfl, ⟨nd, rfl⟩⟩; exact ⟨rfl, _, World.drewN_drewN _ _ _⟩) | (go_at_call 30; (with_reducible refine (digits_calls u hu12 v HVe.out _).mono ?_); rintro e w' ⟨rfl, ⟨nd, rfl⟩⟩; exact ⟨rfl, _, World.drewN_drewN _ _ _⟩))
          go_wp2
          go_ret2
          exact ⟨by first | rfl | (rw [← HQ]; rfl), by repeat (first | exact HB2.out | apply pw_below_drewN)⟩
      · have dneg : decide (a < 0) = false := decide_eq_false hneg
        have hsg' : sgn a = ⟨#[]⟩ := if_neg hneg
        have hap : a = (n : Int) := by have hn := HN.out; rw [hn]; omega
        clear HN hva HV
        subst hap
        clear hneg
        go_wp2_with fail
        refine (corebankref03_Power.calls 50 _ P _ HPw.out).mono ?_
        rintro e w2 ⟨rfl, hd2⟩
        have HB2 := Aside0.mk (HB1.out.trans (hd2.below.mono HB1.out.size))
        clear hd2 HB1
        have HR := (Prod.mk.inj HH.out).1
        rw [hsg'] at HR
        have HRa := Aside0.mk HR
        clear HR hsg'
        by_cases h0 : dn = 0
        · have k0 : ((dn : Int) == 0) = true := beq_iff_eq.mpr (by omega)
          have HQ := HRa.out
          rw [h0, fmt_zero] at HQ
          obtain ⟨t, ht⟩ : ∃ t, t = (⟨(Lib.decDigits n).toArray⟩ : ByteArray) := ⟨_, rfl⟩
          rw [← ht] at HQ
          have htz : t.size ≤ 13 := by rw [ht, lsize]; exact dec_len n 13 (by omega) (by omega)
          have HTe := Aside0.mk ht
          have z1 := eq_true (show 1 + t.size ≤ 9223372036854775807 by omega)
          clear h0 ht HRa
          go_wp2_with fail
          refine (digits_calls n (by omega) t HTe.out _).mono ?_
          rintro e w3 ⟨rfl, hd3⟩
          have HB3 := Aside0.mk (HB2.out.trans (hd3.below.mono HB2.out.size))
          clear hd3
          go_wp2
          go_ret2
          exact ⟨by first | rfl | (rw [← HQ]; rfl), HB3.out⟩
        · have k0 : ((dn : Int) == 0) = false := beq_eq_false_iff_ne.mpr (by omega)
          have HQ := HRa.out
          rw [fmt_alt _ _ _ h0] at HQ
          have hp1 : 1 ≤ 10 ^ dn := Nat.one_le_pow _ _ (by decide)
          have hp4 : 10 ^ dn ≤ 10 ^ 4 := Nat.pow_le_pow_right (by decide) hd4
          have hq : n / 10 ^ dn ≤ n := Nat.div_le_self _ _
          have hr : n % 10 ^ dn < 10 ^ dn := Nat.mod_lt _ (by omega)
          have hPe := HPe.out
          have g1 : Int.tdiv (n : Int) P = ((n / 10 ^ dn : Nat) : Int) := by rw [hPe, Int.tdiv_eq_ediv_of_nonneg (by omega)]; rfl
          have g2 : Int.tmod (n : Int) P = ((n % 10 ^ dn : Nat) : Int) := by rw [hPe, Int.tmod_eq_emod_of_nonneg (by omega)]; rfl
          obtain ⟨q, hqe⟩ : ∃ q, q = n / 10 ^ dn := ⟨_, rfl⟩
          obtain ⟨rr, hre⟩ : ∃ rr, rr = n % 10 ^ dn := ⟨_, rfl⟩
          obtain ⟨u, hue⟩ : ∃ u, u = 10 ^ dn + rr := ⟨_, rfl⟩
          rw [← hqe] at g1
          rw [← hre] at g2
          rw [← hqe, ← hre, ← hue] at HQ
          obtain ⟨t, ht⟩ : ∃ t, t = (⟨(Lib.decDigits q).toArray⟩ : ByteArray) := ⟨_, rfl⟩
          obtain ⟨v, hv⟩ : ∃ v, v = (⟨(Lib.decDigits u).toArray⟩ : ByteArray) := ⟨_, rfl⟩
          rw [← ht, ← hv] at HQ
          have htz : t.size ≤ 13 := by rw [ht, lsize]; exact dec_len q 13 (by omega) (by omega)
          have hvz : v.size ≤ 13 := by rw [hv, lsize]; exact dec_len u 13 (by omega) (by omega)
          have hv1 : 1 ≤ v.size := by rw [hv, lsize]; exact dec_pos u
          have HTe := Aside0.mk ht
          have HVe := Aside0.mk hv
          have hq12 : q ≤ 2000000000000 := by omega
          have hu12 : u ≤ 2000000000000 := by omega
          have w1' : IntKind.i64.wrap (q : Int) = (q : Int) := IntWalk.i64_in _ (by omega)
          have w2' : IntKind.i64.wrap (P + (rr : Int)) = (u : Int) := by rw [IntWalk.i64_in _ (by omega)]; omega
          have kp : (P == 0) = false := beq_eq_false_iff_ne.mpr (by omega)
          have kp2 := eq_false (show ¬ P = 0 by omega)
          have j1 := eq_true (show 1 ≤ v.size from hv1)
          have j2 := eq_true (show (1 : Int) ≤ (v.size : Int) by omega)
          have e2 : (v.extract 1 v.size).size = v.size - 1 := by rw [ByteArray.size_extract]; omega
          clear h0 ht hv HRa hqe hre hue hPe hp1 hp4 hq hr hd4 hn12
          go_wp2_with fail
          go_quiet (first | (go_at_call 30; (with_reducible refine (digits_calls q hq12 t HTe.out _).mono ?_); rintro e w' ⟨rfl, ⟨nd, rfl⟩⟩; exact ⟨rfl, _, World.drewN_drewN _ _ _⟩) | (go_at_call 30; (with_reducible refine (digits_calls u hu12 v HVe.out _).mono ?_); rintro e w' ⟨rfl, ⟨nd, rfl⟩⟩; exact ⟨rfl, _, World.drewN_drewN _ _ _⟩))
          go_wp2
          go_ret2
          exact ⟨by first | rfl | (rw [← HQ]; rfl), by repeat (first | exact HB2.out | apply pw_below_drewN)⟩
    · rw [if_neg (fun h => t2 h.2)] at h
      obtain ⟨rfl, rfl⟩ := Prod.mk.inj h
      by_cases c1 : d < 0
      · have p1 : decide (d < 0) = true := decide_eq_true c1
        clear h t1 t2 c1
        go_enter Tryd.func16, Tryd.ntmps16
        go_wp2_with fail
        refine (corebankref03_Valid.calls a _ _ HV.out).mono ?_
        rintro e w1 ⟨rfl, hd1⟩
        have HB1 := Aside0.mk hd1.below
        clear hd1
        go_wp2
        go_ret2
        exact ⟨rfl, HB1.out⟩
      · have p1 : decide (d < 0) = false := decide_eq_false c1
        have p2 : decide (4 < d) = true := decide_eq_true (by
          rcases Int.lt_or_le 4 d with h | h
          · exact h
          · exact absurd (decide_eq_true (show 0 ≤ d ∧ d ≤ 4 by omega)) t2)
        clear h t1 t2 c1
        go_enter Tryd.func16, Tryd.ntmps16
        go_wp2_with fail
        refine (corebankref03_Valid.calls a _ _ HV.out).mono ?_
        rintro e w1 ⟨rfl, hd1⟩
        have HB1 := Aside0.mk hd1.below
        clear hd1
        go_wp2
        go_ret2
        exact ⟨rfl, HB1.out⟩
  · have HV := Aside0.mk (rvalid_eq a)
    rw [show validB a = false from by simpa using t1] at HV
    rw [if_neg (fun h => t1 h.1)] at h
    obtain ⟨rfl, rfl⟩ := Prod.mk.inj h
    clear h t1
    go_enter Tryd.func16, Tryd.ntmps16
    go_wp2_with fail
    refine (corebankref03_Valid.calls a _ _ HV.out).mono ?_
    rintro e w1 ⟨rfl, hd1⟩
    have HB1 := Aside0.mk hd1.below
    clear hd1
    go_wp2
    go_ret2
    exact ⟨rfl, HB1.out⟩

set_option maxHeartbeats 2000000 in
set_option maxRecDepth 100000 in
theorem moneyFormats_calls (a d : Int) (w : World) (ht : Tab w) :
    Calls Tryd.prog 5 #[.int .i64 a, .int .i64 d] w fun e w' => e = .returned (.bool true) ∧ Below w.heap.size w w' := by
  have HT := Aside0.mk ht
  clear ht
  obtain ⟨r, ev, he⟩ : ∃ r ev, fmtC a d = (r, ev) := ⟨_, _, rfl⟩
  have H1 := Aside0.mk he
  clear he
  go_enter Tryd.func5, Tryd.ntmps5
  go_wp2_with fail
  refine (format_calls a d _ HT.out r ev H1.out).mono ?_
  rintro e w1 ⟨rfl, hb1⟩
  have HB1 := Aside0.mk hb1
  clear hb1
  go_wp2_with fail
  refine (rformat_calls a d _ r ev H1.out).mono ?_
  rintro e w2 ⟨rfl, hb2⟩
  have HB2 := Aside0.mk (HB1.out.trans (hb2.mono HB1.out.size))
  clear hb2
  go_wp2_with fail
  refine (lives_calls _ (HT.out.below HB2.out)).mono ?_
  rintro e w6 ⟨rfl, hb6⟩
  have HB6 := Aside0.mk (HB2.out.trans (hb6.mono HB2.out.size))
  clear hb6
  go_wp2
  go_ret
  exact ⟨rfl, HB6.out⟩
end Go.Proofs.YtbeebjpbmbkodaaDoor.Q
