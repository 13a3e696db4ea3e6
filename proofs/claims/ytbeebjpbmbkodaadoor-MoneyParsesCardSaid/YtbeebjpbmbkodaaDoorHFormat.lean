/- money.Format at every amount and number of digits. -/
import Derived.Test.YtbeebjpbmbkodaaDoorHChk
namespace Go.Proofs.YtbeebjpbmbkodaaDoor.Q
open Go.RowKit Go.Proofs.YtbeebjpbmbkodaaDoorW.PrintWords Go.Proofs.YtbeebjpbmbkodaaDoorW.PrintLast Go.Proofs.YtbeebjpbmbkodaaDoorW.PrintMore
set_option linter.unusedVariables false
set_option linter.unusedSimpArgs false

def padded (d n : Nat) : List UInt8 := List.replicate (d + 1 - (Lib.decDigits n).length) 48 ++ Lib.decDigits n
def padS (d n : Nat) : ByteArray := ⟨(padded d n).toArray⟩
def sgn (a : Int) : ByteArray := if a < 0 then ⟨#[45]⟩ else ⟨#[]⟩
def fmtR (sg s : ByteArray) (d : Nat) : ByteArray := if d = 0 then sg ++ s else ((sg ++ s.extract 0 (s.size - d)) ++ (⟨#[46]⟩ : ByteArray)) ++ s.extract (s.size - d) s.size
def fmtC (a d : Int) : ByteArray × Int := if validB a = true ∧ placesB d = true then (fmtR (sgn a) (padS d.toNat a.natAbs) d.toNat, 0) else (⟨#[]⟩, 1)
theorem dec_pos (n : Nat) : 1 ≤ (Lib.decDigits n).length := by
  rw [Lib.decDigits]
  split <;> simp
theorem dec_len (n : Nat) : ∀ k : Nat, 1 ≤ k → n < 10 ^ k → (Lib.decDigits n).length ≤ k := by
  intro k
  induction k generalizing n with
  | zero => intro h _; omega
  | succ k ih =>
    intro _ hn
    rw [Lib.decDigits]
    split
    · simp
    · rename_i h
      have hk : 1 ≤ k := by
        rcases Nat.eq_zero_or_pos k with hk | hk
        · subst hk; omega
        · exact hk
      have h2 := ih (n / 10) hk (by rw [Nat.pow_succ] at hn; omega)
      simp only [List.length_append, List.length_cons, List.length_nil]
      omega
theorem bytes_ext {s t : ByteArray} (h : s.data.toList = t.data.toList) : s = t := by
  cases s with | mk a => cases t with | mk b => congr 1; exact Array.toList_inj.1 h
theorem itoa_nat (n : Nat) : Lib.itoa (n : Int) = Lib.decDigits n := by
  unfold Lib.itoa
  rw [if_neg (by omega), Int.toNat_natCast]

theorem app_list (s t : ByteArray) : (s ++ t).data.toList = s.data.toList ++ t.data.toList := by
  rw [ByteArray.data_append, Array.toList_append]
theorem rep_cons (j : Nat) (l : List UInt8) : (48 : UInt8) :: (List.replicate j 48 ++ l) = List.replicate (j + 1) 48 ++ l := by
  rw [List.replicate_succ, List.cons_append]

set_option maxHeartbeats 4000000 in
set_option maxRecDepth 100000 in
theorem format_calls (a d : Int) (w : World) (ht : Tab w) (r : ByteArray) (ev : Int) (h : fmtC a d = (r, ev)) :
    Calls Tryd.prog 15 #[.int .i64 a, .int .i64 d] w fun e w' => e = .returned (.tuple #[.string r, .int .i64 ev]) ∧ Below w.heap.size w w' := by
  have HT := Aside0.mk ht
  clear ht
  unfold fmtC at h
  by_cases t1 : validB a = true
  · have HV := Aside0.mk (valid_eq a)
    rw [t1] at HV
    by_cases t2 : placesB d = true
    · have HP := Aside0.mk (places_eq d)
      rw [t2] at HP
      rw [if_pos ⟨t1, t2⟩] at h
      obtain ⟨h, rfl⟩ := Prod.mk.inj h
      have hva := of_decide_eq_true t1
      have hpd := of_decide_eq_true t2
      obtain ⟨dn, rfl⟩ : ∃ dn : Nat, d = dn := ⟨d.toNat, by omega⟩
      rw [Int.toNat_natCast] at h
      have HH := Aside0.mk h
      obtain ⟨n, hn⟩ : ∃ n, n = a.natAbs := ⟨_, rfl⟩
      have hn12 : n ≤ 1000000000000 := by omega
      have HD := Aside0.mk (show 1 ≤ (Lib.decDigits n).length ∧ (Lib.decDigits n).length ≤ 13 from ⟨dec_pos n, dec_len n 13 (by omega) (by omega)⟩)
      obtain ⟨sg, hsg⟩ : ∃ sg, sg = sgn a := ⟨_, rfl⟩
      have HS := Aside0.mk hsg
      have HSz : Aside0 (sg.size ≤ 1) := ⟨by rw [hsg]; unfold sgn; split <;> decide⟩
      have HN := Aside0.mk hn
      clear h t1 t2 hsg hn
      go_enter Tryd.func15, Tryd.ntmps15
      go_wp2_with fail
      refine (money_Valid.calls a _ _ HV.out).mono ?_
      rintro e w1 ⟨rfl, hd1⟩
      have HB1 := Aside0.mk hd1.below
      clear hd1
      go_wp2_with fail
      refine (money_places.calls dn _ _ HP.out).mono ?_
      rintro e w2 ⟨rfl, hd2⟩
      have HB2 := Aside0.mk (HB1.out.trans (hd2.below.mono HB1.out.size))
      clear hd2 HB1
      by_cases hneg : a < 0
      · have dneg : decide (a < 0) = true := decide_eq_true hneg
        have hw0 : IntKind.i64.wrap (-a) = (n : Int) := by have hn := HN.out; rw [IntWalk.i64_in _ (by omega), hn]; omega
        have hsg' : sgn a = ⟨#[45]⟩ := if_pos hneg
        go_wp2_with fail
        refine (itoa_calls n ⟨(Lib.decDigits n).toArray⟩ _ (by omega) (by omega) (HT.out.below HB2.out) (by rw [itoa_nat])).mono ?_
        rintro e w3 ⟨rfl, hb3⟩
        have HB3 := Aside0.mk (HB2.out.trans (hb3.mono HB2.out.size))
        clear hb3 HB2
        obtain ⟨ds, hds⟩ : ∃ ds, ds = (⟨(Lib.decDigits n).toArray⟩ : ByteArray) := ⟨_, rfl⟩
        rw [← hds]
        have HDs : Aside0 (ds.data.toList = Lib.decDigits n ∧ ds.size = (Lib.decDigits n).length) := ⟨by rw [hds]; exact ⟨rfl, by rw [Lib.size_eq]⟩⟩
        clear hds
        go_wp2_with fail
        go_loopg [7] 6 (fun gg s7 wr => ∃ (s : ByteArray) (j : Nat), s7 = .string s ∧ Aside0 (s.data.toList = List.replicate j 48 ++ Lib.decDigits n ∧ s.size = j + (Lib.decDigits n).length ∧ (j = 0 ∨ j + (Lib.decDigits n).length ≤ dn + 1) ∧ 6 - j ≤ gg) ∧ Aside0 (Below w.heap.size w wr))
        case atStart => exact ⟨ds, 0, rfl, ⟨by rw [HDs.out.1]; rfl, by rw [HDs.out.2]; omega, .inl rfl, by omega⟩, HB3⟩
        case round =>
          clear HB3 HDs
          obtain ⟨s, j, rfl, HI, HB⟩ := hrel
          by_cases c : s.size ≤ dn
          · have c1 : decide ((s.size : Int) ≤ (dn : Int)) = true := decide_eq_true (by omega)
            have c2 : decide (s.size ≤ dn) = true := decide_eq_true c
            have z1 := eq_true (show 1 + s.size ≤ 9223372036854775807 by omega)
            have z2 := eq_true (show (⟨#[48]⟩ : ByteArray).size + s.size ≤ 9223372036854775807 by have : (⟨#[48]⟩ : ByteArray).size = 1 := rfl; omega)
            go_wp2
            go_roundg (6 - (j + 1))
            case measure => have := HI.out.2.2.2; have := HI.out.2.1; have := HD.out; omega
            case rel =>
              have h1 := HI.out.1
              have h2 := HI.out.2.1
              have h3 := HD.out
              refine ⟨(⟨#[48]⟩ : ByteArray) ++ s, j + 1, rfl, ⟨?_, ?_, .inr (by omega), Nat.le_refl _⟩, HB⟩
              · rw [app_list, h1]; exact rep_cons j _
              · rw [ByteArray.size_append, h2]; show 1 + _ = _; omega
          · have hs : s = padS dn n := bytes_ext (by
              have h1 := HI.out.1
              have h2 := HI.out.2.1
              have h3 := HD.out
              rw [h1]
              show _ = padded dn n
              unfold padded
              rw [show dn + 1 - (Lib.decDigits n).length = j by rcases HI.out.2.2.1 with h | h <;> omega])
            have c1 : decide ((s.size : Int) ≤ (dn : Int)) = false := decide_eq_false (by omega)
            have c2 : decide (s.size ≤ dn) = false := decide_eq_false c
            have hsz : s.size ≤ 20 := by
              have h2 := HI.out.2.1
              have h3 := HD.out
              rcases HI.out.2.2.1 with h | h <;> omega
            have HR := HH.out
            rw [hsg', ← HN.out, ← hs] at HR
            unfold fmtR at HR
            have HQ := Aside0.mk HR
            clear HR hs HI
            by_cases h0 : dn = 0
            · have HQ2 := (Prod.mk.inj HQ.out).1
              rw [if_pos h0] at HQ2
              have k0 : ((dn : Int) == 0) = true := beq_iff_eq.mpr (by omega)
              have z1 := eq_true (show (⟨#[45]⟩ : ByteArray).size + s.size ≤ 9223372036854775807 by have : (⟨#[45]⟩ : ByteArray).size ≤ 1 := (by decide); omega)
              have z2 := eq_true (show 1 + s.size ≤ 9223372036854775807 by omega)
              clear HQ h0 c
              go_wp2
              go_ret2
              exact ⟨by rw [← HQ2]; rfl, HB.out⟩
            · have HQ2 := (Prod.mk.inj HQ.out).1
              rw [if_neg h0] at HQ2
              have k0 : ((dn : Int) == 0) = false := beq_eq_false_iff_ne.mpr (by omega)
              obtain ⟨at_, hat⟩ : ∃ at_ : Nat, at_ = s.size - dn := ⟨_, rfl⟩
              rw [← hat] at HQ2
              have hw : IntKind.i64.wrap ((s.size : Int) - (dn : Int)) = (at_ : Int) := by rw [IntWalk.i64_in _ (by omega)]; omega
              have hle : at_ ≤ s.size := by omega
              have e1 : (s.extract 0 at_).size = at_ := by rw [ByteArray.size_extract]; omega
              have e2 : (s.extract at_ s.size).size = s.size - at_ := by rw [ByteArray.size_extract]; omega
              have j1 := eq_true (show at_ ≤ s.size from hle)
              have j2 := eq_true (show (at_ : Int) ≤ (s.size : Int) by omega)
              have j3 := eq_true (show (0 : Int) ≤ (at_ : Int) by omega)
              clear HQ h0 c hat
              go_wp2_with fail
              go_quiet (fail)
              go_wp2
              go_ret2
              exact ⟨by first | rfl | (rw [← HQ2]; rfl), by repeat (first | exact HB.out | apply pw_below_drewN)⟩
      · have dneg : decide (a < 0) = false := decide_eq_false hneg
        have hsg' : sgn a = ⟨#[]⟩ := if_neg hneg
        have hap := Aside0.mk (show a = (n : Int) by have hn := HN.out; rw [hn]; omega)
        go_wp2_with fail
        refine calls_of_args (args' := #[.int .i64 (n : Int)]) (by rw [hap.out]) ?_
        refine (itoa_calls n ⟨(Lib.decDigits n).toArray⟩ _ (by omega) (by omega) (HT.out.below HB2.out) (by rw [itoa_nat])).mono ?_
        rintro e w3 ⟨rfl, hb3⟩
        have HB3 := Aside0.mk (HB2.out.trans (hb3.mono HB2.out.size))
        clear hb3 HB2
        obtain ⟨ds, hds⟩ : ∃ ds, ds = (⟨(Lib.decDigits n).toArray⟩ : ByteArray) := ⟨_, rfl⟩
        rw [← hds]
        have HDs : Aside0 (ds.data.toList = Lib.decDigits n ∧ ds.size = (Lib.decDigits n).length) := ⟨by rw [hds]; exact ⟨rfl, by rw [Lib.size_eq]⟩⟩
        clear hds
        go_wp2_with fail
        go_loopg [7] 6 (fun gg s7 wr => ∃ (s : ByteArray) (j : Nat), s7 = .string s ∧ Aside0 (s.data.toList = List.replicate j 48 ++ Lib.decDigits n ∧ s.size = j + (Lib.decDigits n).length ∧ (j = 0 ∨ j + (Lib.decDigits n).length ≤ dn + 1) ∧ 6 - j ≤ gg) ∧ Aside0 (Below w.heap.size w wr))
        case atStart => exact ⟨ds, 0, rfl, ⟨by rw [HDs.out.1]; rfl, by rw [HDs.out.2]; omega, .inl rfl, by omega⟩, HB3⟩
        case round =>
          clear HB3 HDs
          obtain ⟨s, j, rfl, HI, HB⟩ := hrel
          by_cases c : s.size ≤ dn
          · have c1 : decide ((s.size : Int) ≤ (dn : Int)) = true := decide_eq_true (by omega)
            have c2 : decide (s.size ≤ dn) = true := decide_eq_true c
            have z1 := eq_true (show 1 + s.size ≤ 9223372036854775807 by omega)
            have z2 := eq_true (show (⟨#[48]⟩ : ByteArray).size + s.size ≤ 9223372036854775807 by have : (⟨#[48]⟩ : ByteArray).size = 1 := rfl; omega)
            go_wp2
            go_roundg (6 - (j + 1))
            case measure => have := HI.out.2.2.2; have := HI.out.2.1; have := HD.out; omega
            case rel =>
              have h1 := HI.out.1
              have h2 := HI.out.2.1
              have h3 := HD.out
              refine ⟨(⟨#[48]⟩ : ByteArray) ++ s, j + 1, rfl, ⟨?_, ?_, .inr (by omega), Nat.le_refl _⟩, HB⟩
              · rw [app_list, h1]; exact rep_cons j _
              · rw [ByteArray.size_append, h2]; show 1 + _ = _; omega
          · have hs : s = padS dn n := bytes_ext (by
              have h1 := HI.out.1
              have h2 := HI.out.2.1
              have h3 := HD.out
              rw [h1]
              show _ = padded dn n
              unfold padded
              rw [show dn + 1 - (Lib.decDigits n).length = j by rcases HI.out.2.2.1 with h | h <;> omega])
            have c1 : decide ((s.size : Int) ≤ (dn : Int)) = false := decide_eq_false (by omega)
            have c2 : decide (s.size ≤ dn) = false := decide_eq_false c
            have hsz : s.size ≤ 20 := by
              have h2 := HI.out.2.1
              have h3 := HD.out
              rcases HI.out.2.2.1 with h | h <;> omega
            have HR := HH.out
            rw [hsg', ← HN.out, ← hs] at HR
            unfold fmtR at HR
            have HQ := Aside0.mk HR
            clear HR hs HI
            by_cases h0 : dn = 0
            · have HQ2 := (Prod.mk.inj HQ.out).1
              rw [if_pos h0] at HQ2
              have k0 : ((dn : Int) == 0) = true := beq_iff_eq.mpr (by omega)
              have z1 := eq_true (show (⟨#[]⟩ : ByteArray).size + s.size ≤ 9223372036854775807 by have : (⟨#[]⟩ : ByteArray).size ≤ 1 := (by decide); omega)
              have z2 := eq_true (show 1 + s.size ≤ 9223372036854775807 by omega)
              clear HQ h0 c
              go_wp2
              go_ret2
              exact ⟨by rw [← HQ2]; rfl, HB.out⟩
            · have HQ2 := (Prod.mk.inj HQ.out).1
              rw [if_neg h0] at HQ2
              have k0 : ((dn : Int) == 0) = false := beq_eq_false_iff_ne.mpr (by omega)
              obtain ⟨at_, hat⟩ : ∃ at_ : Nat, at_ = s.size - dn := ⟨_, rfl⟩
              rw [← hat] at HQ2
              have hw : IntKind.i64.wrap ((s.size : Int) - (dn : Int)) = (at_ : Int) := by rw [IntWalk.i64_in _ (by omega)]; omega
              have hle : at_ ≤ s.size := by omega
              have e1 : (s.extract 0 at_).size = at_ := by rw [ByteArray.size_extract]; omega
              have e2 : (s.extract at_ s.size).size = s.size - at_ := by rw [ByteArray.size_extract]; omega
              have j1 := eq_true (show at_ ≤ s.size from hle)
              have j2 := eq_true (show (at_ : Int) ≤ (s.size : Int) by omega)
              have j3 := eq_true (show (0 : Int) ≤ (at_ : Int) by omega)
              clear HQ h0 c hat
              go_wp2_with fail
              go_quiet (fail)
              go_wp2
              go_ret2
              exact ⟨by first | rfl | (rw [← HQ2]; rfl), by repeat (first | exact HB.out | apply pw_below_drewN)⟩
    · have HP := Aside0.mk (places_eq d)
      rw [show placesB d = false from by simpa using t2] at HP
      rw [if_neg (fun h => t2 h.2)] at h
      obtain ⟨rfl, rfl⟩ := Prod.mk.inj h
      clear h t1 t2
      go_enter Tryd.func15, Tryd.ntmps15
      go_wp2_with fail
      refine (money_Valid.calls a _ _ HV.out).mono ?_
      rintro e w1 ⟨rfl, hd1⟩
      have HB1 := Aside0.mk hd1.below
      clear hd1
      go_wp2_with fail
      refine (money_places.calls d _ _ HP.out).mono ?_
      rintro e w2 ⟨rfl, hd2⟩
      have HB2 := Aside0.mk (HB1.out.trans (hd2.below.mono HB1.out.size))
      clear hd2 HB1
      go_wp2
      go_ret2
      exact ⟨rfl, HB2.out⟩
  · have HV := Aside0.mk (valid_eq a)
    rw [show validB a = false from by simpa using t1] at HV
    rw [if_neg (fun h => t1 h.1)] at h
    obtain ⟨rfl, rfl⟩ := Prod.mk.inj h
    clear h t1
    go_enter Tryd.func15, Tryd.ntmps15
    go_wp2_with fail
    refine (money_Valid.calls a _ _ HV.out).mono ?_
    rintro e w1 ⟨rfl, hd1⟩
    have HB1 := Aside0.mk hd1.below
    clear hd1
    go_wp2
    go_ret2
    exact ⟨rfl, HB1.out⟩
end Go.Proofs.YtbeebjpbmbkodaaDoor.Q
