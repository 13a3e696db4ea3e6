/- What Parse accepts is the text that Format writes, and the other way round (plain lists). -/
import Derived.Test.YtbeebjpbmbkodaaDoorPPar
namespace Go.Proofs.YtbeebjpbmbkodaaDoor.Q
open Go.RowKit Go.Proofs.YtbeebjpbmbkodaaDoorW.PrintWords Go.Proofs.YtbeebjpbmbkodaaDoorW.PrintLast Go.Proofs.YtbeebjpbmbkodaaDoorW.PrintMore
set_option linter.unusedVariables false
set_option linter.unusedSimpArgs false

theorem valF_snoc (l : List UInt8) (c : UInt8) : ∀ acc : Nat, valF acc (l ++ [c]) = valF acc l * 10 + (c.toNat - 48) := by
  induction l with
  | nil => intro acc; rw [List.nil_append, valF_cons, valF_nil, valF_nil]
  | cons x r ih => intro acc; rw [List.cons_append, valF_cons, valF_cons, ih]
theorem valF_drop0 : ∀ (l : List UInt8), valF 0 (l.dropWhile (· == 48)) = valF 0 l
  | [] => rfl
  | c :: r => by
    by_cases h : c = 48
    · subst h
      rw [List.dropWhile_cons_of_pos (by rfl), valF_drop0 r, valF_cons]
      congr 1
    · rw [List.dropWhile_cons_of_neg (by simpa using h)]
theorem isD_iff (c : UInt8) : isD c = true ↔ 48 ≤ c.toNat ∧ c.toNat ≤ 57 := by unfold isD; exact decide_eq_true_iff
theorem valF_pos {c : UInt8} {r : List UInt8} (h : isD c = true) (h0 : c ≠ 48) : 1 ≤ valF 0 (c :: r) := by
  have h1 := valF_ge r (0 * 10 + (c.toNat - 48))
  have hc := (isD_iff c).1 h
  have h2 : c.toNat ≠ 48 := fun e => h0 (UInt8.toNat_inj.1 e)
  rw [valF_cons]
  omega
theorem snoc_of {α : Type} (l : List α) (h : l ≠ []) : ∃ r c, l = r ++ [c] := ⟨l.dropLast, l.getLast h, (List.dropLast_concat_getLast h).symm⟩
theorem ofNat_dig {x : Nat} (h : x < 10) : (UInt8.ofNat (48 + x)).toNat = 48 + x := by
  rw [UInt8.toNat_ofNat']; omega
theorem dig_back {c : UInt8} (h : isD c = true) : UInt8.ofNat (48 + (c.toNat - 48)) = c := by
  have hc := (isD_iff c).1 h
  apply UInt8.toNat_inj.1
  rw [ofNat_dig (by omega)]
  omega
theorem dig_val : ∀ (k : Nat) (R : List UInt8), R.length = k → R.all isD = true → ∀ acc, dig k (valF acc R) = R ∧ valF acc R / 10 ^ k = acc := by
  intro k
  induction k with
  | zero =>
    intro R h _ acc
    obtain rfl := List.eq_nil_of_length_eq_zero h
    rw [valF_nil]; exact ⟨rfl, by simp⟩
  | succ k ih =>
    intro R h ha acc
    obtain ⟨r, c, rfl⟩ := snoc_of R (by intro e; rw [e] at h; simp at h)
    rw [List.all_append, Bool.and_eq_true] at ha
    have hc : isD c = true := by simpa using ha.2
    have hcc := (isD_iff c).1 hc
    obtain ⟨h1, h2⟩ := ih r (by simpa using h) ha.1 acc
    rw [valF_snoc]
    have e1 : (valF acc r * 10 + (c.toNat - 48)) / 10 = valF acc r := by omega
    have e2 : (valF acc r * 10 + (c.toNat - 48)) % 10 = c.toNat - 48 := by omega
    refine ⟨?_, ?_⟩
    · simp only [dig]
      rw [e1, e2, h1, dig_back hc]
    · rw [Nat.pow_succ, Nat.mul_comm (10 ^ k) 10, ← Nat.div_div_eq_div_mul, e1, h2]
theorem head_snoc {r : List UInt8} {c : UInt8} (h : r ≠ []) : (r ++ [c]).head? = r.head? := by
  cases r with
  | nil => exact absurd rfl h
  | cons x r => rfl
theorem dec_val : ∀ (k : Nat) (W : List UInt8), W.length = k + 1 → W.all isD = true → (1 < W.length → W.head? ≠ some 48) → Lib.decDigits (valF 0 W) = W := by
  intro k
  induction k with
  | zero =>
    intro W h ha _
    match W, h with
    | [c], _ =>
      have hc : isD c = true := by simpa using ha
      have hcc := (isD_iff c).1 hc
      rw [valF_cons, valF_nil, show 0 * 10 + (c.toNat - 48) = c.toNat - 48 by omega, dec_small (by omega), dig_back hc]
  | succ k ih =>
    intro W h ha hh
    obtain ⟨r, c, rfl⟩ := snoc_of W (by intro e; rw [e] at h; simp at h)
    have hr : r.length = k + 1 := by simpa using h
    have hne : r ≠ [] := by intro e; rw [e] at hr; simp at hr
    rw [List.all_append, Bool.and_eq_true] at ha
    have hc : isD c = true := by simpa using ha.2
    have hcc := (isD_iff c).1 hc
    have hd := hh (by rw [h]; omega)
    rw [head_snoc hne] at hd
    have h1 := ih r hr ha.1 (fun _ => hd)
    have hp : 1 ≤ valF 0 r := by
      cases r with
      | nil => exact absurd rfl hne
      | cons x r =>
        have hx : isD x = true := by have := ha.1; rw [List.all_cons, Bool.and_eq_true] at this; exact this.1
        exact valF_pos hx (fun e => hd (by rw [e]; rfl))
    rw [valF_snoc, dec_big (by omega), show (valF 0 r * 10 + (c.toNat - 48)) / 10 = valF 0 r by omega, show (valF 0 r * 10 + (c.toNat - 48)) % 10 = c.toNat - 48 by omega, h1, dig_back hc]
theorem isD_ofNat {x : Nat} (h : x < 10) : isD (UInt8.ofNat (48 + x)) = true := by
  rw [isD_iff, ofNat_dig h]; omega
theorem dec_spec (n : Nat) : (Lib.decDigits n).all isD = true ∧ valF 0 (Lib.decDigits n) = n ∧ (1 ≤ n → (Lib.decDigits n).head? ≠ some 48) := by
  induction n using Nat.strongRecOn with
  | ind n ih =>
    by_cases h : n < 10
    · rw [dec_small h]
      refine ⟨by simp only [List.all_cons, List.all_nil, Bool.and_true]; exact isD_ofNat h, ?_, ?_⟩
      · rw [valF_cons, valF_nil, ofNat_dig h]; omega
      · intro h1 e
        have e2 : UInt8.ofNat (48 + n) = 48 := by simpa using e
        have e3 := congrArg UInt8.toNat e2
        rw [ofNat_dig h] at e3
        have e4 : (48 : UInt8).toNat = 48 := rfl
        omega
    · obtain ⟨h1, h2, h3⟩ := ih (n / 10) (by omega)
      have hp := dec_pos (n / 10)
      have hx : n % 10 < 10 := by omega
      rw [dec_big h]
      refine ⟨?_, ?_, ?_⟩
      · rw [List.all_append, h1]
        simp only [List.all_cons, List.all_nil, Bool.and_true, Bool.true_and]
        exact isD_ofNat hx
      · rw [valF_snoc, h2, ofNat_dig hx]; omega
      · intro _
        rw [head_snoc (by intro e; rw [e] at hp; simp at hp)]
        exact h3 (by omega)
theorem dig_all : ∀ (d n : Nat), (dig d n).all isD = true
  | 0, _ => rfl
  | d + 1, n => by
    simp only [dig]
    rw [List.all_append, dig_all d (n / 10)]
    simp only [List.all_cons, List.all_nil, Bool.and_true, Bool.true_and]
    exact isD_ofNat (by omega)
theorem valF_dig : ∀ (d n acc : Nat), valF acc (dig d n) = acc * 10 ^ d + n % 10 ^ d
  | 0, n, acc => by rw [show dig 0 n = [] from rfl, valF_nil]; omega
  | d + 1, n, acc => by
    simp only [dig]
    rw [valF_snoc, valF_dig d (n / 10) acc, ofNat_dig (by omega)]
    have e : n % 10 ^ (d + 1) = n / 10 % 10 ^ d * 10 + n % 10 := by
      rw [Nat.pow_succ, Nat.mul_comm (10 ^ d) 10, Nat.mod_mul, Nat.mul_comm]; omega
    rw [e, Nat.pow_succ, Nat.add_mul, Nat.mul_assoc]
    omega
theorem valF_app (l r : List UInt8) : ∀ acc : Nat, valF acc (l ++ r) = valF (valF acc l) r := by
  induction l with
  | nil => intro acc; rw [List.nil_append, valF_nil]
  | cons x l ih => intro acc; rw [List.cons_append, valF_cons, valF_cons, ih]
theorem padded_val (d n : Nat) : valF 0 (padded d n) = n := by
  rw [pad_eq, valF_app, (dec_spec _).2.1, valF_dig]
  exact Nat.div_add_mod' n (10 ^ d)
theorem padded_drop (d n : Nat) : (padded d n).dropWhile (· == 48) = if n = 0 then [] else Lib.decDigits n := by
  have key : ∀ (j : Nat) (l : List UInt8), (List.replicate j 48 ++ l).dropWhile (· == 48) = l.dropWhile (· == 48) := by
    intro j
    induction j with
    | zero => intro l; rfl
    | succ j ih => intro l; rw [List.replicate_succ, List.cons_append, List.dropWhile_cons_of_pos (by rfl), ih]
  unfold padded
  rw [key]
  by_cases h : n = 0
  · subst h
    rw [if_pos rfl, dec_small (by decide)]
    rfl
  · rw [if_neg h]
    obtain ⟨_, _, h3⟩ := dec_spec n
    have hp := dec_pos n
    have h4 := h3 (by omega)
    cases hd : Lib.decDigits n with
    | nil => rw [hd] at hp; simp at hp
    | cons c r =>
      rw [hd] at h4
      rw [List.dropWhile_cons_of_neg]
      simpa using h4
/-- The text of an amount without its sign. -/
def bodyT (d n : Nat) : List UInt8 := if d = 0 then Lib.decDigits n else Lib.decDigits (n / 10 ^ d) ++ 46 :: dig d n
theorem headB_dec (n : Nat) : headB (Lib.decDigits n) = false := by
  unfold headB
  by_cases h : n < 10
  · rw [dec_small h]; rfl
  · rw [Bool.and_eq_false_iff]
    exact .inr (decide_eq_false ((dec_spec n).2.2 (by omega)))
theorem dec_ne (n : Nat) : Lib.decDigits n ≠ [] := by
  have := dec_pos n
  intro e; rw [e] at this; simp at this
theorem parts_dec (n d m : Nat) : partsL (Lib.decDigits n) (dig d m) = some (Lib.decDigits n ++ dig d m) := by
  unfold partsL
  rw [if_neg (dec_ne n), if_neg (by rw [headB_dec]; decide), if_pos (dec_spec n).1, if_pos (dig_all d m)]
theorem split_body (d n : Nat) : splitC (bodyT d n) d = some (padded d n) := by
  unfold splitC bodyT
  by_cases h : d = 0
  · subst h
    rw [if_pos rfl, if_pos rfl]
    have := parts_dec n 0 0
    rw [show dig 0 0 = [] from rfl] at this
    rw [this, pad_eq]
    simp [dig]
  · rw [if_neg h, if_neg h]
    have hp := dec_pos (n / 10 ^ d)
    have hl : (Lib.decDigits (n / 10 ^ d) ++ 46 :: dig d n).length = (Lib.decDigits (n / 10 ^ d)).length + d + 1 := by simp [dig_len]; omega
    rw [hl, if_pos (by omega), show (Lib.decDigits (n / 10 ^ d)).length + d + 1 - (d + 1) = (Lib.decDigits (n / 10 ^ d)).length by omega, if_pos (by simp), show (Lib.decDigits (n / 10 ^ d)).length + d + 1 - d = (Lib.decDigits (n / 10 ^ d)).length + 1 by omega]
    rw [List.take_left' rfl, show (Lib.decDigits (n / 10 ^ d) ++ 46 :: dig d n).drop ((Lib.decDigits (n / 10 ^ d)).length + 1) = dig d n by
      rw [← List.drop_drop, List.drop_left' rfl]; rfl]
    rw [parts_dec, pad_eq]
theorem body_head (d n : Nat) : minusB (bodyT d n) = false := by
  have hp := dec_ne (if d = 0 then n else n / 10 ^ d)
  have ha := (dec_spec (if d = 0 then n else n / 10 ^ d)).1
  unfold bodyT
  by_cases h : d = 0
  · rw [if_pos h] at hp ha ⊢
    cases hd : Lib.decDigits n with
    | nil => rfl
    | cons c r =>
      rw [hd, List.all_cons, Bool.and_eq_true] at ha
      have hc := (isD_iff c).1 ha.1
      simp only [minusB]
      rw [beq_eq_false_iff_ne]
      intro e; subst e; exact absurd hc.1 (by decide)
  · rw [if_neg h] at hp ha ⊢
    cases hd : Lib.decDigits (n / 10 ^ d) with
    | nil => exact absurd hd hp
    | cons c r =>
      rw [hd, List.all_cons, Bool.and_eq_true] at ha
      have hc := (isD_iff c).1 ha.1
      simp only [minusB, List.cons_append]
      rw [beq_eq_false_iff_ne]
      intro e; subst e; exact absurd hc.1 (by decide)
/-- The text of an amount, sign ahead. -/
def textT (a : Int) (d : Nat) : List UInt8 := if a < 0 then 45 :: bodyT d a.natAbs else bodyT d a.natAbs
theorem text_minus (a : Int) (d : Nat) : minusB (textT a d) = decide (a < 0) := by
  unfold textT
  by_cases h : a < 0
  · rw [if_pos h, decide_eq_true h]; rfl
  · rw [if_neg h, decide_eq_false h]; exact body_head _ _
theorem text_body (a : Int) (d : Nat) : bodyL (textT a d) = bodyT d a.natAbs := by
  unfold bodyL
  rw [text_minus]
  unfold textT
  by_cases h : a < 0
  · rw [if_pos h, if_pos (decide_eq_true h)]; rfl
  · rw [if_neg h, if_neg (by simpa using h)]
/-- An amount is read again from its text. -/
theorem par_text (a : Int) (d : Int) (ha : validB a = true) (hd : placesB d = true) : parC (textT a d.toNat) d = (a, 0) := by
  have hv := of_decide_eq_true ha
  unfold parC
  rw [if_pos hd, text_minus, text_body, split_body]
  show parV _ ((padded _ _).dropWhile (· == 48)) = _
  rw [padded_drop]
  unfold parV
  by_cases h : a.natAbs = 0
  · have : a = 0 := by omega
    subst this
    rfl
  · rw [if_neg h, if_neg (dec_ne _), (dec_spec _).2.1, if_neg (by omega)]
    by_cases h2 : a < 0
    · rw [if_pos (decide_eq_true h2), show -(a.natAbs : Int) = a by omega]
    · rw [if_neg (by simpa using h2), show (a.natAbs : Int) = a by omega]
theorem padS_take (d n : Nat) : (padded d n).take ((padded d n).length - d) = Lib.decDigits (n / 10 ^ d) ∧ (padded d n).drop ((padded d n).length - d) = dig d n := by
  have hl : (padded d n).length - d = (Lib.decDigits (n / 10 ^ d)).length := by rw [pad_eq, List.length_append, dig_len]; omega
  rw [hl, pad_eq]
  exact ⟨List.take_left' rfl, List.drop_left' rfl⟩
theorem fmt_text (a : Int) (d : Nat) : (fmtR (sgn a) (padS d a.natAbs) d).data.toList = textT a d := by
  have hs : (padS d a.natAbs).data.toList = padded d a.natAbs := rfl
  have hz : (padS d a.natAbs).size = (padded d a.natAbs).length := by rw [Lib.size_eq, hs]
  have hx := padS_take d a.natAbs
  unfold fmtR textT bodyT
  by_cases h0 : d = 0
  · subst h0
    rw [if_pos rfl, app_list, hs, pad_eq, if_pos rfl]
    simp only [dig, List.append_nil, Nat.pow_zero, Nat.div_one]
    unfold sgn
    split <;> rfl
  · rw [if_neg h0, if_neg h0, app_list, app_list, app_list, Lib.extract_data, Lib.extract_data, hs, hz]
    have hl : d ≤ (padded d a.natAbs).length := by rw [pad_eq, List.length_append, dig_len]; omega
    rw [hx.2, List.drop_zero, Nat.sub_zero, hx.1, List.take_of_length_le (l := dig d a.natAbs) (by rw [dig_len]; omega)]
    unfold sgn
    split <;> simp
theorem bodyT_eq {T D : List UInt8} {d : Nat} (h : splitC T d = some D) : bodyT d (valF 0 D) = T := by
  have key : ∀ W R : List UInt8, partsL W R = some D → R.length = d → Lib.decDigits (valF 0 D / 10 ^ d) = W ∧ dig d (valF 0 D) = R := by
    intro W R hp hl
    obtain ⟨rfl, h1, h2, h3, h4⟩ := partsL_spec hp
    rw [valF_app]
    obtain ⟨e1, e2⟩ := dig_val d R hl h4 (valF 0 W)
    rw [e2]
    refine ⟨dec_val (W.length - 1) W ?_ h3 ?_, e1⟩
    · have : W.length ≠ 0 := fun e => h1 (List.eq_nil_of_length_eq_zero e)
      omega
    · intro hlt
      unfold headB at h2
      rw [decide_eq_true hlt, Bool.true_and] at h2
      exact of_decide_eq_false h2
  unfold splitC at h
  unfold bodyT
  by_cases h0 : d = 0
  · subst h0
    rw [if_pos rfl] at h ⊢
    have := (key T [] h rfl).1
    simpa using this
  · rw [if_neg h0] at h ⊢
    split at h
    · rename_i hl
      split at h
      · rename_i hq
        obtain ⟨e1, e2⟩ := key _ _ h (by rw [List.length_drop]; omega)
        rw [e1, e2]
        obtain ⟨hlt, he⟩ := List.getElem?_eq_some_iff.1 hq
        conv => rhs; rw [← List.take_append_drop (T.length - (d + 1)) T]
        rw [List.drop_eq_getElem_cons hlt, he, show T.length - (d + 1) + 1 = T.length - d by omega]
      · cases h
    · cases h
/-- A text that is accepted is the text of its amount. -/
theorem text_par {L : List UInt8} {d : Int} {n : Int} (h : parC L d = (n, 0)) : validB n = true ∧ placesB d = true ∧ textT n d.toNat = L := by
  unfold parC at h
  by_cases hd : placesB d = true
  · rw [if_pos hd] at h
    cases hs : splitC (bodyL L) d.toNat with
    | none => rw [hs] at h; exact absurd (Prod.mk.inj (show ((0 : Int), (2 : Int)) = _ from h)).2 (by decide)
    | some D =>
      rw [hs] at h
      have hb := bodyT_eq hs
      have hall := (splitC_spec hs).1
      have h' : parV (minusB L) (D.dropWhile (· == 48)) = (n, 0) := h
      unfold parV at h'
      rw [valF_drop0] at h'
      by_cases he : D.dropWhile (· == 48) = []
      · rw [if_pos he] at h'
        have hv : valF 0 D = 0 := by rw [← valF_drop0, he, valF_nil]
        cases hm : minusB L with
        | true => rw [hm, if_pos rfl] at h'; exact absurd (Prod.mk.inj h').2 (by decide)
        | false =>
          rw [hm, if_neg (by decide)] at h'
          obtain ⟨rfl, _⟩ := Prod.mk.inj h'
          refine ⟨by decide, hd, ?_⟩
          unfold bodyL at hb
          rw [hm, if_neg (by decide), hv] at hb
          exact hb
      · rw [if_neg he] at h'
        have hp : 1 ≤ valF 0 D := by
          rw [← valF_drop0]
          have hall2 := drop_all hall
          cases hx : D.dropWhile (· == 48) with
          | nil => exact absurd hx he
          | cons c r =>
            have hc : isD c = true := by rw [hx, List.all_cons, Bool.and_eq_true] at hall2; exact hall2.1
            refine valF_pos hc (fun e => ?_)
            have h3 := List.head_dropWhile_not (fun x : UInt8 => x == 48) he
            simp only [hx, List.head_cons, e] at h3
            exact absurd h3 (by decide)
        by_cases hb2 : 1000000000000 < valF 0 D
        · rw [if_pos hb2] at h'; exact absurd (Prod.mk.inj h').2 (by decide)
        · rw [if_neg hb2] at h'
          have h4 := (Prod.mk.inj h').1
          refine ⟨decide_eq_true ?_, hd, ?_⟩
          · cases hm : minusB L <;> rw [hm] at h4 <;> simp at h4 <;> omega
          · cases hm : minusB L with
            | true =>
              rw [hm, if_pos rfl] at h4
              unfold bodyL at hb
              rw [hm, if_pos rfl] at hb
              unfold textT
              rw [if_pos (by omega), show n.natAbs = valF 0 D by omega, hb]
              cases L with
              | nil => cases hm
              | cons c r => have : c = 45 := by simpa [minusB] using hm
                            subst this; rfl
            | false =>
              rw [hm, if_neg (by decide)] at h4
              unfold bodyL at hb
              rw [hm, if_neg (by decide)] at hb
              unfold textT
              rw [if_neg (by omega), show n.natAbs = valF 0 D by omega, hb]
  · rw [if_neg hd] at h
    exact absurd (Prod.mk.inj h).2 (by decide)
/-- A refusal bears no amount. -/
theorem par_zero {L : List UInt8} {d n ev : Int} (h : parC L d = (n, ev)) (he : ev ≠ 0) : n = 0 := by
  unfold parC at h
  split at h
  · cases hs : splitC (bodyL L) d.toNat with
    | none => rw [hs] at h; exact (Prod.mk.inj (show ((0 : Int), (2 : Int)) = _ from h)).1.symm
    | some D =>
      rw [hs] at h
      have h' : parV (minusB L) (D.dropWhile (· == 48)) = (n, ev) := h
      unfold parV at h'
      split at h'
      · split at h' <;> exact (Prod.mk.inj h').1.symm
      · split at h'
        · exact (Prod.mk.inj h').1.symm
        · exact absurd (Prod.mk.inj h').2.symm he
  · exact (Prod.mk.inj h).1.symm
theorem text_len (a : Int) (d : Nat) (ha : validB a = true) (hd : d ≤ 4) : (textT a d).length ≤ 100 := by
  have hv := of_decide_eq_true ha
  have h1 := dec_len a.natAbs 13 (by decide) (by omega)
  have h2 := dec_len (a.natAbs / 10 ^ d) 13 (by decide) (Nat.lt_of_le_of_lt (Nat.div_le_self _ _) (by omega))
  unfold textT bodyT
  split <;> split <;> simp [dig_len] <;> omega
end Go.Proofs.YtbeebjpbmbkodaaDoor.Q
