/- money.split at every text: its closed form. -/
import Derived.Test.YtbeebjpbmbkodaaDoorHFormats
namespace Go.Proofs.YtbeebjpbmbkodaaDoor.Q
open Go.RowKit Go.Proofs.YtbeebjpbmbkodaaDoorW.PrintWords Go.Proofs.YtbeebjpbmbkodaaDoorW.PrintLast Go.Proofs.YtbeebjpbmbkodaaDoorW.PrintMore
set_option linter.unusedVariables false
set_option linter.unusedSimpArgs false

def isD (b : UInt8) : Bool := decide (48 ≤ b.toNat ∧ b.toNat ≤ 57)
def minusB : List UInt8 → Bool
  | [] => false
  | c :: _ => c == 45
def bodyL (L : List UInt8) : List UInt8 := if minusB L = true then L.drop 1 else L
/-- The digits before the point: a zero ahead only alone. -/
def headB (W : List UInt8) : Bool := decide (1 < W.length) && decide (W.head? = some 48)
def partsL (W R : List UInt8) : Option (List UInt8) := if W = [] then none else if headB W = true then none else if W.all isD = true then (if R.all isD = true then some (W ++ R) else none) else none
def splitC (T : List UInt8) (d : Nat) : Option (List UInt8) :=
  if d = 0 then partsL T []
  else if d + 2 ≤ T.length then (if T[T.length - (d + 1)]? = some 46 then partsL (T.take (T.length - (d + 1))) (T.drop (T.length - d)) else none) else none
def splitR (o : Option (List UInt8)) : ByteArray × Bool := match o with
  | none => (⟨#[]⟩, false)
  | some D => (⟨D.toArray⟩, true)
theorem trim_minus (L : List UInt8) : Lib.trimPrefix L [45] = bodyL L := by
  unfold Lib.trimPrefix Lib.hasPrefix bodyL
  cases L with
  | nil => rfl
  | cons c r => simp only [List.isPrefixOf, minusB, Bool.and_true, List.length_cons, List.length_nil]; rw [show ((45 : UInt8) == c) = (c == 45) from Bool.beq_comm]; rfl
theorem trim_point (c : UInt8) (r : List UInt8) (h : c = 46) : Lib.trimPrefix (c :: r) [46] = r := by
  subst h
  rfl
theorem plainP_iff (s : ByteArray) : s.data.toList.all isD = true ↔ plainP s := by
  constructor
  · intro h i hi
    refine ⟨hi, ?_⟩
    have hi' : i < s.data.toList.length := by rw [← Lib.size_eq]; exact hi
    have := List.all_eq_true.1 h s.data.toList[i] (List.getElem_mem hi')
    exact of_decide_eq_true this
  · intro h
    refine List.all_eq_true.2 fun x hx => ?_
    obtain ⟨i, hi, rfl⟩ := List.getElem_of_mem hx
    have hi' : i < s.size := by rw [Lib.size_eq]; exact hi
    obtain ⟨h1, h2⟩ := h i hi'
    exact decide_eq_true h2
theorem bt_some (s : ByteArray) (i : Nat) (h : i < s.size) (c : UInt8) : bt s (i : Int) = (c.toNat : Int) ↔ s.data.toList[i]? = some c := by
  have hi : i < s.data.toList.length := by rw [← Lib.size_eq]; exact h
  have e : s.data.toList[i] = s[i]'h := rfl
  rw [List.getElem?_eq_getElem hi, e]
  unfold bt
  rw [dif_pos (show ((i : Int)).toNat < s.size from h)]
  show (((s[i]'h).toNat : Int) = (c.toNat : Int)) ↔ _
  constructor
  · intro h2
    have h3 : (s[i]'h).toNat = c.toNat := by omega
    rw [UInt8.toNat_inj.1 h3]
  · intro h2
    rw [Option.some.inj h2]

theorem trim_drop (T : List UInt8) (p : Nat) (h : T[p]? = some 46) : Lib.trimPrefix (T.drop p) [46] = T.drop (p + 1) := by
  obtain ⟨hp, he⟩ := List.getElem?_eq_some_iff.1 h
  rw [List.drop_eq_getElem_cons hp, trim_point _ _ he]
theorem app_bytes (s t : ByteArray) : s ++ t = ⟨(s.data.toList ++ t.data.toList).toArray⟩ := bytes_ext (by rw [app_list])
theorem blist (s : ByteArray) : s.toList = s.data.toList := by
  exact Lib.toList_data s
set_option maxHeartbeats 4000000 in
set_option maxRecDepth 100000 in
theorem split_calls (s : ByteArray) (dn : Nat) (hd4 : dn ≤ 4) (hs : s.size ≤ 100) (w : World) (r : ByteArray) (ok : Bool) (h : splitR (splitC (bodyL s.data.toList) dn) = (r, ok)) :
    Calls Tryd.prog 31 #[.string s, .int .i64 (dn : Int)] w fun e w' => e = .returned (.tuple #[.string r, .bool ok]) ∧ Below w.heap.size w w' := by
  obtain ⟨t, ht⟩ : ∃ t, (⟨(bodyL s.data.toList).toArray⟩ : ByteArray) = t := ⟨_, rfl⟩
  have hT : bodyL s.data.toList = t.data.toList := by rw [← ht]
  rw [hT] at h
  have htz : t.size ≤ 100 := by rw [Lib.size_eq, ← hT]; unfold bodyL; rw [Lib.size_eq] at hs; split <;> (try rw [List.length_drop]) <;> omega
  have HT : Aside0 ((⟨(Lib.trimPrefix s.data.toList [45]).toArray⟩ : ByteArray) = t) := ⟨by rw [trim_minus]; exact ht⟩
  clear hT ht
  by_cases h0 : dn = 0
  · subst h0
    rw [splitC, if_pos rfl] at h
    have p1 : decide ((0 : Int) < ((0 : Nat) : Int)) = false := by decide
    obtain ⟨R, hR⟩ : ∃ R : ByteArray, (⟨#[]⟩ : ByteArray) = R := ⟨_, rfl⟩
    have HP : Aside0 (splitR (partsL t.data.toList R.data.toList) = (r, ok)) := ⟨by rw [← hR]; exact h⟩
    have HX : Aside0 ((⟨(Lib.trimPrefix ByteArray.empty.data.toList [46]).toArray⟩ : ByteArray) = R) := ⟨by rw [← hR]; rfl⟩
    have HZ : Aside0 (t.size ≤ 100 ∧ R.size = 0) := ⟨⟨htz, by rw [← hR]; rfl⟩⟩
    have e6 : ((R.size : Int) != 0) = false := by rw [HZ.out.2]; rfl
    clear h hR
    go_enter Tryd.func31, Tryd.ntmps31
    go_wp2_with fail
    refine (tp_calls _ _ t _ HT.out).mono ?_
    rintro e w1 ⟨rfl, rfl⟩
    go_wp2_with fail
    go_region_law (refine goes_ Tryd.func36 (by kernel_rfl) rfl #[.string ByteArray.empty, .string ⟨#[46]⟩] (by rfl) rfl rfl (by (try simp only [List.map_toArray, List.map_cons, List.map_nil]); first | done | rfl | kernel_rfl) ?_; refine (tp_calls _ _ R _ HX.out).mono ?_; rintro e w2 ⟨rfl, rfl⟩; refine ⟨_, rfl, ?_⟩)
    have HB : Aside0 (Below w1.heap.size w1 w1.drew) := ⟨below_drew (Below.refl w1.heap.size w1)⟩
    by_cases e0 : t.data.toList = []
    · have hE4 : t.toList.isEmpty = true := by rw [blist, e0]; rfl
      have hE5 : t.size = 0 := by rw [Lib.size_eq, e0]; rfl
      have HQ := HP.out
      rw [partsL, if_pos e0] at HQ
      obtain ⟨rfl, rfl⟩ := Prod.mk.inj HQ
      clear HQ e0 HP
      go_wp2
      go_ret2
      exact ⟨by first | rfl | (rw [← HQ]; rfl), HB.out⟩
    · have hE4 : t.toList.isEmpty = false := by rw [blist]; cases hW : t.data.toList with | nil => exact absurd hW e0 | cons c r => rfl
      have HP1 := HP.out
      rw [partsL, if_neg e0] at HP1
      have s1 : 1 ≤ t.size := by rw [Lib.size_eq]; cases hW : t.data.toList with | nil => exact absurd hW e0 | cons c r => simp
      clear HP e0
      by_cases e1 : 1 < t.size
      · have b1 : decide (1 < (t.size : Int)) = true := decide_eq_true (by omega)
        have b2 : decide (1 < t.size) = true := decide_eq_true e1
        have q1 : (0 < t.size) = True := eq_true (by omega)
        have q2 : (0 < (t.size : Int)) = True := eq_true (by omega)
        have b3 : decide (0 < (t.size : Int)) = true := decide_eq_true (by omega)
        have hx : ∀ h : 0 < t.size, ((t[0]'h).toNat : Int) = bt t 0 := bt_at t 0
        by_cases e2 : t.data.toList[0]? = some 48
        · have hv : bt t 0 = 48 := (bt_some t 0 (by omega) 48).2 e2
          have hh : headB t.data.toList = true := by unfold headB; rw [Bool.and_eq_true]; exact ⟨decide_eq_true (by rw [← Lib.size_eq]; exact e1), decide_eq_true (by rw [List.head?_eq_getElem?]; exact e2)⟩
          have HQ := HP1
          rw [if_pos hh] at HQ
          obtain ⟨rfl, rfl⟩ := Prod.mk.inj HQ
          simp only [hv] at hx
          clear HQ HP1 hh e1 e2 hv s1
          go_wp2
          go_ret2
          exact ⟨by first | rfl | (rw [← HQ]; rfl), HB.out⟩
        · have hh : headB t.data.toList = false := by unfold headB; rw [Bool.and_eq_false_iff]; exact .inr (decide_eq_false (by rw [List.head?_eq_getElem?]; exact e2))
          have hv : (bt t 0 == 48) = false := beq_eq_false_iff_ne.mpr (fun h => e2 ((bt_some t 0 (by omega) 48).1 h))
          have HP2 := HP1
          rw [if_neg (by rw [hh]; decide)] at HP2
          clear hh e1 e2 HP1 s1
          by_cases e3 : t.data.toList.all isD = true
          · have HPa : Aside0 (plainP t) := ⟨(plainP_iff t).1 e3⟩
            rw [if_pos e3] at HP2
            clear e3
            by_cases e4 : R.data.toList.all isD = true
            · have HPb : Aside0 (plainP R) := ⟨(plainP_iff R).1 e4⟩
              rw [if_pos e4] at HP2
              have HQ := Prod.mk.inj HP2
              obtain ⟨HQ, rfl⟩ := HQ
              clear e4 HP2
              have z1 := eq_false (show ¬ 9223372036854775807 < t.size + R.size by have := HZ.out; omega)
              go_wp2_with fail
              refine (money_plain_calls t _ true ⟨fun _ => HPa.out, fun _ => rfl⟩).mono ?_
              rintro e w3 ⟨rfl, hb⟩
              have HBn := Aside0.mk (HB.out.trans (hb.mono HB.out.size))
              clear HB hb
              have HB := HBn
              clear HBn
              go_wp2_with fail
              refine (money_plain_calls R _ true ⟨fun _ => HPb.out, fun _ => rfl⟩).mono ?_
              rintro e w4 ⟨rfl, hb⟩
              have HBn := Aside0.mk (HB.out.trans (hb.mono HB.out.size))
              clear HB hb
              have HB := HBn
              clear HBn
              go_wp2
              go_ret2
              exact ⟨by rw [← HQ, app_bytes]; rfl, HB.out⟩
            · have HPb : Aside0 (¬ plainP R) := ⟨fun h => absurd ((plainP_iff R).2 h) e4⟩
              rw [if_neg e4] at HP2
              obtain ⟨rfl, rfl⟩ := Prod.mk.inj HP2
              clear e4 HP2
              go_wp2_with fail
              refine (money_plain_calls t _ true ⟨fun _ => HPa.out, fun _ => rfl⟩).mono ?_
              rintro e w3 ⟨rfl, hb⟩
              have HBn := Aside0.mk (HB.out.trans (hb.mono HB.out.size))
              clear HB hb
              have HB := HBn
              clear HBn
              go_wp2_with fail
              refine (money_plain_calls R _ false ⟨fun h => absurd h (by decide), fun h => absurd h HPb.out⟩).mono ?_
              rintro e w4 ⟨rfl, hb⟩
              have HBn := Aside0.mk (HB.out.trans (hb.mono HB.out.size))
              clear HB hb
              have HB := HBn
              clear HBn
              go_wp2
              go_ret2
              exact ⟨by first | rfl | (rw [← HQ]; rfl), HB.out⟩
          · have HPa : Aside0 (¬ plainP t) := ⟨fun h => absurd ((plainP_iff t).2 h) e3⟩
            rw [if_neg e3] at HP2
            obtain ⟨rfl, rfl⟩ := Prod.mk.inj HP2
            clear e3 HP2
            go_wp2_with fail
            refine (money_plain_calls t _ false ⟨fun h => absurd h (by decide), fun h => absurd h HPa.out⟩).mono ?_
            rintro e w3 ⟨rfl, hb⟩
            have HBn := Aside0.mk (HB.out.trans (hb.mono HB.out.size))
            clear HB hb
            have HB := HBn
            clear HBn
            go_wp2
            go_ret2
            exact ⟨by first | rfl | (rw [← HQ]; rfl), HB.out⟩
      · have b1 : decide (1 < (t.size : Int)) = false := decide_eq_false (by omega)
        have b2 : decide (1 < t.size) = false := decide_eq_false e1
        have hh : headB t.data.toList = false := by unfold headB; rw [Bool.and_eq_false_iff]; exact .inl (decide_eq_false (by rw [← Lib.size_eq]; exact e1))
        have HP2 := HP1
        rw [if_neg (by rw [hh]; decide)] at HP2
        clear hh e1 HP1 s1
        by_cases e3 : t.data.toList.all isD = true
        · have HPa : Aside0 (plainP t) := ⟨(plainP_iff t).1 e3⟩
          rw [if_pos e3] at HP2
          clear e3
          by_cases e4 : R.data.toList.all isD = true
          · have HPb : Aside0 (plainP R) := ⟨(plainP_iff R).1 e4⟩
            rw [if_pos e4] at HP2
            have HQ := Prod.mk.inj HP2
            obtain ⟨HQ, rfl⟩ := HQ
            clear e4 HP2
            have z1 := eq_false (show ¬ 9223372036854775807 < t.size + R.size by have := HZ.out; omega)
            go_wp2_with fail
            refine (money_plain_calls t _ true ⟨fun _ => HPa.out, fun _ => rfl⟩).mono ?_
            rintro e w3 ⟨rfl, hb⟩
            have HBn := Aside0.mk (HB.out.trans (hb.mono HB.out.size))
            clear HB hb
            have HB := HBn
            clear HBn
            go_wp2_with fail
            refine (money_plain_calls R _ true ⟨fun _ => HPb.out, fun _ => rfl⟩).mono ?_
            rintro e w4 ⟨rfl, hb⟩
            have HBn := Aside0.mk (HB.out.trans (hb.mono HB.out.size))
            clear HB hb
            have HB := HBn
            clear HBn
            go_wp2
            go_ret2
            exact ⟨by rw [← HQ, app_bytes]; rfl, HB.out⟩
          · have HPb : Aside0 (¬ plainP R) := ⟨fun h => absurd ((plainP_iff R).2 h) e4⟩
            rw [if_neg e4] at HP2
            obtain ⟨rfl, rfl⟩ := Prod.mk.inj HP2
            clear e4 HP2
            go_wp2_with fail
            refine (money_plain_calls t _ true ⟨fun _ => HPa.out, fun _ => rfl⟩).mono ?_
            rintro e w3 ⟨rfl, hb⟩
            have HBn := Aside0.mk (HB.out.trans (hb.mono HB.out.size))
            clear HB hb
            have HB := HBn
            clear HBn
            go_wp2_with fail
            refine (money_plain_calls R _ false ⟨fun h => absurd h (by decide), fun h => absurd h HPb.out⟩).mono ?_
            rintro e w4 ⟨rfl, hb⟩
            have HBn := Aside0.mk (HB.out.trans (hb.mono HB.out.size))
            clear HB hb
            have HB := HBn
            clear HBn
            go_wp2
            go_ret2
            exact ⟨by first | rfl | (rw [← HQ]; rfl), HB.out⟩
        · have HPa : Aside0 (¬ plainP t) := ⟨fun h => absurd ((plainP_iff t).2 h) e3⟩
          rw [if_neg e3] at HP2
          obtain ⟨rfl, rfl⟩ := Prod.mk.inj HP2
          clear e3 HP2
          go_wp2_with fail
          refine (money_plain_calls t _ false ⟨fun h => absurd h (by decide), fun h => absurd h HPa.out⟩).mono ?_
          rintro e w3 ⟨rfl, hb⟩
          have HBn := Aside0.mk (HB.out.trans (hb.mono HB.out.size))
          clear HB hb
          have HB := HBn
          clear HBn
          go_wp2
          go_ret2
          exact ⟨by first | rfl | (rw [← HQ]; rfl), HB.out⟩
  · have p1 : decide ((0 : Int) < (dn : Int)) = true := decide_eq_true (by omega)
    have p2 : decide (0 < dn) = true := decide_eq_true (by omega)
    rw [splitC, if_neg h0] at h
    obtain ⟨e, he⟩ : ∃ e : Int, e = (dn : Int) + 1 := ⟨_, rfl⟩
    have v1 : IntKind.i64.wrap ((dn : Int) + 1) = e := by rw [IntWalk.i64_in _ (by omega), he]
    by_cases h2 : dn + 2 ≤ t.data.toList.length
    · obtain ⟨p, hp⟩ : ∃ p : Nat, p = t.size - (dn + 1) := ⟨_, rfl⟩
      have h2' : dn + 2 ≤ t.size := by rw [Lib.size_eq]; exact h2
      have v2 : IntKind.i64.wrap ((t.size : Int) - e) = (p : Int) := by rw [IntWalk.i64_in _ (by omega)]; omega
      have d1 : decide ((p : Int) < 1) = false := decide_eq_false (by omega)
      have d2 : decide (p < 1) = false := decide_eq_false (by omega)
      have d3 : decide (p = 0) = false := decide_eq_false (by omega)
      have q1 : (p < t.size) = True := eq_true (by omega)
      have q2 : ((p : Int) < (t.size : Int)) = True := eq_true (by omega)
      have q3 : (p ≤ t.size) = True := eq_true (by omega)
      have q4 : ((p : Int) ≤ (t.size : Int)) = True := eq_true (by omega)
      have hx : ∀ h : p < t.size, ((t[p]'h).toNat : Int) = bt t (p : Int) := fun h => bt_at t (p : Int) h
      rw [if_pos h2, show t.data.toList.length - (dn + 1) = p by rw [← Lib.size_eq, ← hp], show t.data.toList.length - dn = p + 1 by rw [← Lib.size_eq]; omega] at h
      by_cases e5 : t.data.toList[p]? = some 46
      · have hv : bt t (p : Int) = 46 := (bt_some t p (by omega) 46).2 e5
        simp only [hv] at hx
        rw [if_pos e5] at h
        obtain ⟨W, hE1⟩ : ∃ W, t.extract 0 p = W := ⟨_, rfl⟩
        obtain ⟨X, hE2⟩ : ∃ X, t.extract p t.size = X := ⟨_, rfl⟩
        obtain ⟨R, hR⟩ : ∃ R : ByteArray, (⟨(t.data.toList.drop (p + 1)).toArray⟩ : ByteArray) = R := ⟨_, rfl⟩
        have hWl : W.data.toList = t.data.toList.take p := by rw [← hE1, ← Lib.toList_data, Lib.extract_toList]; rfl
        have hRl : R.data.toList = t.data.toList.drop (p + 1) := by rw [← hR]
        have HP : Aside0 (splitR (partsL W.data.toList R.data.toList) = (r, ok)) := ⟨by rw [hWl, hRl]; exact h⟩
        have HX : Aside0 ((⟨(Lib.trimPrefix X.data.toList [46]).toArray⟩ : ByteArray) = R) := ⟨by rw [← hE2, ← hR, ← Lib.toList_data, Lib.extract_toList, Lib.size_eq, ← List.length_drop, List.take_length]; exact congrArg (fun l : List UInt8 => (⟨l.toArray⟩ : ByteArray)) (trim_drop t.data.toList p e5)⟩
        have hRz : R.size = dn := by rw [Lib.size_eq, hRl, List.length_drop, ← Lib.size_eq]; omega
        have hWz : W.size ≤ 100 := by rw [Lib.size_eq, hWl, List.length_take, ← Lib.size_eq]; omega
        have HZ : Aside0 (W.size ≤ 100 ∧ R.size ≤ 4) := ⟨⟨hWz, by omega⟩⟩
        have e6 : ((R.size : Int) != (dn : Int)) = false := bne_eq_false_iff_eq.mpr (by omega)
        clear h hR h0 h2 h2' hp e5 hv hWl hRl hRz hWz he
        go_enter Tryd.func31, Tryd.ntmps31
        go_wp2_with fail
        refine (tp_calls _ _ t _ HT.out).mono ?_
        rintro e w1 ⟨rfl, rfl⟩
        go_wp2_with fail
        go_region_law (refine goes_ Tryd.func36 (by kernel_rfl) rfl #[.string X, .string ⟨#[46]⟩] (by rfl) rfl rfl (by (try simp only [List.map_toArray, List.map_cons, List.map_nil]); first | done | rfl | kernel_rfl) ?_; refine (tp_calls _ _ R _ HX.out).mono ?_; rintro e w2 ⟨rfl, rfl⟩; refine ⟨_, rfl, ?_⟩)
        have HB : Aside0 (Below w1.heap.size w1 w1.drew) := ⟨below_drew (Below.refl w1.heap.size w1)⟩
        by_cases e0 : W.data.toList = []
        · have hE4 : W.toList.isEmpty = true := by rw [blist, e0]; rfl
          have hE5 : W.size = 0 := by rw [Lib.size_eq, e0]; rfl
          have HQ := HP.out
          rw [partsL, if_pos e0] at HQ
          obtain ⟨rfl, rfl⟩ := Prod.mk.inj HQ
          clear HQ e0 HP
          go_wp2
          go_ret2
          exact ⟨by first | rfl | (rw [← HQ]; rfl), HB.out⟩
        · have hE4 : W.toList.isEmpty = false := by rw [blist]; cases hW : W.data.toList with | nil => exact absurd hW e0 | cons c r => rfl
          have HP1 := HP.out
          rw [partsL, if_neg e0] at HP1
          have s1 : 1 ≤ W.size := by rw [Lib.size_eq]; cases hW : W.data.toList with | nil => exact absurd hW e0 | cons c r => simp
          clear HP e0
          by_cases e1 : 1 < W.size
          · have b1 : decide (1 < (W.size : Int)) = true := decide_eq_true (by omega)
            have b2 : decide (1 < W.size) = true := decide_eq_true e1
            have q1 : (0 < W.size) = True := eq_true (by omega)
            have q2 : (0 < (W.size : Int)) = True := eq_true (by omega)
            have b3 : decide (0 < (W.size : Int)) = true := decide_eq_true (by omega)
            have hx : ∀ h : 0 < W.size, ((W[0]'h).toNat : Int) = bt W 0 := bt_at W 0
            by_cases e2 : W.data.toList[0]? = some 48
            · have hv : bt W 0 = 48 := (bt_some W 0 (by omega) 48).2 e2
              have hh : headB W.data.toList = true := by unfold headB; rw [Bool.and_eq_true]; exact ⟨decide_eq_true (by rw [← Lib.size_eq]; exact e1), decide_eq_true (by rw [List.head?_eq_getElem?]; exact e2)⟩
              have HQ := HP1
              rw [if_pos hh] at HQ
              obtain ⟨rfl, rfl⟩ := Prod.mk.inj HQ
              simp only [hv] at hx
              clear HQ HP1 hh e1 e2 hv s1
              go_wp2
              go_ret2
              exact ⟨by first | rfl | (rw [← HQ]; rfl), HB.out⟩
            · have hh : headB W.data.toList = false := by unfold headB; rw [Bool.and_eq_false_iff]; exact .inr (decide_eq_false (by rw [List.head?_eq_getElem?]; exact e2))
              have hv : (bt W 0 == 48) = false := beq_eq_false_iff_ne.mpr (fun h => e2 ((bt_some W 0 (by omega) 48).1 h))
              have HP2 := HP1
              rw [if_neg (by rw [hh]; decide)] at HP2
              clear hh e1 e2 HP1 s1
              by_cases e3 : W.data.toList.all isD = true
              · have HPa : Aside0 (plainP W) := ⟨(plainP_iff W).1 e3⟩
                rw [if_pos e3] at HP2
                clear e3
                by_cases e4 : R.data.toList.all isD = true
                · have HPb : Aside0 (plainP R) := ⟨(plainP_iff R).1 e4⟩
                  rw [if_pos e4] at HP2
                  have HQ := Prod.mk.inj HP2
                  obtain ⟨HQ, rfl⟩ := HQ
                  clear e4 HP2
                  have z1 := eq_false (show ¬ 9223372036854775807 < W.size + R.size by have := HZ.out; omega)
                  go_wp2_with fail
                  refine (money_plain_calls W _ true ⟨fun _ => HPa.out, fun _ => rfl⟩).mono ?_
                  rintro e w3 ⟨rfl, hb⟩
                  have HBn := Aside0.mk (HB.out.trans (hb.mono HB.out.size))
                  clear HB hb
                  have HB := HBn
                  clear HBn
                  go_wp2_with fail
                  refine (money_plain_calls R _ true ⟨fun _ => HPb.out, fun _ => rfl⟩).mono ?_
                  rintro e w4 ⟨rfl, hb⟩
                  have HBn := Aside0.mk (HB.out.trans (hb.mono HB.out.size))
                  clear HB hb
                  have HB := HBn
                  clear HBn
                  go_wp2
                  go_ret2
                  exact ⟨by rw [← HQ, app_bytes]; rfl, HB.out⟩
                · have HPb : Aside0 (¬ plainP R) := ⟨fun h => absurd ((plainP_iff R).2 h) e4⟩
                  rw [if_neg e4] at HP2
                  obtain ⟨rfl, rfl⟩ := Prod.mk.inj HP2
                  clear e4 HP2
                  go_wp2_with fail
                  refine (money_plain_calls W _ true ⟨fun _ => HPa.out, fun _ => rfl⟩).mono ?_
                  rintro e w3 ⟨rfl, hb⟩
                  have HBn := Aside0.mk (HB.out.trans (hb.mono HB.out.size))
                  clear HB hb
                  have HB := HBn
                  clear HBn
                  go_wp2_with fail
                  refine (money_plain_calls R _ false ⟨fun h => absurd h (by decide), fun h => absurd h HPb.out⟩).mono ?_
                  rintro e w4 ⟨rfl, hb⟩
                  have HBn := Aside0.mk (HB.out.trans (hb.mono HB.out.size))
                  clear HB hb
                  have HB := HBn
                  clear HBn
                  go_wp2
                  go_ret2
                  exact ⟨by first | rfl | (rw [← HQ]; rfl), HB.out⟩
              · have HPa : Aside0 (¬ plainP W) := ⟨fun h => absurd ((plainP_iff W).2 h) e3⟩
                rw [if_neg e3] at HP2
                obtain ⟨rfl, rfl⟩ := Prod.mk.inj HP2
                clear e3 HP2
                go_wp2_with fail
                refine (money_plain_calls W _ false ⟨fun h => absurd h (by decide), fun h => absurd h HPa.out⟩).mono ?_
                rintro e w3 ⟨rfl, hb⟩
                have HBn := Aside0.mk (HB.out.trans (hb.mono HB.out.size))
                clear HB hb
                have HB := HBn
                clear HBn
                go_wp2
                go_ret2
                exact ⟨by first | rfl | (rw [← HQ]; rfl), HB.out⟩
          · have b1 : decide (1 < (W.size : Int)) = false := decide_eq_false (by omega)
            have b2 : decide (1 < W.size) = false := decide_eq_false e1
            have hh : headB W.data.toList = false := by unfold headB; rw [Bool.and_eq_false_iff]; exact .inl (decide_eq_false (by rw [← Lib.size_eq]; exact e1))
            have HP2 := HP1
            rw [if_neg (by rw [hh]; decide)] at HP2
            clear hh e1 HP1 s1
            by_cases e3 : W.data.toList.all isD = true
            · have HPa : Aside0 (plainP W) := ⟨(plainP_iff W).1 e3⟩
              rw [if_pos e3] at HP2
              clear e3
              by_cases e4 : R.data.toList.all isD = true
              · have HPb : Aside0 (plainP R) := ⟨(plainP_iff R).1 e4⟩
                rw [if_pos e4] at HP2
                have HQ := Prod.mk.inj HP2
                obtain ⟨HQ, rfl⟩ := HQ
                clear e4 HP2
                have z1 := eq_false (show ¬ 9223372036854775807 < W.size + R.size by have := HZ.out; omega)
                go_wp2_with fail
                refine (money_plain_calls W _ true ⟨fun _ => HPa.out, fun _ => rfl⟩).mono ?_
                rintro e w3 ⟨rfl, hb⟩
                have HBn := Aside0.mk (HB.out.trans (hb.mono HB.out.size))
                clear HB hb
                have HB := HBn
                clear HBn
                go_wp2_with fail
                refine (money_plain_calls R _ true ⟨fun _ => HPb.out, fun _ => rfl⟩).mono ?_
                rintro e w4 ⟨rfl, hb⟩
                have HBn := Aside0.mk (HB.out.trans (hb.mono HB.out.size))
                clear HB hb
                have HB := HBn
                clear HBn
                go_wp2
                go_ret2
                exact ⟨by rw [← HQ, app_bytes]; rfl, HB.out⟩
              · have HPb : Aside0 (¬ plainP R) := ⟨fun h => absurd ((plainP_iff R).2 h) e4⟩
                rw [if_neg e4] at HP2
                obtain ⟨rfl, rfl⟩ := Prod.mk.inj HP2
                clear e4 HP2
                go_wp2_with fail
                refine (money_plain_calls W _ true ⟨fun _ => HPa.out, fun _ => rfl⟩).mono ?_
                rintro e w3 ⟨rfl, hb⟩
                have HBn := Aside0.mk (HB.out.trans (hb.mono HB.out.size))
                clear HB hb
                have HB := HBn
                clear HBn
                go_wp2_with fail
                refine (money_plain_calls R _ false ⟨fun h => absurd h (by decide), fun h => absurd h HPb.out⟩).mono ?_
                rintro e w4 ⟨rfl, hb⟩
                have HBn := Aside0.mk (HB.out.trans (hb.mono HB.out.size))
                clear HB hb
                have HB := HBn
                clear HBn
                go_wp2
                go_ret2
                exact ⟨by first | rfl | (rw [← HQ]; rfl), HB.out⟩
            · have HPa : Aside0 (¬ plainP W) := ⟨fun h => absurd ((plainP_iff W).2 h) e3⟩
              rw [if_neg e3] at HP2
              obtain ⟨rfl, rfl⟩ := Prod.mk.inj HP2
              clear e3 HP2
              go_wp2_with fail
              refine (money_plain_calls W _ false ⟨fun h => absurd h (by decide), fun h => absurd h HPa.out⟩).mono ?_
              rintro e w3 ⟨rfl, hb⟩
              have HBn := Aside0.mk (HB.out.trans (hb.mono HB.out.size))
              clear HB hb
              have HB := HBn
              clear HBn
              go_wp2
              go_ret2
              exact ⟨by first | rfl | (rw [← HQ]; rfl), HB.out⟩
      · have hv : (bt t (p : Int) == 46) = false := beq_eq_false_iff_ne.mpr (fun h => e5 ((bt_some t p (by omega) 46).1 h))
        have hv2 : (bt t (p : Int) != 46) = true := by rw [bne, hv]; rfl
        rw [if_neg e5] at h
        obtain ⟨rfl, rfl⟩ := Prod.mk.inj h
        clear h h0 h2 h2' hp e5 he
        go_enter Tryd.func31, Tryd.ntmps31
        go_wp2_with fail
        refine (tp_calls _ _ t _ HT.out).mono ?_
        rintro e w1 ⟨rfl, rfl⟩
        go_wp2
        go_ret2
        exact ⟨rfl, by first | exact Below.refl _ _ | exact below_drew (Below.refl _ _)⟩
    · obtain ⟨q, hq⟩ : ∃ q : Int, q = (t.size : Int) - e := ⟨_, rfl⟩
      have h2' : ¬ dn + 2 ≤ t.size := by rw [Lib.size_eq]; exact h2
      have v2 : IntKind.i64.wrap ((t.size : Int) - e) = q := by rw [IntWalk.i64_in _ (by omega)]; omega
      have d1 : decide (q < 1) = true := decide_eq_true (by omega)
      rw [if_neg h2] at h
      obtain ⟨rfl, rfl⟩ := Prod.mk.inj h
      clear h h0 h2 h2' hq he
      go_enter Tryd.func31, Tryd.ntmps31
      go_wp2_with fail
      refine (tp_calls _ _ t _ HT.out).mono ?_
      rintro e w1 ⟨rfl, rfl⟩
      go_wp2
      go_ret2
      exact ⟨rfl, by first | exact Below.refl _ _ | exact below_drew (Below.refl _ _)⟩
end Go.Proofs.YtbeebjpbmbkodaaDoor.Q
