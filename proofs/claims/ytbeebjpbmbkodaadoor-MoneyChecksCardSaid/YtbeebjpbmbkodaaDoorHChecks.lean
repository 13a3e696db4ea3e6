/- MoneyChecks answers true: Check and Find agree with the reference's, and Find finds every code of an accepted list. -/
import Derived.Test.YtbeebjpbmbkodaaDoorHChk
import Derived.Test.YtbeebjpbmbkodaaDoorQx9
namespace Go.Proofs.YtbeebjpbmbkodaaDoor.Q
open Go.RowKit Go.Proofs.YtbeebjpbmbkodaaDoorW.PrintWords Go.Proofs.YtbeebjpbmbkodaaDoorW.PrintLast Go.Proofs.YtbeebjpbmbkodaaDoorW.PrintMore
set_option linter.unusedVariables false
set_option linter.unusedSimpArgs false

theorem eqA40 (d : Nat) (w : World) (x0 y0 : ByteArray) (x1 y1 : Int) :
    (Op.equalIn (d + 2) 40 (.agg #[.string x0, .int .i64 x1]) (.agg #[.string y0, .int .i64 y1])).run Tryd.prog w = .ok (x0.toList == y0.toList && (x1 == y1)) w := by
  refine eqA_of Tryd.underlying40 (by kernel_rfl) ?_
  refine eqf_cons (by rfl) (by go_simp; rfl) (by go_simp; rfl) (by go_simp) ?_
  exact eqf_last (by rfl) (by go_simp; rfl) (by go_simp; rfl) (by go_simp)
attribute [local go_sem high] eqA40

/-! The order of texts. -/
theorem bl_irrefl : ∀ x : List UInt8, Op.bytesLess x x = false
  | [] => rfl
  | a :: x => by simp [Op.bytesLess, bl_irrefl x]
theorem bl_trans : ∀ x y z : List UInt8, Op.bytesLess x y = true → Op.bytesLess y z = true → Op.bytesLess x z = true
  | _, _, [], _, h2 => by simp [Op.bytesLess] at h2
  | [], _ :: _, _ :: _, _, _ => by simp [Op.bytesLess]
  | _, [], _ :: _, h1, _ => by simp [Op.bytesLess] at h1
  | a :: x, b :: y, c :: z, h1, h2 => by
    simp only [Op.bytesLess, Bool.or_eq_true, decide_eq_true_eq, Bool.and_eq_true, beq_iff_eq] at h1 h2 ⊢
    rcases h1 with h1 | ⟨rfl, h1⟩
    · rcases h2 with h2 | ⟨rfl, h2⟩
      · exact .inl (UInt8.lt_trans h1 h2)
      · exact .inl h1
    · rcases h2 with h2 | ⟨rfl, h2⟩
      · exact .inl h2
      · exact .inr ⟨rfl, bl_trans x y z h1 h2⟩
theorem bl_total : ∀ x y : List UInt8, Op.bytesLess x y = true ∨ x = y ∨ Op.bytesLess y x = true
  | [], [] => .inr (.inl rfl)
  | [], _ :: _ => .inl (by simp [Op.bytesLess])
  | _ :: _, [] => .inr (.inr (by simp [Op.bytesLess]))
  | a :: x, b :: y => by
    simp only [Op.bytesLess, Bool.or_eq_true, decide_eq_true_eq, Bool.and_eq_true, beq_iff_eq, List.cons.injEq]
    rcases Nat.lt_trichotomy a.toNat b.toNat with h | h | h
    · exact .inl (.inl (UInt8.lt_iff_toNat_lt.2 h))
    · obtain rfl := UInt8.toNat_inj.1 h
      rcases bl_total x y with h | h | h
      · exact .inl (.inr ⟨rfl, h⟩)
      · exact .inr (.inl ⟨rfl, h⟩)
      · exact .inr (.inr (.inr ⟨rfl, h⟩))
    · exact .inr (.inr (.inl (UInt8.lt_iff_toNat_lt.2 h)))
theorem cfrom_zero (l : List S40) (d : Nat) : ∀ i, chkFrom l d i = 0 → ∀ j, i ≤ j → j < i + d → chkAt l j = 0 := by
  induction d with
  | zero => intro i _ j h1 h2; omega
  | succ d ih =>
    intro i h j h1 h2
    unfold chkFrom at h
    by_cases e : chkAt l i = 0
    · rw [if_pos e] at h
      by_cases e2 : j = i
      · subst e2; exact e
      · exact ih (i + 1) h j (by omega) (by omega)
    · rw [if_neg e] at h; exact absurd h e
theorem c_step (l : List S40) (i : Nat) (h0 : 0 < i) (h : chkAt l i = 0) : Op.bytesLess (l.getD (i - 1) z40).f0.toList (l.getD i z40).f0.toList = true := by
  unfold chkAt at h
  split at h
  · exact absurd h (by decide)
  · split at h
    · exact absurd h (by decide)
    · split at h
      · exact absurd h (by decide)
      · rename_i hn
        have hn2 : ¬ leB (l.getD i z40).f0 (l.getD (i - 1) z40).f0 = true := fun e => hn ⟨h0, e⟩
        unfold leB at hn2
        rw [Bool.or_eq_true, beq_iff_eq] at hn2
        rcases bl_total (l.getD (i - 1) z40).f0.toList (l.getD i z40).f0.toList with h | h | h
        · exact h
        · exact absurd (.inr h.symm) hn2
        · exact absurd (.inl h) hn2
theorem c_ascend (l : List S40) (h : chkC l = 0) : ∀ j i, i < j → j < l.length → Op.bytesLess (l.getD i z40).f0.toList (l.getD j z40).f0.toList = true := by
  have hz : ∀ j, j < l.length → chkAt l j = 0 := by
    unfold chkC at h
    split at h
    · exact absurd h (by decide)
    · exact fun j hj => cfrom_zero l l.length 0 h j (Nat.zero_le _) (by omega)
  intro j
  induction j with
  | zero => intro i h1 _; omega
  | succ j ih =>
    intro i h1 h2
    have hs := c_step l (j + 1) (by omega) (hz (j + 1) h2)
    rw [Nat.add_sub_cancel] at hs
    by_cases e : i = j
    · subst e; exact hs
    · exact bl_trans _ _ _ (ih i (by omega) (by omega)) hs

/-! Find -/
def findC (l : List S40) (s : ByteArray) : Option S40 := l.find? (fun x => x.f0.toList == s.toList)
def tupC (o : Option S40) : ByteArray × Int × Bool := match o with
  | some x => (x.f0, x.f1, true)
  | none => ((⟨#[]⟩ : ByteArray), 0, false)
theorem cfind_from (l : List S40) (s : ByteArray) (hl : l.length ≤ 20) (d : Nat) : ∀ (k i : Nat), i + d = l.length → d < k → money_Find.l0 k s l (l.length : Int) (i : Int) = some (tupC (findC (l.drop i) s)) := by
  induction d with
  | zero =>
    intro k i hi hk
    obtain ⟨k, rfl, _⟩ := msucc hk
    simp only [money_Find.l0]
    rw [if_neg (by omega), List.drop_eq_nil_of_le (by omega)]
    rfl
  | succ d ih =>
    intro k i hi hk
    obtain ⟨k, rfl, hk2⟩ := msucc hk
    have hi' : i < l.length := by omega
    have e : rd_T40 l (i : Int) = l[i] := by show l.getD i z40 = _; rw [List.getD_eq_getElem?_getD, List.getElem?_eq_getElem hi']; rfl
    simp only [money_Find.l0]
    rw [if_pos (by omega), if_pos (by omega), if_pos (by omega), e, List.drop_eq_getElem_cons hi']
    unfold findC
    rw [List.find?_cons]
    by_cases h : l[i].f0.toList = s.toList
    · rw [if_pos h, show (l[i].f0.toList == s.toList) = true from beq_iff_eq.mpr h]; rfl
    · rw [if_neg h, show (l[i].f0.toList == s.toList) = false from beq_eq_false_iff_ne.mpr h, show wrap64 ((i : Int) + 1) = ((i + 1 : Nat) : Int) from by unfold wrap64; omega]
      exact ih k (i + 1) (by omega) (by omega)
theorem cfind_eq (l : List S40) (s : ByteArray) (hl : l.length ≤ 20) : money_Find.f 50 l s = some (tupC (findC l s)) := by
  have := cfind_from l s hl l.length 50 0 (by omega) (by omega)
  rw [List.drop_zero] at this
  exact this
theorem crfind_from (l : List S40) (s : ByteArray) (hl : l.length ≤ 20) (d : Nat) : ∀ (k i : Nat), i + d = l.length → d < k → corebankref03_Find.l0 k l s (i : Int) = some (tupC (findC (l.drop i) s)) := by
  induction d with
  | zero =>
    intro k i hi hk
    obtain ⟨k, rfl, _⟩ := msucc hk
    simp only [corebankref03_Find.l0]
    rw [if_neg (by omega), List.drop_eq_nil_of_le (by omega)]
    rfl
  | succ d ih =>
    intro k i hi hk
    obtain ⟨k, rfl, hk2⟩ := msucc hk
    have hi' : i < l.length := by omega
    have e : rd_T40 l (i : Int) = l[i] := by show l.getD i z40 = _; rw [List.getD_eq_getElem?_getD, List.getElem?_eq_getElem hi']; rfl
    simp only [corebankref03_Find.l0]
    rw [if_pos (by omega), if_pos (by omega), e, List.drop_eq_getElem_cons hi']
    unfold findC
    rw [List.find?_cons]
    by_cases h : l[i].f0.toList = s.toList
    · rw [if_pos h, show (l[i].f0.toList == s.toList) = true from beq_iff_eq.mpr h]; rfl
    · rw [if_neg h, show (l[i].f0.toList == s.toList) = false from beq_eq_false_iff_ne.mpr h, show wrap64 ((i : Int) + 1) = ((i + 1 : Nat) : Int) from by unfold wrap64; omega]
      exact ih k (i + 1) (by omega) (by omega)
theorem crfind_eq (l : List S40) (s : ByteArray) (hl : l.length ≤ 20) : corebankref03_Find.f 50 l s = some (tupC (findC l s)) := by
  have := crfind_from l s hl l.length 50 0 (by omega) (by omega)
  rw [List.drop_zero] at this
  exact this
theorem find_first (p : S40 → Bool) : ∀ (l : List S40) (j : Nat), j < l.length → p (l.getD j z40) = true → (∀ m, m < j → p (l.getD m z40) = false) → l.find? p = some (l.getD j z40)
  | [], j, h, _, _ => absurd h (by simp)
  | x :: l, 0, _, h, _ => by simp only [List.getD_cons_zero] at h ⊢; simp [List.find?, h]
  | x :: l, j + 1, hj, h, hn => by
    have h0 := hn 0 (by omega)
    simp only [List.getD_cons_zero] at h0
    rw [List.find?_cons, h0]
    simpa using find_first p l j (by simpa using hj) (by simpa using h) (fun m hm => by simpa using hn (m + 1) (by omega))
theorem find_own (l : List S40) (h : chkC l = 0) (j : Nat) (hj : j < l.length) : findC l (l.getD j z40).f0 = some (l.getD j z40) :=
  find_first _ l j hj (by simp) (fun m hm => by
    have := c_ascend l h j m hm hj
    rw [beq_eq_false_iff_ne]
    intro e
    rw [e, bl_irrefl] at this
    exact absurd this (by decide))

theorem tupC_ex (o : Option S40) : ∃ b0 b1 b2, tupC o = (b0, b1, b2) := ⟨_, _, _, rfl⟩
set_option maxHeartbeats 4000000 in
set_option maxRecDepth 100000 in
theorem moneyChecks_calls (A0 : Option Addr) (c0 : Nat) (l0 : List S40) (s : ByteArray) (w : World) (ht : Tab w) (hr0 : Kd.C k40 w A0 l0.length l0) (hc0 : l0.length ≤ c0) (ok0 : ∀ x ∈ l0, x.f0.size ≤ 9223372036854775807) :
    Calls Tryd.prog 9 #[.slice A0 l0.length c0, .string s] w fun e w' => e = .returned (.bool true) ∧ Below w.heap.size w w' := by
  have HT := Aside0.mk ht
  have HR0 := Aside0.mk hr0
  have HC0 := Aside0.mk hc0
  have HO := Aside0.mk ok0
  have hm : l0.length ≤ 9223372036854775807 := hr0.2.1
  clear ht hr0 hc0 ok0
  by_cases h : l0.length > 20
  · have d2 : decide ((20 : Int) < (l0.length : Int)) = true := decide_eq_true (by omega)
    have d3 : decide (20 < l0.length) = true := decide_eq_true (by omega)
    clear h
    go_enter Tryd.func9, Tryd.ntmps9
    go_wp2_with fail
    refine (lives_calls _ HT.out).mono ?_
    rintro e w6 ⟨rfl, hb6⟩
    have HB6 := Aside0.mk hb6
    clear hb6
    go_wp2
    go_ret
    exact ⟨rfl, HB6.out⟩
  · have d2 : decide ((20 : Int) < (l0.length : Int)) = false := decide_eq_false (by omega)
    have d3 : decide (20 < l0.length) = false := decide_eq_false (by omega)
    have HL := Aside0.mk (show l0.length ≤ 20 by omega)
    obtain ⟨ev, hev⟩ : ∃ ev, chkC l0 = ev := ⟨_, rfl⟩
    have HE := Aside0.mk hev
    obtain ⟨b0, b1, b2, hb⟩ := tupC_ex (findC l0 s)
    have H1 := Aside0.mk ((cfind_eq l0 s HL.out).trans (congrArg some hb))
    have H2 := Aside0.mk ((crfind_eq l0 s HL.out).trans (congrArg some hb))
    clear h hev hb
    go_enter Tryd.func9, Tryd.ntmps9
    go_wp2_with fail
    refine (pcheck_calls A0 c0 l0 _ ev HR0.out HC0.out HO.out HE.out).mono ?_
    rintro e w1 ⟨rfl, hb1⟩
    have HB1 := Aside0.mk hb1
    clear hb1
    go_wp2_with fail
    refine (money_Find.calls 50 A0 c0 l0 s _ _ _ _ (Kd.C_below HR0.out HB1.out) HC0.out H1.out).mono ?_
    rintro e w2 ⟨rfl, hb2⟩
    have HB2 := Aside0.mk (HB1.out.trans (hb2.mono HB1.out.size))
    clear hb2
    go_wp2_with fail
    refine (corebankref03_Find.calls 50 A0 c0 l0 s _ _ _ _ (Kd.C_below HR0.out (below_alloc HB2.out _)) HC0.out H2.out).mono ?_
    rintro e w3 ⟨rfl, hb3⟩
    have HB3 := Aside0.mk ((below_alloc HB2.out _).trans (hb3.mono (show w.heap.size ≤ _ by have := HB2.out.size; simp; omega)))
    have HK3 : Aside0 (w3.heap[w2.heap.size]? = some (.cells #[.string b0, .int .i64 b1] 40 (0, 0))) := ⟨blk_below (blk_new w2 _) hb3⟩
    clear hb3
    go_wp2_with fail
    refine (rcheck_calls A0 c0 l0 _ ev (Kd.C_below HR0.out (below_alloc HB3.out _)) HC0.out HE.out).mono ?_
    rintro e w4 ⟨rfl, hb4⟩
    have HB4 := Aside0.mk ((below_alloc HB3.out _).trans (hb4.mono (show w.heap.size ≤ _ by have := HB3.out.size; simp; omega)))
    have HK4 : Aside0 (w4.heap[w2.heap.size]? = some (.cells #[.string b0, .int .i64 b1] 40 (0, 0))) := ⟨blk_below (blk_alloc HK3.out _) hb4⟩
    have HL4 : Aside0 (w4.heap[w3.heap.size]? = some (.cells #[.string b0, .int .i64 b1] 40 (0, 0))) := ⟨blk_below (blk_new w3 _) hb4⟩
    clear hb4
    have q0 : w4.cell? ⟨w2.heap.size, 0, none⟩ = some (.string b0) := (blk_cell HK4.out 0).trans rfl
    have q1 : w4.cell? ⟨w2.heap.size, 1, none⟩ = some (.int .i64 b1) := (blk_cell HK4.out 1).trans rfl
    have u0 : w4.cell? ⟨w3.heap.size, 0, none⟩ = some (.string b0) := (blk_cell HL4.out 0).trans rfl
    have u1 : w4.cell? ⟨w3.heap.size, 1, none⟩ = some (.int .i64 b1) := (blk_cell HL4.out 1).trans rfl
    go_wp2_with fail
    clear q0 q1 u0 u1
    go_loopg [10] l0.length (fun gg s10 wr => ∃ kk : Nat, s10 = .int .i64 kk ∧ Aside0 (kk ≤ l0.length ∧ l0.length - kk ≤ gg) ∧ Aside0 (Below w.heap.size w wr))
    case atStart => exact ⟨0, rfl, ⟨by omega, by omega⟩, HB4⟩
    case round =>
      clear HB4
      obtain ⟨kk, rfl, HK, HB⟩ := hrel
      by_cases c : kk < l0.length
      · have c1 : decide ((kk : Int) < (l0.length : Int)) = true := decide_eq_true (by omega)
        by_cases te : ev = 0
        · subst te
          obtain ⟨x, hx⟩ : ∃ x, x = l0.getD kk z40 := ⟨_, rfl⟩
          have HF : Aside0 (money_Find.f 50 l0 x.f0 = some (x.f0, x.f1, true)) := ⟨by rw [cfind_eq l0 _ HL.out, hx, find_own l0 HE.out kk c]; rfl⟩
          obtain ⟨ad, e, h0, h1⟩ := at_T40 HR0.out kk (by omega) (by omega)
          cases e
          rw [show rd_T40 l0 (kk : Int) = x by rw [hx]; rfl] at h0 h1
          simp only [Int.toNat_natCast] at h0 h1
          have H0' := Aside0.mk h0
          have H1' := Aside0.mk h1
          replace h0 := (HB.out.cell (World.block_lt_of_cell? w _ h0)).trans h0
          clear hx h1
          go_wp2_with fail
          refine (money_Find.calls 50 _ c0 l0 x.f0 _ _ _ _ (Kd.C_below HR0.out HB.out) HC0.out HF.out).mono ?_
          rintro e w5 ⟨rfl, hb5⟩
          have HB5 := Aside0.mk (HB.out.trans (hb5.mono HB.out.size))
          have HB6 := Aside0.mk (below_alloc HB5.out (.cells #[.string x.f0, .int .i64 x.f1] 40))
          clear hb5 h0
          have h0 := (HB6.out.cell (World.block_lt_of_cell? w _ H0'.out)).trans H0'.out
          have h1 := (HB6.out.cell (World.block_lt_of_cell? w _ H1'.out)).trans H1'.out
          go_wp2_with fail
          go_quiet (fail)
          go_wp2
          go_roundg (l0.length - (kk + 1))
          case measure => have := HK.out; omega
          case rel => exact ⟨kk + 1, by go_num, ⟨by omega, by omega⟩, ⟨by repeat (first | exact HB6.out | apply pw_below_drewN)⟩⟩
        · have te1 : (ev == 0) = false := beq_eq_false_iff_ne.mpr te
          clear te
          go_wp2_with fail
          refine (lives_calls _ (HT.out.below HB.out)).mono ?_
          rintro e w6 ⟨rfl, hb6⟩
          have HB6 := Aside0.mk (HB.out.trans (hb6.mono HB.out.size))
          clear hb6
          go_wp2
          go_ret
          exact ⟨rfl, HB6.out⟩
      · have c1 : decide ((kk : Int) < (l0.length : Int)) = false := decide_eq_false (by omega)
        go_wp2_with fail
        refine (lives_calls _ (HT.out.below HB.out)).mono ?_
        rintro e w6 ⟨rfl, hb6⟩
        have HB6 := Aside0.mk (HB.out.trans (hb6.mono HB.out.size))
        clear hb6
        go_wp2
        go_ret
        exact ⟨rfl, HB6.out⟩
end Go.Proofs.YtbeebjpbmbkodaaDoor.Q
