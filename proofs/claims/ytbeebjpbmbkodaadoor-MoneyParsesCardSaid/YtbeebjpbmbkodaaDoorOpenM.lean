/- What an argument reads as, kind by kind: a value that can be read as data is one of the printed kinds. -/
import Derived.Test.YtbeebjpbmbkodaaDoorWWords
import Derived.Test.YtbeebjpbmbkodaaDoorProg
import Derived.ProofKit
import Derived.ChangeOld
import Derived.Deep.Slices
namespace Go.Proofs.YtbeebjpbmbkodaaDoor.Opn
open Go.RowKit Go.Proofs.YtbeebjpbmbkodaaDoorW.PrintWords Go.Deep Go.ChangeShapes Go.WideShapes
set_option linter.unusedVariables false

/-- Data of type t, nested at most n deep, are of the kind k, and ok. -/
structure OpAt (n : Nat) {α : Type} (k : Kd α) (P : Program) (t : TypeId) (ok : α → Prop) : Prop where
  mk :: (out : ∀ {H : Type} (enc : TypeId × Value → H) (w : World) (fuel : Nat) (cs : List Value) (x : DataW H × List MemPlace), fuel ≤ n →
    DataW.trod enc P w 0 (fun _ => true) true fuel t cs = some x → ∃ y : α, k.K w y cs ∧ ok y)

theorem OpAt.imp {n : Nat} {α : Type} {k : Kd α} {P : Program} {t : TypeId} {ok ok' : α → Prop} (h : OpAt n k P t ok) (hi : ∀ y, ok y → ok' y) : OpAt n k P t ok' :=
  .mk fun enc w fuel cs x hf hx => by
    obtain ⟨y, h1, h2⟩ := h.out enc w fuel cs x hf hx
    exact ⟨y, h1, hi y h2⟩

theorem op_int {n : Nat} {P : Program} {t : TypeId} {k : IntKind} (ht : P.underlying t = some (.int k)) : OpAt n (Kd.int k) P t (fun m => (Lit.int k m).wf = true) :=
  .mk fun enc w fuel cs x _ hx => by
    obtain ⟨m, rfl, _, hw⟩ := DataW.trod_int ht hx
    exact ⟨m, rfl, hw⟩
theorem op_bool {n : Nat} {P : Program} {t : TypeId} (ht : P.underlying t = some .bool) : OpAt n Kd.bool P t (fun _ => True) :=
  .mk fun enc w fuel cs x _ hx => by
    obtain ⟨b, rfl, _⟩ := DataW.trod_bool ht hx
    exact ⟨b, rfl, trivial⟩
theorem op_string {n : Nat} {P : Program} {t : TypeId} (ht : P.underlying t = some .string) : OpAt n Kd.string P t (fun s => s.size ≤ maxLen) :=
  .mk fun enc w fuel cs x _ hx => by
    obtain ⟨s, rfl, _, hs⟩ := DataW.trod_string ht hx
    exact ⟨s, rfl, hs⟩

theorem op_slice {n : Nat} {α : Type} (z : α) {d : Kd α} {P : Program} {t e : TypeId} {ok : α → Prop} (ht : P.underlying t = some (.slice e)) (hsz : P.cellsOf e = d.sz) (hd : OpAt n d P e ok) :
    OpAt (n + 1) (Kd.slice e d) P t (fun xs => xs.length ≤ maxLen ∧ ∀ x ∈ xs, ok x) :=
  .mk fun {H} enc w fuel cs x hf hx => by
    rcases DataW.trod_slice ht hx with ⟨rfl, _⟩ | ⟨a, len, cap, elems, rest, m, hfm, rfl, _, _, hl, hm, hlen, hel, _, _⟩
    · exact ⟨[], ⟨none, 0, rfl, Nat.le_refl 0, rfl, by simp, fun h => absurd h (by simp)⟩, by simp [maxLen], by simp⟩
    · have key : ∀ i, i < len → ∃ y : α, ok y ∧ ∃ c : List Value, c.length = d.sz ∧ d.K w y c ∧ ∀ j u, c[j]? = some u → w.cell? (a.add (i * d.sz + j)) = some u := by
        intro i hi
        have h1 := hel i hi
        rw [List.getElem?_eq_getElem (by omega)] at h1
        obtain ⟨c, h2, h3⟩ := Option.bind_eq_some_iff.1 h1
        obtain ⟨y, hk, hy⟩ := hd.out enc w m c _ (by omega) h3
        obtain ⟨_, h4, h5⟩ := World.cells?_some h2
        refine ⟨y, hy, c, d.K_len hk, hk, fun j u hj => ?_⟩
        have hj' : j < P.cellsOf e := by rw [← h4]; exact (List.getElem?_eq_some_iff.1 hj).1
        have h6 := h5 j hj'
        rw [hj, hsz, Go.Deep.add_add] at h6
        exact h6
      obtain ⟨f, hf⟩ := @choose_lt _ ⟨z⟩ _ _ key
      refine ⟨(List.range len).map f, ⟨some a, cap, by simp, by simpa using hl, by simp, by simp only [List.length_map, List.length_range]; unfold maxLen at hm; omega, fun _ => ⟨a, rfl, fun j p hj => ?_⟩⟩, by simp only [List.length_map, List.length_range]; omega, ?_⟩
      · obtain ⟨hj1, hj2⟩ := List.getElem?_eq_some_iff.1 hj
        simp only [List.getElem_map, List.getElem_range] at hj2
        simp only [List.length_map, List.length_range] at hj1
        subst hj2
        exact (hf j hj1).2
      · intro x hx
        obtain ⟨i, hi, rfl⟩ := List.mem_map.1 hx
        exact (hf i (List.mem_range.1 hi)).1

/-- The fields from the one at off on are of the kind k. -/
structure OpF (n : Nat) {α : Type} (k : Kd α) (P : Program) (fs : List Field) (off : Nat) (ok : α → Prop) : Prop where
  mk :: (out : ∀ {H : Type} (enc : TypeId × Value → H) (w : World) (fuel : Nat) (cs : List Value) (xs : List (DataW H × List MemPlace)), fuel ≤ n → cs.length = off + k.sz → xs.length = fs.length →
    (∀ (i : Nat) (f : Field), fs[i]? = some f → DataW.trod enc P w 0 (fun _ => true) true fuel f.type ((cs.drop f.offset).take (P.cellsOf f.type)) = xs[i]?) → ∃ y : α, k.K w y (cs.drop off) ∧ ok y)
theorem opf_last {n : Nat} {α : Type} {k : Kd α} {P : Program} {f : Field} {off : Nat} {ok : α → Prop} (hc : P.cellsOf f.type = k.sz) (ho : f.offset = off) (h : OpAt n k P f.type ok) : OpF n k P [f] off ok :=
  .mk fun enc w fuel cs xs hf hl hx hall => by
    have h0 := hall 0 f rfl
    rw [List.getElem?_eq_getElem (by rw [hx]; exact Nat.one_pos)] at h0
    obtain ⟨y, h1, h2⟩ := h.out enc w fuel _ _ hf h0
    refine ⟨y, ?_, h2⟩
    rw [ho, hc, List.take_of_length_le (by rw [List.length_drop]; omega)] at h1
    exact h1
theorem opf_cons {n : Nat} {α β : Type} {k : Kd α} {k' : Kd β} {P : Program} {f : Field} {fs : List Field} {off : Nat} {ok : α → Prop} {ok' : β → Prop} (hc : P.cellsOf f.type = k.sz) (ho : f.offset = off) (h : OpAt n k P f.type ok) (h' : OpF n k' P fs (off + k.sz) ok') :
    OpF n (Kd.pair k k') P (f :: fs) off (fun p => ok p.1 ∧ ok' p.2) :=
  .mk fun enc w fuel cs xs hf hl hx hall => by
    have h0 := hall 0 f rfl
    rw [List.getElem?_eq_getElem (by rw [hx]; simp)] at h0
    obtain ⟨y, h1, h2⟩ := h.out enc w fuel _ _ hf h0
    rw [ho, hc] at h1
    obtain ⟨y', h3, h4⟩ := h'.out enc w fuel cs xs.tail hf (by rw [hl]; exact (Nat.add_assoc ..).symm) (by rw [List.length_tail, hx]; rfl) (fun i g hg => by
      have h5 := hall (i + 1) g (by simpa using hg)
      rw [h5]
      simp)
    refine ⟨(y, y'), ⟨(cs.drop off).take k.sz, cs.drop (off + k.sz), ?_, h1, h3⟩, h2, h4⟩
    rw [← List.drop_drop, List.take_append_drop]
theorem op_struct {n : Nat} {α β : Type} {k : Kd α} {P : Program} {t : TypeId} {fs : Array Field} {ok : α → Prop} (proj : β → α) (mk : α → β) (hpm : ∀ a, proj (mk a) = a) (ht : P.underlying t = some (.struct fs)) (hc : P.cellsOf t = k.sz) (h : OpF n k P fs.toList 0 ok) :
    OpAt (n + 1) (Kd.iso k proj) P t (fun b => ok (proj b)) :=
  .mk fun enc w fuel cs x hf hx => by
    obtain ⟨xs, m, hfm, _, hl, hn, hall⟩ := DataW.trod_struct ht hx
    obtain ⟨y, h1, h2⟩ := h.out enc w m cs xs (by omega) (by rw [hl, hc, Nat.zero_add]) (by rw [hn, Array.length_toList]) (fun i f hf => hall i f (by simpa using hf))
    refine ⟨mk y, ?_, by show ok (proj (mk y)); rw [hpm]; exact h2⟩
    show k.K w (proj (mk y)) cs
    rw [hpm]
    exact h1

/-! Without what is told of the parts. -/
theorem OpAt.any {n : Nat} {α : Type} {k : Kd α} {P : Program} {t : TypeId} {ok : α → Prop} (h : OpAt n k P t ok) : OpAt n k P t (fun _ => True) := h.imp (fun _ _ => trivial)
theorem OpF.any {n : Nat} {α : Type} {k : Kd α} {P : Program} {fs : List Field} {off : Nat} {ok : α → Prop} (h : OpF n k P fs off ok) : OpF n k P fs off (fun _ => True) :=
  .mk fun enc w fuel cs xs hf hl hx hall => by
    obtain ⟨y, h1, _⟩ := h.out enc w fuel cs xs hf hl hx hall
    exact ⟨y, h1, trivial⟩
theorem int0 {n : Nat} {P : Program} {t : TypeId} {k : IntKind} (ht : P.underlying t = some (.int k)) : OpAt n (Kd.int k) P t (fun _ => True) := (op_int ht).any
theorem bool0 {n : Nat} {P : Program} {t : TypeId} (ht : P.underlying t = some .bool) : OpAt n Kd.bool P t (fun _ => True) := op_bool ht
theorem str0 {n : Nat} {P : Program} {t : TypeId} (ht : P.underlying t = some .string) : OpAt n Kd.string P t (fun _ => True) := (op_string ht).any
theorem slice0 {n : Nat} {α : Type} (z : α) {d : Kd α} {P : Program} {t e : TypeId} (ht : P.underlying t = some (.slice e)) (hsz : P.cellsOf e = d.sz) (hd : OpAt n d P e (fun _ => True)) : OpAt (n + 1) (Kd.slice e d) P t (fun _ => True) := (op_slice z ht hsz hd).any
theorem last0 {n : Nat} {α : Type} {k : Kd α} {P : Program} {f : Field} {off : Nat} (hc : P.cellsOf f.type = k.sz) (ho : f.offset = off) (h : OpAt n k P f.type (fun _ => True)) : OpF n k P [f] off (fun _ => True) := opf_last hc ho h
theorem cons0 {n : Nat} {α β : Type} {k : Kd α} {k' : Kd β} {P : Program} {f : Field} {fs : List Field} {off : Nat} (hc : P.cellsOf f.type = k.sz) (ho : f.offset = off) (h : OpAt n k P f.type (fun _ => True)) (h' : OpF n k' P fs (off + k.sz) (fun _ => True)) :
    OpF n (Kd.pair k k') P (f :: fs) off (fun _ => True) := (opf_cons hc ho h h').any
theorem struct0 {n : Nat} {α β : Type} {k : Kd α} {P : Program} {t : TypeId} {fs : Array Field} (proj : β → α) (mk : α → β) (hpm : ∀ a, proj (mk a) = a) (ht : P.underlying t = some (.struct fs)) (hc : P.cellsOf t = k.sz) (h : OpF n k P fs.toList 0 (fun _ => True)) :
    OpAt (n + 1) (Kd.iso k proj) P t (fun _ => True) := (op_struct proj mk hpm ht hc h).any

end Go.Proofs.YtbeebjpbmbkodaaDoor.Opn
