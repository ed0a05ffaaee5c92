/- Texts of this claim, one behind the other: Opens, OpensT. Conditions: those of each theorem. -/
import Derived.Test.YtealmfcimoomlaaGreatDoorUBuild
import Derived.ChangeArms
import Derived.SizedLaws
import Derived.Deep.Slices
import Derived.Deep.Fields
import Derived.KernelRfl
import Derived.Test.YtealmfcimoomlaaGreatDoorPOk
/- What comes in, read as data, stands in memory as the print's kinds say: for numbers, bools, texts, slices and structs of such. -/
namespace Go.Proofs.YtealmfcimoomlaaGreatDoor.PA
open Go.RowKit Go.Proofs.YtealmfcimoomlaaGreatDoorW.PrintWords Go.Proofs.YtealmfcimoomlaaGreatDoorW.PrintLast Go.Proofs.YtealmfcimoomlaaGreatDoorW.PrintMore
set_option linter.unusedVariables false
set_option linter.unusedSimpArgs false
/-- Data of type t, all of whose parts are within the reach, stand as the kind d says, and are such as Q says. -/
def Opens (P : Program) (t : TypeId) {α : Type} (d : Kd α) (Q : α → Prop) : Prop :=
  ∀ {H : Type} {enc : TypeId × Value → H} {w : World} {base : Nat} {sp : Nat → Bool} {held : Bool} {fuel : Nat} {cs : List Value} {x : DataW H × List MemPlace},
    DataW.trod enc P w base sp held fuel t cs = some x → (∀ n ∈ x.1.weights P t, n ≤ reachBytes) → ∃ a : α, d.K w a cs ∧ Q a
section
variable {P : Program} {t e : TypeId} {α β : Type}
theorem Opens.imp {d : Kd α} {Q Q' : α → Prop} (h : Opens P t d Q) (hi : ∀ a, Q a → Q' a) : Opens P t d Q' := fun hx hw => let ⟨a, hk, hq⟩ := h hx hw; ⟨a, hk, hi a hq⟩
theorem Opens.int {k : IntKind} (hu : P.underlying t = some (.int k)) : Opens P t (Kd.int k) (fun n => (Lit.int k n).wf = true) := fun hx _ => by
  obtain ⟨n, rfl, rfl, hw⟩ := DataW.trod_int hu hx
  exact ⟨n, rfl, hw⟩
theorem Opens.bool (hu : P.underlying t = some .bool) : Opens P t Kd.bool (fun _ => True) := fun hx _ => by
  obtain ⟨n, rfl, rfl⟩ := DataW.trod_bool hu hx
  exact ⟨n, rfl, trivial⟩
theorem Opens.string (hu : P.underlying t = some .string) : Opens P t Kd.string (fun s => s.size ≤ 140737488351232) := fun hx hw => by
  obtain ⟨s, rfl, rfl, _⟩ := DataW.trod_string hu hx
  have h := hw s.data.toList.length (by simp [DataW.weights])
  rw [Array.length_toList] at h
  exact ⟨s, rfl, h⟩
theorem weightsAll_mem {H : Type} : ∀ {ds : List (DataW H)} {j : Nat} {d : DataW H}, ds[j]? = some d → ∀ n ∈ d.weights P e, n ∈ DataW.weightsAll P e ds
  | d0 :: ds, 0, d, hd, n, hn => by
    simp only [List.getElem?_cons_zero, Option.some.injEq] at hd
    subst hd
    simp only [DataW.weightsAll, List.mem_append]
    exact .inl hn
  | d0 :: ds, j + 1, d, hd, n, hn => by
    simp only [List.getElem?_cons_succ] at hd
    simp only [DataW.weightsAll, List.mem_append]
    exact .inr (weightsAll_mem hd n hn)
  | [], _, _, hd, _, _ => by simp at hd
theorem list_choose {R : Nat → α → Prop} : ∀ n, (∀ i, i < n → ∃ x, R i x) → ∃ xs : List α, xs.length = n ∧ ∀ i x, xs[i]? = some x → R i x
  | 0, _ => ⟨[], rfl, fun i x h => by simp at h⟩
  | n + 1, h => by
    obtain ⟨xs, hl, hx⟩ := list_choose n (fun i hi => h i (by omega))
    obtain ⟨x, hr⟩ := h n (by omega)
    refine ⟨xs ++ [x], by simp [hl], fun i y hy => ?_⟩
    rw [List.getElem?_append] at hy
    split at hy
    · exact hx i y hy
    · next hn =>
      have : i = n := by
        have := (List.getElem?_eq_some_iff.1 hy).1
        simp at this
        omega
      subst this
      rw [hl, Nat.sub_self] at hy
      simp only [List.getElem?_cons_zero, Option.some.injEq] at hy
      subst hy
      exact hr
theorem Opens.slice {d : Kd α} {Q : α → Prop} {m : Nat} (hu : P.underlying t = some (.slice e)) (hc : P.cellsOf e = d.sz) (hb : P.bytesOf e = m) (he : Opens P e d Q) : Opens P t (Kd.slice e d) (fun l => (∀ a ∈ l, Q a) ∧ l.length * m ≤ 140737488351232) := by
  intro H enc w base sp held fuel cs x hx hw
  rcases DataW.trod_slice hu hx with ⟨rfl, rfl⟩ | ⟨a, len, cap, elems, rest, n, rfl, rfl, rfl, hbase, hlc, hcm, hlen, hel, hsp, hns⟩
  · exact ⟨[], ⟨none, 0, rfl, Nat.le_refl _, rfl, by show 0 ≤ _; omega, fun h => absurd h (by show ¬ 0 < 0; omega)⟩, fun a ha => (List.not_mem_nil ha).elim, by simp⟩
  · have hall : ∀ i, i < elems.length → ∃ x : α, (∃ c, w.cells? base (a.add (i * P.cellsOf e)) (P.cellsOf e) = some c ∧ d.K w x c) ∧ Q x := by
      intro i hi
      have h1 := hel i (by omega)
      rw [List.getElem?_eq_getElem hi] at h1
      obtain ⟨c, hcc, hx'⟩ := Option.bind_eq_some_iff.mp h1
      obtain ⟨x, hk, hq⟩ := he hx' (fun n hn => hw n (by
        simp only [DataW.weights, hu, List.mem_cons, List.mem_append]
        exact .inr (.inl (weightsAll_mem (ds := elems.map (·.1)) (j := i) (by rw [List.getElem?_map, List.getElem?_eq_getElem hi]; rfl) n hn))))
      exact ⟨x, ⟨c, hcc, hk⟩, hq⟩
    obtain ⟨xs, hxl, hxs⟩ := list_choose elems.length hall
    have hwl := hw ((elems.length + rest.length) * m) (by simp [DataW.weights, hu, hb])
    refine ⟨xs, ⟨some a, cap, by rw [hxl, hlen], by omega, rfl, by unfold maxLen at hcm; omega, fun _ => ⟨a, rfl, fun j p hj => ?_⟩⟩, fun y hy => ?_, ?_⟩
    · obtain ⟨⟨c, hcc, hk⟩, _⟩ := hxs j p hj
      obtain ⟨_, hcl, hat⟩ := World.cells?_some hcc
      refine ⟨c, d.K_len hk, hk, fun i u hi => ?_⟩
      have hil : i < P.cellsOf e := by
        have := (List.getElem?_eq_some_iff.1 hi).1
        omega
      rw [← Go.Deep.add_add, ← hc, hat i hil]
      exact hi
    · obtain ⟨i, hi⟩ := List.getElem?_of_mem hy
      exact (hxs i y hi).2
    · have : xs.length * m ≤ (elems.length + rest.length) * m := Nat.mul_le_mul_right _ (by omega)
      exact Nat.le_trans this hwl
/-- A struct's fields from one on. -/
def OpensL (P : Program) (fs : List Field) (off tot : Nat) {α : Type} (d : Kd α) (Q : α → Prop) : Prop :=
  ∀ {H : Type} {enc : TypeId × Value → H} {w : World} {base : Nat} {sp : Nat → Bool} {held : Bool} {n : Nat} {cs : List Value} {xs : List (DataW H × List MemPlace)}, cs.length = tot → xs.length = fs.length →
    (∀ (i : Nat) (f : Field), fs[i]? = some f → DataW.trod enc P w base sp held n f.type ((cs.drop f.offset).take (P.cellsOf f.type)) = xs[i]?) →
    (∀ n ∈ DataW.weightsEach P (fs.map (·.type)) (xs.map (·.1)), n ≤ reachBytes) → ∃ a : α, d.K w a (cs.drop off) ∧ Q a
theorem OpensL.one {f : Field} {off tot : Nat} {d : Kd α} {Q : α → Prop} (ho : f.offset = off) (hc : P.cellsOf f.type = d.sz) (ht : off + d.sz = tot) (h : Opens P f.type d Q) : OpensL P [f] off tot d Q := by
  intro H enc w base sp held n cs xs hl hxl hx hw
  match xs, hxl with
  | [x], _ =>
    have h1 := hx 0 f rfl
    rw [ho, hc, List.take_of_length_le (by rw [List.length_drop]; omega)] at h1
    exact h h1 (fun m hm => hw m (by simpa [DataW.weightsEach] using hm))
theorem OpensL.cons {f : Field} {fs : List Field} {off tot : Nat} {d : Kd α} {d' : Kd β} {Q : α → Prop} {Q' : β → Prop} (ho : f.offset = off) (hc : P.cellsOf f.type = d.sz) (ht : off + d.sz ≤ tot) (h : Opens P f.type d Q) (hs : OpensL P fs (off + d.sz) tot d' Q') :
    OpensL P (f :: fs) off tot (Kd.pair d d') (fun a => Q a.1 ∧ Q' a.2) := by
  intro H enc w base sp held n cs xs hl hxl hx hw
  match xs, hxl with
  | x :: xs, hxl =>
    have h1 := hx 0 f rfl
    rw [ho, hc] at h1
    obtain ⟨a, ha, hq⟩ := h h1 (fun m hm => hw m (by simp only [List.map_cons, DataW.weightsEach, List.mem_append]; exact .inl hm))
    obtain ⟨b, hb, hq'⟩ := hs (xs := xs) hl (by simpa using hxl) (fun i g hg => hx (i + 1) g (by simpa using hg)) (fun m hm => hw m (by simp only [List.map_cons, DataW.weightsEach, List.mem_append]; exact .inr hm))
    refine ⟨(a, b), ⟨_, _, ?_, ha, hb⟩, hq, hq'⟩
    rw [← List.drop_drop, List.take_append_drop]
theorem Opens.struct {fs : Array Field} {tot : Nat} {d : Kd α} {Q : α → Prop} (hu : P.underlying t = some (.struct fs)) (hc : P.cellsOf t = tot) (h : OpensL P fs.toList 0 tot d Q) : Opens P t d Q := by
  intro H enc w base sp held fuel cs x hx hw
  obtain ⟨xs, n, _, rfl, hl, hxl, hall⟩ := DataW.trod_struct hu hx
  obtain ⟨a, ha, hq⟩ := h (xs := xs) (cs := cs) (by omega) (by simpa using hxl) (fun i f hf => hall i f (by simpa using hf)) (fun m hm => hw m (by simpa [DataW.weights, hu] using hm))
  exact ⟨a, by simpa using ha, hq⟩
theorem Opens.iso {d : Kd α} {Q : α → Prop} (f : β → α) (g : α → β) (hg : ∀ a, f (g a) = a) (h : Opens P t d Q) : Opens P t (Kd.iso d f) (fun b => Q (f b)) := fun hx hw => by
  obtain ⟨a, ha, hq⟩ := h hx hw
  exact ⟨g a, by show d.K _ (f (g a)) _; rw [hg]; exact ha, by show Q (f (g a)); rw [hg]; exact hq⟩
end
end Go.Proofs.YtealmfcimoomlaaGreatDoor.PA

/- What comes in as a forest stands in memory as the print's kind says: trees in trees, by the depth of the reading. -/
namespace Go.Proofs.YtealmfcimoomlaaGreatDoor.PA
open Go.RowKit Go.Proofs.YtealmfcimoomlaaGreatDoorW.PrintWords Go.Proofs.YtealmfcimoomlaaGreatDoorW.PrintLast Go.Proofs.YtealmfcimoomlaaGreatDoorW.PrintMore
set_option linter.unusedVariables false
set_option linter.unusedSimpArgs false
/-- As 'Opens', for readings that go so deep. -/
def OpensF (F : Nat) (P : Program) (t : TypeId) {α : Type} (d : Kd α) (Q : α → Prop) : Prop :=
  ∀ {H : Type} {enc : TypeId × Value → H} {w : World} {base : Nat} {sp : Nat → Bool} {held : Bool} {fuel : Nat} {cs : List Value} {x : DataW H × List MemPlace},
    fuel < F → DataW.trod enc P w base sp held fuel t cs = some x → (∀ n ∈ x.1.weights P t, n ≤ reachBytes) → ∃ a : α, d.K w a cs ∧ Q a
section
variable {P : Program} {t e : TypeId} {α β : Type} {F : Nat}
theorem OpensF.of {d : Kd α} {Q : α → Prop} (h : Opens P t d Q) : OpensF F P t d Q := fun _ hx hw => h hx hw
theorem OpensF.less {d : Kd α} {Q : α → Prop} {F' : Nat} (h : OpensF F' P t d Q) (hF : F ≤ F') : OpensF F P t d Q := fun hf hx hw => h (Nat.lt_of_lt_of_le hf hF) hx hw
theorem OpensF.all {d : Kd α} {Q : α → Prop} (h : ∀ F, OpensF F P t d Q) : Opens P t d Q := fun {_ _ _ _ _ _ fuel _ _} hx hw => h (fuel + 1) (Nat.lt_succ_self _) hx hw
theorem OpensF.slice {d : Kd α} {Q : α → Prop} {m : Nat} (hu : P.underlying t = some (.slice e)) (hc : P.cellsOf e = d.sz) (hb : P.bytesOf e = m) (he : OpensF F P e d Q) : OpensF (F + 1) P t (Kd.slice e d) (fun l => (∀ a ∈ l, Q a) ∧ l.length * m ≤ 140737488351232) := by
  intro H enc w base sp held fuel cs x hF hx hw
  rcases DataW.trod_slice hu hx with ⟨rfl, rfl⟩ | ⟨a, len, cap, elems, rest, n, rfl, rfl, rfl, hbase, hlc, hcm, hlen, hel, hsp, hns⟩
  · exact ⟨[], ⟨none, 0, rfl, Nat.le_refl _, rfl, by show 0 ≤ _; omega, fun h => absurd h (by show ¬ 0 < 0; omega)⟩, fun a ha => (List.not_mem_nil ha).elim, by simp⟩
  · have hall : ∀ i, i < elems.length → ∃ x : α, (∃ c, w.cells? base (a.add (i * P.cellsOf e)) (P.cellsOf e) = some c ∧ d.K w x c) ∧ Q x := by
      intro i hi
      have h1 := hel i (by omega)
      rw [List.getElem?_eq_getElem hi] at h1
      obtain ⟨c, hcc, hx'⟩ := Option.bind_eq_some_iff.mp h1
      obtain ⟨x, hk, hq⟩ := he (by omega) hx' (fun n hn => hw n (by
        simp only [DataW.weights, hu, List.mem_cons, List.mem_append]
        exact .inr (.inl (weightsAll_mem (ds := elems.map (·.1)) (j := i) (by rw [List.getElem?_map, List.getElem?_eq_getElem hi]; rfl) n hn))))
      exact ⟨x, ⟨c, hcc, hk⟩, hq⟩
    obtain ⟨xs, hxl, hxs⟩ := list_choose elems.length hall
    have hwl := hw ((elems.length + rest.length) * m) (by simp [DataW.weights, hu, hb])
    refine ⟨xs, ⟨some a, cap, by rw [hxl, hlen], by omega, rfl, by unfold maxLen at hcm; omega, fun _ => ⟨a, rfl, fun j p hj => ?_⟩⟩, fun y hy => ?_, ?_⟩
    · obtain ⟨⟨c, hcc, hk⟩, _⟩ := hxs j p hj
      obtain ⟨_, hcl, hat⟩ := World.cells?_some hcc
      refine ⟨c, d.K_len hk, hk, fun i u hi => ?_⟩
      have hil : i < P.cellsOf e := by
        have := (List.getElem?_eq_some_iff.1 hi).1
        omega
      rw [← Go.Deep.add_add, ← hc, hat i hil]
      exact hi
    · obtain ⟨i, hi⟩ := List.getElem?_of_mem hy
      exact (hxs i y hi).2
    · have : xs.length * m ≤ (elems.length + rest.length) * m := Nat.mul_le_mul_right _ (by omega)
      exact Nat.le_trans this hwl
def OpensLF (F : Nat) (P : Program) (fs : List Field) (off tot : Nat) {α : Type} (d : Kd α) (Q : α → Prop) : Prop :=
  ∀ {H : Type} {enc : TypeId × Value → H} {w : World} {base : Nat} {sp : Nat → Bool} {held : Bool} {n : Nat} {cs : List Value} {xs : List (DataW H × List MemPlace)}, n < F → cs.length = tot → xs.length = fs.length →
    (∀ (i : Nat) (f : Field), fs[i]? = some f → DataW.trod enc P w base sp held n f.type ((cs.drop f.offset).take (P.cellsOf f.type)) = xs[i]?) →
    (∀ n ∈ DataW.weightsEach P (fs.map (·.type)) (xs.map (·.1)), n ≤ reachBytes) → ∃ a : α, d.K w a (cs.drop off) ∧ Q a
theorem OpensLF.one {f : Field} {off tot : Nat} {d : Kd α} {Q : α → Prop} (ho : f.offset = off) (hc : P.cellsOf f.type = d.sz) (ht : off + d.sz = tot) (h : OpensF F P f.type d Q) : OpensLF F P [f] off tot d Q := by
  intro H enc w base sp held n cs xs hF hl hxl hx hw
  match xs, hxl with
  | [x], _ =>
    have h1 := hx 0 f rfl
    rw [ho, hc, List.take_of_length_le (by rw [List.length_drop]; omega)] at h1
    exact h hF h1 (fun m hm => hw m (by simpa [DataW.weightsEach] using hm))
theorem OpensLF.cons {f : Field} {fs : List Field} {off tot : Nat} {d : Kd α} {d' : Kd β} {Q : α → Prop} {Q' : β → Prop} (ho : f.offset = off) (hc : P.cellsOf f.type = d.sz) (ht : off + d.sz ≤ tot) (h : OpensF F P f.type d Q) (hs : OpensLF F P fs (off + d.sz) tot d' Q') :
    OpensLF F P (f :: fs) off tot (Kd.pair d d') (fun a => Q a.1 ∧ Q' a.2) := by
  intro H enc w base sp held n cs xs hF hl hxl hx hw
  match xs, hxl with
  | x :: xs, hxl =>
    have h1 := hx 0 f rfl
    rw [ho, hc] at h1
    obtain ⟨a, ha, hq⟩ := h hF h1 (fun m hm => hw m (by simp only [List.map_cons, DataW.weightsEach, List.mem_append]; exact .inl hm))
    obtain ⟨b, hb, hq'⟩ := hs (xs := xs) hF hl (by simpa using hxl) (fun i g hg => hx (i + 1) g (by simpa using hg)) (fun m hm => hw m (by simp only [List.map_cons, DataW.weightsEach, List.mem_append]; exact .inr hm))
    refine ⟨(a, b), ⟨_, _, ?_, ha, hb⟩, hq, hq'⟩
    rw [← List.drop_drop, List.take_append_drop]
theorem OpensF.struct {fs : Array Field} {tot : Nat} {d : Kd α} {Q : α → Prop} (hu : P.underlying t = some (.struct fs)) (hc : P.cellsOf t = tot) (h : OpensLF F P fs.toList 0 tot d Q) : OpensF (F + 1) P t d Q := by
  intro H enc w base sp held fuel cs x hF hx hw
  obtain ⟨xs, n, rfl, rfl, hl, hxl, hall⟩ := DataW.trod_struct hu hx
  obtain ⟨a, ha, hq⟩ := h (xs := xs) (cs := cs) (by omega) (by omega) (by simpa using hxl) (fun i f hf => hall i f (by simpa using hf)) (fun m hm => hw m (by simpa [DataW.weights, hu] using hm))
  exact ⟨a, by simpa using ha, hq⟩
theorem OpensF.zero {d : Kd α} {Q : α → Prop} : OpensF 0 P t d Q := fun h => absurd h (Nat.not_lt_zero _)
end
theorem opensAttr54 : Opens Tryz.prog 61 k61 (fun a => a.f0.size ≤ 140737488351232 ∧ a.f1.size ≤ 140737488351232) :=
  Opens.iso (fun x : S61 => (x.f0, x.f1)) (fun a => ⟨a.1, a.2⟩) (fun _ => rfl) (Opens.struct (tot := 2) Tryz.underlying61 (by kernel_rfl) (OpensL.cons (by rfl) (by kernel_rfl) (by decide) (Opens.string Tryz.underlying9) (OpensL.one (by rfl) (by kernel_rfl) (by decide) (Opens.string Tryz.underlying9))))
theorem opensAttrs54 : Opens Tryz.prog 33 (Kd.slice 61 k61) (fun l => (∀ a ∈ l, a.f0.size ≤ 140737488351232 ∧ a.f1.size ≤ 140737488351232) ∧ l.length * 32 ≤ 140737488351232) := Opens.slice Tryz.underlying33 (by kernel_rfl) (by kernel_rfl) opensAttr54
theorem opensTree_step (F : Nat) (ih : OpensF F Tryz.prog 35 k35 okT) : OpensF (F + 1) Tryz.prog 35 k35 okT := by
  have hk : OpensF F Tryz.prog 22 (Kd.slice 35 k35) (fun l => (∀ a ∈ l, okT a) ∧ l.length * 88 ≤ 140737488351232) := OpensF.less (F' := F + 1) (OpensF.slice Tryz.underlying22 (by kernel_rfl) (by kernel_rfl) ih) (Nat.le_succ _)
  intro H enc w base sp held fuel cs x hF hx hw
  obtain ⟨⟨f0, f1, f2, f3, f4⟩, hK, q0, q1, q2, q3, q4⟩ := OpensF.struct (F := F) (tot := 5) Tryz.underlying35 (by kernel_rfl) (OpensLF.cons (by rfl) (by kernel_rfl) (by decide) (OpensF.of (Opens.int Tryz.underlying3)) (OpensLF.cons (by rfl) (by kernel_rfl) (by decide) (OpensF.of (Opens.string Tryz.underlying9))
    (OpensLF.cons (by rfl) (by kernel_rfl) (by decide) (OpensF.of opensAttrs54) (OpensLF.cons (by rfl) (by kernel_rfl) (by decide) (OpensF.of (Opens.string Tryz.underlying9)) (OpensLF.one (by rfl) (by kernel_rfl) (by decide) hk))))) hF hx hw
  obtain ⟨_, _, rfl, rfl, ⟨_, _, rfl, rfl, ⟨_, _, rfl, ⟨A2, c2, rfl, l2, g2⟩, ⟨_, _, rfl, rfl, ⟨A4, c4, rfl, l4, g4⟩⟩⟩⟩⟩ := hK
  exact ⟨⟨f0, f1, f2, f3, f4⟩, k35_mk w ⟨f0, f1, f2, f3, f4⟩ l2 g2 l4 g4, q0, q1, q2, q3, okK_of _ q4.1, q4.2⟩
theorem opensTree : ∀ F, OpensF F Tryz.prog 35 k35 okT
  | 0 => OpensF.zero
  | F + 1 => opensTree_step F (opensTree F)
theorem opensTrees : Opens Tryz.prog 22 (Kd.slice 35 k35) (fun l => (∀ a ∈ l, okT a) ∧ l.length * 88 ≤ 140737488351232) :=
  Opens.slice Tryz.underlying22 (by kernel_rfl) (by kernel_rfl) (OpensF.all opensTree)
end Go.Proofs.YtealmfcimoomlaaGreatDoor.PA
