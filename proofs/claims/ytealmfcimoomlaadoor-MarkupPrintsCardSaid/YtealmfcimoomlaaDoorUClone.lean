/- Texts of this claim, one behind the other: OpensT, UClone. Conditions: those of each theorem. -/
import Derived.Test.YtealmfcimoomlaaDoorPOk
import Derived.Test.YtealmfcimoomlaaDoorPA0
import Derived.WalkKit
import Derived.BigCall
/- What comes in as a forest stands in memory as the print's kind says: trees in trees, by the depth of the reading. -/
namespace Go.Proofs.YtealmfcimoomlaaDoor.PA
open Go.RowKit Go.Proofs.YtealmfcimoomlaaDoorW.PrintWords Go.Proofs.YtealmfcimoomlaaDoorW.PrintLast Go.Proofs.YtealmfcimoomlaaDoorW.PrintMore
set_option linter.unusedVariables false
set_option linter.unusedSimpArgs false
/-- As 'Opens', for readings that go so deep. -/
def OpensF (F : Nat) (P : Program) (t : TypeId) {α : Type} (d : Kd α) (Q : α → Prop) : Prop :=
  ∀ {H : Type} {enc : TypeId × Value → H} {w : World} {base : Nat} {sp : Nat → Bool} {held : Bool} {fuel : Nat} {cs : List Value} {x : DataW H × List MemPlace},
    fuel < F → DataW.trod enc P w base sp held fuel t cs = some x → (∀ n ∈ x.1.weights P t, n ≤ reachBytes) → ∃ a : α, d.K w a cs ∧ Q a
section
variable {P : Program} {t e : TypeId} {α β : Type} {F : Nat}
theorem OpensF.of {d : Kd α} {Q : α → Prop} (h : Opens P t d Q) : OpensF F P t d Q := fun _ hx hw => h hx hw
theorem OpensF.less {d : Kd α} {Q : α → Prop} {F' : Nat} (h : OpensF F' P t d Q) (hF : F ≤ F') : OpensF F P t d Q := fun hf hx hw => h (Nat.lt_of_lt_of_le hf hF) hx hw
theorem OpensF.all {d : Kd α} {Q : α → Prop} (h : ∀ F, OpensF F P t d Q) : Opens P t d Q := fun {_ _ _ _ _ _ fuel _ _} hx hw => h (fuel + 1) (Nat.lt_succ_self _) hx hw
theorem OpensF.slice {d : Kd α} {Q : α → Prop} {m : Nat} (hu : P.underlying t = some (.slice e)) (hc : P.cellsOf e = d.sz) (hb : P.bytesOf e = m) (he : OpensF F P e d Q) : OpensF (F + 1) P t (Kd.slice e d) (fun l => (∀ a ∈ l, Q a) ∧ l.length * m ≤ 140737488351232) := by
  intro H enc w base sp held fuel cs x hF hx hw
  rcases DataW.trod_slice hu hx with ⟨rfl, rfl⟩ | ⟨a, len, cap, elems, rest, n, rfl, rfl, rfl, hbase, hlc, hcm, hlen, hel, hsp, hns⟩
  · exact ⟨[], ⟨none, 0, rfl, Nat.le_refl _, rfl, by show 0 ≤ _; omega, fun h => absurd h (by show ¬ 0 < 0; omega)⟩, fun a ha => (List.not_mem_nil ha).elim, by simp⟩
  · have hall : ∀ i, i < elems.length → ∃ x : α, (∃ c, w.cells? base (a.add (i * P.cellsOf e)) (P.cellsOf e) = some c ∧ d.K w x c) ∧ Q x := by
      intro i hi
      have h1 := hel i (by omega)
      rw [List.getElem?_eq_getElem hi] at h1
      obtain ⟨c, hcc, hx'⟩ := Option.bind_eq_some_iff.mp h1
      obtain ⟨x, hk, hq⟩ := he (by omega) hx' (fun n hn => hw n (by
        simp only [DataW.weights, hu, List.mem_cons, List.mem_append]
        exact .inr (.inl (weightsAll_mem (ds := elems.map (·.1)) (j := i) (by rw [List.getElem?_map, List.getElem?_eq_getElem hi]; rfl) n hn))))
      exact ⟨x, ⟨c, hcc, hk⟩, hq⟩
    obtain ⟨xs, hxl, hxs⟩ := list_choose elems.length hall
    have hwl := hw ((elems.length + rest.length) * m) (by simp [DataW.weights, hu, hb])
    refine ⟨xs, ⟨some a, cap, by rw [hxl, hlen], by omega, rfl, by unfold maxLen at hcm; omega, fun _ => ⟨a, rfl, fun j p hj => ?_⟩⟩, fun y hy => ?_, ?_⟩
    · obtain ⟨⟨c, hcc, hk⟩, _⟩ := hxs j p hj
      obtain ⟨_, hcl, hat⟩ := World.cells?_some hcc
      refine ⟨c, d.K_len hk, hk, fun i u hi => ?_⟩
      have hil : i < P.cellsOf e := by
        have := (List.getElem?_eq_some_iff.1 hi).1
        omega
      rw [← Go.Deep.add_add, ← hc, hat i hil]
      exact hi
    · obtain ⟨i, hi⟩ := List.getElem?_of_mem hy
      exact (hxs i y hi).2
    · have : xs.length * m ≤ (elems.length + rest.length) * m := Nat.mul_le_mul_right _ (by omega)
      exact Nat.le_trans this hwl
def OpensLF (F : Nat) (P : Program) (fs : List Field) (off tot : Nat) {α : Type} (d : Kd α) (Q : α → Prop) : Prop :=
  ∀ {H : Type} {enc : TypeId × Value → H} {w : World} {base : Nat} {sp : Nat → Bool} {held : Bool} {n : Nat} {cs : List Value} {xs : List (DataW H × List MemPlace)}, n < F → cs.length = tot → xs.length = fs.length →
    (∀ (i : Nat) (f : Field), fs[i]? = some f → DataW.trod enc P w base sp held n f.type ((cs.drop f.offset).take (P.cellsOf f.type)) = xs[i]?) →
    (∀ n ∈ DataW.weightsEach P (fs.map (·.type)) (xs.map (·.1)), n ≤ reachBytes) → ∃ a : α, d.K w a (cs.drop off) ∧ Q a
theorem OpensLF.one {f : Field} {off tot : Nat} {d : Kd α} {Q : α → Prop} (ho : f.offset = off) (hc : P.cellsOf f.type = d.sz) (ht : off + d.sz = tot) (h : OpensF F P f.type d Q) : OpensLF F P [f] off tot d Q := by
  intro H enc w base sp held n cs xs hF hl hxl hx hw
  match xs, hxl with
  | [x], _ =>
    have h1 := hx 0 f rfl
    rw [ho, hc, List.take_of_length_le (by rw [List.length_drop]; omega)] at h1
    exact h hF h1 (fun m hm => hw m (by simpa [DataW.weightsEach] using hm))
theorem OpensLF.cons {f : Field} {fs : List Field} {off tot : Nat} {d : Kd α} {d' : Kd β} {Q : α → Prop} {Q' : β → Prop} (ho : f.offset = off) (hc : P.cellsOf f.type = d.sz) (ht : off + d.sz ≤ tot) (h : OpensF F P f.type d Q) (hs : OpensLF F P fs (off + d.sz) tot d' Q') :
    OpensLF F P (f :: fs) off tot (Kd.pair d d') (fun a => Q a.1 ∧ Q' a.2) := by
  intro H enc w base sp held n cs xs hF hl hxl hx hw
  match xs, hxl with
  | x :: xs, hxl =>
    have h1 := hx 0 f rfl
    rw [ho, hc] at h1
    obtain ⟨a, ha, hq⟩ := h hF h1 (fun m hm => hw m (by simp only [List.map_cons, DataW.weightsEach, List.mem_append]; exact .inl hm))
    obtain ⟨b, hb, hq'⟩ := hs (xs := xs) hF hl (by simpa using hxl) (fun i g hg => hx (i + 1) g (by simpa using hg)) (fun m hm => hw m (by simp only [List.map_cons, DataW.weightsEach, List.mem_append]; exact .inr hm))
    refine ⟨(a, b), ⟨_, _, ?_, ha, hb⟩, hq, hq'⟩
    rw [← List.drop_drop, List.take_append_drop]
theorem OpensF.struct {fs : Array Field} {tot : Nat} {d : Kd α} {Q : α → Prop} (hu : P.underlying t = some (.struct fs)) (hc : P.cellsOf t = tot) (h : OpensLF F P fs.toList 0 tot d Q) : OpensF (F + 1) P t d Q := by
  intro H enc w base sp held fuel cs x hF hx hw
  obtain ⟨xs, n, rfl, rfl, hl, hxl, hall⟩ := DataW.trod_struct hu hx
  obtain ⟨a, ha, hq⟩ := h (xs := xs) (cs := cs) (by omega) (by omega) (by simpa using hxl) (fun i f hf => hall i f (by simpa using hf)) (fun m hm => hw m (by simpa [DataW.weights, hu] using hm))
  exact ⟨a, by simpa using ha, hq⟩
theorem OpensF.zero {d : Kd α} {Q : α → Prop} : OpensF 0 P t d Q := fun h => absurd h (Nat.not_lt_zero _)
end
theorem opensAttr54 : Opens Tryd.prog 54 k54 (fun a => a.f0.size ≤ 140737488351232 ∧ a.f1.size ≤ 140737488351232) :=
  Opens.iso (fun x : S54 => (x.f0, x.f1)) (fun a => ⟨a.1, a.2⟩) (fun _ => rfl) (Opens.struct (tot := 2) Tryd.underlying54 (by kernel_rfl) (OpensL.cons (by rfl) (by kernel_rfl) (by decide) (Opens.string Tryd.underlying9) (OpensL.one (by rfl) (by kernel_rfl) (by decide) (Opens.string Tryd.underlying9))))
theorem opensAttrs54 : Opens Tryd.prog 34 (Kd.slice 54 k54) (fun l => (∀ a ∈ l, a.f0.size ≤ 140737488351232 ∧ a.f1.size ≤ 140737488351232) ∧ l.length * 32 ≤ 140737488351232) := Opens.slice Tryd.underlying34 (by kernel_rfl) (by kernel_rfl) opensAttr54
theorem opensTree_step (F : Nat) (ih : OpensF F Tryd.prog 36 k36 okT) : OpensF (F + 1) Tryd.prog 36 k36 okT := by
  have hk : OpensF F Tryd.prog 22 (Kd.slice 36 k36) (fun l => (∀ a ∈ l, okT a) ∧ l.length * 88 ≤ 140737488351232) := OpensF.less (F' := F + 1) (OpensF.slice Tryd.underlying22 (by kernel_rfl) (by kernel_rfl) ih) (Nat.le_succ _)
  intro H enc w base sp held fuel cs x hF hx hw
  obtain ⟨⟨f0, f1, f2, f3, f4⟩, hK, q0, q1, q2, q3, q4⟩ := OpensF.struct (F := F) (tot := 5) Tryd.underlying36 (by kernel_rfl) (OpensLF.cons (by rfl) (by kernel_rfl) (by decide) (OpensF.of (Opens.int Tryd.underlying3)) (OpensLF.cons (by rfl) (by kernel_rfl) (by decide) (OpensF.of (Opens.string Tryd.underlying9))
    (OpensLF.cons (by rfl) (by kernel_rfl) (by decide) (OpensF.of opensAttrs54) (OpensLF.cons (by rfl) (by kernel_rfl) (by decide) (OpensF.of (Opens.string Tryd.underlying9)) (OpensLF.one (by rfl) (by kernel_rfl) (by decide) hk))))) hF hx hw
  obtain ⟨_, _, rfl, rfl, ⟨_, _, rfl, rfl, ⟨_, _, rfl, ⟨A2, c2, rfl, l2, g2⟩, ⟨_, _, rfl, rfl, ⟨A4, c4, rfl, l4, g4⟩⟩⟩⟩⟩ := hK
  exact ⟨⟨f0, f1, f2, f3, f4⟩, k36_mk w ⟨f0, f1, f2, f3, f4⟩ l2 g2 l4 g4, q0, q1, q2, q3, okK_of _ q4.1, q4.2⟩
theorem opensTree : ∀ F, OpensF F Tryd.prog 36 k36 okT
  | 0 => OpensF.zero
  | F + 1 => opensTree_step F (opensTree F)
theorem opensTrees : Opens Tryd.prog 22 (Kd.slice 36 k36) (fun l => (∀ a ∈ l, okT a) ∧ l.length * 88 ≤ 140737488351232) :=
  Opens.slice Tryd.underlying22 (by kernel_rfl) (by kernel_rfl) (OpensF.all opensTree)
end Go.Proofs.YtealmfcimoomlaaDoor.PA

/- slices.Clone of attributes. -/
namespace Go.Proofs.YtealmfcimoomlaaDoor.PA
open Go.RowKit Go.Proofs.YtealmfcimoomlaaDoorW.PrintWords Go.Proofs.YtealmfcimoomlaaDoorW.PrintLast Go.Proofs.YtealmfcimoomlaaDoorW.PrintMore
set_option linter.unusedVariables false
set_option linter.unusedSimpArgs false
def api_Attr_39.f (l : List S54) : Option (List S54) := if l.length ≤ 1000000000000 then some l else none
theorem clone_empty (base : Nat) (W : World) (hb : base ≤ W.heap.size) : Kd.R k54 54 (W.alloc (.cells #[] 54)) base (fun _ => True) (.slice (some ⟨W.heap.size, 0, none⟩) 0 0) [] :=
  ⟨fun _ _ => trivial, [], ⟨rfl, .inr ⟨W.heap.size, 0, #[], rfl, hb, heap_alloc_new W _, Nat.le_refl _, Nat.zero_le _, rfl, rfl⟩⟩, Reps.none _ _⟩
set_option maxHeartbeats 2000000 in
set_option maxRecDepth 100000 in
theorem api_Attr_39.calls (A : Option Addr) (c : Nat) (l r : List S54) (w : World) (hr : Kd.C k54 w A l.length l) (hc : l.length ≤ c) (h : api_Attr_39.f l = some r) :
    Calls Tryd.prog 39 #[.slice A l.length c] w fun e w' => ∃ v, e = .returned v ∧ Kd.R k54 54 w' w.heap.size (fun _ => True) v r ∧ Below w.heap.size w w' := by
  unfold api_Attr_39.f at h
  by_cases hm : l.length ≤ 1000000000000
  case neg => rw [if_neg hm] at h; cases h
  rw [if_pos hm] at h
  obtain rfl := Option.some.inj h
  clear h
  have HR := Aside0.mk hr
  clear hr
  have hnil : ∀ (W : World), (binOp .eql 34 (.slice none l.length c) (.slice none 0 0)).run Tryd.prog W = .ok (.bool true) W := fun W => by kernel_rfl
  have hsome : ∀ (W : World) (ad : Addr), (binOp .eql 34 (.slice (some ad) l.length c) (.slice none 0 0)).run Tryd.prog W = .ok (.bool false) W := fun W ad => by kernel_rfl
  have hnil0 : ∀ (W : World), (binOp .eql 34 (.slice none 0 c) (.slice none 0 0)).run Tryd.prog W = .ok (.bool true) W := fun W => by kernel_rfl
  cases A with
  | none =>
    have hl : l = [] := by
      cases l with
      | nil => rfl
      | cons x t =>
        obtain ⟨ad, e, _⟩ := at_T54 HR.out 0 (by omega) (by simp only [List.length_cons]; omega)
        cases e
    subst hl
    go_enter Tryd.func39, Tryd.ntmps39
    go_wp2
    go_ret
    exact ⟨_, rfl, Kd.R_nil _ _ _ _ _, Below.refl _ _⟩
  | some ad =>
    have hal := (Below.refl w.heap.size w).alloc (Nat.le_refl _) (.cells #[] 54)
    have HO := Aside0.mk (clone_empty w.heap.size w (Nat.le_refl _))
    have HB := Aside0.mk hal
    have HC := Aside0.mk (Kd.C_below HR.out hal)
    clear hal HR
    go_enter Tryd.func39, Tryd.ntmps39
    go_wp2_with (at_builtin; refine Kd.R_append_rows k54 (w0 := w) w.heap.size rfl _ _ 34 54 (.agg #[(.string ⟨#[]⟩), (.string ⟨#[]⟩)]) 32 rfl Tryd.underlying34 info54 rfl (by decide) (by omega) _ [] l _ _ _ (fun _ => True) (fun _ => False) rfl rfl HO.out HC.out (fun _ _ h => h) (fun _ h => h.elim) (fun _ _ => trivial) HB.out HB.out.size (by simp only [List.length_nil]; omega) ?_)
    intro v1 w1 h1 h2 h3 h4
    go_wp2
    go_ret
    exact ⟨_, rfl, h1, h2⟩
end Go.Proofs.YtealmfcimoomlaaDoor.PA
