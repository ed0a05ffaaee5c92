/- Texts of this claim, one behind the other: OpensT, UOne04, POne04, PureMarkupOne. Conditions: those of each theorem. -/
import Derived.Test.YtealmfcimoomlaaGreatDoorGL
import Derived.Test.YtealmfcimoomlaaGreatDoorPOk
import Derived.Test.YtealmfcimoomlaaGreatDoorUMarkLib
import Derived.Test.YtealmfcimoomlaaGreatDoorUSame
import Derived.Test.YtealmfcimoomlaaGreatDoorPText
/- What comes in as a forest stands in memory as the print's kind says: trees in trees, by the depth of the reading. -/
namespace Go.Proofs.YtealmfcimoomlaaGreatDoor.PA
open Go.RowKit Go.Proofs.YtealmfcimoomlaaGreatDoorW.PrintWords Go.Proofs.YtealmfcimoomlaaGreatDoorW.PrintLast Go.Proofs.YtealmfcimoomlaaGreatDoorW.PrintMore
set_option linter.unusedVariables false
set_option linter.unusedSimpArgs false
/-- As 'Opens', for readings that go so deep. -/
def OpensF (F : Nat) (P : Program) (t : TypeId) {α : Type} (d : Kd α) (Q : α → Prop) : Prop :=
  ∀ {H : Type} {enc : TypeId × Value → H} {w : World} {base : Nat} {sp : Nat → Bool} {held : Bool} {fuel : Nat} {cs : List Value} {x : DataW H × List MemPlace},
    fuel < F → DataW.trod enc P w base sp held fuel t cs = some x → (∀ n ∈ x.1.weights P t, n ≤ reachBytes) → ∃ a : α, d.K w a cs ∧ Q a
section
variable {P : Program} {t e : TypeId} {α β : Type} {F : Nat}
theorem OpensF.of {d : Kd α} {Q : α → Prop} (h : Opens P t d Q) : OpensF F P t d Q := fun _ hx hw => h hx hw
theorem OpensF.less {d : Kd α} {Q : α → Prop} {F' : Nat} (h : OpensF F' P t d Q) (hF : F ≤ F') : OpensF F P t d Q := fun hf hx hw => h (Nat.lt_of_lt_of_le hf hF) hx hw
theorem OpensF.all {d : Kd α} {Q : α → Prop} (h : ∀ F, OpensF F P t d Q) : Opens P t d Q := fun {_ _ _ _ _ _ fuel _ _} hx hw => h (fuel + 1) (Nat.lt_succ_self _) hx hw
theorem OpensF.slice {d : Kd α} {Q : α → Prop} {m : Nat} (hu : P.underlying t = some (.slice e)) (hc : P.cellsOf e = d.sz) (hb : P.bytesOf e = m) (he : OpensF F P e d Q) : OpensF (F + 1) P t (Kd.slice e d) (fun l => (∀ a ∈ l, Q a) ∧ l.length * m ≤ 140737488351232) := by
  intro H enc w base sp held fuel cs x hF hx hw
  rcases DataW.trod_slice hu hx with ⟨rfl, rfl⟩ | ⟨a, len, cap, elems, rest, n, rfl, rfl, rfl, hbase, hlc, hcm, hlen, hel, hsp, hns⟩
  · exact ⟨[], ⟨none, 0, rfl, Nat.le_refl _, rfl, by show 0 ≤ _; omega, fun h => absurd h (by show ¬ 0 < 0; omega)⟩, fun a ha => (List.not_mem_nil ha).elim, by simp⟩
  · have hall : ∀ i, i < elems.length → ∃ x : α, (∃ c, w.cells? base (a.add (i * P.cellsOf e)) (P.cellsOf e) = some c ∧ d.K w x c) ∧ Q x := by
      intro i hi
      have h1 := hel i (by omega)
      rw [List.getElem?_eq_getElem hi] at h1
      obtain ⟨c, hcc, hx'⟩ := Option.bind_eq_some_iff.mp h1
      obtain ⟨x, hk, hq⟩ := he (by omega) hx' (fun n hn => hw n (by
        simp only [DataW.weights, hu, List.mem_cons, List.mem_append]
        exact .inr (.inl (weightsAll_mem (ds := elems.map (·.1)) (j := i) (by rw [List.getElem?_map, List.getElem?_eq_getElem hi]; rfl) n hn))))
      exact ⟨x, ⟨c, hcc, hk⟩, hq⟩
    obtain ⟨xs, hxl, hxs⟩ := list_choose elems.length hall
    have hwl := hw ((elems.length + rest.length) * m) (by simp [DataW.weights, hu, hb])
    refine ⟨xs, ⟨some a, cap, by rw [hxl, hlen], by omega, rfl, by unfold maxLen at hcm; omega, fun _ => ⟨a, rfl, fun j p hj => ?_⟩⟩, fun y hy => ?_, ?_⟩
    · obtain ⟨⟨c, hcc, hk⟩, _⟩ := hxs j p hj
      obtain ⟨_, hcl, hat⟩ := World.cells?_some hcc
      refine ⟨c, d.K_len hk, hk, fun i u hi => ?_⟩
      have hil : i < P.cellsOf e := by
        have := (List.getElem?_eq_some_iff.1 hi).1
        omega
      rw [← Go.Deep.add_add, ← hc, hat i hil]
      exact hi
    · obtain ⟨i, hi⟩ := List.getElem?_of_mem hy
      exact (hxs i y hi).2
    · have : xs.length * m ≤ (elems.length + rest.length) * m := Nat.mul_le_mul_right _ (by omega)
      exact Nat.le_trans this hwl
def OpensLF (F : Nat) (P : Program) (fs : List Field) (off tot : Nat) {α : Type} (d : Kd α) (Q : α → Prop) : Prop :=
  ∀ {H : Type} {enc : TypeId × Value → H} {w : World} {base : Nat} {sp : Nat → Bool} {held : Bool} {n : Nat} {cs : List Value} {xs : List (DataW H × List MemPlace)}, n < F → cs.length = tot → xs.length = fs.length →
    (∀ (i : Nat) (f : Field), fs[i]? = some f → DataW.trod enc P w base sp held n f.type ((cs.drop f.offset).take (P.cellsOf f.type)) = xs[i]?) →
    (∀ n ∈ DataW.weightsEach P (fs.map (·.type)) (xs.map (·.1)), n ≤ reachBytes) → ∃ a : α, d.K w a (cs.drop off) ∧ Q a
theorem OpensLF.one {f : Field} {off tot : Nat} {d : Kd α} {Q : α → Prop} (ho : f.offset = off) (hc : P.cellsOf f.type = d.sz) (ht : off + d.sz = tot) (h : OpensF F P f.type d Q) : OpensLF F P [f] off tot d Q := by
  intro H enc w base sp held n cs xs hF hl hxl hx hw
  match xs, hxl with
  | [x], _ =>
    have h1 := hx 0 f rfl
    rw [ho, hc, List.take_of_length_le (by rw [List.length_drop]; omega)] at h1
    exact h hF h1 (fun m hm => hw m (by simpa [DataW.weightsEach] using hm))
theorem OpensLF.cons {f : Field} {fs : List Field} {off tot : Nat} {d : Kd α} {d' : Kd β} {Q : α → Prop} {Q' : β → Prop} (ho : f.offset = off) (hc : P.cellsOf f.type = d.sz) (ht : off + d.sz ≤ tot) (h : OpensF F P f.type d Q) (hs : OpensLF F P fs (off + d.sz) tot d' Q') :
    OpensLF F P (f :: fs) off tot (Kd.pair d d') (fun a => Q a.1 ∧ Q' a.2) := by
  intro H enc w base sp held n cs xs hF hl hxl hx hw
  match xs, hxl with
  | x :: xs, hxl =>
    have h1 := hx 0 f rfl
    rw [ho, hc] at h1
    obtain ⟨a, ha, hq⟩ := h hF h1 (fun m hm => hw m (by simp only [List.map_cons, DataW.weightsEach, List.mem_append]; exact .inl hm))
    obtain ⟨b, hb, hq'⟩ := hs (xs := xs) hF hl (by simpa using hxl) (fun i g hg => hx (i + 1) g (by simpa using hg)) (fun m hm => hw m (by simp only [List.map_cons, DataW.weightsEach, List.mem_append]; exact .inr hm))
    refine ⟨(a, b), ⟨_, _, ?_, ha, hb⟩, hq, hq'⟩
    rw [← List.drop_drop, List.take_append_drop]
theorem OpensF.struct {fs : Array Field} {tot : Nat} {d : Kd α} {Q : α → Prop} (hu : P.underlying t = some (.struct fs)) (hc : P.cellsOf t = tot) (h : OpensLF F P fs.toList 0 tot d Q) : OpensF (F + 1) P t d Q := by
  intro H enc w base sp held fuel cs x hF hx hw
  obtain ⟨xs, n, rfl, rfl, hl, hxl, hall⟩ := DataW.trod_struct hu hx
  obtain ⟨a, ha, hq⟩ := h (xs := xs) (cs := cs) (by omega) (by omega) (by simpa using hxl) (fun i f hf => hall i f (by simpa using hf)) (fun m hm => hw m (by simpa [DataW.weights, hu] using hm))
  exact ⟨a, by simpa using ha, hq⟩
theorem OpensF.zero {d : Kd α} {Q : α → Prop} : OpensF 0 P t d Q := fun h => absurd h (Nat.not_lt_zero _)
end
theorem opensAttr54 : Opens Tryz.prog 61 k61 (fun a => a.f0.size ≤ 140737488351232 ∧ a.f1.size ≤ 140737488351232) :=
  Opens.iso (fun x : S61 => (x.f0, x.f1)) (fun a => ⟨a.1, a.2⟩) (fun _ => rfl) (Opens.struct (tot := 2) Tryz.underlying61 (by kernel_rfl) (OpensL.cons (by rfl) (by kernel_rfl) (by decide) (Opens.string Tryz.underlying9) (OpensL.one (by rfl) (by kernel_rfl) (by decide) (Opens.string Tryz.underlying9))))
theorem opensAttrs54 : Opens Tryz.prog 33 (Kd.slice 61 k61) (fun l => (∀ a ∈ l, a.f0.size ≤ 140737488351232 ∧ a.f1.size ≤ 140737488351232) ∧ l.length * 32 ≤ 140737488351232) := Opens.slice Tryz.underlying33 (by kernel_rfl) (by kernel_rfl) opensAttr54
theorem opensTree_step (F : Nat) (ih : OpensF F Tryz.prog 35 k35 okT) : OpensF (F + 1) Tryz.prog 35 k35 okT := by
  have hk : OpensF F Tryz.prog 22 (Kd.slice 35 k35) (fun l => (∀ a ∈ l, okT a) ∧ l.length * 88 ≤ 140737488351232) := OpensF.less (F' := F + 1) (OpensF.slice Tryz.underlying22 (by kernel_rfl) (by kernel_rfl) ih) (Nat.le_succ _)
  intro H enc w base sp held fuel cs x hF hx hw
  obtain ⟨⟨f0, f1, f2, f3, f4⟩, hK, q0, q1, q2, q3, q4⟩ := OpensF.struct (F := F) (tot := 5) Tryz.underlying35 (by kernel_rfl) (OpensLF.cons (by rfl) (by kernel_rfl) (by decide) (OpensF.of (Opens.int Tryz.underlying3)) (OpensLF.cons (by rfl) (by kernel_rfl) (by decide) (OpensF.of (Opens.string Tryz.underlying9))
    (OpensLF.cons (by rfl) (by kernel_rfl) (by decide) (OpensF.of opensAttrs54) (OpensLF.cons (by rfl) (by kernel_rfl) (by decide) (OpensF.of (Opens.string Tryz.underlying9)) (OpensLF.one (by rfl) (by kernel_rfl) (by decide) hk))))) hF hx hw
  obtain ⟨_, _, rfl, rfl, ⟨_, _, rfl, rfl, ⟨_, _, rfl, ⟨A2, c2, rfl, l2, g2⟩, ⟨_, _, rfl, rfl, ⟨A4, c4, rfl, l4, g4⟩⟩⟩⟩⟩ := hK
  exact ⟨⟨f0, f1, f2, f3, f4⟩, k35_mk w ⟨f0, f1, f2, f3, f4⟩ l2 g2 l4 g4, q0, q1, q2, q3, okK_of _ q4.1, q4.2⟩
theorem opensTree : ∀ F, OpensF F Tryz.prog 35 k35 okT
  | 0 => OpensF.zero
  | F + 1 => opensTree_step F (opensTree F)
theorem opensTrees : Opens Tryz.prog 22 (Kd.slice 35 k35) (fun l => (∀ a ∈ l, okT a) ∧ l.length * 88 ≤ 140737488351232) :=
  Opens.slice Tryz.underlying22 (by kernel_rfl) (by kernel_rfl) (OpensF.all opensTree)
end Go.Proofs.YtealmfcimoomlaaGreatDoor.PA

/- espalierlaw04.MarkupOne: the walk. -/
namespace Go.Proofs.YtealmfcimoomlaaGreatDoor.PA
open Go.RowKit Go.Proofs.YtealmfcimoomlaaGreatDoorW.PrintWords Go.Proofs.YtealmfcimoomlaaGreatDoorW.PrintLast Go.Proofs.YtealmfcimoomlaaGreatDoorW.PrintMore
set_option linter.unusedVariables false
set_option linter.unusedSimpArgs false
/-- What the law asks. -/
structure OneAsks (k : Nat) (f g : List S35) (r : Bool) : Prop where
  yes : r = true
  cf : espalierlaw04_Copied.f f
  cg : espalierlaw04_Copied.f g
  same : ∃ b s e t h, markup_Same.f k f g = some b ∧ markup_Same.f k g f = some b ∧ markup_Print.f k f = some (s, e) ∧ markup_Print.f k g = some (t, h) ∧ (e = 0 → h = 0 → b = true → s = t)
  self : markup_Same.f k f f = some true
set_option maxHeartbeats 16000000 in
set_option maxRecDepth 100000 in
theorem espalierlaw04_MarkupOne.calls (k : Nat) (A0 : Option Addr) (c0 : Nat) (f : List S35) (A1 : Option Addr) (c1 : Nat) (g : List S35) (r : Bool) (w : World) (hr0 : Kd.C k35 w A0 f.length f) (hc0 : f.length ≤ c0) (hr1 : Kd.C k35 w A1 g.length g) (hc1 : g.length ≤ c1) (h : OneAsks k f g r) (hG : Glob w := by first | exact Glob.step HG.out (by repeat (first | (with_reducible first | exact HB.out | apply below_alloc | apply pw_below_drewN | apply below_drew1) | exact HB.out | (refine below_set ?_ (Aside0.out (by assumption))))) | exact HG.out | assumption) (hG2 : Glob2 w := by first | exact Glob2.step HG2.out (by repeat (first | (with_reducible first | exact HB.out | apply below_alloc | apply pw_below_drewN | apply below_drew1) | exact HB.out | (refine below_set ?_ (Aside0.out (by assumption))))) | exact HG2.out | assumption) (hG3 : Glob3 w := by first | exact Glob3.step HG3.out (by repeat (first | (with_reducible first | exact HB.out | apply below_alloc | apply pw_below_drewN | apply below_drew1) | exact HB.out | (refine below_set ?_ (Aside0.out (by assumption))))) | exact HG3.out | assumption) :
    Calls Tryz.prog 5 #[.slice A0 f.length c0, .slice A1 g.length c1] w fun e w' => e = .returned (.bool r) ∧ Below w.heap.size w w' := by
  obtain ⟨rfl, cf, cg, ⟨b, s, e1, t, e2, h1, h2, h3, h4, h5⟩, h6⟩ := h
  have CL := Aside0.mk (lives_calls w ⟨w, rfl, hG, hG2, hG3, Below.refl _ _⟩)
  have HG := Aside0.mk hG
  have HF := Aside0.mk hr0
  have HFC := Aside0.mk hc0
  have HGR := Aside0.mk hr1
  have HGC := Aside0.mk hc1
  have H1 := Aside0.mk h1
  have H2 := Aside0.mk h2
  have H3 := Aside0.mk h3
  have H4 := Aside0.mk h4
  have H5 := Aside0.mk h5
  have H6 := Aside0.mk h6
  have HCF := Aside0.mk cf
  have HCG := Aside0.mk cg
  clear hG hG2 hG3 hr0 hc0 hr1 hc1 h1 h2 h3 h4 h5 h6 cf cg
  go_enter Tryz.func5, Tryz.ntmps5
  go_wp2_with (go_at_call 13; refine CL.out.mono ?_; rintro x w1 ⟨rfl, hB1⟩; have HB1 := Aside0.mk hB1; clear hB1 CL)
  have HP := Aside0.mk (markup_Same.calls k A0 c0 f A1 c1 g b w1 (Kd.C_below HF.out HB1.out) HFC.out (Kd.C_below HGR.out HB1.out) HGC.out H1.out)
  go_wp2_with (go_at_call 18; refine HP.out.mono ?_)
  rintro x w2 ⟨rfl, hB2⟩
  have HB2 := Aside0.mk (HB1.out.trans (hB2.mono HB1.out.size))
  clear hB2 HP
  have HP := Aside0.mk (markup_Same.calls k A1 c1 g A0 c0 f b w2 (Kd.C_below HGR.out HB2.out) HGC.out (Kd.C_below HF.out HB2.out) HFC.out H2.out)
  go_wp2_with (go_at_call 18; refine HP.out.mono ?_)
  rintro x w3 ⟨rfl, hB3⟩
  have HB3 := Aside0.mk (HB2.out.trans (hB3.mono HB2.out.size))
  clear hB3 HP
  have HP := Aside0.mk (espalierlaw04_Copied.calls A0 c0 f w3 (Kd.C_below HF.out HB3.out) HFC.out HCF.out)
  go_wp2_with (go_at_call 19; refine HP.out.mono ?_)
  rintro e w4 ⟨v1, rfl, hR1, hB4⟩
  obtain ⟨Ai, ci, rfl⟩ := Kd.R_slice hR1
  have HI1 := Aside0.mk ((Kd.R_reads' hR1).2)
  have HB4 := Aside0.mk (HB3.out.trans (hB4.mono HB3.out.size))
  clear hR1 hB4 HP
  have HP := Aside0.mk (markup_Print.calls k Ai ci f s e1 w4 HI1.out.2 HI1.out.1 H3.out (Glob.step HG.out HB4.out))
  go_wp2_with (go_at_call 17; refine HP.out.mono ?_)
  rintro e w5 ⟨rfl, hB5⟩
  have HB5 := Aside0.mk (HB4.out.trans (hB5.mono HB4.out.size))
  clear HP hB5 HI1
  have HP := Aside0.mk (espalierlaw04_Copied.calls A1 c1 g w5 (Kd.C_below HGR.out HB5.out) HGC.out HCG.out)
  go_wp2_with (go_at_call 19; refine HP.out.mono ?_)
  rintro e w6 ⟨v2, rfl, hR2, hB6⟩
  obtain ⟨Aj, cj, rfl⟩ := Kd.R_slice hR2
  have HI2 := Aside0.mk ((Kd.R_reads' hR2).2)
  have HB6 := Aside0.mk (HB5.out.trans (hB6.mono HB5.out.size))
  clear hR2 hB6 HP
  have HP := Aside0.mk (markup_Print.calls k Aj cj g t e2 w6 HI2.out.2 HI2.out.1 H4.out (Glob.step HG.out HB6.out))
  go_wp2_with (go_at_call 17; refine HP.out.mono ?_)
  rintro e w7 ⟨rfl, hB7⟩
  have HB7 := Aside0.mk (HB6.out.trans (hB7.mono HB6.out.size))
  clear HP hB7 HI2
  have hbb : (b != b) = false := by simp
  have HP := Aside0.mk (espalierlaw04_Copied.calls A0 c0 f w7 (Kd.C_below HF.out HB7.out) HFC.out HCF.out)
  go_wp2_with (go_at_call 19; refine HP.out.mono ?_)
  rintro e w8 ⟨v3, rfl, hR3, hB8⟩
  obtain ⟨Ak, ck, rfl⟩ := Kd.R_slice hR3
  have HI3 := Aside0.mk ((Kd.R_reads' hR3).2)
  have HB8 := Aside0.mk (HB7.out.trans (hB8.mono HB7.out.size))
  clear hR3 hB8 HP
  have HP := Aside0.mk (markup_Same.calls k A0 c0 f Ak ck f true w8 (Kd.C_below HF.out HB8.out) HFC.out HI3.out.2 HI3.out.1 H6.out)
  by_cases h1 : e1 = 0
  case neg =>
    have f0 : (e1 != 0) = true := bne_iff_ne.mpr h1
    have f1 : (e1 == 0) = false := beq_eq_false_iff_ne.mpr h1
    clear h1
    go_wp2_with (go_at_call 18; refine HP.out.mono ?_; rintro x w9 ⟨rfl, hB9⟩; have HB9 := Aside0.mk (HB8.out.trans (hB9.mono HB8.out.size)); clear hB9 HP)
    go_ret
    exact ⟨rfl, HB9.out⟩
  by_cases h2 : e2 = 0
  case neg =>
    have f0 : (e2 != 0) = true := bne_iff_ne.mpr h2
    have f1 : (e2 == 0) = false := beq_eq_false_iff_ne.mpr h2
    have g0 : (e1 != 0) = false := by rw [h1]; rfl
    have g1 : (e1 == 0) = true := by rw [h1]; rfl
    clear h1 h2
    go_wp2_with (go_at_call 18; refine HP.out.mono ?_; rintro x w9 ⟨rfl, hB9⟩; have HB9 := Aside0.mk (HB8.out.trans (hB9.mono HB8.out.size)); clear hB9 HP)
    go_ret
    exact ⟨rfl, HB9.out⟩
  have H5' := Aside0.mk (H5.out h1 h2)
  have g0 : (e1 != 0) = false := by rw [h1]; rfl
  have g1 : (e1 == 0) = true := by rw [h1]; rfl
  have g2 : (e2 != 0) = false := by rw [h2]; rfl
  have g3 : (e2 == 0) = true := by rw [h2]; rfl
  clear h1 h2 H5 hbb
  cases b with
  | false =>
    have hbb : (false != false) = false := rfl
    go_wp2_with (go_at_call 18; refine HP.out.mono ?_; rintro x w9 ⟨rfl, hB9⟩; have HB9 := Aside0.mk (HB8.out.trans (hB9.mono HB8.out.size)); clear hB9 HP)
    go_ret
    exact ⟨rfl, HB9.out⟩
  | true =>
    obtain rfl := H5'.out rfl
    have hss : (s.toList == s.toList) = true := by simp
    have hbb : (true != true) = false := rfl
    go_wp2_with (go_at_call 18; refine HP.out.mono ?_; rintro x w9 ⟨rfl, hB9⟩; have HB9 := Aside0.mk (HB8.out.trans (hB9.mono HB8.out.size)); clear hB9 HP)
    go_ret
    exact ⟨rfl, HB9.out⟩
end Go.Proofs.YtealmfcimoomlaaGreatDoor.PA

/- Same: turned about it is the same; what is the same prints the same. -/
namespace Go.Proofs.YtealmfcimoomlaaGreatDoor.PA
open Go.RowKit Go.Proofs.YtealmfcimoomlaaGreatDoorW.PrintWords Go.Proofs.YtealmfcimoomlaaGreatDoorW.PrintLast Go.Proofs.YtealmfcimoomlaaGreatDoorW.PrintMore
set_option linter.unusedVariables false
set_option linter.unusedSimpArgs false
theorem list_eq {s t : ByteArray} (e : s.toList = t.toList) : s = t := by
  rw [Lib.toList_data, Lib.toList_data] at e
  cases s; cases t
  simp only at e
  congr 1
  exact Array.toList_inj.mp e
theorem neA_iff (a b : S61) : neA a b = false ↔ a = b := by
  unfold neA
  obtain ⟨a0, a1⟩ := a
  obtain ⟨b0, b1⟩ := b
  simp only [Bool.or_eq_false_iff, Bool.not_eq_false', beq_iff_eq]
  constructor
  · rintro ⟨h1, h2⟩; rw [list_eq h1, list_eq h2]
  · intro h; injection h with h1 h2; rw [h1, h2]; exact ⟨rfl, rfl⟩
theorem attrsSame_iff : ∀ (l m : List S61), l.length = m.length → (attrsSame l m = true ↔ l = m)
  | [], [], _ => by simp [attrsSame]
  | a :: l, b :: m, h => by
    rw [attrsSame]
    have ih := attrsSame_iff l m (by simpa using h)
    cases hn : neA a b with
    | true =>
      rw [if_pos rfl]
      constructor
      · intro h; cases h
      · intro h; injection h with h1 h2; rw [(neA_iff a b).mpr h1] at hn; cases hn
    | false =>
      rw [if_neg (by decide), ih, (neA_iff a b).mp hn]
      simp
  | [], _ :: _, h => by simp at h
  | _ :: _, [], h => by simp at h
theorem attrsEq_iff (l m : List S61) : attrsEq l m = true ↔ l = m := by
  unfold attrsEq
  by_cases h : l.length = m.length
  · rw [if_pos h]; exact attrsSame_iff l m h
  · rw [if_neg h]
    constructor
    · intro h; cases h
    · intro e; rw [e] at h; exact absurd rfl h
mutual
theorem sameT_turn : ∀ (a b : S35), sameTE a b = true → sameTE b a = true
  | ⟨a0, a1, a2, a3, a4⟩, ⟨b0, b1, b2, b3, b4⟩, h => by
    rw [sameTE] at h ⊢
    simp only at h ⊢
    by_cases h0 : a0 = b0
    · subst h0
      have e0 : (a0 != a0) = false := by simp
      rw [e0, if_neg (by decide)] at h ⊢
      by_cases h1 : (a0 == 1) = true
      · rw [if_pos h1] at h ⊢
        by_cases h2 : (a1.toList == b1.toList) = true
        · rw [if_pos h2] at h
          have h2' := list_eq (beq_iff_eq.mp h2)
          subst h2'
          rw [if_pos h2]
          by_cases h3 : attrsEq a2 b2 = true
          · rw [if_pos h3] at h
            have h3' := (attrsEq_iff _ _).mp h3
            subst h3'
            rw [if_pos h3]
            by_cases h4 : a4.length = b4.length
            · rw [if_pos h4] at h
              rw [if_pos h4.symm]
              exact sameL_turn a4 b4 h4 h
            · rw [if_neg h4] at h; cases h
          · rw [if_neg h3] at h; cases h
        · rw [if_neg h2] at h; cases h
      · rw [if_neg h1] at h ⊢
        by_cases h2 : (a0 == 2) = true
        · rw [if_pos h2] at h ⊢
          rw [beq_iff_eq] at h ⊢
          exact h.symm
        · rw [if_neg h2]
    · have e0 : (a0 != b0) = true := bne_iff_ne.mpr h0
      rw [e0, if_pos rfl] at h
      cases h
theorem sameL_turn : ∀ (l m : List S35), l.length = m.length → sameLE l m = true → sameLE m l = true
  | [], [], _, _ => by rw [sameLE]
  | a :: l, b :: m, hl, h => by
    rw [sameLE] at h ⊢
    by_cases h1 : sameTE a b = true
    · rw [if_pos h1] at h
      rw [if_pos (sameT_turn a b h1)]
      exact sameL_turn l m (by simpa using hl) h
    · rw [if_neg h1] at h; cases h
  | [], _ :: _, h, _ => by simp at h
  | _ :: _, [], h, _ => by simp at h
end
theorem sameE_turn (l m : List S35) : sameE l m = sameE m l := by
  have key : ∀ l m, sameE l m = true → sameE m l = true := by
    intro l m h
    unfold sameE at h ⊢
    by_cases hl : l.length = m.length
    · rw [if_pos hl] at h
      rw [if_pos hl.symm]
      exact sameL_turn l m hl h
    · rw [if_neg hl] at h; cases h
  cases h1 : sameE l m with
  | true => exact (key l m h1).symm
  | false =>
    cases h2 : sameE m l with
    | false => rfl
    | true => rw [key m l h2] at h1; cases h1
mutual
theorem sameT_print : ∀ (a b : S35), sameTE a b = true → goodT a → solid a = solid b ∧ ∀ x, ptreeE a x = ptreeE b x
  | ⟨a0, a1, a2, a3, a4⟩, ⟨b0, b1, b2, b3, b4⟩, h, hg => by
    rw [sameTE] at h
    simp only at h
    by_cases h0 : a0 = b0
    · subst h0
      have e0 : (a0 != a0) = false := by simp
      rw [e0, if_neg (by decide)] at h
      rcases hg with ⟨rfl, -, -, -, hk⟩ | ⟨rfl, -⟩
      · rw [if_pos (by decide)] at h
        by_cases h2 : (a1.toList == b1.toList) = true
        · rw [if_pos h2] at h
          have h2' := list_eq (beq_iff_eq.mp h2)
          subst h2'
          by_cases h3 : attrsEq a2 b2 = true
          · rw [if_pos h3] at h
            have h3' := (attrsEq_iff _ _).mp h3
            subst h3'
            by_cases h4 : a4.length = b4.length
            · rw [if_pos h4] at h
              obtain ⟨k1, k2⟩ := sameL_print a4 b4 h4 h hk
              refine ⟨rfl, fun x => ?_⟩
              rw [ptreeE, ptreeE, k1]
              simp only [k2, if_neg (show ¬ (1 : Int) = 2 by decide)]
            · rw [if_neg h4] at h; cases h
          · rw [if_neg h3] at h; cases h
        · rw [if_neg h2] at h; cases h
      · rw [if_neg (by decide), if_pos (by decide)] at h
        have h2' := list_eq (beq_iff_eq.mp h)
        subst h2'
        refine ⟨rfl, fun x => ?_⟩
        rw [ptreeE, ptreeE]
        simp
    · have e0 : (a0 != b0) = true := bne_iff_ne.mpr h0
      rw [e0, if_pos rfl] at h
      cases h
theorem sameL_print : ∀ (l m : List S35), l.length = m.length → sameLE l m = true → goodK l → l.any solid = m.any solid ∧ ∀ x, pkidsE l x = pkidsE m x
  | [], [], _, _, _ => ⟨rfl, fun _ => rfl⟩
  | a :: l, b :: m, hl, h, hg => by
    rw [sameLE] at h
    by_cases h1 : sameTE a b = true
    · rw [if_pos h1] at h
      obtain ⟨p1, p2⟩ := sameT_print a b h1 hg.1
      obtain ⟨q1, q2⟩ := sameL_print l m (by simpa using hl) h hg.2
      refine ⟨by rw [List.any_cons, List.any_cons, p1, q1], fun x => ?_⟩
      rw [pkidsE, pkidsE, p2, q2]
    · rw [if_neg h1] at h; cases h
  | [], _ :: _, h, _, _ => by simp at h
  | _ :: _, [], h, _, _ => by simp at h
end
theorem sameE_print (l m : List S35) (h : sameE l m = true) (h1 : (printE l).2 = 0) (h2 : (printE m).2 = 0) : (printE l).1 = (printE m).1 := by
  unfold sameE at h
  by_cases hl : l.length = m.length
  · rw [if_pos hl] at h
    have hc : canE l = 0 := by
      by_cases hc : canE l = 0
      · exact hc
      · unfold printE at h1; rw [if_neg hc] at h1; exact absurd h1 hc
    have hc2 : canE m = 0 := by
      by_cases hc : canE m = 0
      · exact hc
      · unfold printE at h2; rw [if_neg hc] at h2; exact absurd h2 hc
    have hp := (sameL_print l m hl h (canE_good hc).1).2 []
    unfold printE
    rw [if_pos hc, if_pos hc2, hp]
  · rw [if_neg hl] at h; cases h
end Go.Proofs.YtealmfcimoomlaaGreatDoor.PA

/- MarkupOne, in plain: at so many rounds all that the law asks is so. -/
namespace Go.Proofs.YtealmfcimoomlaaGreatDoor.Pure
open Go.RowKit Go.Proofs.YtealmfcimoomlaaGreatDoorW.PrintWords Go.Proofs.YtealmfcimoomlaaGreatDoorW.PrintLast Go.Proofs.YtealmfcimoomlaaGreatDoorW.PrintMore Go.Proofs.YtealmfcimoomlaaGreatDoor.PA
set_option linter.unusedVariables false
theorem len_of {l : List S35} (h : l.length * 88 ≤ 140737488351232) : l.length ≤ 1599289640354 := by omega
theorem MarkupOne (f g : List S35) (q0 : (∀ a ∈ f, okT a) ∧ f.length * 88 ≤ 140737488351232) (q1 : (∀ a ∈ g, okT a) ∧ g.length * 88 ≤ 140737488351232) : ∃ k, OneAsks k f g true := by
  have hf := okK_of f q0.1
  have hg := okK_of g q1.1
  have lf := len_of q0.2
  have lg := len_of q1.2
  obtain ⟨K1, e1⟩ := same_evP f g hf
  obtain ⟨K2, e2⟩ := same_evP g f hg
  obtain ⟨K3, e3⟩ := print_evP f hf (by omega)
  obtain ⟨K4, e4⟩ := print_evP g hg (by omega)
  obtain ⟨K5, e5⟩ := same_evP f f hf
  have h1 := e1 (K1 + K2 + K3 + K4 + K5) (by omega)
  have h2 := e2 (K1 + K2 + K3 + K4 + K5) (by omega)
  have h3 := e3 (K1 + K2 + K3 + K4 + K5) (by omega)
  have h4 := e4 (K1 + K2 + K3 + K4 + K5) (by omega)
  have h5 := e5 (K1 + K2 + K3 + K4 + K5) (by omega)
  rw [sameE_refl] at h5
  rw [sameE_turn g f] at h2
  refine ⟨K1 + K2 + K3 + K4 + K5, rfl, ⟨by omega, copyK_ok f hf⟩, ⟨by omega, copyK_ok g hg⟩, ⟨sameE f g, (printE f).1, (printE f).2, (printE g).1, (printE g).2, h1, h2, h3, h4, fun a b c => sameE_print f g c a b⟩, h5⟩
end Go.Proofs.YtealmfcimoomlaaGreatDoor.Pure
