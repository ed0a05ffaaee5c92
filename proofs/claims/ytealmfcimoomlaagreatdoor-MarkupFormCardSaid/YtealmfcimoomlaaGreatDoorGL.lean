/- Texts of this claim, one behind the other: PureMarkupWhere, Opens, GL. Conditions: those of each theorem. -/
import Derived.Test.YtealmfcimoomlaaGreatDoorUWhere04
import Derived.Test.YtealmfcimoomlaaGreatDoorUBuild
import Derived.ChangeArms
import Derived.SizedLaws
import Derived.Deep.Slices
import Derived.Deep.Fields
import Derived.KernelRfl
import Derived.Test.YtealmfcimoomlaaGreatDoorG
import Derived.Test.YtealmfcimoomlaaGreatDoorRows
import Derived.Test.YtealmfcimoomlaaGreatDoorUUtf8
import Derived.Lib.LaidU8T
import Derived.PinnedBridge
import Derived.HandedShaped
import Derived.Shelf.Vars
import Derived.LaidLaws
import Derived.Lib.ItoaNum
import Derived.Lib.LaidTab
/- MarkupWhere, in plain: at so many rounds all that the law asks is so. -/
namespace Go.Proofs.YtealmfcimoomlaaGreatDoor.Pure
open Go.RowKit Go.Proofs.YtealmfcimoomlaaGreatDoorW.PrintWords Go.Proofs.YtealmfcimoomlaaGreatDoorW.PrintLast Go.Proofs.YtealmfcimoomlaaGreatDoorW.PrintMore Go.Proofs.YtealmfcimoomlaaGreatDoor.PA
set_option linter.unusedVariables false
theorem MarkupWhere (text : ByteArray) (a : Int) (q0 : text.size ≤ 140737488351232) (q1 : (Lit.int .i64 a).wf = true) : ∃ k, WhereAsks k text a true := by
  obtain ⟨K1, e1⟩ := where_evP text q0 a
  obtain ⟨K2, e2⟩ := where_evP text q0 (a + 1)
  exact ⟨K1 + K2, rfl, q0, e1 _ (by omega), e2 _ (by omega)⟩
end Go.Proofs.YtealmfcimoomlaaGreatDoor.Pure

/- What comes in, read as data, stands in memory as the print's kinds say: for numbers, bools, texts, slices and structs of such. -/
namespace Go.Proofs.YtealmfcimoomlaaGreatDoor.PA
open Go.RowKit Go.Proofs.YtealmfcimoomlaaGreatDoorW.PrintWords Go.Proofs.YtealmfcimoomlaaGreatDoorW.PrintLast Go.Proofs.YtealmfcimoomlaaGreatDoorW.PrintMore
set_option linter.unusedVariables false
set_option linter.unusedSimpArgs false
/-- Data of type t, all of whose parts are within the reach, stand as the kind d says, and are such as Q says. -/
def Opens (P : Program) (t : TypeId) {α : Type} (d : Kd α) (Q : α → Prop) : Prop :=
  ∀ {H : Type} {enc : TypeId × Value → H} {w : World} {base : Nat} {sp : Nat → Bool} {held : Bool} {fuel : Nat} {cs : List Value} {x : DataW H × List MemPlace},
    DataW.trod enc P w base sp held fuel t cs = some x → (∀ n ∈ x.1.weights P t, n ≤ reachBytes) → ∃ a : α, d.K w a cs ∧ Q a
section
variable {P : Program} {t e : TypeId} {α β : Type}
theorem Opens.imp {d : Kd α} {Q Q' : α → Prop} (h : Opens P t d Q) (hi : ∀ a, Q a → Q' a) : Opens P t d Q' := fun hx hw => let ⟨a, hk, hq⟩ := h hx hw; ⟨a, hk, hi a hq⟩
theorem Opens.int {k : IntKind} (hu : P.underlying t = some (.int k)) : Opens P t (Kd.int k) (fun n => (Lit.int k n).wf = true) := fun hx _ => by
  obtain ⟨n, rfl, rfl, hw⟩ := DataW.trod_int hu hx
  exact ⟨n, rfl, hw⟩
theorem Opens.bool (hu : P.underlying t = some .bool) : Opens P t Kd.bool (fun _ => True) := fun hx _ => by
  obtain ⟨n, rfl, rfl⟩ := DataW.trod_bool hu hx
  exact ⟨n, rfl, trivial⟩
theorem Opens.string (hu : P.underlying t = some .string) : Opens P t Kd.string (fun s => s.size ≤ 140737488351232) := fun hx hw => by
  obtain ⟨s, rfl, rfl, _⟩ := DataW.trod_string hu hx
  have h := hw s.data.toList.length (by simp [DataW.weights])
  rw [Array.length_toList] at h
  exact ⟨s, rfl, h⟩
theorem weightsAll_mem {H : Type} : ∀ {ds : List (DataW H)} {j : Nat} {d : DataW H}, ds[j]? = some d → ∀ n ∈ d.weights P e, n ∈ DataW.weightsAll P e ds
  | d0 :: ds, 0, d, hd, n, hn => by
    simp only [List.getElem?_cons_zero, Option.some.injEq] at hd
    subst hd
    simp only [DataW.weightsAll, List.mem_append]
    exact .inl hn
  | d0 :: ds, j + 1, d, hd, n, hn => by
    simp only [List.getElem?_cons_succ] at hd
    simp only [DataW.weightsAll, List.mem_append]
    exact .inr (weightsAll_mem hd n hn)
  | [], _, _, hd, _, _ => by simp at hd
theorem list_choose {R : Nat → α → Prop} : ∀ n, (∀ i, i < n → ∃ x, R i x) → ∃ xs : List α, xs.length = n ∧ ∀ i x, xs[i]? = some x → R i x
  | 0, _ => ⟨[], rfl, fun i x h => by simp at h⟩
  | n + 1, h => by
    obtain ⟨xs, hl, hx⟩ := list_choose n (fun i hi => h i (by omega))
    obtain ⟨x, hr⟩ := h n (by omega)
    refine ⟨xs ++ [x], by simp [hl], fun i y hy => ?_⟩
    rw [List.getElem?_append] at hy
    split at hy
    · exact hx i y hy
    · next hn =>
      have : i = n := by
        have := (List.getElem?_eq_some_iff.1 hy).1
        simp at this
        omega
      subst this
      rw [hl, Nat.sub_self] at hy
      simp only [List.getElem?_cons_zero, Option.some.injEq] at hy
      subst hy
      exact hr
theorem Opens.slice {d : Kd α} {Q : α → Prop} {m : Nat} (hu : P.underlying t = some (.slice e)) (hc : P.cellsOf e = d.sz) (hb : P.bytesOf e = m) (he : Opens P e d Q) : Opens P t (Kd.slice e d) (fun l => (∀ a ∈ l, Q a) ∧ l.length * m ≤ 140737488351232) := by
  intro H enc w base sp held fuel cs x hx hw
  rcases DataW.trod_slice hu hx with ⟨rfl, rfl⟩ | ⟨a, len, cap, elems, rest, n, rfl, rfl, rfl, hbase, hlc, hcm, hlen, hel, hsp, hns⟩
  · exact ⟨[], ⟨none, 0, rfl, Nat.le_refl _, rfl, by show 0 ≤ _; omega, fun h => absurd h (by show ¬ 0 < 0; omega)⟩, fun a ha => (List.not_mem_nil ha).elim, by simp⟩
  · have hall : ∀ i, i < elems.length → ∃ x : α, (∃ c, w.cells? base (a.add (i * P.cellsOf e)) (P.cellsOf e) = some c ∧ d.K w x c) ∧ Q x := by
      intro i hi
      have h1 := hel i (by omega)
      rw [List.getElem?_eq_getElem hi] at h1
      obtain ⟨c, hcc, hx'⟩ := Option.bind_eq_some_iff.mp h1
      obtain ⟨x, hk, hq⟩ := he hx' (fun n hn => hw n (by
        simp only [DataW.weights, hu, List.mem_cons, List.mem_append]
        exact .inr (.inl (weightsAll_mem (ds := elems.map (·.1)) (j := i) (by rw [List.getElem?_map, List.getElem?_eq_getElem hi]; rfl) n hn))))
      exact ⟨x, ⟨c, hcc, hk⟩, hq⟩
    obtain ⟨xs, hxl, hxs⟩ := list_choose elems.length hall
    have hwl := hw ((elems.length + rest.length) * m) (by simp [DataW.weights, hu, hb])
    refine ⟨xs, ⟨some a, cap, by rw [hxl, hlen], by omega, rfl, by unfold maxLen at hcm; omega, fun _ => ⟨a, rfl, fun j p hj => ?_⟩⟩, fun y hy => ?_, ?_⟩
    · obtain ⟨⟨c, hcc, hk⟩, _⟩ := hxs j p hj
      obtain ⟨_, hcl, hat⟩ := World.cells?_some hcc
      refine ⟨c, d.K_len hk, hk, fun i u hi => ?_⟩
      have hil : i < P.cellsOf e := by
        have := (List.getElem?_eq_some_iff.1 hi).1
        omega
      rw [← Go.Deep.add_add, ← hc, hat i hil]
      exact hi
    · obtain ⟨i, hi⟩ := List.getElem?_of_mem hy
      exact (hxs i y hi).2
    · have : xs.length * m ≤ (elems.length + rest.length) * m := Nat.mul_le_mul_right _ (by omega)
      exact Nat.le_trans this hwl
/-- A struct's fields from one on. -/
def OpensL (P : Program) (fs : List Field) (off tot : Nat) {α : Type} (d : Kd α) (Q : α → Prop) : Prop :=
  ∀ {H : Type} {enc : TypeId × Value → H} {w : World} {base : Nat} {sp : Nat → Bool} {held : Bool} {n : Nat} {cs : List Value} {xs : List (DataW H × List MemPlace)}, cs.length = tot → xs.length = fs.length →
    (∀ (i : Nat) (f : Field), fs[i]? = some f → DataW.trod enc P w base sp held n f.type ((cs.drop f.offset).take (P.cellsOf f.type)) = xs[i]?) →
    (∀ n ∈ DataW.weightsEach P (fs.map (·.type)) (xs.map (·.1)), n ≤ reachBytes) → ∃ a : α, d.K w a (cs.drop off) ∧ Q a
theorem OpensL.one {f : Field} {off tot : Nat} {d : Kd α} {Q : α → Prop} (ho : f.offset = off) (hc : P.cellsOf f.type = d.sz) (ht : off + d.sz = tot) (h : Opens P f.type d Q) : OpensL P [f] off tot d Q := by
  intro H enc w base sp held n cs xs hl hxl hx hw
  match xs, hxl with
  | [x], _ =>
    have h1 := hx 0 f rfl
    rw [ho, hc, List.take_of_length_le (by rw [List.length_drop]; omega)] at h1
    exact h h1 (fun m hm => hw m (by simpa [DataW.weightsEach] using hm))
theorem OpensL.cons {f : Field} {fs : List Field} {off tot : Nat} {d : Kd α} {d' : Kd β} {Q : α → Prop} {Q' : β → Prop} (ho : f.offset = off) (hc : P.cellsOf f.type = d.sz) (ht : off + d.sz ≤ tot) (h : Opens P f.type d Q) (hs : OpensL P fs (off + d.sz) tot d' Q') :
    OpensL P (f :: fs) off tot (Kd.pair d d') (fun a => Q a.1 ∧ Q' a.2) := by
  intro H enc w base sp held n cs xs hl hxl hx hw
  match xs, hxl with
  | x :: xs, hxl =>
    have h1 := hx 0 f rfl
    rw [ho, hc] at h1
    obtain ⟨a, ha, hq⟩ := h h1 (fun m hm => hw m (by simp only [List.map_cons, DataW.weightsEach, List.mem_append]; exact .inl hm))
    obtain ⟨b, hb, hq'⟩ := hs (xs := xs) hl (by simpa using hxl) (fun i g hg => hx (i + 1) g (by simpa using hg)) (fun m hm => hw m (by simp only [List.map_cons, DataW.weightsEach, List.mem_append]; exact .inr hm))
    refine ⟨(a, b), ⟨_, _, ?_, ha, hb⟩, hq, hq'⟩
    rw [← List.drop_drop, List.take_append_drop]
theorem Opens.struct {fs : Array Field} {tot : Nat} {d : Kd α} {Q : α → Prop} (hu : P.underlying t = some (.struct fs)) (hc : P.cellsOf t = tot) (h : OpensL P fs.toList 0 tot d Q) : Opens P t d Q := by
  intro H enc w base sp held fuel cs x hx hw
  obtain ⟨xs, n, _, rfl, hl, hxl, hall⟩ := DataW.trod_struct hu hx
  obtain ⟨a, ha, hq⟩ := h (xs := xs) (cs := cs) (by omega) (by simpa using hxl) (fun i f hf => hall i f (by simpa using hf)) (fun m hm => hw m (by simpa [DataW.weights, hu] using hm))
  exact ⟨a, by simpa using ha, hq⟩
theorem Opens.iso {d : Kd α} {Q : α → Prop} (f : β → α) (g : α → β) (hg : ∀ a, f (g a) = a) (h : Opens P t d Q) : Opens P t (Kd.iso d f) (fun b => Q (f b)) := fun hx hw => by
  obtain ⟨a, ha, hq⟩ := h hx hw
  exact ⟨g a, by show d.K _ (f (g a)) _; rw [hg]; exact ha, by show Q (f (g a)); rw [hg]; exact hq⟩
end
end Go.Proofs.YtealmfcimoomlaaGreatDoor.PA

/- From what a row lists to 'Glob'. -/
namespace Go.Proofs.YtealmfcimoomlaaGreatDoor
open Go.Shelf Go.Lib
set_option linter.unusedSimpArgs false
set_option maxRecDepth 100000
variable {w : World}
theorem Glob.of_reads {w : World} (h3 : VarReads Tryz.prog w "unicode/utf8.first" Rows.laid_unicode_utf8_first) (h4 : VarReads Tryz.prog w "unicode/utf8.acceptRanges" Rows.laid_unicode_utf8_acceptRanges) : Glob w :=
  utf8Tabs_of_readsT (ρ := Tryz.lays197_ren) (U8Types.of260 { Tryz.lays197 with }) ⟨by kernel_rfl, by kernel_rfl, by kernel_rfl, by kernel_rfl, by kernel_rfl, by kernel_rfl, by kernel_rfl⟩
    (Pinned.utf8First_eq ▸ h3) ((show Rows.laid_unicode_utf8_acceptRanges = acceptData by kernel_rfl) ▸ h4)
theorem named_elem {fuel : Nat} {cs : List Value} {p : List MemPlace} {txt : List UInt8} {c : Int} (h : DataW.trod (fun _ => ()) Tryz.prog w 0 (fun _ => true) false fuel 146 cs = some (.agg [.lit (.string txt), .lit (.int .u8 c)], p)) : cs = [.string ⟨txt.toArray⟩, .int .u8 c] := by
  obtain ⟨xs, n, rfl, hx, hl, hxl, hall⟩ := DataW.trod_struct Tryz.underlying146 h
  have c9 : Tryz.prog.cellsOf 9 = 1 := by kernel_rfl
  have c5 : Tryz.prog.cellsOf 5 = 1 := by kernel_rfl
  have c84 : Tryz.prog.cellsOf 146 = 2 := by kernel_rfl
  have h0 : DataW.trod (fun _ => ()) Tryz.prog w 0 (fun _ => true) false n 9 ((cs.drop 0).take (Tryz.prog.cellsOf 9)) = xs[0]? := hall 0 _ rfl
  have h1 : DataW.trod (fun _ => ()) Tryz.prog w 0 (fun _ => true) false n 5 ((cs.drop 1).take (Tryz.prog.cellsOf 5)) = xs[1]? := hall 1 _ rfl
  rw [c9] at h0
  rw [c5] at h1
  rw [c84] at hl
  match xs, hxl with
  | [a, b], _ =>
    have e := congrArg Prod.fst hx
    simp only [List.map_cons, List.map_nil, DataW.agg.injEq, List.cons.injEq, and_true] at e
    simp only [List.getElem?_cons_zero, List.getElem?_cons_succ, List.drop_zero] at h0 h1
    obtain ⟨s, hs, ha, _⟩ := DataW.trod_string Tryz.underlying9 h0
    obtain ⟨z, hz, hb, _⟩ := DataW.trod_int Tryz.underlying5 h1
    match cs, hl with
    | [x, y], _ =>
      simp at hs hz
      subst hs hz
      rw [ha, hb] at e
      simp at e
      obtain ⟨e1, e2⟩ := e
      subst e2
      rw [e1]
theorem Glob2.of_reads {w : World} (h : VarReads Tryz.prog w "espalier/chars.named" Rows.laid_espalier_chars_named) : Glob2 w := by
  obtain ⟨g, t, cs, fuel, p, hg, hty, hvar, hd⟩ := h
  obtain rfl := Option.some.inj ((show Tryz.prog.globalNamed "espalier/chars.named" = some 1 by kernel_rfl).symm.trans hg)
  obtain rfl := Option.some.inj ((show (Tryz.prog.globals[1]?).map (·.type) = some 147 by kernel_rfl).symm.trans hty)
  have c84 : Tryz.prog.cellsOf 146 = 2 := by kernel_rfl
  have hc : ∀ i, w.cell? ⟨1, i, none⟩ = cs[i]? := fun i => World.var?_cell hg hvar i
  have key : ∀ (j : Nat) (hj : j < 5) (txt : List UInt8) (c : Int), (match (Rows.laid_espalier_chars_named : DataW Unit) with | .agg l => l[j]? | _ => none) = some (.agg [.lit (.string txt), .lit (.int .u8 c)]) →
      w.cell? ⟨1, 2 * j, none⟩ = some (.string ⟨txt.toArray⟩) ∧ w.cell? ⟨1, 2 * j + 1, none⟩ = some (.int .u8 c) := by
    intro j hj txt c hl
    obtain ⟨fuel', d, q, hdi, he⟩ := array_elem Tryz.underlying147 hd j hj
    have hdd : d = .agg [.lit (.string txt), .lit (.int .u8 c)] := Option.some.inj (hdi.symm.trans hl)
    subst hdd
    rw [c84] at he
    have e := named_elem he
    have e0 := congrArg (·[0]?) e
    have e1 := congrArg (·[1]?) e
    simp only [List.getElem?_take, List.getElem?_drop] at e0 e1
    constructor
    · rw [hc, ← Array.getElem?_toList]; simpa [Nat.mul_comm] using e0
    · rw [hc, ← Array.getElem?_toList]; simpa [Nat.mul_comm] using e1
  have k0 := key 0 (by omega) _ _ rfl
  have k1 := key 1 (by omega) _ _ rfl
  have k2 := key 2 (by omega) _ _ rfl
  have k3 := key 3 (by omega) _ _ rfl
  have k4 := key 4 (by omega) _ _ rfl
  refine ⟨?_, ?_⟩
  · have h0 := k0.1
    unfold World.cell? at h0
    rcases Nat.lt_or_ge 1 w.heap.size with h | h
    · exact h
    · rw [show ((⟨1, 2 * 0, none⟩ : Addr)).block = 1 from rfl, Array.getElem?_eq_none h] at h0
      simp at h0
  · intro i hi
    have : i = 0 ∨ i = 1 ∨ i = 2 ∨ i = 3 ∨ i = 4 ∨ i = 5 ∨ i = 6 ∨ i = 7 ∨ i = 8 ∨ i = 9 := by omega
    rcases this with rfl | rfl | rfl | rfl | rfl | rfl | rfl | rfl | rfl | rfl
    · exact k0.1
    · exact k0.2
    · exact k1.1
    · exact k1.2
    · exact k2.1
    · exact k2.2
    · exact k3.1
    · exact k3.2
    · exact k4.1
    · exact k4.2
theorem iface_of_reads {w : World} {n nm : String} {x : DataW Unit} {ti : TypeId} {ms : Array (String × TypeId)} (h : VarReads Tryz.prog w n (.iface nm x)) (hty : ∀ g, Tryz.prog.globalNamed n = some g → (Tryz.prog.globals[g]?).map (·.type) = some ti) (hi : Tryz.prog.underlying ti = some (.interface ms)) : ∃ t p, w.var? Tryz.prog n = some #[.iface t p] := by
  obtain ⟨g, t, cs, fuel, p, hg, ht, hv, hd⟩ := h
  obtain rfl := Option.some.inj ((hty g hg).symm.trans ht)
  obtain ⟨_, u, v, he, _, _⟩ := iface_of_trod hi hd
  refine ⟨u, v, ?_⟩
  rw [hv]
  congr 1
  apply Array.toList_inj.mp
  exact he
theorem tab_of_reads {w : World} {n : String} {k : IntKind} {zs : List Int} {t e : TypeId} {m : Nat} (h : VarReads Tryz.prog w n (tabData k zs)) (hty : ∀ g, Tryz.prog.globalNamed n = some g → (Tryz.prog.globals[g]?).map (·.type) = some t)
    (ht : Tryz.prog.underlying t = some (.array m e)) (he : Tryz.prog.underlying e = some (.int k)) (hce : Tryz.prog.cellsOf e = 1) (hct : Tryz.prog.cellsOf t = m) : TabIs Tryz.prog w n k zs := by
  obtain ⟨g, t', cs, fuel, p, hg, ht', hv, hd⟩ := h
  obtain rfl := Option.some.inj ((hty g hg).symm.trans ht')
  unfold TabIs
  rw [hv, ← cells_of_tab ht he hce hct hd]
theorem maxLen_of_shape {w : World} (h : w.ShapedOpen Tryz.prog) : ∃ m, w.cell? ⟨0, 0, none⟩ = some (.int .i64 m) :=
  cell_of_shapedOpen_int (t := 3) (zero := #[.int .i64 0]) h (of_decide_eq_true (by kernel_rfl)) (by kernel_rfl) rfl (by kernel_rfl) (by kernel_rfl) Tryz.underlying3
/-- The wrap of a law's row: what a row lists, the reach, and the world's shape are handed to the contract. -/
theorem handed_and {H : Type} {enc : TypeId × Value → H} {a : Assume} {C : Checked} {os : Os} {f : FuncId} {fn : Func} {s : ChangeSpec} {conds : List PathCond} {apart fresh handsOn again : Bool} {X : World → Array Value → Prop}
    (hX : ∀ (w w' : World) (args : Array Value), w.heap = w'.heap → X w args → X w' args)
    (own : ownKnob C.prog.godebug = none) (started : os.Started) (noInit : C.prog.inits.idxOf? f = none) (hfn : C.prog.funcs[f]? = some fn)
    (witness : ∃ (w : World) (tape : Tape) (i : Input), w.os = os ∧ (w.forCall tape i).Shaped C.prog ∧ i.vars = [] ∧ Input.okWide C.prog (w.forCall tape i) .any w.heap.size f i ∧
      ((s.pre enc C.prog fn conds apart (w.forCall tape i).memory i.args ∧ X (w.forCall tape i).memory i.args) ∧ sizedMet enc C.prog fn (OpenSpec.ofChange s) apart (w.forCall tape i).memory i.args) ∧ a.holds C.prog (lone (Frame.enter C.prog f i.args .normal) [] (w.forCall tape i)))
    (contract : ∀ (W : World) (base : Nat) (args : Array Value) (ds gs : List (DataW H)) (before : List MemPlace),
      (∀ (j : Nat) t v, fn.params[j]? = some t → args[j]? = some v → Value.okWide C.prog W .any base t v) →
      DataW.Whole enc C.prog fn.params.toList s.vars apart W args.toList ds gs before →
      (DataW.weightsEach C.prog (fn.params.toList ++ s.plain.varTypes C.prog) (ds ++ gs)).all (· ≤ reachBytes) = true → X W args → W.ShapedOpen C.prog →
      Calls C.prog f args W fun e W' => ∃ v, e = .returned v ∧ s.post enc C.prog fn apart fresh handsOn again W args v W') :
    ReturnsInHanded a C os f .any (fun w args => (s.pre enc C.prog fn conds apart w args ∧ X w args) ∧ sizedMet enc C.prog fn (OpenSpec.ofChange s) apart w args) (s.post enc C.prog fn apart fresh handsOn again) := by
  refine returnsInHanded_of_calls own started noInit witness ?_
  intro w tape i _ hsh _ hok hpre hholds
  obtain ⟨_, _, _, fn', hfn', _, _, _, _, hval⟩ := hok
  obtain rfl := Option.some.inj (hfn'.symm.trans hfn)
  obtain ⟨⟨⟨ds, gs, before, hw, hc⟩, hx⟩, hz⟩ := hpre
  refine (contract (w.forCall tape i) w.heap.size i.args ds gs before hval (DataW.Whole.of_heap (w' := w.forCall tape i) (by rfl) hw) (hz.weights hw) (hX _ _ _ (by rfl) hx) hsh).mono fun e W' ⟨v, he, hp⟩ => ?_
  subst he
  exact ChangeSpec.post_blind hp
end Go.Proofs.YtealmfcimoomlaaGreatDoor
