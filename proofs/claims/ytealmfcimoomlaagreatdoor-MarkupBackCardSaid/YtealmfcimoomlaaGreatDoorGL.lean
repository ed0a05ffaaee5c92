/- Texts of this claim, one behind the other: PM5, PureMarkupBack, GL. Conditions: those of each theorem. -/
import Derived.Test.YtealmfcimoomlaaGreatDoorUPrint
import Derived.Test.YtealmfcimoomlaaGreatDoorUSame
import Derived.Test.YtealmfcimoomlaaGreatDoorUBack04
import Derived.Test.YtealmfcimoomlaaGreatDoorPT7
import Derived.Test.YtealmfcimoomlaaGreatDoorPT8
import Derived.Test.YtealmfcimoomlaaGreatDoorG
import Derived.Test.YtealmfcimoomlaaGreatDoorRows
import Derived.Test.YtealmfcimoomlaaGreatDoorUUtf8
import Derived.Lib.LaidU8T
import Derived.PinnedBridge
import Derived.HandedShaped
import Derived.Shelf.Vars
import Derived.LaidLaws
import Derived.Lib.ItoaNum
import Derived.Lib.LaidTab
/- Same and 'alike': the program's and the reference's are one. -/
namespace Go.Proofs.YtealmfcimoomlaaGreatDoor.PA
open Go.RowKit Go.Proofs.YtealmfcimoomlaaGreatDoorW.PrintWords Go.Proofs.YtealmfcimoomlaaGreatDoorW.PrintLast Go.Proofs.YtealmfcimoomlaaGreatDoorW.PrintMore
set_option linter.unusedVariables false
set_option linter.unusedSimpArgs false
def neA (a b : S61) : Bool := !(a.f0.toList == b.f0.toList) || (!(a.f1.toList == b.f1.toList))
def attrsSame : List S61 → List S61 → Bool
  | a :: l, b :: m => if neA a b = true then false else attrsSame l m
  | _, _ => true
def attrsEq (l m : List S61) : Bool := if l.length = m.length then attrsSame l m else false
theorem rd_app54 (pre l : List S61) (t : S61) (i : Nat) (hi : i = pre.length) : rd_T61 (pre ++ t :: l) (i : Int) = t := by
  subst hi
  unfold rd_T61
  rw [Int.toNat_natCast, List.getD_eq_getElem?_getD, List.getElem?_append_right (Nat.le_refl _), Nat.sub_self]
  rfl
theorem app_step54 (pre l : List S61) (t : S61) : pre ++ t :: l = (pre ++ [t]) ++ l := by simp
theorem attrs_evEP : ∀ (l m pre0 pre1 : List S61), l.length = m.length → pre0.length = pre1.length → (pre0 ++ l).length ≤ 9000000000000000 → Ev (fun k => api_Attr_51.l0 k (pre0 ++ l) (pre1 ++ m) ((pre0 ++ l).length : Int) ((pre0.length : Nat) : Int)) (attrsSame l m)
  | [], m, pre0, pre1, h, hp, hb => by
    rw [attrsSame]
    · exact Ev.step (f := fun _ => some true) (fun k => by rw [api_Attr_51.l0.eq_2, if_neg (by simp)]) (Ev.now _)
    · intro a l b m' h; cases h
  | a :: l, [], pre0, pre1, h, hp, hb => by cases h
  | a :: l, b :: m, pre0, pre1, h, hp, hb => by
    have h' : l.length = m.length := by simpa using h
    have hw := Aside0.mk (show wrap64 ((pre0.length : Int) + 1) = (((pre0 ++ [a]).length : Nat) : Int) by simp only [List.length_append, List.length_cons, List.length_nil] at hb ⊢; unfold wrap64; omega)
    rw [attrsSame]
    refine Ev.step (fun k => by rw [api_Attr_51.l0.eq_2, if_pos (by simp only [List.length_append, List.length_cons]; omega), if_pos (by omega), if_pos (by simp only [List.length_append, List.length_cons]; omega), if_pos (by simp only [List.length_append, List.length_cons]; omega), rd_app54 pre0 l a pre0.length rfl, rd_app54 pre1 m b pre0.length hp, hw.out]) ?_
    by_cases hn : neA a b = true
    · rw [if_pos hn]
      unfold neA at hn
      simp only [if_pos hn]
      exact Ev.now _
    · rw [if_neg hn]
      unfold neA at hn
      simp only [if_neg hn]
      have := attrs_evEP l m (pre0 ++ [a]) (pre1 ++ [b]) h' (by simpa using hp) (by rw [← app_step54]; exact hb)
      rw [← app_step54, ← app_step54] at this
      exact this
theorem attrsEq_P (l m : List S61) (hb : l.length ≤ 9000000000000000) : Ev (fun k => api_Attr_51.f k l m) (attrsEq l m) := by
  unfold api_Attr_51.f attrsEq
  by_cases h : l.length = m.length
  · simp only [if_pos h, if_pos (show (l.length : Int) = (m.length : Int) by omega)]
    exact attrs_evEP l m [] [] h rfl hb
  · simp only [if_neg h, if_neg (show ¬ (l.length : Int) = (m.length : Int) by omega)]; exact Ev.now _
mutual
def sameTE : S35 → S35 → Bool
  | ⟨a0, a1, a2, a3, a4⟩, b =>
    if (a0 != b.f0) = true then false
    else if (a0 == 1) = true then (if (a1.toList == b.f1.toList) = true then (if attrsEq a2 b.f2 = true then (if a4.length = b.f4.length then sameLE a4 b.f4 else false) else false) else false)
    else if (a0 == 2) = true then (a3.toList == b.f3.toList) else true
def sameLE : List S35 → List S35 → Bool
  | [], _ => true
  | _ :: _, [] => true
  | a :: l, b :: m => if sameTE a b = true then sameLE l m else false
end
mutual
theorem sameT_ev : ∀ (a b : S35), okT a → Ev (fun k => sameT k a b) (sameTE a b)
  | ⟨a0, a1, a2, a3, a4⟩, b, h => by
    refine Ev.congr (fun k => by rw [sameT]) ?_
    rw [sameTE]
    by_cases h1 : (a0 != b.f0) = true
    · simp only [if_pos h1]; exact Ev.now _
    simp only [if_neg h1]
    by_cases h2 : (a0 == 1) = true
    · simp only [if_pos h2]
      by_cases h3 : (a1.toList == b.f1.toList) = true
      · simp only [if_pos h3]
        refine Ev.bind (attrsEq_P a2 b.f2 (by have := h.2.2.1.2; omega)) ?_
        by_cases h4 : attrsEq a2 b.f2 = true
        · simp only [if_pos h4]
          by_cases h5 : a4.length = b.f4.length
          · simp only [if_pos h5]; exact sameL_ev a4 b.f4 h.2.2.2.2.1
          · simp only [if_neg h5]; exact Ev.now _
        · simp only [if_neg h4]; exact Ev.now _
      · simp only [if_neg h3]; exact Ev.now _
    · simp only [if_neg h2]
      by_cases h3 : (a0 == 2) = true
      · simp only [if_pos h3]; exact Ev.now _
      · simp only [if_neg h3]; exact Ev.now _
theorem sameL_ev : ∀ (l m : List S35), okK l → Ev (fun k => sameL k l m) (sameLE l m)
  | [], m, _ => Ev.congr (fun k => by rw [sameL]) (by rw [sameLE]; exact Ev.now _)
  | a :: l, [], _ => Ev.congr (fun k => by rw [sameL]) (by rw [sameLE]; exact Ev.now _)
  | a :: l, b :: m, h => by
    refine Ev.congr (fun k => by rw [sameL]) ?_
    rw [sameLE]
    refine Ev.bind (sameT_ev a b h.1) ?_
    by_cases h4 : sameTE a b = true
    · simp only [if_pos h4]; exact sameL_ev l m h.2
    · simp only [if_neg h4]; exact Ev.now _
end
def sameE (l m : List S35) : Bool := if l.length = m.length then sameLE l m else false
theorem same_evP (l m : List S35) (h : okK l) : Ev (fun k => markup_Same.f k l m) (sameE l m) := by
  unfold markup_Same.f sameK sameE
  by_cases h5 : l.length = m.length
  · simp only [if_pos h5]; exact sameL_ev l m h
  · simp only [if_neg h5]; exact Ev.now _
theorem attrsSame_refl : ∀ l : List S61, attrsSame l l = true
  | [] => rfl
  | a :: l => by rw [attrsSame, if_neg (by unfold neA; simp), attrsSame_refl l]
mutual
theorem sameTE_refl : ∀ a : S35, sameTE a a = true
  | ⟨a0, a1, a2, a3, a4⟩ => by
    rw [sameTE]
    simp only [bne_self_eq_false, beq_self_eq_true, if_true, attrsEq, attrsSame_refl, sameLE_refl a4, if_neg (show ¬ (false = true) by decide)]
    split <;> simp
theorem sameLE_refl : ∀ l : List S35, sameLE l l = true
  | [] => rfl
  | a :: l => by rw [sameLE, if_pos (sameTE_refl a), sameLE_refl l]
end
theorem sameE_refl (l : List S35) : sameE l l = true := by unfold sameE; rw [if_pos rfl, sameLE_refl]
end Go.Proofs.YtealmfcimoomlaaGreatDoor.PA

/- MarkupBack, in plain: at so many rounds all that the law asks is so. -/
namespace Go.Proofs.YtealmfcimoomlaaGreatDoor.Pure
open Go.RowKit Go.Proofs.YtealmfcimoomlaaGreatDoorW.PrintWords Go.Proofs.YtealmfcimoomlaaGreatDoorW.PrintLast Go.Proofs.YtealmfcimoomlaaGreatDoorW.PrintMore Go.Proofs.YtealmfcimoomlaaGreatDoor.PA
set_option linter.unusedVariables false
theorem MarkupBack (f : List S35) (q0 : (∀ a ∈ f, okT a) ∧ f.length * 88 ≤ 140737488351232) : ∃ k, BackAsks k f true := by
  have hf := okK_of f q0.1
  have lf : f.length ≤ 1599289640354 := by omega
  have hcf : espalierlaw04_Copied.f f := ⟨by omega, copyK_ok f hf⟩
  obtain ⟨K1, e1⟩ := print_evP f hf (by omega)
  obtain ⟨K2, e2⟩ := normal_evP f hf (by omega)
  have hpe := printE_eq f
  rcases normalE_cases f with ⟨g1, g2⟩ | ⟨g1, g2, g3, g4, g5⟩
  · have h1 := e1 (K1 + K2) (by omega)
    have h2 := e2 (K1 + K2) (by omega)
    refine ⟨K1 + K2, rfl, hcf, (printE f).1, (printE f).2, (normalE f).1, (normalE f).2, h1, h2, ?_⟩
    by_cases he : (printE f).2 = 0
    · exact .inr (.inr (.inl ⟨he, g1, g2⟩))
    · refine .inr (.inl ⟨he, ?_, g1, g2⟩)
      rw [hpe] at he ⊢
      split
      · split
        · rfl
        · rename_i a b
          rw [if_pos a, if_neg b] at he
          exact absurd rfl he
      · rfl
  · rw [if_pos g2] at hpe
    by_cases hb : 262144 < (prK f).length
    · rw [if_pos hb] at hpe
      have h1 := e1 (K1 + K2) (by omega)
      have h2 := e2 (K1 + K2) (by omega)
      refine ⟨K1 + K2, rfl, hcf, (printE f).1, (printE f).2, (normalE f).1, (normalE f).2, h1, h2, .inl ⟨?_, ?_, g1⟩⟩
      · rw [hpe]; decide
      · rw [hpe]
    · rw [if_neg hb] at hpe
      have hok := nrm_okK _ 1 g3 g4
      have hl := nodK_len (normalE f).1
      obtain ⟨K3, e3⟩ := same_evP (normalE f).1 (normalE f).1 hok
      obtain ⟨K4, e4⟩ := normal_ev1 _ g3 g4
      obtain ⟨K5, e5⟩ := print_evP (normalE f).1 hok (by omega)
      have h1 := e1 (K1 + K2 + K3 + K4 + K5) (by omega)
      have h2 := e2 (K1 + K2 + K3 + K4 + K5) (by omega)
      have h3 := e3 (K1 + K2 + K3 + K4 + K5) (by omega)
      have h4 := e4 (K1 + K2 + K3 + K4 + K5) (by omega)
      have h5 := e5 (K1 + K2 + K3 + K4 + K5) (by omega)
      rw [sameE_refl] at h3
      rw [printE_eq, if_pos (can_nrm g3 g4), g5, if_neg hb] at h5
      rw [hpe] at h1
      have hpp := parse_print g3 g4 (by rw [g5]; omega)
      rw [g5] at hpp
      exact ⟨K1 + K2 + K3 + K4 + K5, rfl, hcf, _, 0, (normalE f).1, (normalE f).2, h1, h2, .inr (.inr (.inr ⟨rfl, g1, hpp, h3, h4, h5⟩))⟩
end Go.Proofs.YtealmfcimoomlaaGreatDoor.Pure

/- From what a row lists to 'Glob'. -/
namespace Go.Proofs.YtealmfcimoomlaaGreatDoor
open Go.Shelf Go.Lib
set_option linter.unusedSimpArgs false
set_option maxRecDepth 100000
variable {w : World}
theorem Glob.of_reads {w : World} (h3 : VarReads Tryz.prog w "unicode/utf8.first" Rows.laid_unicode_utf8_first) (h4 : VarReads Tryz.prog w "unicode/utf8.acceptRanges" Rows.laid_unicode_utf8_acceptRanges) : Glob w :=
  utf8Tabs_of_readsT (ρ := Tryz.lays197_ren) (U8Types.of260 { Tryz.lays197 with }) ⟨by kernel_rfl, by kernel_rfl, by kernel_rfl, by kernel_rfl, by kernel_rfl, by kernel_rfl, by kernel_rfl⟩
    (Pinned.utf8First_eq ▸ h3) ((show Rows.laid_unicode_utf8_acceptRanges = acceptData by kernel_rfl) ▸ h4)
theorem named_elem {fuel : Nat} {cs : List Value} {p : List MemPlace} {txt : List UInt8} {c : Int} (h : DataW.trod (fun _ => ()) Tryz.prog w 0 (fun _ => true) false fuel 146 cs = some (.agg [.lit (.string txt), .lit (.int .u8 c)], p)) : cs = [.string ⟨txt.toArray⟩, .int .u8 c] := by
  obtain ⟨xs, n, rfl, hx, hl, hxl, hall⟩ := DataW.trod_struct Tryz.underlying146 h
  have c9 : Tryz.prog.cellsOf 9 = 1 := by kernel_rfl
  have c5 : Tryz.prog.cellsOf 5 = 1 := by kernel_rfl
  have c84 : Tryz.prog.cellsOf 146 = 2 := by kernel_rfl
  have h0 : DataW.trod (fun _ => ()) Tryz.prog w 0 (fun _ => true) false n 9 ((cs.drop 0).take (Tryz.prog.cellsOf 9)) = xs[0]? := hall 0 _ rfl
  have h1 : DataW.trod (fun _ => ()) Tryz.prog w 0 (fun _ => true) false n 5 ((cs.drop 1).take (Tryz.prog.cellsOf 5)) = xs[1]? := hall 1 _ rfl
  rw [c9] at h0
  rw [c5] at h1
  rw [c84] at hl
  match xs, hxl with
  | [a, b], _ =>
    have e := congrArg Prod.fst hx
    simp only [List.map_cons, List.map_nil, DataW.agg.injEq, List.cons.injEq, and_true] at e
    simp only [List.getElem?_cons_zero, List.getElem?_cons_succ, List.drop_zero] at h0 h1
    obtain ⟨s, hs, ha, _⟩ := DataW.trod_string Tryz.underlying9 h0
    obtain ⟨z, hz, hb, _⟩ := DataW.trod_int Tryz.underlying5 h1
    match cs, hl with
    | [x, y], _ =>
      simp at hs hz
      subst hs hz
      rw [ha, hb] at e
      simp at e
      obtain ⟨e1, e2⟩ := e
      subst e2
      rw [e1]
theorem Glob2.of_reads {w : World} (h : VarReads Tryz.prog w "espalier/chars.named" Rows.laid_espalier_chars_named) : Glob2 w := by
  obtain ⟨g, t, cs, fuel, p, hg, hty, hvar, hd⟩ := h
  obtain rfl := Option.some.inj ((show Tryz.prog.globalNamed "espalier/chars.named" = some 1 by kernel_rfl).symm.trans hg)
  obtain rfl := Option.some.inj ((show (Tryz.prog.globals[1]?).map (·.type) = some 147 by kernel_rfl).symm.trans hty)
  have c84 : Tryz.prog.cellsOf 146 = 2 := by kernel_rfl
  have hc : ∀ i, w.cell? ⟨1, i, none⟩ = cs[i]? := fun i => World.var?_cell hg hvar i
  have key : ∀ (j : Nat) (hj : j < 5) (txt : List UInt8) (c : Int), (match (Rows.laid_espalier_chars_named : DataW Unit) with | .agg l => l[j]? | _ => none) = some (.agg [.lit (.string txt), .lit (.int .u8 c)]) →
      w.cell? ⟨1, 2 * j, none⟩ = some (.string ⟨txt.toArray⟩) ∧ w.cell? ⟨1, 2 * j + 1, none⟩ = some (.int .u8 c) := by
    intro j hj txt c hl
    obtain ⟨fuel', d, q, hdi, he⟩ := array_elem Tryz.underlying147 hd j hj
    have hdd : d = .agg [.lit (.string txt), .lit (.int .u8 c)] := Option.some.inj (hdi.symm.trans hl)
    subst hdd
    rw [c84] at he
    have e := named_elem he
    have e0 := congrArg (·[0]?) e
    have e1 := congrArg (·[1]?) e
    simp only [List.getElem?_take, List.getElem?_drop] at e0 e1
    constructor
    · rw [hc, ← Array.getElem?_toList]; simpa [Nat.mul_comm] using e0
    · rw [hc, ← Array.getElem?_toList]; simpa [Nat.mul_comm] using e1
  have k0 := key 0 (by omega) _ _ rfl
  have k1 := key 1 (by omega) _ _ rfl
  have k2 := key 2 (by omega) _ _ rfl
  have k3 := key 3 (by omega) _ _ rfl
  have k4 := key 4 (by omega) _ _ rfl
  refine ⟨?_, ?_⟩
  · have h0 := k0.1
    unfold World.cell? at h0
    rcases Nat.lt_or_ge 1 w.heap.size with h | h
    · exact h
    · rw [show ((⟨1, 2 * 0, none⟩ : Addr)).block = 1 from rfl, Array.getElem?_eq_none h] at h0
      simp at h0
  · intro i hi
    have : i = 0 ∨ i = 1 ∨ i = 2 ∨ i = 3 ∨ i = 4 ∨ i = 5 ∨ i = 6 ∨ i = 7 ∨ i = 8 ∨ i = 9 := by omega
    rcases this with rfl | rfl | rfl | rfl | rfl | rfl | rfl | rfl | rfl | rfl
    · exact k0.1
    · exact k0.2
    · exact k1.1
    · exact k1.2
    · exact k2.1
    · exact k2.2
    · exact k3.1
    · exact k3.2
    · exact k4.1
    · exact k4.2
theorem iface_of_reads {w : World} {n nm : String} {x : DataW Unit} {ti : TypeId} {ms : Array (String × TypeId)} (h : VarReads Tryz.prog w n (.iface nm x)) (hty : ∀ g, Tryz.prog.globalNamed n = some g → (Tryz.prog.globals[g]?).map (·.type) = some ti) (hi : Tryz.prog.underlying ti = some (.interface ms)) : ∃ t p, w.var? Tryz.prog n = some #[.iface t p] := by
  obtain ⟨g, t, cs, fuel, p, hg, ht, hv, hd⟩ := h
  obtain rfl := Option.some.inj ((hty g hg).symm.trans ht)
  obtain ⟨_, u, v, he, _, _⟩ := iface_of_trod hi hd
  refine ⟨u, v, ?_⟩
  rw [hv]
  congr 1
  apply Array.toList_inj.mp
  exact he
theorem tab_of_reads {w : World} {n : String} {k : IntKind} {zs : List Int} {t e : TypeId} {m : Nat} (h : VarReads Tryz.prog w n (tabData k zs)) (hty : ∀ g, Tryz.prog.globalNamed n = some g → (Tryz.prog.globals[g]?).map (·.type) = some t)
    (ht : Tryz.prog.underlying t = some (.array m e)) (he : Tryz.prog.underlying e = some (.int k)) (hce : Tryz.prog.cellsOf e = 1) (hct : Tryz.prog.cellsOf t = m) : TabIs Tryz.prog w n k zs := by
  obtain ⟨g, t', cs, fuel, p, hg, ht', hv, hd⟩ := h
  obtain rfl := Option.some.inj ((hty g hg).symm.trans ht')
  unfold TabIs
  rw [hv, ← cells_of_tab ht he hce hct hd]
theorem maxLen_of_shape {w : World} (h : w.ShapedOpen Tryz.prog) : ∃ m, w.cell? ⟨0, 0, none⟩ = some (.int .i64 m) :=
  cell_of_shapedOpen_int (t := 3) (zero := #[.int .i64 0]) h (of_decide_eq_true (by kernel_rfl)) (by kernel_rfl) rfl (by kernel_rfl) (by kernel_rfl) Tryz.underlying3
/-- The wrap of a law's row: what a row lists, the reach, and the world's shape are handed to the contract. -/
theorem handed_and {H : Type} {enc : TypeId × Value → H} {a : Assume} {C : Checked} {os : Os} {f : FuncId} {fn : Func} {s : ChangeSpec} {conds : List PathCond} {apart fresh handsOn again : Bool} {X : World → Array Value → Prop}
    (hX : ∀ (w w' : World) (args : Array Value), w.heap = w'.heap → X w args → X w' args)
    (own : ownKnob C.prog.godebug = none) (started : os.Started) (noInit : C.prog.inits.idxOf? f = none) (hfn : C.prog.funcs[f]? = some fn)
    (witness : ∃ (w : World) (tape : Tape) (i : Input), w.os = os ∧ (w.forCall tape i).Shaped C.prog ∧ i.vars = [] ∧ Input.okWide C.prog (w.forCall tape i) .any w.heap.size f i ∧
      ((s.pre enc C.prog fn conds apart (w.forCall tape i).memory i.args ∧ X (w.forCall tape i).memory i.args) ∧ sizedMet enc C.prog fn (OpenSpec.ofChange s) apart (w.forCall tape i).memory i.args) ∧ a.holds C.prog (lone (Frame.enter C.prog f i.args .normal) [] (w.forCall tape i)))
    (contract : ∀ (W : World) (base : Nat) (args : Array Value) (ds gs : List (DataW H)) (before : List MemPlace),
      (∀ (j : Nat) t v, fn.params[j]? = some t → args[j]? = some v → Value.okWide C.prog W .any base t v) →
      DataW.Whole enc C.prog fn.params.toList s.vars apart W args.toList ds gs before →
      (DataW.weightsEach C.prog (fn.params.toList ++ s.plain.varTypes C.prog) (ds ++ gs)).all (· ≤ reachBytes) = true → X W args → W.ShapedOpen C.prog →
      Calls C.prog f args W fun e W' => ∃ v, e = .returned v ∧ s.post enc C.prog fn apart fresh handsOn again W args v W') :
    ReturnsInHanded a C os f .any (fun w args => (s.pre enc C.prog fn conds apart w args ∧ X w args) ∧ sizedMet enc C.prog fn (OpenSpec.ofChange s) apart w args) (s.post enc C.prog fn apart fresh handsOn again) := by
  refine returnsInHanded_of_calls own started noInit witness ?_
  intro w tape i _ hsh _ hok hpre hholds
  obtain ⟨_, _, _, fn', hfn', _, _, _, _, hval⟩ := hok
  obtain rfl := Option.some.inj (hfn'.symm.trans hfn)
  obtain ⟨⟨⟨ds, gs, before, hw, hc⟩, hx⟩, hz⟩ := hpre
  refine (contract (w.forCall tape i) w.heap.size i.args ds gs before hval (DataW.Whole.of_heap (w' := w.forCall tape i) (by rfl) hw) (hz.weights hw) (hX _ _ _ (by rfl) hx) hsh).mono fun e W' ⟨v, he, hp⟩ => ?_
  subst he
  exact ChangeSpec.post_blind hp
end Go.Proofs.YtealmfcimoomlaaGreatDoor
