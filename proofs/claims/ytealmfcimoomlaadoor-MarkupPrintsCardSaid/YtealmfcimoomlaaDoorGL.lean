/- Texts of this claim, one behind the other: PM6, PureMarkupPrints, GL. Conditions: those of each theorem. -/
import Derived.Test.YtealmfcimoomlaaDoorPM5
import Derived.Test.YtealmfcimoomlaaDoorPText
import Derived.Test.YtealmfcimoomlaaDoorPA15
import Derived.Test.YtealmfcimoomlaaDoorPM3
import Derived.Test.YtealmfcimoomlaaDoorPM4
import Derived.Test.YtealmfcimoomlaaDoorUMarkupPrints
import Derived.Test.YtealmfcimoomlaaDoorG
import Derived.Test.YtealmfcimoomlaaDoorRows
import Derived.Test.YtealmfcimoomlaaDoorUUtf8
import Derived.Lib.LaidU8T
import Derived.PinnedBridge
import Derived.HandedShaped
import Derived.Shelf.Vars
import Derived.LaidLaws
import Derived.Lib.LaidTab
/- 'alike' of one and the same; Where. -/
namespace Go.Proofs.YtealmfcimoomlaaDoor.PA
open Go.RowKit Go.Proofs.YtealmfcimoomlaaDoorW.PrintWords Go.Proofs.YtealmfcimoomlaaDoorW.PrintLast Go.Proofs.YtealmfcimoomlaaDoorW.PrintMore
set_option linter.unusedVariables false
set_option linter.unusedSimpArgs false
theorem alike_l1 (x : List S36) (i : Int) (f0 : Int) (f1 : ByteArray) (f3 : ByteArray) (f4 : List S36) (next : Ev (fun k => espalierlaw04_alike.l0 k x x (wrap64 (i + 1))) true) : ∀ (l pre : List S54), (pre ++ l).length ≤ 9000000000000000 →
    Ev (fun k => espalierlaw04_alike.l1 k x x i ((pre.length : Nat) : Int) f0 f1 (pre ++ l) f3 f4 f0 f1 (pre ++ l) f3 f4) true
  | [], pre, hb => Ev.step (fun k => by rw [espalierlaw04_alike.l1.eq_2, if_neg (by simp)]) next
  | a :: l, pre, hb => by
    have hw := Aside0.mk (show wrap64 ((pre.length : Int) + 1) = (((pre ++ [a]).length : Nat) : Int) by simp only [List.length_append, List.length_cons, List.length_nil] at hb ⊢; unfold wrap64; omega)
    have := alike_l1 x i f0 f1 f3 f4 next l (pre ++ [a]) (by rw [← app_step54]; exact hb)
    rw [← app_step54] at this
    refine Ev.step (fun k => ?_) this
    rw [espalierlaw04_alike.l1.eq_2, if_pos (by simp only [List.length_append, List.length_cons]; omega), if_pos (by omega), if_pos (by simp only [List.length_append, List.length_cons]; omega), hw.out, rd_app54 pre l a pre.length rfl, if_neg (by simp)]
mutual
theorem alike_T : ∀ (a : S36), copyT a → Ev (fun k => espalierlaw04_alike.f k a.f4 a.f4) true
  | ⟨a0, a1, a2, a3, a4⟩, h => by
    refine Ev.step (fun k => by rw [espalierlaw04_alike.f.eq_2, if_pos rfl]) ?_
    exact alike_L a4 [] h.2.2 (by have := h.2.1; simp only [List.nil_append]; omega)
theorem alike_L : ∀ (l pre : List S36), copyK l → (pre ++ l).length ≤ 9000000000000000 → Ev (fun k => espalierlaw04_alike.l0 k (pre ++ l) (pre ++ l) ((pre.length : Nat) : Int)) true
  | [], pre, _, hb => Ev.step (f := fun _ => some true) (fun k => by rw [espalierlaw04_alike.l0.eq_2, if_neg (by simp)]) (Ev.now _)
  | a :: l, pre, h, hb => by
    have hw := Aside0.mk (show wrap64 ((pre.length : Int) + 1) = (((pre ++ [a]).length : Nat) : Int) by simp only [List.length_append, List.length_cons, List.length_nil] at hb ⊢; unfold wrap64; omega)
    have hlen : (pre ++ a :: l).length = pre.length + (l.length + 1) := by rw [List.length_append, List.length_cons]
    have next := alike_L l (pre ++ [a]) h.2 (by rw [← app_step]; exact hb)
    rw [← app_step, ← hw.out] at next
    refine Ev.step (fun k => by rw [espalierlaw04_alike.l0.eq_2, if_pos (by omega), if_pos (by omega), if_pos (by omega), rd_app pre l a, if_pos rfl, if_pos rfl, if_pos rfl, if_pos rfl]) (Ev.bind (alike_T a h.1) ?_)
    refine Ev.step (fun k => by rw [espalierlaw04_alike.j1.eq_2, if_neg (by decide)]) ?_
    exact alike_l1 (pre ++ a :: l) (pre.length : Int) a.f0 a.f1 a.f3 a.f4 next a.f2 [] (by have := (copyT_parts a h.1).1; simp only [List.nil_append]; omega)
end
theorem alike_ev (l : List S36) (h : copyK l) (hl : l.length ≤ 9000000000000000) : Ev (fun k => espalierlaw04_alike.f k l l) true := by
  refine Ev.step (fun k => by rw [espalierlaw04_alike.f.eq_2, if_pos rfl]) ?_
  exact alike_L l [] h (by simpa using hl)
/-- The line and the column of a place that is within the text. -/
def lineN (s : ByteArray) : Nat → Nat
  | 0 => 1
  | j + 1 => if s.get! j = 10 then lineN s j + 1 else lineN s j
def colN (s : ByteArray) : Nat → Nat
  | 0 => 1
  | j + 1 => if s.get! j = 10 then 1 else colN s j + 1
theorem lineN_le (s : ByteArray) : ∀ j, lineN s j ≤ j + 1
  | 0 => Nat.le_refl _
  | j + 1 => by rw [lineN]; have := lineN_le s j; split <;> omega
theorem colN_le (s : ByteArray) : ∀ j, colN s j ≤ j + 1
  | 0 => Nat.le_refl _
  | j + 1 => by rw [colN]; have := colN_le s j; split <;> omega
theorem bt_10 (s : ByteArray) (j : Nat) (hj : j < s.size) : bt s (j : Int) = 10 ↔ s.get! j = 10 := by
  rw [bt_byte s j hj]
  constructor
  · intro h
    exact UInt8.toNat_inj.mp (by simpa using (by omega : (s.get! j).toNat = 10))
  · intro h; rw [h]; rfl
theorem where_loop (s : ByteArray) (hs : s.size ≤ 140737488351232) (i : Nat) (hi : i ≤ s.size) : ∀ (d j : Nat), j + d = i → Ev (fun k => espalierref04_Where.l0 k s (i : Int) (lineN s j : Int) (colN s j : Int) (j : Int)) ((lineN s i : Int), (colN s i : Int), 0)
  | 0, j, h => by
    have : j = i := by omega
    subst this
    exact Ev.step (f := fun _ => some ((lineN s j : Int), (colN s j : Int), 0)) (fun k => by rw [espalierref04_Where.l0.eq_2, if_neg (by omega)]) (Ev.now _)
  | d + 1, j, h => by
    have h1 := lineN_le s j
    have h2 := colN_le s j
    have hw := Aside0.mk (show wrap64 ((j : Int) + 1) = ((j + 1 : Nat) : Int) by unfold wrap64; omega)
    have hw1 := Aside0.mk (show wrap64 ((lineN s j : Int) + 1) = ((lineN s j + 1 : Nat) : Int) by unfold wrap64; omega)
    have hw2 := Aside0.mk (show wrap64 ((colN s j : Int) + 1) = ((colN s j + 1 : Nat) : Int) by unfold wrap64; omega)
    have ih := where_loop s hs i hi d (j + 1) (by omega)
    refine Ev.step (fun k => by rw [espalierref04_Where.l0.eq_2, if_pos (by omega), if_pos (by omega), if_pos (by omega), hw.out, hw1.out, hw2.out]) ?_
    rw [lineN, colN] at ih
    by_cases hc : s.get! j = 10
    · simp only [if_pos ((bt_10 s j (by omega)).mpr hc)]
      rw [if_pos hc, if_pos hc] at ih
      exact ih
    · simp only [if_neg (fun e => hc ((bt_10 s j (by omega)).mp e))]
      rw [if_neg hc, if_neg hc] at ih
      exact ih
theorem count_take (s : ByteArray) : ∀ i, i ≤ s.size → lineN s i = Lib.countByte (s.data.toList.take i) 10 + 1
  | 0, _ => by rw [lineN, List.take_zero]; rfl
  | i + 1, h => by
    have hi : i < s.data.toList.length := by rw [data_length]; omega
    rw [lineN, count_take s i (by omega), List.take_succ_eq_append_getElem hi]
    unfold Lib.countByte
    rw [List.count_append]
    have hg : s.get! i = s.data.toList[i] := by rw [get_list, List.getD_eq_getElem?_getD, List.getElem?_eq_getElem hi]; rfl
    rw [hg]
    by_cases hc : s.data.toList[i] = 10
    · rw [if_pos hc, hc]; rfl
    · rw [if_neg hc, List.count_cons_of_ne hc]
      simp
theorem col_last (s t : ByteArray) : ∀ i, i ≤ s.size → (∀ j, j < i → t.data[j]! = s.get! j) → (colN s i : Int) = (i : Int) - Lib.lastIdx t 10 i
  | 0, _, _ => by rw [colN]; rfl
  | i + 1, h, ht => by
    have ih := col_last s t i (by omega) (fun j hj => ht j (by omega))
    rw [colN]
    unfold Lib.lastIdx
    rw [ht i (by omega)]
    by_cases hc : s.get! i = 10
    · rw [if_pos hc, hc]
      simp
      omega
    · have : ¬ ((s.get! i).toNat : Int) = 10 := by
        intro e
        exact hc (UInt8.toNat_inj.mp (by simpa using (by omega : (s.get! i).toNat = 10)))
      rw [if_neg hc]
      simp only [this, if_false, beq_iff_eq]
      omega
def whereE (s : ByteArray) (a : Int) : Int × Int × Int := if a < 0 ∨ (s.size : Int) < a then (0, 0, 1) else ((lineN s a.toNat : Int), (colN s a.toNat : Int), 0)
theorem where_evR (s : ByteArray) (hs : s.size ≤ 140737488351232) (a : Int) : Ev (fun k => espalierref04_Where.f k s a) (whereE s a) := by
  unfold espalierref04_Where.f whereE
  have stop : Ev (fun k => espalierref04_Where.j0 k s a true) (0, 0, 1) := Ev.step (f := fun _ => some (0, 0, 1)) (fun k => by rw [espalierref04_Where.j0.eq_2, if_pos rfl]) (Ev.now _)
  by_cases h1 : a < 0
  · simp only [if_pos h1, if_pos (show a < 0 ∨ (s.size : Int) < a from .inl h1)]; exact stop
  · simp only [if_neg h1]
    by_cases h2 : (s.size : Int) < a
    · simp only [decide_eq_true (show a > (s.size : Int) from h2), if_pos (show a < 0 ∨ (s.size : Int) < a from .inr h2)]; exact stop
    · simp only [decide_eq_false (show ¬ a > (s.size : Int) from h2), if_neg (show ¬ (a < 0 ∨ (s.size : Int) < a) from fun h => h.elim h1 h2)]
      obtain ⟨i, rfl⟩ : ∃ i : Nat, a = (i : Int) := ⟨a.toNat, by omega⟩
      rw [Int.toNat_natCast]
      refine Ev.step (fun k => by rw [espalierref04_Where.j0.eq_2, if_neg (by decide)]) ?_
      exact where_loop s hs i (by omega) i 0 (by omega)
theorem where_evP (s : ByteArray) (hs : s.size ≤ 140737488351232) (a : Int) : Ev (fun k => markup_Where.f k s a) (whereE s a) := by
  unfold markup_Where.f whereE
  have stop : Ev (fun k => markup_Where.j0 k s a true) (0, 0, 1) := Ev.step (f := fun _ => some (0, 0, 1)) (fun k => by rw [markup_Where.j0.eq_2, if_pos rfl]) (Ev.now _)
  by_cases h1 : a < 0
  · simp only [if_pos h1, if_pos (show a < 0 ∨ (s.size : Int) < a from .inl h1)]; exact stop
  · simp only [if_neg h1]
    by_cases h2 : (s.size : Int) < a
    · simp only [decide_eq_true (show a > (s.size : Int) from h2), if_pos (show a < 0 ∨ (s.size : Int) < a from .inr h2)]; exact stop
    · simp only [decide_eq_false (show ¬ a > (s.size : Int) from h2), if_neg (show ¬ (a < 0 ∨ (s.size : Int) < a) from fun h => h.elim h1 h2)]
      obtain ⟨i, rfl⟩ : ∃ i : Nat, a = (i : Int) := ⟨a.toNat, by omega⟩
      have hi : i ≤ s.size := by omega
      have hd : (s.extract 0 i).data.toList = s.data.toList.take i := by simp [ByteArray.data_extract]
      have hz : (s.extract 0 i).size = i := by simp [ByteArray.size_extract]; omega
      have c1 := count_take s i hi
      have c2 := col_last s (s.extract 0 i) i hi (fun j hj => by
        have hjs : j < s.data.size := by have : s.data.size = s.size := rfl; omega
        have hje : j < (s.extract 0 i).data.size := by have : (s.extract 0 i).data.size = (s.extract 0 i).size := rfl; omega
        rw [getElem!_pos (s.extract 0 i).data j hje]
        have : s.get! j = s.data[j] := by rw [get_list, List.getD_eq_getElem?_getD, Array.getElem?_toList, Array.getElem?_eq_getElem hjs]; rfl
        rw [this]
        simp [ByteArray.data_extract])
      have h3 := lineN_le s i
      have h4 := colN_le s i
      have hw1 := Aside0.mk (show wrap64 (((Lib.countByte (s.data.toList.take i) 10 : Nat) : Int) + 1) = (lineN s i : Int) by rw [c1]; unfold wrap64; omega)
      have hw2 := Aside0.mk (show wrap64 ((i : Int) - Lib.lastIdx (s.extract 0 i) 10 i) = (colN s i : Int) by rw [← c2]; unfold wrap64; omega)
      refine Ev.step (f := fun _ => some ((lineN s i : Int), (colN s i : Int), 0)) (fun k => ?_) (by rw [Int.toNat_natCast]; exact Ev.now _)
      rw [markup_Where.j0.eq_2, if_neg (by decide), if_pos (by omega), if_pos (by omega), Int.toNat_natCast]
      unfold strings_Count.f strings_LastIndexByte.f
      rw [if_pos rfl, Option.bind_some, if_pos (by omega), Option.bind_some, hd]
      unfold Lib.lastIndexByte
      rw [hz, hw1.out, hw2.out]
end Go.Proofs.YtealmfcimoomlaaDoor.PA

/- MarkupPrints, in plain: at so many rounds all that the law asks is so. -/
namespace Go.Proofs.YtealmfcimoomlaaDoor.Pure
open Go.RowKit Go.Proofs.YtealmfcimoomlaaDoorW.PrintWords Go.Proofs.YtealmfcimoomlaaDoorW.PrintLast Go.Proofs.YtealmfcimoomlaaDoorW.PrintMore Go.Proofs.YtealmfcimoomlaaDoor.PA
set_option linter.unusedVariables false
theorem MarkupPrints (l0 l1 : List S36) (text : ByteArray) (a : Int) (q0 : (∀ t ∈ l0, okT t) ∧ l0.length * 88 ≤ 140737488351232) (q1 : (∀ t ∈ l1, okT t) ∧ l1.length * 88 ≤ 140737488351232) (q2 : text.size ≤ 140737488351232) (q3 : (Lit.int .i64 a).wf = true) : ∃ k, MarkupAsks k l0 l1 text a true := by
  have k0 := okK_of l0 q0.1
  have k1 := okK_of l1 q1.1
  have b0 : l0.length ≤ 1599289640390 := by have := q0.2; omega
  have b1 : l1.length ≤ 1599289640390 := by have := q1.2; omega
  have c0 := copyK_ok l0 k0
  have c1 := copyK_ok l1 k1
  have cn := normalE_copy l0 k0 b0
  obtain ⟨K1, e1⟩ := print_evP l0 k0 (by omega)
  obtain ⟨K2, e2⟩ := print_evR l0 k0 (by omega)
  obtain ⟨K3, e3⟩ := normal_evP l0 k0 b0
  obtain ⟨K4, e4⟩ := normal_evR l0 k0 b0
  obtain ⟨K5, e5⟩ := alike_ev (normalE l0).1 cn.1 (by have := cn.2; omega)
  obtain ⟨K6, e6⟩ := where_evP text q2 a
  obtain ⟨K7, e7⟩ := where_evR text q2 a
  obtain ⟨K8, e8⟩ := same_evP l0 l1 k0
  obtain ⟨K9, e9⟩ := same_evR l0 l1 k0 (by omega)
  obtain ⟨K10, e10⟩ := same_evP l0 l0 k0
  obtain ⟨K11, e11⟩ := alike_ev l0 c0 (by omega)
  refine ⟨K1 + K2 + K3 + K4 + K5 + K6 + K7 + K8 + K9 + K10 + K11, ?_⟩
  refine ⟨rfl, ⟨b0, c0⟩, ⟨b1, c1⟩, ⟨(printE l0).1, (printE l0).2, e1 _ (by omega), e2 _ (by omega)⟩, ⟨(normalE l0).1, (normalE l0).1, (normalE l0).2, e3 _ (by omega), e4 _ (by omega), e5 _ (by omega), cn.2, cn.1⟩, ⟨(whereE text a).1, (whereE text a).2.1, (whereE text a).2.2, e6 _ (by omega), e7 _ (by omega)⟩, ⟨sameE l0 l1, e8 _ (by omega), e9 _ (by omega)⟩, ?_, e11 _ (by omega)⟩
  have := e10 (K1 + K2 + K3 + K4 + K5 + K6 + K7 + K8 + K9 + K10 + K11) (by omega)
  rw [sameE_refl] at this
  exact this
end Go.Proofs.YtealmfcimoomlaaDoor.Pure

/- From what a row lists to 'Glob'. -/
namespace Go.Proofs.YtealmfcimoomlaaDoor
open Go.Shelf Go.Lib
set_option linter.unusedSimpArgs false
set_option maxRecDepth 100000
variable {w : World}
theorem Glob.of_reads {w : World} (h3 : VarReads Tryd.prog w "unicode/utf8.first" Rows.laid_unicode_utf8_first) (h4 : VarReads Tryd.prog w "unicode/utf8.acceptRanges" Rows.laid_unicode_utf8_acceptRanges) : Glob w :=
  utf8Tabs_of_readsT (ρ := Tryd.lays197_ren) (U8Types.of260 { Tryd.lays197 with }) ⟨by kernel_rfl, by kernel_rfl, by kernel_rfl, by kernel_rfl, by kernel_rfl, by kernel_rfl, by kernel_rfl⟩
    (Pinned.utf8First_eq ▸ h3) ((show Rows.laid_unicode_utf8_acceptRanges = acceptData by kernel_rfl) ▸ h4)
theorem iface_of_reads {w : World} {n nm : String} {x : DataW Unit} {ti : TypeId} {ms : Array (String × TypeId)} (h : VarReads Tryd.prog w n (.iface nm x)) (hty : ∀ g, Tryd.prog.globalNamed n = some g → (Tryd.prog.globals[g]?).map (·.type) = some ti) (hi : Tryd.prog.underlying ti = some (.interface ms)) : ∃ t p, w.var? Tryd.prog n = some #[.iface t p] := by
  obtain ⟨g, t, cs, fuel, p, hg, ht, hv, hd⟩ := h
  obtain rfl := Option.some.inj ((hty g hg).symm.trans ht)
  obtain ⟨_, u, v, he, _, _⟩ := iface_of_trod hi hd
  refine ⟨u, v, ?_⟩
  rw [hv]
  congr 1
  apply Array.toList_inj.mp
  exact he
theorem tab_of_reads {w : World} {n : String} {k : IntKind} {zs : List Int} {t e : TypeId} {m : Nat} (h : VarReads Tryd.prog w n (tabData k zs)) (hty : ∀ g, Tryd.prog.globalNamed n = some g → (Tryd.prog.globals[g]?).map (·.type) = some t)
    (ht : Tryd.prog.underlying t = some (.array m e)) (he : Tryd.prog.underlying e = some (.int k)) (hce : Tryd.prog.cellsOf e = 1) (hct : Tryd.prog.cellsOf t = m) : TabIs Tryd.prog w n k zs := by
  obtain ⟨g, t', cs, fuel, p, hg, ht', hv, hd⟩ := h
  obtain rfl := Option.some.inj ((hty g hg).symm.trans ht')
  unfold TabIs
  rw [hv, ← cells_of_tab ht he hce hct hd]
theorem maxLen_of_shape {w : World} (h : w.ShapedOpen Tryd.prog) : ∃ m, w.cell? ⟨0, 0, none⟩ = some (.int .i64 m) :=
  cell_of_shapedOpen_int (t := 3) (zero := #[.int .i64 0]) h (of_decide_eq_true (by kernel_rfl)) (by kernel_rfl) rfl (by kernel_rfl) (by kernel_rfl) Tryd.underlying3
/-- The wrap of a law's row: what a row lists, the reach, and the world's shape are handed to the contract. -/
theorem handed_and {H : Type} {enc : TypeId × Value → H} {a : Assume} {C : Checked} {os : Os} {f : FuncId} {fn : Func} {s : ChangeSpec} {conds : List PathCond} {apart fresh handsOn again : Bool} {X : World → Array Value → Prop}
    (hX : ∀ (w w' : World) (args : Array Value), w.heap = w'.heap → X w args → X w' args)
    (own : ownKnob C.prog.godebug = none) (started : os.Started) (noInit : C.prog.inits.idxOf? f = none) (hfn : C.prog.funcs[f]? = some fn)
    (witness : ∃ (w : World) (tape : Tape) (i : Input), w.os = os ∧ (w.forCall tape i).Shaped C.prog ∧ i.vars = [] ∧ Input.okWide C.prog (w.forCall tape i) .any w.heap.size f i ∧
      ((s.pre enc C.prog fn conds apart (w.forCall tape i).memory i.args ∧ X (w.forCall tape i).memory i.args) ∧ sizedMet enc C.prog fn (OpenSpec.ofChange s) apart (w.forCall tape i).memory i.args) ∧ a.holds C.prog (lone (Frame.enter C.prog f i.args .normal) [] (w.forCall tape i)))
    (contract : ∀ (W : World) (base : Nat) (args : Array Value) (ds gs : List (DataW H)) (before : List MemPlace),
      (∀ (j : Nat) t v, fn.params[j]? = some t → args[j]? = some v → Value.okWide C.prog W .any base t v) →
      DataW.Whole enc C.prog fn.params.toList s.vars apart W args.toList ds gs before →
      (DataW.weightsEach C.prog (fn.params.toList ++ s.plain.varTypes C.prog) (ds ++ gs)).all (· ≤ reachBytes) = true → X W args → W.ShapedOpen C.prog →
      Calls C.prog f args W fun e W' => ∃ v, e = .returned v ∧ s.post enc C.prog fn apart fresh handsOn again W args v W') :
    ReturnsInHanded a C os f .any (fun w args => (s.pre enc C.prog fn conds apart w args ∧ X w args) ∧ sizedMet enc C.prog fn (OpenSpec.ofChange s) apart w args) (s.post enc C.prog fn apart fresh handsOn again) := by
  refine returnsInHanded_of_calls own started noInit witness ?_
  intro w tape i _ hsh _ hok hpre hholds
  obtain ⟨_, _, _, fn', hfn', _, _, _, _, hval⟩ := hok
  obtain rfl := Option.some.inj (hfn'.symm.trans hfn)
  obtain ⟨⟨⟨ds, gs, before, hw, hc⟩, hx⟩, hz⟩ := hpre
  refine (contract (w.forCall tape i) w.heap.size i.args ds gs before hval (DataW.Whole.of_heap (w' := w.forCall tape i) (by rfl) hw) (hz.weights hw) (hX _ _ _ (by rfl) hx) hsh).mono fun e W' ⟨v, he, hp⟩ => ?_
  subst he
  exact ChangeSpec.post_blind hp
end Go.Proofs.YtealmfcimoomlaaDoor
