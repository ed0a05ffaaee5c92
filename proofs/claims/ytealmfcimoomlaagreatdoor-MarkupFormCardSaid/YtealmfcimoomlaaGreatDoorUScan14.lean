/- Texts of this claim, one behind the other: UScan13, UScan14. Conditions: those of each theorem. -/
import Derived.Test.YtealmfcimoomlaaGreatDoorUSort
import Derived.Shelf.SlSortCmp.NoneTotal
/- scan.sorted: an element's beginning whose attributes rise. -/
namespace Go.Proofs.YtealmfcimoomlaaGreatDoor.PA
open Go.RowKit Go.Proofs.YtealmfcimoomlaaGreatDoorW.PrintWords Go.Proofs.YtealmfcimoomlaaGreatDoorW.PrintLast Go.Proofs.YtealmfcimoomlaaGreatDoorW.PrintMore Go.Shelf Go.Sort
set_option linter.unusedVariables false
set_option linter.unusedSimpArgs false
set_option maxHeartbeats 1000000 in
set_option maxRecDepth 100000 in
theorem cmpA_calls (x y : S61) (W : World) : Calls Tryz.prog 132 #[.agg #[.string x.f0, .string x.f1], .agg #[.string y.f0, .string y.f1]] W fun e w' => e = .returned (.int .i64 (Lib.compareBytes x.f0.data.toList y.f0.data.toList)) ∧ ∃ q os', w' = grow (W.drewN q) os' := by
  generalize hc : Lib.compareBytes x.f0.data.toList y.f0.data.toList = r
  have HC := Aside0.mk hc
  clear hc
  go_enter Tryz.func132, Tryz.ntmps132
  go_wp2_with (go_at_call 133; refine (Tryz.strings_Compare x.f0 y.f0 _).mono ?_; rintro e w' ⟨rfl, rfl⟩)
  go_ret
  exact ⟨by rw [← HC.out]; rfl, 0, _, by rw [alloc_eq_grow, alloc_eq_grow, grow_grow]; rfl⟩
theorem egS (args : Array Value) (w : World) : (callFunc 132 args).run Tryz.prog w = .ok (.enter 132 args) w := (enters_of Tryz.func132 (by kernel_rfl) rfl : Enters _ _) args w
/-- No two of them have the same name. -/
def apartA (l : List S61) : Prop := ∀ x ∈ l, ∀ y ∈ l, x.f0 = y.f0 → x = y
theorem sort_calls (l : List S61) (v : Value) (w : World) (base : Nat) (ok : Nat → Prop) (h : Kd.R k61 61 w base ok v l) (hd : apartA l) (hl : l.length < 4611686018427387904) :
    Calls Tryz.prog 131 #[v, .func (.func 132) #[] #[]] w fun e w' => e = .returned (.tuple #[]) ∧ Kd.R k61 61 w' base ok v (sortA l) ∧ w.grownBy w' v.ownBlock := by
  obtain ⟨A, c, rfl⟩ := Kd.R_slice h
  cases hl0 : l with
  | nil =>
    subst hl0
    have := AnyF.slices_SortFunc_none (P := Tryz.prog) Tryz.sortAttr A c (.func (.func 132) #[] #[]) w
    change Calls Tryz.prog 131 _ _ _ at this
    refine this.mono ?_
    rintro e w' ⟨rfl, rfl⟩
    exact ⟨rfl, by rw [show sortA [] = [] from by simp [sortA]]; exact h, rfl, rfl, rfl, Nat.le_refl _, fun _ _ _ => rfl⟩
  | cons a q =>
    rw [← hl0]
    have hne : l ≠ [] := by rw [hl0]; exact List.cons_ne_nil _ _
    haveI : Inhabited {a : S61 // a ∈ l} := ⟨⟨l.head hne, List.head_mem hne⟩⟩
    obtain ⟨g, hA⟩ : ∃ g, A = some ⟨g, 0, none⟩ := by
      obtain ⟨_, inner, hown, _⟩ := h
      rcases hown.2 with ⟨h1, h2⟩ | ⟨g, cap, cur, h1, _⟩
      · exact absurd (List.length_eq_zero_iff.mp h2) hne
      · injection h1 with h1 _ _; exact ⟨g, h1⟩
    subst hA
    have hs : l.attach.toArray.size = l.length := by simp
    have hblk : g < w.heap.size := by
      obtain ⟨_, _, _, _, cur, h3, _⟩ := attrs_block h
      exact lt_of_heap h3
    have hcon := AnyQ.slices_SortFunc_total (P := Tryz.prog) Tryz.sortAttr 2 Tryz.isAgg61 Tryz.sizeOf61 (encA l) (fun _ => rfl) (fun x v hv => by simp [encA] at hv; rcases hv with rfl | rfl <;> rfl) (cfA l) (swoA l) 132 #[] g 0 c l.attach.toArray w egS (fun _ _ _ _ x y => cmpA_calls x.1 y.1 _) (attrs_holds h) hblk (by rw [hs]; exact hl) (totalA l hd)
    rw [hs] at hcon
    change Calls Tryz.prog 131 _ _ _ at hcon
    refine hcon.mono ?_
    rintro e w' ⟨rfl, n, os, rfl⟩
    obtain ⟨h1, h2⟩ := attrs_sorted h n (l.attach.mergeSort fun x y => !(ltOf (cfA l)) y x) os (by rw [List.length_mergeSort]; simp)
    refine ⟨rfl, ?_, h2⟩
    have hm : (l.attach.mergeSort fun x y => !(ltOf (cfA l)) y x).map (·.1) = sortA l := by
      refine (List.map_mergeSort (f := fun x : {a : S61 // a ∈ l} => x.1) (r := fun x y => !(ltOf (cfA l)) y x) (s := fun x y => !ltA y x) (l := l.attach) (fun a _ b _ => rfl)).trans ?_
      rw [List.attach_map_subtype_val]
      rfl
    rw [hm] at h1
    exact h1
theorem size_alloc' (w : World) (o : Obj) : (w.alloc o).heap.size = w.heap.size + 1 := by show (w.heap.push o).size = _; simp
set_option maxHeartbeats 2000000 in
set_option maxRecDepth 100000 in
theorem sorted_calls (x : Evt) (v : Value) (w : World) (base : Nat) (ok : Nat → Prop) (h : Kd.R k61 61 w base ok v x.attrs) (hd : apartA x.attrs) (hl : x.attrs.length < 4611686018427387904) :
    Calls Tryz.prog 119 #[x.val v] w fun e w' => e = .returned (x.val v) ∧ Kd.R k61 61 w' base ok v (sortA x.attrs) ∧ w.grownBy w' v.ownBlock := by
  obtain ⟨A, c, rfl⟩ := Kd.R_slice h
  have HR := Aside0.mk h
  have HL := Aside0.mk hl
  have HD := Aside0.mk hd
  have hal : Below w.heap.size w ((w.alloc (.cells #[.int .i64 x.kind, .string x.name, .slice A x.attrs.length c, .string x.text] 58)).alloc (.cells #[.int .i64 0, .string ⟨#[]⟩, .slice none 0 0, .string ⟨#[]⟩] 58)) := ((Below.refl _ w).alloc (Nat.le_refl _) _).alloc (by rw [size_alloc']; omega) _
  have HC := Aside0.mk (sort_calls x.attrs (.slice A x.attrs.length c) _ base ok (Kd.R_below h hal) hd hl)
  have hsz : ((w.alloc (.cells #[.int .i64 x.kind, .string x.name, .slice A x.attrs.length c, .string x.text] 58)).alloc (.cells #[.int .i64 0, .string ⟨#[]⟩, .slice none 0 0, .string ⟨#[]⟩] 58)).heap.size = w.heap.size + 2 := by rw [size_alloc', size_alloc']
  have hB1 : ((w.alloc (.cells #[.int .i64 x.kind, .string x.name, .slice A x.attrs.length c, .string x.text] 58)).alloc (.cells #[.int .i64 0, .string ⟨#[]⟩, .slice none 0 0, .string ⟨#[]⟩] 58)).heap[w.heap.size]? = _ := (Lib.alloc_old _ _ _ (by rw [size_alloc']; omega)).trans (blk_new w (.cells #[.int .i64 x.kind, .string x.name, .slice A x.attrs.length c, .string x.text] 58))
  have hB2 := blk_new (w.alloc (.cells #[.int .i64 x.kind, .string x.name, .slice A x.attrs.length c, .string x.text] 58)) (.cells #[.int .i64 0, .string ⟨#[]⟩, .slice none 0 0, .string ⟨#[]⟩] 58)
  rw [size_alloc'] at hB2
  have hown : ∀ k, (Value.slice A x.attrs.length c).ownBlock = some k → k < w.heap.size := fun k hk => ((Kd.R_bound h).1 k hk).2.2.1
  generalize hW2 : (w.alloc (.cells #[.int .i64 x.kind, .string x.name, .slice A x.attrs.length c, .string x.text] 58)).alloc (.cells #[.int .i64 0, .string ⟨#[]⟩, .slice none 0 0, .string ⟨#[]⟩] 58) = W2 at *
  have HW := Aside0.mk hW2
  have HAL := Aside0.mk hal
  have HB1 := Aside0.mk hB1
  have HB2 := Aside0.mk hB2
  have HSZ := Aside0.mk hsz
  have HOWN := Aside0.mk hown
  clear h hl hd hal hsz hB1 hB2 hown hW2
  unfold Evt.val
  go_enter Tryz.func119, Tryz.ntmps119
  go_wp2_with fail
  rw [HW.out]
  refine HC.out.mono ?_
  rintro e w3 ⟨rfl, hR3, hG3⟩
  have G1 : w3.heap[w.heap.size]? = _ := (hG3.block _ (by rw [HSZ.out]; omega) (fun e => by have := HOWN.out _ e.symm; omega)).trans HB1.out
  have G2 : w3.heap[w.heap.size + 1]? = _ := (hG3.block _ (by rw [HSZ.out]; omega) (fun e => by have := HOWN.out _ e.symm; omega)).trans HB2.out
  have c0 : w3.cell? ⟨w.heap.size, 0, none⟩ = some (.int .i64 x.kind) := (blk_cell G1 0).trans rfl
  have c1 : w3.cell? ⟨w.heap.size, 1, none⟩ = some (.string x.name) := (blk_cell G1 1).trans rfl
  have c2 : w3.cell? ⟨w.heap.size, 2, none⟩ = some (.slice A x.attrs.length c) := (blk_cell G1 2).trans rfl
  have c3 : w3.cell? ⟨w.heap.size, 3, none⟩ = some (.string x.text) := (blk_cell G1 3).trans rfl
  have d0 : w3.cell? ⟨w.heap.size + 1, 0, none⟩ = some (.int .i64 0) := (blk_cell G2 0).trans rfl
  have d1 : w3.cell? ⟨w.heap.size + 1, 1, none⟩ = some (.string ⟨#[]⟩) := (blk_cell G2 1).trans rfl
  have d2 : w3.cell? ⟨w.heap.size + 1, 2, none⟩ = some (.slice none 0 0) := (blk_cell G2 2).trans rfl
  have d3 : w3.cell? ⟨w.heap.size + 1, 3, none⟩ = some (.string ⟨#[]⟩) := (blk_cell G2 3).trans rfl
  have f0 := blk_frozen G2 0
  have f1 := blk_frozen G2 1
  have f2 := blk_frozen G2 2
  have f3 := blk_frozen G2 3
  have HG2 := Aside0.mk G2
  have HG3 := Aside0.mk hG3
  have HR3 := Aside0.mk hR3
  clear G1 G2 hG3 hR3
  go_wp2
  have G5 := heap_set (heap_set (heap_set (heap_set HG2.out 0 (.int .i64 x.kind)) 1 (.string x.name)) 2 (.slice A x.attrs.length c)) 3 (.string x.text)
  refine bodyPost_ret (results_cell_row rfl _ _ (w.heap.size + 1) 58 _ (0, 0) _ rfl G5 Tryz.underlying58 rfl (by kernel_rfl)) rfl ?_
  have hR4 := Kd.R_types HR3.out HG2.out (by decide)
  refine ⟨rfl, Kd.R_mono (Kd.R_far (Kd.R_far (Kd.R_far (Kd.R_far hR4 (p := ⟨w.heap.size + 1, 0, none⟩) (fun k hk => hk.2) _) (p := ⟨w.heap.size + 1, 1, none⟩) (fun k hk => hk.2) _) (p := ⟨w.heap.size + 1, 2, none⟩) (fun k hk => hk.2) _) (p := ⟨w.heap.size + 1, 3, none⟩) (fun k hk => hk.2) _) (fun k hk => hk.1), ?_, ?_, ?_, ?_, ?_⟩
  · exact HG3.out.os.trans HAL.out.os
  · exact HG3.out.tape.trans HAL.out.tape
  · exact HG3.out.output.trans HAL.out.output
  · have := HG3.out.size
    have := HAL.out.size
    simp only [World.setCell, Array.size_modify]
    omega
  · intro k hk hne
    have hk1 : k ≠ w.heap.size + 1 := by omega
    rw [Below.heap_setCell _ _ _ _ hk1, Below.heap_setCell _ _ _ _ hk1, Below.heap_setCell _ _ _ _ hk1, Below.heap_setCell _ _ _ _ hk1]
    exact (HG3.out.block k (by rw [HSZ.out]; omega) hne).trans (HAL.out.block k hk)
end Go.Proofs.YtealmfcimoomlaaGreatDoor.PA

/- scan.reader: an element's beginning: what it reads. -/
namespace Go.Proofs.YtealmfcimoomlaaGreatDoor.PA
open Go.RowKit Go.Proofs.YtealmfcimoomlaaGreatDoorW.PrintWords Go.Proofs.YtealmfcimoomlaaGreatDoorW.PrintLast Go.Proofs.YtealmfcimoomlaaGreatDoorW.PrintMore
set_option linter.unusedVariables false
set_option linter.unusedSimpArgs false
def startEv (n : ByteArray) (l : List S61) : Evt := ⟨1, n, l, ⟨#[]⟩⟩
def endEv (n : ByteArray) : Evt := ⟨3, n, [], ⟨#[]⟩⟩
/-- The attributes up to the end of an element's beginning; is it empty? -/
def atsF (s : ByteArray) : Nat → St → List S61 → Res (List S61 × Bool)
  | 0, st, _ => .bad st.at_ 4
  | d + 1, st, l => (nextF s { st with at_ := skipF s blankV st.at_ }).bind fun c st1 =>
      if c = 47 then (mustF s { st1 with at_ := st1.at_ + 1 } 62).bind fun _ st2 => .ok (l, true) st2
      else if c = 62 then .ok (l, false) { st1 with at_ := st1.at_ + 1 }
      else if st.at_ < skipF s blankV st.at_ ∧ letterV c = true then (sAttrF s st1 l).bind fun a st2 => atsF s d st2 (l ++ [a])
      else .bad st1.at_ 3
theorem atsF_succ (s : ByteArray) (d : Nat) (st : St) (l : List S61) : atsF s (d + 1) st l = (nextF s { st with at_ := skipF s blankV st.at_ }).bind fun c st1 =>
      if c = 47 then (mustF s { st1 with at_ := st1.at_ + 1 } 62).bind fun _ st2 => .ok (l, true) st2
      else if c = 62 then .ok (l, false) { st1 with at_ := st1.at_ + 1 }
      else if st.at_ < skipF s blankV st.at_ ∧ letterV c = true then (sAttrF s st1 l).bind fun a st2 => atsF s d st2 (l ++ [a])
      else .bad st1.at_ 3 := rfl
/-- What an element's beginning tells and comes to. -/
def opensF (s : ByteArray) (st : St) : List Evt × Res Unit :=
  match beginsF (flushS st) st.at_ with
  | .bad a y => (flushE st, .bad a y)
  | .ok _ st1 => match nameP s { st1 with at_ := st1.at_ + 1 } with
    | .bad a y => (flushE st, .bad a y)
    | .ok n st2 => match atsF s (s.size + 1) st2 [] with
      | .bad a y => (flushE st, .bad a y)
      | .ok (l, true) st3 => (flushE st ++ [startEv n (sortA l)] ++ [endEv n], .ok () st3)
      | .ok (l, false) st3 => (flushE st ++ [startEv n (sortA l)], .ok () { st3 with opn := st3.opn ++ [n] })
/-- The ending of a method that tells. -/
def EndsE {B r : Nat} (K : Sink B r) (s : ByteArray) (l : List Evt) (w : World) (out : List Evt × Res Unit) (e : Ending) (w' : World) : Prop :=
  Below B w w' ∧ KeepT r w w' ∧ K.P (l ++ out.1) w' ∧ match out.2 with
  | .ok _ st => e = .returned (.tuple #[]) ∧ Rd B r K.tell s st w'
  | .bad a y => e = .panicked [{ v := faultV a y, recovered := false }]
theorem Res.bind_ok {α β : Type} {x : Res α} {f : α → St → Res β} {v : β} {st : St} (h : x.bind f = .ok v st) : ∃ a st1, x = .ok a st1 ∧ f a st1 = .ok v st := by
  cases x with
  | bad a y => cases h
  | ok a st1 => exact ⟨a, st1, rfl, h⟩
theorem valF_ok {s : ByteArray} {q : Int} : ∀ (d : Nat) (st : St) (acc : List UInt8) {st' : St} {v : List UInt8}, valF s q d st acc = .ok v st' → st.at_ ≤ s.size → acc.length ≤ 16384 → st' = { st with at_ := st'.at_ } ∧ st.at_ ≤ st'.at_ ∧ st'.at_ < s.size ∧ v.length ≤ 16384 := by
  intro d
  induction d with
  | zero => intro st acc st' v h; cases h
  | succ d ih =>
    intro st acc st' v h ha hl
    rw [valF_succ] at h
    obtain ⟨c, st1, hn, h'⟩ := Res.bind_ok h
    clear h
    obtain ⟨he, -, hlt⟩ := nextF_ok hn ha
    subst he
    have h := h'
    clear h'
    by_cases h1 : c = q
    · rw [if_pos h1] at h
      injection h with h2 h3
      subst h2; subst h3
      exact ⟨rfl, Nat.le_refl _, hlt, hl⟩
    rw [if_neg h1] at h
    by_cases h2 : c = 60
    · rw [if_pos h2] at h; cases h
    rw [if_neg h2] at h
    obtain ⟨t, st2, hx, h⟩ := Res.bind_ok h
    have hx2 : st2 = { st1 with at_ := st2.at_ } ∧ st1.at_ < st2.at_ ∧ st2.at_ ≤ s.size ∧ t.size ≤ 16384 := by
      split at hx
      · exact refP_ok hx hlt
      · exact charP_ok hx hlt
    split at h
    · cases h
    · rename_i hov
      obtain ⟨e1, e2, e3, e4⟩ := ih st2 _ h hx2.2.2.1 (by rw [List.length_append, ← Lib.size_eq]; omega)
      refine ⟨?_, by omega, e3, e4⟩
      rw [e1, hx2.1]
theorem sAttrF_ok {s : ByteArray} {st st' : St} {l : List S61} {a : S61} (h : sAttrF s st l = .ok a st') (ha : st.at_ ≤ s.size) : st' = { st with at_ := st'.at_ } ∧ st.at_ < st'.at_ ∧ st'.at_ ≤ s.size ∧ l.length < 32 ∧ hasName l a.f0 = false := by
  unfold sAttrF at h
  obtain ⟨n, st1, h1, h⟩ := Res.bind_ok h
  obtain ⟨e1, e2, e3, -⟩ := nameP_ok h1 ha
  split at h
  · cases h
  rename_i h32
  split at h
  · cases h
  rename_i hh
  obtain ⟨u, st2, h2, h⟩ := Res.bind_ok h
  obtain ⟨f1, f2⟩ := mustF_ok h2 e3
  obtain ⟨q, st3, h3, h⟩ := Res.bind_ok h
  obtain ⟨g1, -, g2⟩ := nextF_ok h3 (by rw [f1]; simp only; omega)
  split at h
  · obtain ⟨v, st4, h4, h⟩ := Res.bind_ok h
    obtain ⟨k1, k2, k3, -⟩ := valF_ok _ _ _ h4 (by have := g2; rw [← g1] at this; simp only; omega) (Nat.zero_le _)
    injection h with i1 i2
    subst i1; subst i2
    refine ⟨?_, ?_, by simp only; omega, by omega, by simpa using hh⟩
    · rw [k1, g1, f1, e1]
    · have : st3.at_ = st1.at_ + 1 := by rw [g1, f1]
      simp only at k2 ⊢
      omega
  · cases h
theorem apartA_snoc {l : List S61} {a : S61} (h : apartA l) (hn : hasName l a.f0 = false) : apartA (l ++ [a]) := by
  have hne : ∀ x ∈ l, x.f0 ≠ a.f0 := by
    intro x hx e
    have : hasName l a.f0 = true := List.any_eq_true.mpr ⟨x, hx, decide_eq_true e⟩
    rw [hn] at this; cases this
  intro x hx y hy e
  rcases List.mem_append.mp hx with hx | hx <;> rcases List.mem_append.mp hy with hy | hy
  · exact h x hx y hy e
  · rw [List.mem_singleton.mp hy] at e; exact absurd e (hne x hx)
  · rw [List.mem_singleton.mp hx] at e; exact absurd e.symm (hne y hy)
  · rw [List.mem_singleton.mp hx, List.mem_singleton.mp hy]
/-- An element's beginning under way: the event in a variable of its own, its attributes in a row of their own. -/
structure OW (B r : Nat) (tell : Value) (s : ByteArray) (st0 : St) (w0 : World) (n : ByteArray) (gx : Nat) (v : Value) (st : St) (l : List S61) (w : World) : Prop where
  way : Way B r tell s st0 w0 st w
  hx : w.heap[gx]? = some (.cells #[.int .i64 1, .string n, v, .string ⟨#[]⟩] 58 (0, 0))
  lx : w0.heap.size ≤ gx
  hr : Kd.R k61 61 w w0.heap.size (fun _ => True) v l
  ap : apartA l
  ll : l.length ≤ 32
section
variable {B r : Nat} {tell : Value} {s : ByteArray} {st0 : St} {w0 : World} {n : ByteArray} {gx : Nat} {v : Value} {st st' : St} {l : List S61} {w w' : World}
theorem OW.step (h : OW B r tell s st0 w0 n gx v st l w) (hb : Below B w w') (hk : KeepX r w w') (hr : Rd B r tell s st' w') : OW B r tell s st0 w0 n gx v st' l w' where
  way := h.way.step hb hk hr
  hx := hk.1 _ _ h.hx (by have := h.way.lt; have := h.lx; omega)
  lx := h.lx
  hr := attrs_keepX h.hr hk h.way.rd.rb
  ap := h.ap
  ll := h.ll
theorem OW.store (h : OW B r tell s st0 w0 n gx v st l w) (a : Nat) (z : Int) (hz : z = (a : Int)) : OW B r tell s st0 w0 n gx v { st with at_ := a } l (w.setCell ⟨r, 1, none⟩ (.int .i64 z)) := by
  subst hz
  obtain ⟨h0, ov, pv, bv, h1, h2⟩ := h.way.rd
  exact h.step ((Below.refl B w).setCell (p := ⟨r, 1, none⟩) h1.1 _) (KeepX.set w 1 _) (Rd.store (st' := { st with at_ := a }) h0 h1 h2 1 _ (by decide) (by decide) (by simp [rcells]) rfl rfl)
theorem OW.cells (h : OW B r tell s st0 w0 n gx v st l w) : w.cell? ⟨r, 0, none⟩ = some (.string s) ∧ w.cell? ⟨r, 1, none⟩ = some (.int .i64 st.at_) ∧ w.frozen? ⟨r, 1, none⟩ = false ∧ w.cell? ⟨r, 6, none⟩ = some tell ∧ w.cell? ⟨gx, 0, none⟩ = some (.int .i64 1) ∧ w.cell? ⟨gx, 1, none⟩ = some (.string n) ∧ w.cell? ⟨gx, 2, none⟩ = some v ∧ w.cell? ⟨gx, 3, none⟩ = some (.string ⟨#[]⟩) ∧ w.frozen? ⟨gx, 2, none⟩ = false := by
  obtain ⟨h0, ov, pv, bv, h1, h2⟩ := h.way.rd
  obtain ⟨c0, c1, -, -, c6, z1, -, -⟩ := Rd.cells h1
  exact ⟨c0, c1, z1, c6, (blk_cell h.hx 0).trans rfl, (blk_cell h.hx 1).trans rfl, (blk_cell h.hx 2).trans rfl, (blk_cell h.hx 3).trans rfl, blk_frozen h.hx 2⟩
theorem OW.drew (h : OW B r tell s st0 w0 n gx v st l w) : OW B r tell s st0 w0 n gx v st l w.drew := h.step (Below.drew (Below.refl B w)) (KeepX.drewN r w 1) h.way.rd
theorem OW.drewN (h : OW B r tell s st0 w0 n gx v st l w) (k : Nat) : OW B r tell s st0 w0 n gx v st l (w.drewN k) := h.step (pw_below_drewN (Below.refl B w) k) (KeepX.drewN r w k) (h.way.rd.drewN k)
/-- One more attribute. -/
theorem OW.app (h : OW B r tell s st0 w0 n gx v st l w) {a : S61} {v1 : Value} (hB : Below w0.heap.size w w') (hG : w.grownBy w' v.ownBlock) (hR : Kd.R k61 61 w' w0.heap.size (fun _ => True) v1 (l ++ [a])) (ha : apartA (l ++ [a])) (hl : (l ++ [a]).length ≤ 32) :
    w'.heap[gx]? = some (.cells #[.int .i64 1, .string n, v, .string ⟨#[]⟩] 58 (0, 0)) ∧ OW B r tell s st0 w0 n gx v1 st (l ++ [a]) (w'.setCell ⟨gx, 2, none⟩ v1) := by
  have hx := blk_grown h.hx hG (h.hr.2.ne_block h.hx (by decide))
  refine ⟨hx, h.way.near (hB.setCell (p := ⟨gx, 2, none⟩) h.lx v1), heap_set hx 2 v1, h.lx, ?_, ha, hl⟩
  exact Kd.R_mono (Kd.R_far (Kd.R_types hR hx (by decide)) (p := ⟨gx, 2, none⟩) (fun k hk => hk.2) v1) (fun k hk => hk.1)
end
theorem grown_below {n : Nat} {w w' : World} {row : Option Nat} (h : w.grownBy w' row) (hr : ∀ k, row = some k → n ≤ k) (hn : n ≤ w.heap.size) : Below n w w' :=
  ⟨h.os, h.tape, h.output, h.size, fun k hk => h.block k (by omega) (fun e => by have := hr k e.symm; omega)⟩
theorem deep_append : ∀ a b : List Evt, deep (a ++ b) = deep a + deep b
  | [], b => by simp [deep]
  | e :: a, b => by rw [List.cons_append, deep, deep, deep_append a b]; omega
theorem flushE_deep (st : St) : deep (flushE st) = 0 := by
  unfold flushE
  split
  · rfl
  · rfl
theorem flushE_len (st : St) : (flushE st).length ≤ 1 := by
  unfold flushE
  split
  · exact Nat.zero_le _
  · exact Nat.le_refl _
/-- What a region that tells may read of the reader and of the event. -/
theorem OS_of {B r : Nat} (K : Sink B r) {s : ByteArray} {st : St} {w : World} {n : ByteArray} {gx : Nat} {v : Value} (h : Rd B r K.tell s st w) (hx : w.heap[gx]? = some (.cells #[.int .i64 1, .string n, v, .string ⟨#[]⟩] 58 (0, 0))) :
    Rd B r K.tell s st w ∧ w.cell? ⟨r, 6, none⟩ = some (.func (.func K.g) #[] K.lb) ∧ w.cell? ⟨gx, 0, none⟩ = some (.int .i64 1) ∧ w.cell? ⟨gx, 1, none⟩ = some (.string n) ∧ w.cell? ⟨gx, 2, none⟩ = some v ∧ w.cell? ⟨gx, 3, none⟩ = some (.string ⟨#[]⟩) :=
  ⟨h, cell6 h, (blk_cell hx 0).trans rfl, (blk_cell hx 1).trans rfl, (blk_cell hx 2).trans rfl, (blk_cell hx 3).trans rfl⟩
/-- A call of a Go function in a region of no fixed order, where it panics. -/
theorem goesP_ {P : Program} {ops : Array Oper} {Q : Exit → Act → World → Prop} {oi : Oper} {N : Option Tmp} {a : Act} {w : World} {K : Act → World → Prop} {f : FuncId} {fn : Func} {as_ : Array Operand} {ts : Array TypeId} (hf : P.funcs[f]? = some fn) (hname : (fn.name == "runtime.NumGoroutine") = false) (hb : fn.body.isSome = true) (args : Array Value)
    (hw : Region.wanted oi (yielded ops a.tmps) = true) (hop : oi.op = .call { callee := .value (.func f), args := as_, argTypes := ts }) (hargs : as_.map a.eval = args)
    (h : Calls P f args w fun e w' => ∃ c, e = .panicked c ∧ Q (.panic c) a w') : if Region.wanted oi (yielded ops a.tmps) = true then Oper.wp P oi a w K Q else K (a.put N undef) w := by
  rw [if_pos hw]
  have he := Go.Proofs.YtealmfcimoomlaaGreatDoorW.PrintLast.enters_ hf hname hb args w
  have hrun : (execOp a.eval oi).run P w = .ok (.enter f args) w := by
    unfold execOp
    simp [hop, resolve, Deferred.ofValue, invoke, Act.eval, hargs, he]
  unfold Oper.wp
  rw [hrun, Oper.upon_enter]
  refine h.mono fun e w'' hh => ?_
  obtain ⟨c, rfl, hk⟩ := hh
  exact hk
/-- A name more is open. -/
theorem Rd.pushed {B r : Nat} {tell : Value} {s : ByteArray} {st : St} {w w1 : World} {ov pv bv v1 : Value} {x : ByteArray} (h0 : B ≤ w.heap.size) (h1 : Bld 86 B r 3 (rcells s st ov pv bv tell) (Lib.byteCells st.text) w) (h2 : w.ownsRow B 9 1 ov st.opn.length (pw_strs st.opn))
    (hG : w.grownBy w1 ov.ownBlock) (hown : w1.ownsRow B 9 1 v1 (st.opn.length + 1) (pw_strs st.opn ++ [.string x])) :
    w1.heap[r]? = some (.cells (rcells s st ov pv bv tell) 86 (0, 0)) ∧ Rd B r tell s { st with opn := st.opn ++ [x] } (w1.setCell ⟨r, 2, none⟩ v1) ∧ KeepR r w (w1.setCell ⟨r, 2, none⟩ v1) := by
  have hne : some r ≠ ov.ownBlock := own_ne h2 h1.2.1 (by decide)
  have hr : w1.heap[r]? = w.heap[r]? := hG.block r (lt_of_heap h1.2.1) hne
  have hr1 := hr.trans h1.2.1
  have hb1 : Bld 86 B r 3 (rcells s st ov pv bv tell) (Lib.byteCells st.text) w1 := h1.moveK hr fun v k hv hk => by
    obtain ⟨cur, fz, hc⟩ := h1.row_lt v k hv hk
    refine hG.block k (lt_of_heap hc) fun e => ?_
    obtain ⟨cells, hc2⟩ := own_typed h2 k e.symm
    rw [hc] at hc2
    injection hc2 with hc2
    injection hc2 with _ hc2 _
    exact absurd hc2 (by decide)
  refine ⟨hr1, ⟨by simp only [World.setCell, Array.size_modify]; exact Nat.le_trans h0 hG.size, v1, pv, bv, ?_, ?_⟩, fun k o k1 k2 k3 k4 => ?_⟩
  · have := hb1.other 2 (by decide) (by decide) v1
    exact this
  · have h3 : w1.ownsRow B 9 1 v1 (st.opn ++ [x]).length (pw_strs (st.opn ++ [x])) := by
      rw [List.length_append]
      simpa [pw_strs] using hown
    exact own_setCell h3 (own_ne h3 hr1 (by decide)) v1
  · refine (Below.heap_setCell _ _ _ _ k2).trans ((hG.block k (lt_of_heap k1) fun e => ?_).trans k1)
    obtain ⟨cells, hc2⟩ := own_typed h2 k e.symm
    rw [hc2] at k1
    exact k4 cells (0, 0) (Option.some.inj k1).symm
end Go.Proofs.YtealmfcimoomlaaGreatDoor.PA
