/- Texts of this claim, one behind the other: UParse3, UParse4. Conditions: those of each theorem. -/
import Derived.Test.YtealmfcimoomlaaGreatDoorUParse2
/- markup.Parse: where its closure starts; an element begins. -/
namespace Go.Proofs.YtealmfcimoomlaaGreatDoor.PA
open Go.RowKit Go.Proofs.YtealmfcimoomlaaGreatDoorW.PrintWords Go.Proofs.YtealmfcimoomlaaGreatDoorW.PrintLast Go.Proofs.YtealmfcimoomlaaGreatDoorW.PrintMore
set_option linter.unusedVariables false
set_option linter.unusedSimpArgs false
theorem infoP_ptr : (Tryz.prog.info? 53).map (fun i => (i.zero, i.size, i.bytes)) = some (some (.pointer none), 1, 8) := by kernel_rfl
theorem infoP_tree : (Tryz.prog.info? 35).map (fun i => (i.zero, i.size, i.bytes)) = some (some (.agg #[(.int .i64 0), (.string ⟨#[]⟩), (.slice none 0 0), (.string ⟨#[]⟩), (.slice none 0 0)]), 5, 88) := by kernel_rfl
/-- Where the closure starts: what is open, apart from the event's attributes. -/
structure Told (B vo : Nat) (st : List TreeS) (al : List S61) (v : Value) (n0 : Nat) (w : World) (bs : List Nat) (ov : Value) (lv : Nat → Nat) : Prop where
  os : OpenS B vo st w bs ov lv
  nw : ∀ k, n0 ≤ k → k < w.heap.size → lv k = st.length + 1
  zr : ∀ k, w.heap.size ≤ k → lv k = 0
  vn : vo < n0
  on : ∀ k, ov.ownBlock = some k → k < n0
  bn : ∀ k ∈ bs, k < n0
  lb : B ≤ n0
  ln : n0 ≤ w.heap.size
  av : Kd.R k61 61 w B (fun k => lv k = st.length + 1) v al
theorem told_start {B vo r : Nat} {l : List Evt} {al : List S61} {w0 w : World} {v : Value} (hP : OpenP B vo l w0) (hr : RB r w0) (hk : KeepR r w0 w) (hbl : Below B w0 w) (hB : B ≤ w0.heap.size) (hv : Kd.R k61 61 w w0.heap.size (fun _ => True) v al) :
    ∃ bs ov lv, Told B vo (stackOf l) al v w0.heap.size w bs ov lv := by
  obtain ⟨h0, bs, ov, lv, h⟩ := hP
  have hl : ∀ k, k < w0.heap.size → (if k < w0.heap.size then lv k else if k < w.heap.size then (stackOf l).length + 1 else 0) = lv k := fun k hk => if_pos hk
  refine ⟨bs, ov, fun k => if k < w0.heap.size then lv k else if k < w.heap.size then (stackOf l).length + 1 else 0, ((h.relabel hl).keep hr hk), fun k h1 h2 => ?_, fun k h1 => ?_, lt_of_heap h.ho, fun k hk => ?_, fun k hk => ?_, hB, hbl.size, ?_⟩
  · show (if _ then _ else _) = _
    rw [if_neg (by omega), if_pos h2]
  · show (if _ then _ else _) = _
    have := hbl.size
    rw [if_neg (by omega), if_neg (by omega)]
  · obtain ⟨c, hc⟩ := own_typed h.ro k hk
    exact lt_of_heap hc
  · obtain ⟨_, _, cs, hc⟩ := h.fr.blk k hk
    exact lt_of_heap hc
  · refine Kd.R_lower (Kd.R_mono (Kd.R_bound hv) (fun k hk => ?_)) hB
    show (if _ then _ else _) = _
    rw [if_neg (by have := hk.2.1; omega), if_pos hk.2.2.1]
/-- What the closure leaves alone. -/
theorem told_keeps {n0 b : Nat} {x : Option Nat} {w w' : World} {c : Array Value} {t : TypeId} (hw : ∀ k, k < w.heap.size → k ≠ b → some k ≠ x → w'.heap[k]? = w.heap[k]?) (hb : w.heap[b]? = some (.cells c t (0, 0))) (ht : t ∉ keptTys) (hn : b < n0)
    (hx : ∀ k, x = some k → k < n0 ∧ ∃ c' t', w.heap[k]? = some (.cells c' t' (0, 0)) ∧ t' ∉ keptTys) : KeepS n0 w w' := by
  intro k o ho hk
  refine (hw k (lt_of_heap ho) ?_ ?_).trans ho
  · rintro rfl
    rcases hk with hk | ⟨c1, t1, fz, e, h1⟩
    · omega
    · rw [hb] at ho
      injection ho with ho
      rw [← ho] at e
      injection e with _ e _
      subst e
      exact ht h1
  · intro e
    obtain ⟨h1, c', t', h2, h3⟩ := hx k e.symm
    rcases hk with hk | ⟨c1, t1, fz, e, h4⟩
    · omega
    · rw [h2] at ho
      injection ho with ho
      rw [← ho] at e
      injection e with _ e _
      subst e
      exact h3 h4
set_option maxHeartbeats 16000000 in
set_option maxRecDepth 100000 in
theorem told1 (B vo n0 : Nat) (t : TreeS) (ts : List TreeS) (n tx : ByteArray) (al : List S61) (w : World) (v : Value) (bs : List Nat) (ov : Value) (lv : Nat → Nat) (h : Told B vo (t :: ts) al v n0 w bs ov lv) (hs : ts.length ≤ 16384) :
    Calls Tryz.prog 26 #[(Evt.mk 1 n al tx).val v, .pointer (some ⟨vo, 0, none⟩)] w fun x w' => x = .returned (.tuple #[]) ∧ (∃ bs ov lv, OpenS B vo (elem0 n al :: t :: ts) w' bs ov lv) ∧ KeepS n0 w w' ∧ Below B w w' := by
  obtain ⟨A, ca, rfl⟩ := Kd.R_slice h.av
  have HT := Aside0.mk h
  have hlen := h.os.fr.len
  cases bs with
  | nil => cases hlen
  | cons b bs =>
    obtain ⟨g, cap, rfl, hcap, hcapm, hBg, hcl⟩ := ptrs_last h.os.ro
    have hNs : bs.length + 1 ≤ 16385 := by rw [List.length_cons, List.length_cons] at hlen; omega
    have HLN := Aside0.mk hlen
    have ho := h.os.ho
    have hrow := own_typed h.os.ro g rfl
    obtain ⟨crow, hcrow⟩ := hrow
    generalize hNN : bs.length + 1 = N at *
    have HNN := Aside0.mk hNN
    have hl1 : bs.length = N - 1 := by omega
    rw [hl1] at hcl
    have hal := (Below.refl w.heap.size w).alloc (Nat.le_refl _) (.cells #[.int .i64 1, .string n, .slice A al.length ca, .string tx] 58)
    have hx := blk_new w (.cells #[.int .i64 1, .string n, .slice A al.length ca, .string tx] 58)
    have hov := blkU_below hal ho
    have hrw := blkU_below hal hcrow
    have cv := (blk_cell hov 0).trans rfl
    have zv := blk_frozen hov 0
    have ck : (w.alloc (.cells #[.int .i64 1, .string n, .slice A al.length ca, .string tx] 58)).cell? ⟨g, N - 1, none⟩ = some (.pointer (some ⟨b, 0, none⟩)) := (blk_cell hrw (N - 1)).trans ((blk_cell hcrow (N - 1)).symm.trans hcl)
    have ck2 : (w.alloc (.cells #[.int .i64 1, .string n, .slice A al.length ca, .string tx] 58)).cell? ⟨g, ((N : Int) - 1).toNat, none⟩ = some (.pointer (some ⟨b, 0, none⟩)) := by rw [show ((N : Int) - 1).toNat = N - 1 by omega]; exact ck
    have e0 := (blk_cell hx 0).trans rfl
    have e1 := (blk_cell hx 1).trans rfl
    have e2 := (blk_cell hx 2).trans rfl
    have e3 := (blk_cell hx 3).trans rfl
    have p0 : ((N : Int) == 0) = false := beq_eq_false_iff_ne.mpr (by omega)
    have p1 := eq_true (show (0 : Int) ≤ (N : Int) - 1 by omega)
    have p2 := eq_true (show (N : Int) - 1 < (N : Int) by omega)
    have p1b := eq_true (show (1 : Int) ≤ (N : Int) by omega)
    have p1c := eq_true (show 1 ≤ N by omega)
    have p1d := eq_true (show 0 < N by omega)
    have hw := Go.Proofs.YtealmfcimoomlaaGreatDoorW.PrintLast.i64_w ((N : Int) - 1)
    rw [wrap_in (n := (N : Int) - 1) (by omega) (by omega)] at hw
    have HAL := Aside0.mk hal
    have HOV := Aside0.mk hov
    have hro0 := h.os.ro
    have hxn : (b :: bs).length = N := hNN
    rw [hxn] at hro0
    generalize hxs : ptrs (b :: bs).reverse = xs at hro0
    have HXS := Aside0.mk hxs
    have HRO := Aside0.mk hro0
    clear hro0 hxn hxs
    clear hlen hl1 hNN h hcl hcrow ho hal hov hrw hx
    show Calls _ _ #[.agg #[.int .i64 1, .string n, .slice A al.length ca, .string tx], .pointer (some ⟨vo, 0, none⟩)] _ _
    go_enter Tryz.func26, Tryz.ntmps26
    have HW := Aside0.mk (below_alloc HAL.out (.cells #[.int .i64 1, .string n, .slice A al.length ca, .string ⟨#[]⟩, .slice none 0 0] 35))
    have HB0 := Aside0.mk (HW.out.mono (Nat.le_trans HT.out.lb HT.out.ln))
    go_wp2_with (at_builtin; refine print_append_cells (w0 := w) B rfl (.tmp 39) (.tmp 46) 54 53 (.pointer none) 1 8 rfl Tryz.underlying54 infoP_ptr rfl (by decide) (by decide) (.slice (some ⟨g, 0, none⟩) N cap) N xs [.pointer (some ⟨w.heap.size + 1, 0, none⟩)] rfl ?aX rfl ?a1 ?aO HB0.out ?aB ?aL ?_)
    case aX => rw [show ∀ a b : Obj, ((w.alloc a).alloc b).heap.size = w.heap.size + 1 + 1 from fun a b => by simp only [World.alloc, Array.size_push]]; rfl
    case a1 => intro u hu; rw [List.mem_singleton.mp hu]; rfl
    case aO => exact own_move HRO.out fun k hk => by obtain ⟨c, hc⟩ := own_typed HRO.out k hk; exact HW.out.block k (lt_of_heap hc)
    case aB => exact Nat.le_trans HT.out.lb (Nat.le_trans HT.out.ln HW.out.size)
    case aL => omega
    intro v1 w1 hown1 hb1 hg1 hat1
    have hgv : some vo ≠ (Value.slice (some ⟨g, 0, none⟩) N cap).ownBlock := own_ne HRO.out HT.out.os.ho (by decide)
    have hvo1 : w1.heap[vo]? = some (.cells #[.slice (some ⟨g, 0, none⟩) N cap] 54 (0, 0)) := blk_grown (blkU_below HW.out HT.out.os.ho) hg1 hgv
    have HVO1 := Aside0.mk hvo1
    have zv1 := blk_frozen hvo1 0
    have cv1 := (blk_cell hvo1 0).trans rfl
    obtain ⟨A1, c1, rfl⟩ := own_slice hown1
    have HG1 := Aside0.mk hg1
    have HB1 := Aside0.mk hb1
    have HO1 := Aside0.mk hown1
    clear hown1 hb1 hg1 hat1 hgv hvo1 cv zv ck ck2 e0 e1 e2 e3
    go_wp2_with fail
    go_end0
    have hmv : ∀ k, k < w.heap.size → k ≠ vo → some k ≠ (Value.slice (some ⟨g, 0, none⟩) N cap).ownBlock → (w1.setCell ⟨vo, 0, none⟩ (.slice A1 (N + 1) c1)).heap[k]? = w.heap[k]? := fun k hk h1 h2 => ((Below.heap_setCell w1 ⟨vo, 0, none⟩ _ k h1).trans (HG1.out.block k (Nat.lt_of_lt_of_le hk HW.out.size) h2)).trans (HW.out.block k hk)
    have hvl := lt_of_heap HT.out.os.ho
    have hge : g < w.heap.size := by
      obtain ⟨c, hc⟩ := own_typed HRO.out g rfl
      exact lt_of_heap hc
    have hs1 : (w.alloc (.cells #[.int .i64 1, .string n, .slice A al.length ca, .string tx] 58)).heap.size = w.heap.size + 1 := by simp only [World.alloc, Array.size_push]
    have hnb := blk_new (w.alloc (.cells #[.int .i64 1, .string n, .slice A al.length ca, .string tx] 58)) (.cells #[.int .i64 1, .string n, .slice A al.length ca, .string ⟨#[]⟩, .slice none 0 0] 35)
    rw [hs1] at hnb
    have hnb1 := blk_grown hnb HG1.out (fun e => by have e2 : w.heap.size + 1 = g := Option.some.inj e; omega)
    have hnb2 := (Below.heap_setCell w1 ⟨vo, 0, none⟩ (.slice A1 (N + 1) c1) (w.heap.size + 1) (by show _ ≠ vo; omega)).trans hnb1
    have hszW := HG1.out.size
    have hszw := HW.out.size
    have hsz : w.heap.size ≤ (w1.setCell ⟨vo, 0, none⟩ (.slice A1 (N + 1) c1)).heap.size := by simp only [World.setCell, Array.size_modify]; omega
    have hat : Kd.R k61 61 (w1.setCell ⟨vo, 0, none⟩ (.slice A1 (N + 1) c1)) B (fun k => lv k = (t :: ts).length + 1) (.slice A al.length ca) al := by
      refine Kd.R_mono (Kd.R_move (Kd.R_bound HT.out.av) (fun k hk => ?_)) (fun _ h => h.1)
      obtain ⟨a1, a2, a3, q, hq, c, hc⟩ := hk
      have hqn : q ≠ 54 ∧ q ≠ 53 := by
        have : ∀ q, q ∈ 61 :: k61.E → q ≠ 54 ∧ q ≠ 53 := by decide
        exact this q hq
      refine hmv k a3 (blk_ne hc HT.out.os.ho hqn.1) ?_
      exact own_ne HRO.out hc (fun e => hqn.2 e.symm)
    have hne1 := own_ne HO1.out HVO1.out (by decide)
    have hro1 := own_setCell (p := ⟨vo, 0, none⟩) HO1.out hne1 (.slice A1 (N + 1) c1)
    have hbl1 := HB1.out.setCell (p := ⟨vo, 0, none⟩) HT.out.os.bo (.slice A1 (N + 1) c1)
    have ho1 := blk_set HVO1.out 0 (.slice A1 (N + 1) c1)
    refine ⟨rfl, ⟨(w.heap.size + 1) :: b :: bs, .slice A1 (N + 1) c1, lv, HT.out.os.push (t := elem0 n al) (nb := w.heap.size + 1) (va := .slice A al.length ca) (Nat.le_trans HT.out.lb (Nat.le_succ_of_le HT.out.ln)) (HT.out.zr _ (Nat.le_succ _)) (Nat.le_succ _) hsz hnb2 rfl hat hmv ho1 ?_⟩, ?_, hbl1⟩
    · rw [HXS.out, List.length_cons, HNN.out]
      exact hro1
    · refine told_keeps hmv HT.out.os.ho (by decide) HT.out.vn fun k hk => ⟨HT.out.on k hk, ?_⟩
      obtain ⟨c, hc⟩ := own_typed HRO.out k hk
      exact ⟨c, _, hc, by decide⟩
end Go.Proofs.YtealmfcimoomlaaGreatDoor.PA

/- markup.Parse: a child more, in memory. Written by wip/gen/parse04.py. -/
namespace Go.Proofs.YtealmfcimoomlaaGreatDoor.PA
open Go.RowKit Go.Proofs.YtealmfcimoomlaaGreatDoorW.PrintWords Go.Proofs.YtealmfcimoomlaaGreatDoorW.PrintLast Go.Proofs.YtealmfcimoomlaaGreatDoorW.PrintMore
set_option linter.unusedVariables false
set_option linter.unusedSimpArgs false
/-- Two last stores that may come up in either order. -/
theorem twoLast_ {P : Program} {md : Region.Mode} {ops : Array Oper} {Q : Exit → Act → World → Prop} {S : World → Prop} {ds : List Nat} {i j : Nat} {Ni Nj : Option Tmp} {oi oj : Oper} {fuel : Nat} {l : Array Bool} {a : Act} {w : World} (li lj : Array Bool) (hi : ops[i]? = some oi) (hj : ops[j]? = some oj) (hNi : oi.dst = Ni) (hNj : oj.dst = Nj)
    (hc : (Region.ready md ops l == [i, j] && l.setIfInBounds i true == li && l.setIfInBounds j true == lj) = true) (hdi : i ∈ ds) (hdj : j ∈ ds)
    (h1 : ∀ K : Act → World → Prop, Shut (∀ a' w', wpAnyLast P md ops Q S ds fuel li a' w' → K a' w') → if Region.wanted oi (yielded ops a.tmps) = true then Oper.wp P oi a w K Q else K (a.put Ni undef) w)
    (h2 : ∀ K : Act → World → Prop, Shut (∀ a' w', wpAnyLast P md ops Q S ds fuel lj a' w' → K a' w') → if Region.wanted oj (yielded ops a.tmps) = true then Oper.wp P oj a w K Q else K (a.put Nj undef) w) :
    wpAnyLast P md ops Q S ds (fuel + 1) l a w := by
  subst hNi
  subst hNj
  simp only [Bool.and_eq_true, beq_iff_eq] at hc
  obtain ⟨⟨h3, h4⟩, h5⟩ := hc
  subst h4
  subst h5
  exact wpAnyLast_ready h3 (by simp) (AllReadyL.cons_last hi hdi (fun K hK => h1 K hK) (AllReadyL.cons_last hj hdj (fun K hK => h2 K hK) AllReadyL.nil))
theorem setCell_comm {w : World} {p q : Addr} (h : p.block ≠ q.block) (u v : Value) : (w.setCell p u).setCell q v = (w.setCell q v).setCell p u := by
  have e : ((w.setCell p u).setCell q v).heap = ((w.setCell q v).setCell p u).heap := by
    apply Array.ext_getElem?
    intro k
    simp only [World.setCell, Array.getElem?_modify]
    by_cases h1 : q.block = k
    · subst h1
      rw [if_pos rfl, if_neg h, if_neg h, if_pos rfl]
    · rw [if_neg h1]
      by_cases h2 : p.block = k
      · subst h2
        rw [if_pos rfl, if_pos rfl, if_neg h1]
      · rw [if_neg h2, if_neg h2, if_neg h1]
  have : ∀ a b : World, a.heap = b.heap → a = { b with heap := a.heap } → a = b := fun a b h1 h2 => by rw [h2, h1]
  exact this _ _ e rfl
theorem put5_comm {w : World} {g b : Nat} (h : b ≠ g) (o j : Nat) (c : TreeS) (va vk u : Value) : put5 (w.setCell ⟨b, j, none⟩ u) g o c va vk = (put5 w g o c va vk).setCell ⟨b, j, none⟩ u := by
  unfold put5
  rw [setCell_comm (p := ⟨b, j, none⟩) (q := ⟨g, o, none⟩) h, setCell_comm (p := ⟨b, j, none⟩) (q := ⟨g, o + 1, none⟩) h, setCell_comm (p := ⟨b, j, none⟩) (q := ⟨g, o + 2, none⟩) h, setCell_comm (p := ⟨b, j, none⟩) (q := ⟨g, o + 3, none⟩) h, setCell_comm (p := ⟨b, j, none⟩) (q := ⟨g, o + 4, none⟩) h]
/-- A row of trees that is not empty. -/
theorem tree_row {w : World} {B n c : Nat} {ok : Nat → Prop} {A : Option Addr} {xs : List TreeS} (h : Kd.R k35 35 w B ok (.slice A (n + 1) c) xs) : ∃ g cur, A = some ⟨g, 0, none⟩ ∧ w.heap[g]? = some (.cells cur 35 (0, 0)) ∧ cur.size = c * 5 ∧ n + 1 ≤ c ∧ c ≤ maxLen ∧ ok g := by
  obtain ⟨h0, inner, ⟨e0, ⟨e1, _⟩ | ⟨g, cap, cur, e1, e2, e3, e4, e5, e6, e7⟩⟩, hr⟩ := h
  · cases e1
  · injection e1 with f1 f2 f3
    subst f1; subst f3
    exact ⟨g, cur, rfl, e3, e6, by rw [f2]; exact e4, e5, h0 g rfl⟩
theorem put5_below {B : Nat} {w0 w : World} (h : Below B w0 w) {g : Nat} (hg : B ≤ g) (o : Nat) (c : TreeS) (va vk : Value) : Below B w0 (put5 w g o c va vk) := ((((h.setCell (p := ⟨g, o, none⟩) hg _).setCell (p := ⟨g, o + 1, none⟩) hg _).setCell (p := ⟨g, o + 2, none⟩) hg _).setCell (p := ⟨g, o + 3, none⟩) hg _).setCell (p := ⟨g, o + 4, none⟩) hg _
theorem world_ {P : Program} {md : Region.Mode} {ops : Array Oper} {Q : Exit → Act → World → Prop} {S : World → Prop} {ds : List Nat} {fuel : Nat} {l : Array Bool} {a : Act} {w w' : World} (hw : w = w') (h : wpAnyLast P md ops Q S ds fuel l a w') : wpAnyLast P md ops Q S ds fuel l a w := by
  subst hw
  exact h
theorem row_in {w : World} {g j : Nat} {cur : Array Value} {T : TypeId} (h : w.heap[g]? = some (.cells cur T (0, 0))) (hj : j < cur.size) : ∃ u, w.cell? ⟨g, j, none⟩ = some u := ⟨cur[j], (blk_cell h j).trans (Array.getElem?_eq_getElem hj)⟩
/-- The labels behind an end. -/
def lvP (m : Nat) (lv : Nat → Nat) (k : Nat) : Nat := if lv k = m + 2 then m + 1 else lv k
theorem KeepS.trans {n : Nat} {a b c : World} (h : KeepS n a b) (k : KeepS n b c) : KeepS n a c := fun i o h1 h2 => k i o (h i o h1 h2) h2
/-- The labels behind a child more. -/
def lvK (n m : Nat) (lv : Nat → Nat) (k : Nat) : Nat := if k < n then lv k else m
theorem kid_end {B vo b g n c : Nat} {t x : TreeS} {ts : List TreeS} {bs : List Nat} {ov va vk xa xk : Value} {lv : Nat → Nat} {w w1 w2 : World} {z : TreeS} (h : OpenS B vo (t :: ts) w (b :: bs) ov lv) (hb : w.heap[b]? = some (.cells (tcells t va vk) 35 (0, 0))) (h1 : Below w.heap.size w w1) (hg : w1.grownBy w2 vk.ownBlock)
    (hat : (Value.slice (some ⟨g, 0, none⟩) (n + 1) c).ownBlock = vk.ownBlock ∨ ∃ k, (Value.slice (some ⟨g, 0, none⟩) (n + 1) c).ownBlock = some k ∧ w1.heap.size ≤ k) (hR : Kd.R k35 35 w2 B (fun k => lvK w.heap.size (ts.length + 1) lv k = ts.length + 1) (.slice (some ⟨g, 0, none⟩) (n + 1) c) (t.f4 ++ [z])) (hn : t.f4.length = n)
    (hxa : Kd.R k61 61 w B (fun k => lv k = ts.length + 1 ∧ some k ≠ vk.ownBlock) xa x.f2) (hxk : Kd.R k35 35 w B (fun k => lv k = ts.length + 1 ∧ some k ≠ vk.ownBlock) xk x.f4) :
    OpenS B vo ({ t with f4 := t.f4 ++ [x] } :: ts) ((put5 w2 g (n * 5) x xa xk).setCell ⟨b, 4, none⟩ (.slice (some ⟨g, 0, none⟩) (n + 1) c)) (b :: bs) ov (lvK w.heap.size (ts.length + 1) lv)
      ∧ (∀ k, k < w.heap.size → k ≠ b → some k ≠ vk.ownBlock → ((put5 w2 g (n * 5) x xa xk).setCell ⟨b, 4, none⟩ (.slice (some ⟨g, 0, none⟩) (n + 1) c)).heap[k]? = w.heap[k]?) ∧ w2.heap.size ≤ ((put5 w2 g (n * 5) x xa xk).setCell ⟨b, 4, none⟩ (.slice (some ⟨g, 0, none⟩) (n + 1) c)).heap.size := by
  have hblt := lt_of_heap hb
  have hlb : lv b = 0 := (h.fr.blk b List.mem_cons_self).2.1
  have hgok : lvK w.heap.size (ts.length + 1) lv g = ts.length + 1 := hR.1 g rfl
  have hgb : b ≠ g := by
    rintro rfl
    have e : lvK w.heap.size (ts.length + 1) lv b = lv b := if_pos hblt
    rw [e, hlb] at hgok
    omega
  have hvk : some b ≠ vk.ownBlock := by
    intro e
    obtain ⟨⟨_, _, va0, vk0, g3, _, g5⟩, _, _⟩ := h.fr
    have e2 : vk = vk0 := by
      have he : tcells t va vk = tcells t va0 vk0 := by
        have := hb.symm.trans g3
        injection this with this
        injection this with this
      have := congrArg (fun a : Array Value => a[4]?) he
      simpa [tcells] using this
    subst e2
    have hl2 : lv b = ts.length + 1 := g5.1 b e.symm
    omega
  have hgw : ∀ k, k < w.heap.size → some k ≠ vk.ownBlock → k ≠ g := by
    intro k hk h2 e
    subst e
    rcases hat with e | ⟨k2, e, h3⟩
    · exact h2 e
    · have e2 : k = k2 := Option.some.inj e
      have := h1.size
      omega
  have hw2 : ∀ k, k < w.heap.size → some k ≠ vk.ownBlock → w2.heap[k]? = w.heap[k]? := fun k hk h2 => (hg.block k (Nat.lt_of_lt_of_le hk h1.size) h2).trans (h1.block k hk)
  have hw5 : ∀ k, k < w.heap.size → k ≠ b → some k ≠ vk.ownBlock → ((put5 w2 g (n * 5) x xa xk).setCell ⟨b, 4, none⟩ (.slice (some ⟨g, 0, none⟩) (n + 1) c)).heap[k]? = w.heap[k]? := fun k hk hkb h2 => ((Below.heap_setCell _ ⟨b, 4, none⟩ _ k hkb).trans (put5_other w2 g _ x xa xk k (hgw k hk h2))).trans (hw2 k hk h2)
  have hsz : w2.heap.size = ((put5 w2 g (n * 5) x xa xk).setCell ⟨b, 4, none⟩ (.slice (some ⟨g, 0, none⟩) (n + 1) c)).heap.size := by simp only [put5, World.setCell, Array.size_modify]
  have hmono : ∀ k, k < w.heap.size → lv k = ts.length + 1 ∧ some k ≠ vk.ownBlock → lvK w.heap.size (ts.length + 1) lv k = ts.length + 1 ∧ k ≠ g := fun k hk h2 => ⟨(if_pos hk : lvK w.heap.size (ts.length + 1) lv k = lv k).trans h2.1, hgw k hk h2.2⟩
  refine ⟨h.kid (vk' := .slice (some ⟨g, 0, none⟩) (n + 1) c) hb (Nat.le_trans h1.size (Nat.le_trans hg.size (Nat.le_of_eq hsz))) ?_ hw5 ?_, hw5, Nat.le_of_eq hsz⟩
  · subst hn
    refine Kd.R_far (p := ⟨b, 4, none⟩) (R_last_put hR (Kd.R_mono (Kd.R_move (Kd.R_bound hxa) (fun k hk => hw2 k hk.2.2.1 hk.1.2)) (fun k hk => hmono k hk.2.2.1 hk.1)) (Kd.R_mono (Kd.R_move (Kd.R_bound hxk) (fun k hk => hw2 k hk.2.2.1 hk.1.2)) (fun k hk => hmono k hk.2.2.1 hk.1))) (fun k hk => ?_) _
    intro e2
    have e3 : k = b := e2
    rw [e3] at hk
    have e : lvK w.heap.size (ts.length + 1) lv b = lv b := if_pos hblt
    have hk2 : lvK w.heap.size (ts.length + 1) lv b = ts.length + 1 := hk
    rw [e, hlb] at hk2
    omega
  · exact blk_set ((put5_other w2 g _ x xa xk b hgb).trans ((hw2 b hblt hvk).trans hb)) 4 _
end Go.Proofs.YtealmfcimoomlaaGreatDoor.PA
