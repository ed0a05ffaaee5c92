/- Texts of this claim, one behind the other: UParse1, UParse2. Conditions: those of each theorem. -/
import Derived.Test.YtealmfcimoomlaaGreatDoorUScan22
/- markup.Parse: the elements that are open, in memory. -/
namespace Go.Proofs.YtealmfcimoomlaaGreatDoor.PA
open Go.RowKit Go.Proofs.YtealmfcimoomlaaGreatDoorW.PrintWords Go.Proofs.YtealmfcimoomlaaGreatDoorW.PrintLast Go.Proofs.YtealmfcimoomlaaGreatDoorW.PrintMore
set_option linter.unusedVariables false
set_option linter.unusedSimpArgs false
abbrev TreeS := S35
def elem0 (n : ByteArray) (l : List S61) : TreeS := ⟨1, n, l, ⟨#[]⟩, []⟩
def text0 (t : ByteArray) : TreeS := ⟨2, ⟨#[]⟩, [], t, []⟩
def kidS (x : TreeS) : List TreeS → List TreeS
  | [] => []
  | t :: r => { t with f4 := t.f4 ++ [x] } :: r
def popS : List TreeS → List TreeS
  | t :: u :: r => { u with f4 := u.f4 ++ [t] } :: r
  | l => l
/-- What an event makes of the elements that are open (the last one first). -/
def stackStep (st : List TreeS) (e : Evt) : List TreeS := if e.kind = 1 then elem0 e.name e.attrs :: st else if e.kind = 2 then kidS (text0 e.text) st else popS st
def stackOf (l : List Evt) : List TreeS := l.foldl stackStep [⟨0, ⟨#[]⟩, [], ⟨#[]⟩, []⟩]
theorem stackOf_snoc (l : List Evt) (e : Evt) : stackOf (l ++ [e]) = stackStep (stackOf l) e := by unfold stackOf; rw [List.foldl_append]; rfl
/-- The types of what Parse holds. -/
def treeTys : List TypeId := [54, 53, 35, 61]
def tcells (t : TreeS) (va vk : Value) : Array Value := #[.int .i64 t.f0, .string t.f1, va, .string t.f3, vk]
/-- An open element: its block, its attributes and children, which lie in blocks of its own level. -/
def Frame (B : Nat) (lv : Nat → Nat) (w : World) (lev b : Nat) (t : TreeS) : Prop :=
  B ≤ b ∧ lv b = 0 ∧ ∃ va vk, w.heap[b]? = some (.cells (tcells t va vk) 35 (0, 0)) ∧ Kd.R k61 61 w B (fun k => lv k = lev) va t.f2 ∧ Kd.R k35 35 w B (fun k => lv k = lev) vk t.f4
def Frames (B : Nat) (lv : Nat → Nat) (w : World) : List Nat → List TreeS → Prop
  | [], [] => True
  | b :: bs, t :: ts => Frame B lv w (ts.length + 1) b t ∧ b ∉ bs ∧ Frames B lv w bs ts
  | _, _ => False
def frameTys : List TypeId := [35, 61]
theorem tys_attr : ∀ q, q ∈ 61 :: k61.E → q ∈ frameTys := by decide
theorem tys_tree : ∀ q, q ∈ 35 :: k35.E → q ∈ frameTys := by decide
theorem tys_frame : ∀ q, q ∈ frameTys → q ∈ treeTys := by decide
section
variable {B : Nat} {lv lv' : Nat → Nat} {w w' : World} {lev b : Nat} {t : TreeS}
theorem Frame.move (h : Frame B lv w lev b t) (hm : ∀ k c q, w.heap[k]? = some (.cells c q (0, 0)) → q ∈ frameTys → (k = b ∨ lv k = lev) → w'.heap[k]? = w.heap[k]?) : Frame B lv w' lev b t := by
  obtain ⟨h1, h2, va, vk, h3, h4, h5⟩ := h
  refine ⟨h1, h2, va, vk, (hm b _ _ h3 (by decide) (.inl rfl)).trans h3, ?_, ?_⟩
  · refine Kd.R_mono (Kd.R_move (Kd.R_bound h4) (fun k hk => ?_)) (fun _ h => h.1)
    obtain ⟨a1, a2, a3, q, hq, c, hc⟩ := hk
    exact hm k c q hc (tys_attr q hq) (.inr a1)
  · refine Kd.R_mono (Kd.R_move (Kd.R_bound h5) (fun k hk => ?_)) (fun _ h => h.1)
    obtain ⟨a1, a2, a3, q, hq, c, hc⟩ := hk
    exact hm k c q hc (tys_tree q hq) (.inr a1)
theorem Frame.relabel (h : Frame B lv w lev b t) (hl : ∀ k, k < w.heap.size → lv' k = lv k) : Frame B lv' w lev b t := by
  obtain ⟨h1, h2, va, vk, h3, h4, h5⟩ := h
  refine ⟨h1, (hl b (lt_of_heap h3)).trans h2, va, vk, h3, Kd.R_mono (Kd.R_bound h4) (fun k hk => (hl k hk.2.2.1).trans hk.1), Kd.R_mono (Kd.R_bound h5) (fun k hk => (hl k hk.2.2.1).trans hk.1)⟩
theorem Frames.move : ∀ {bs : List Nat} {ts : List TreeS}, Frames B lv w bs ts → (∀ k c q, w.heap[k]? = some (.cells c q (0, 0)) → q ∈ frameTys → (k ∈ bs ∨ (lv k ≠ 0 ∧ lv k ≤ ts.length)) → w'.heap[k]? = w.heap[k]?) → Frames B lv w' bs ts
  | [], [], _, _ => trivial
  | b :: bs, t :: ts, h, hm => by
    obtain ⟨h1, h2, h3⟩ := h
    refine ⟨h1.move fun k c q hc hq hk => hm k c q hc hq ?_, h2, Frames.move h3 fun k c q hc hq hk => hm k c q hc hq ?_⟩
    · rcases hk with rfl | hk
      · exact .inl List.mem_cons_self
      · exact .inr ⟨by omega, by rw [List.length_cons]; omega⟩
    · rcases hk with hk | hk
      · exact .inl (List.mem_cons_of_mem _ hk)
      · exact .inr ⟨hk.1, by rw [List.length_cons]; omega⟩
  | [], _ :: _, h, _ => h.elim
  | _ :: _, [], h, _ => h.elim
theorem Frames.relabel : ∀ {bs : List Nat} {ts : List TreeS}, Frames B lv w bs ts → (∀ k, k < w.heap.size → lv' k = lv k) → Frames B lv' w bs ts
  | [], [], _, _ => trivial
  | b :: bs, t :: ts, h, hl => ⟨h.1.relabel hl, h.2.1, Frames.relabel h.2.2 hl⟩
  | [], _ :: _, h, _ => h.elim
  | _ :: _, [], h, _ => h.elim
theorem Frames.len : ∀ {bs : List Nat} {ts : List TreeS}, Frames B lv w bs ts → bs.length = ts.length
  | [], [], _ => rfl
  | b :: bs, t :: ts, h => by rw [List.length_cons, List.length_cons, Frames.len h.2.2]
  | [], _ :: _, h => h.elim
  | _ :: _, [], h => h.elim
theorem Frames.blk : ∀ {bs : List Nat} {ts : List TreeS}, Frames B lv w bs ts → ∀ k ∈ bs, B ≤ k ∧ lv k = 0 ∧ ∃ cs, w.heap[k]? = some (.cells cs 35 (0, 0))
  | [], [], _, k, hk => (List.not_mem_nil hk).elim
  | b :: bs, t :: ts, h, k, hk => by
    rcases List.mem_cons.mp hk with rfl | hk
    · obtain ⟨h1, h2, va, vk, h3, _⟩ := h.1
      exact ⟨h1, h2, _, h3⟩
    · exact Frames.blk h.2.2 k hk
  | [], _ :: _, h, _, _ => h.elim
  | _ :: _, [], h, _, _ => h.elim
end
def ptrs (bs : List Nat) : List Value := bs.map fun b => .pointer (some ⟨b, 0, none⟩)
/-- What Parse holds: the elements that are open. -/
structure OpenS (B vo : Nat) (st : List TreeS) (w : World) (bs : List Nat) (ov : Value) (lv : Nat → Nat) : Prop where
  bo : B ≤ vo
  ho : w.heap[vo]? = some (.cells #[ov] 54 (0, 0))
  ro : w.ownsRow B 53 1 ov bs.length (ptrs bs.reverse)
  fr : Frames B lv w bs st
theorem stackStep_ne (st : List TreeS) (e : Evt) (h : st ≠ []) : stackStep st e ≠ [] := by
  cases st with
  | nil => exact absurd rfl h
  | cons t r =>
    unfold stackStep
    split
    · exact List.cons_ne_nil _ _
    split
    · exact List.cons_ne_nil _ _
    cases r with
    | nil => exact List.cons_ne_nil _ _
    | cons u r' => exact List.cons_ne_nil _ _
theorem foldl_ne : ∀ (l : List Evt) (st : List TreeS), st ≠ [] → l.foldl stackStep st ≠ []
  | [], _, h => h
  | e :: l, st, h => foldl_ne l _ (stackStep_ne st e h)
theorem stackOf_ne (l : List Evt) : stackOf l ≠ [] := foldl_ne l _ (List.cons_ne_nil _ _)
/-- The counts. -/
structure OkS (l : List Evt) : Prop where
  le : ((stackOf l).length : Int) = deep l + 1
  lk : ∀ t ∈ stackOf l, t.f4.length ≤ l.length
  ls : (stackOf l).length ≤ l.length + 1
theorem OkS.nil : OkS [] := ⟨rfl, fun t ht => by rw [List.mem_singleton.mp ht]; exact Nat.le_refl _, Nat.le_refl _⟩
theorem OkS.snoc {l : List Evt} {e : Evt} (h : OkS l) (he : okEv l e) : OkS (l ++ [e]) := by
  obtain ⟨hl, hk⟩ := he
  have hd : deep (l ++ [e]) = deep l + (if e.kind = 1 then 1 else if e.kind = 3 then -1 else 0) := by rw [deep_append, deep, deep]; omega
  have hle := h.le
  have hlk := h.lk
  have hls := h.ls
  have hlen : (l ++ [e]).length = l.length + 1 := by simp
  cases hst : stackOf l with
  | nil =>
    exact absurd hst (stackOf_ne l)
  | cons t r =>
    rw [hst] at hle hlk hls
    simp only [List.length_cons] at hle hls
    have hlt : t.f4.length ≤ l.length := hlk t List.mem_cons_self
    have hlr : ∀ u ∈ r, u.f4.length ≤ l.length := fun u hu => hlk u (List.mem_cons_of_mem _ hu)
    rcases hk with hk | hk | ⟨hk, hk2⟩
    · have hs2 : stackOf (l ++ [e]) = elem0 e.name e.attrs :: t :: r := by rw [stackOf_snoc, hst, stackStep, if_pos hk]
      rw [if_pos hk] at hd
      refine ⟨by rw [hs2, hd]; simp only [List.length_cons]; omega, fun u hu => ?_, by rw [hs2, hlen]; simp only [List.length_cons]; omega⟩
      rw [hs2] at hu
      rw [hlen]
      rcases List.mem_cons.mp hu with rfl | hu
      · exact Nat.zero_le _
      · exact Nat.le_succ_of_le (hlk u hu)
    · have hs2 : stackOf (l ++ [e]) = { t with f4 := t.f4 ++ [text0 e.text] } :: r := by rw [stackOf_snoc, hst, stackStep, if_neg (by omega), if_pos hk]; rfl
      rw [if_neg (by omega), if_neg (by omega)] at hd
      refine ⟨by rw [hs2, hd]; simp only [List.length_cons]; omega, fun u hu => ?_, by rw [hs2, hlen]; simp only [List.length_cons]; omega⟩
      rw [hs2] at hu
      rw [hlen]
      rcases List.mem_cons.mp hu with rfl | hu
      · simp only [List.length_append, List.length_singleton]; omega
      · exact Nat.le_succ_of_le (hlr u hu)
    · rw [if_neg (by omega), if_pos hk] at hd
      cases hr : r with
      | nil => rw [hr] at hle; simp only [List.length_nil] at hle; omega
      | cons u r' =>
        have hs2 : stackOf (l ++ [e]) = { u with f4 := u.f4 ++ [t] } :: r' := by rw [stackOf_snoc, hst, hr, stackStep, if_neg (by omega), if_neg (by omega)]; rfl
        rw [hr] at hle hls hlr
        simp only [List.length_cons] at hle hls
        refine ⟨by rw [hs2, hd]; simp only [List.length_cons]; omega, fun x hx => ?_, by rw [hs2, hlen]; simp only [List.length_cons]; omega⟩
        rw [hs2] at hx
        rw [hlen]
        rcases List.mem_cons.mp hx with rfl | hx
        · have := hlr u List.mem_cons_self
          simp only [List.length_append, List.length_singleton]; omega
        · exact Nat.le_succ_of_le (hlr x (List.mem_cons_of_mem _ hx))
def OpenP (B vo : Nat) (l : List Evt) (w : World) : Prop := OkS l ∧ ∃ bs ov lv, OpenS B vo (stackOf l) w bs ov lv
section
variable {B vo : Nat} {l : List Evt} {st : List TreeS} {w w' : World} {bs : List Nat} {ov : Value} {lv lv' : Nat → Nat}
theorem OpenS.move (h : OpenS B vo st w bs ov lv) (hm : ∀ (k : Nat) c q, w.heap[k]? = some (.cells c q (0, 0)) → q ∈ treeTys → w'.heap[k]? = w.heap[k]?) : OpenS B vo st w' bs ov lv where
  bo := h.bo
  ho := (hm vo _ _ h.ho (by decide)).trans h.ho
  ro := own_move h.ro fun k hk => by
    obtain ⟨c, hc⟩ := own_typed h.ro k hk
    exact hm k c _ hc (by decide)
  fr := h.fr.move fun k c q hc hq _ => hm k c q hc (tys_frame q hq)
theorem OpenS.relabel (h : OpenS B vo st w bs ov lv) (hl : ∀ k, k < w.heap.size → lv' k = lv k) : OpenS B vo st w bs ov lv' := ⟨h.bo, h.ho, h.ro, h.fr.relabel hl⟩
theorem OpenS.keep {r : Nat} (h : OpenS B vo st w bs ov lv) (hr : RB r w) (hk : KeepR r w w') : OpenS B vo st w' bs ov lv := by
  refine h.move fun k c q hc hq => (hk k _ hc ?_ ?_ ?_).trans hc.symm
  · rintro rfl
    obtain ⟨cs, hr⟩ := hr
    rw [hr] at hc
    injection hc with hc
    injection hc with _ hc _
    subst hc
    exact absurd hq (by decide)
  · intro c' fz e
    injection e with _ e _
    subst e
    exact absurd hq (by decide)
  · intro c' fz e
    injection e with _ e _
    subst e
    exact absurd hq (by decide)
theorem OpenP.keep {r : Nat} (h : OpenP B vo l w) (hr : RB r w) (hk : KeepR r w w') : OpenP B vo l w' := by
  obtain ⟨h0, bs, ov, lv, h⟩ := h
  exact ⟨h0, bs, ov, lv, h.keep hr hk⟩
theorem OpenP.grow (h : OpenP B vo l w) (hb : Below w.heap.size w w') : OpenP B vo l w' := by
  obtain ⟨h0, bs, ov, lv, h⟩ := h
  exact ⟨h0, bs, ov, lv, h.move fun k c q hc hq => hb.block k (lt_of_heap hc)⟩
theorem OpenP.put {g : Nat} {c : Array Value} {q : TypeId} {fz : Nat × Nat} (h : OpenP B vo l w) (hg : w.heap[g]? = some (.cells c q fz)) (hq : q = 3 ∨ q = 23) (u : Value) : OpenP B vo l (w.setCell ⟨g, 0, none⟩ u) := by
  obtain ⟨h0, bs, ov, lv, h⟩ := h
  refine ⟨h0, bs, ov, lv, h.move fun k c' q' hc hq' => Below.heap_setCell _ _ _ _ ?_⟩
  rintro rfl
  rw [hg] at hc
  injection hc with hc
  injection hc with _ hc _
  subst hc
  rcases hq with rfl | rfl <;> exact absurd hq' (by decide)
/-- A child more for the last one that is open. -/
theorem OpenS.kid {t : TreeS} {ts : List TreeS} {x : TreeS} {b : Nat} {va vk vk' : Value} (h : OpenS B vo (t :: ts) w (b :: bs) ov lv) (hb : w.heap[b]? = some (.cells (tcells t va vk) 35 (0, 0))) (hs : w.heap.size ≤ w'.heap.size)
    (hR : Kd.R k35 35 w' B (fun k => (if k < w.heap.size then lv k else ts.length + 1) = ts.length + 1) vk' (t.f4 ++ [x]))
    (hw : ∀ k, k < w.heap.size → k ≠ b → some k ≠ vk.ownBlock → w'.heap[k]? = w.heap[k]?) (hb' : w'.heap[b]? = some (.cells (tcells t va vk') 35 (0, 0))) :
    OpenS B vo ({ t with f4 := t.f4 ++ [x] } :: ts) w' (b :: bs) ov (fun k => if k < w.heap.size then lv k else ts.length + 1) := by
  obtain ⟨hfr, hnb, hrest⟩ := h.fr
  obtain ⟨g1, g2, va0, vk0, g3, g4, g5⟩ := hfr
  have he : tcells t va vk = tcells t va0 vk0 := by
    have := hb.symm.trans g3
    injection this with this
    injection this with this
  have e1 : va = va0 := by have := congrArg (fun a : Array Value => a[2]?) he; simpa [tcells] using this
  have e2 : vk = vk0 := by have := congrArg (fun a : Array Value => a[4]?) he; simpa [tcells] using this
  subst e1; subst e2
  have hblt := lt_of_heap hb
  have hvo : vo ≠ b := by
    rintro rfl
    have := h.ho.symm.trans hb
    injection this with this
    injection this with _ this _
    exact absurd this (by decide)
  have htype : ∀ k c q, w.heap[k]? = some (.cells c q (0, 0)) → q ≠ 35 → k ≠ b ∧ some k ≠ vk.ownBlock := by
    intro k c q hc hq
    constructor
    · rintro rfl
      rw [hb] at hc
      injection hc with hc
      injection hc with _ hc _
      exact hq hc.symm
    · intro e
      obtain ⟨inner, hown, _⟩ := g5.2
      obtain ⟨c2, hc2⟩ := own_typed hown k e.symm
      rw [hc2] at hc
      injection hc with hc
      injection hc with _ hc _
      exact hq hc.symm
  refine ⟨h.bo, ?_, ?_, ?_, hnb, ?_⟩
  · obtain ⟨n1, n2⟩ := htype vo _ _ h.ho (by decide)
    exact (hw vo (lt_of_heap h.ho) n1 n2).trans h.ho
  · refine own_move h.ro fun k hk => ?_
    obtain ⟨c, hc⟩ := own_typed h.ro k hk
    obtain ⟨n1, n2⟩ := htype k _ _ hc (by decide)
    exact hw k (lt_of_heap hc) n1 n2
  · refine ⟨g1, show (if b < w.heap.size then lv b else ts.length + 1) = 0 by rw [if_pos hblt]; exact g2, va, vk', hb', ?_, hR⟩
    refine Kd.R_mono (Kd.R_move (Kd.R_bound g4) (fun k hk => ?_)) (fun k hk => show (if k < w.heap.size then lv k else ts.length + 1) = ts.length + 1 by rw [if_pos hk.2.2.1]; exact hk.1)
    obtain ⟨a1, a2, a3, q, hq, c, hc⟩ := hk
    have hqa : q ≠ 35 := by
      have : ∀ q, q ∈ 61 :: k61.E → q ≠ 35 := by decide
      exact this q hq
    obtain ⟨n1, n2⟩ := htype k c q hc hqa
    exact hw k a3 n1 n2
  · have hr2 : Frames B (fun k => if k < w.heap.size then lv k else ts.length + 1) w bs ts := hrest.relabel fun k hk => if_pos hk
    refine hr2.move fun k c q hc hq hk => ?_
    have hklt := lt_of_heap hc
    refine hw k hklt ?_ ?_
    · rintro rfl
      rcases hk with hk | ⟨hk, _⟩
      · exact hnb hk
      · exact hk ((if_pos hblt).trans g2)
    · intro e
      have hlk : lv k = ts.length + 1 := g5.1 k e.symm
      rcases hk with hk | ⟨hk1, hk2⟩
      · have := (hrest.blk k hk).2.1
        rw [this] at hlk
        omega
      · have hk3 : (if k < w.heap.size then lv k else ts.length + 1) ≤ ts.length := hk2
        rw [if_pos hklt, hlk] at hk3
        omega
/-- One more is open. -/
theorem OpenS.push {t : TreeS} {nb : Nat} {va v1 : Value} (h : OpenS B vo st w bs ov lv) (hB : B ≤ nb) (hl : lv nb = 0) (hn : w.heap.size ≤ nb) (hs : w.heap.size ≤ w'.heap.size)
    (hb : w'.heap[nb]? = some (.cells (tcells t va (.slice none 0 0)) 35 (0, 0))) (ht : t.f4 = []) (hR : Kd.R k61 61 w' B (fun k => lv k = st.length + 1) va t.f2)
    (hw : ∀ k, k < w.heap.size → k ≠ vo → some k ≠ ov.ownBlock → w'.heap[k]? = w.heap[k]?) (ho : w'.heap[vo]? = some (.cells #[v1] 54 (0, 0))) (hro : w'.ownsRow B 53 1 v1 (bs.length + 1) (ptrs bs.reverse ++ [.pointer (some ⟨nb, 0, none⟩)])) :
    OpenS B vo (t :: st) w' (nb :: bs) v1 lv := by
  refine ⟨h.bo, ho, ?_, ⟨hB, hl, va, _, hb, hR, by rw [ht]; exact Kd.R_nil _ _ _ _ _⟩, ?_, ?_⟩
  · simpa [ptrs] using hro
  · intro hmem
    obtain ⟨_, _, cs, hc⟩ := h.fr.blk nb hmem
    have := lt_of_heap hc
    omega
  · refine h.fr.move fun k c q hc hq hk => hw k (lt_of_heap hc) ?_ ?_
    · rintro rfl
      have := h.ho.symm.trans hc
      injection this with this
      injection this with _ this _
      subst this
      exact absurd hq (by decide)
    · intro e
      obtain ⟨c2, hc2⟩ := own_typed h.ro k e.symm
      rw [hc2] at hc
      injection hc with hc
      injection hc with _ hc _
      subst hc
      exact absurd hq (by decide)
end
end Go.Proofs.YtealmfcimoomlaaGreatDoor.PA

/- markup.Parse: a last child put in its place; the last one that is open closed. -/
namespace Go.Proofs.YtealmfcimoomlaaGreatDoor.PA
open Go.RowKit Go.Proofs.YtealmfcimoomlaaGreatDoorW.PrintWords Go.Proofs.YtealmfcimoomlaaGreatDoorW.PrintLast Go.Proofs.YtealmfcimoomlaaGreatDoorW.PrintMore
set_option linter.unusedVariables false
set_option linter.unusedSimpArgs false
/-- Five stores, one behind the other. -/
def put5 (w : World) (g o : Nat) (c : TreeS) (va vk : Value) : World := ((((w.setCell ⟨g, o, none⟩ (.int .i64 c.f0)).setCell ⟨g, o + 1, none⟩ (.string c.f1)).setCell ⟨g, o + 2, none⟩ va).setCell ⟨g, o + 3, none⟩ (.string c.f3)).setCell ⟨g, o + 4, none⟩ vk
theorem put5_other (w : World) (g o : Nat) (c : TreeS) (va vk : Value) (k : Nat) (h : k ≠ g) : (put5 w g o c va vk).heap[k]? = w.heap[k]? := by
  unfold put5
  rw [Below.heap_setCell _ _ _ _ h, Below.heap_setCell _ _ _ _ h, Below.heap_setCell _ _ _ _ h, Below.heap_setCell _ _ _ _ h, Below.heap_setCell _ _ _ _ h]
def arr5 (cs : Array Value) (o : Nat) (c : TreeS) (va vk : Value) : Array Value := ((((cs.setIfInBounds o (.int .i64 c.f0)).setIfInBounds (o + 1) (.string c.f1)).setIfInBounds (o + 2) va).setIfInBounds (o + 3) (.string c.f3)).setIfInBounds (o + 4) vk
theorem put5_heap {w : World} {g : Nat} {cs : Array Value} {T : TypeId} {fz : Nat × Nat} (o : Nat) (c : TreeS) (va vk : Value) (h : w.heap[g]? = some (.cells cs T fz)) : (put5 w g o c va vk).heap[g]? = some (.cells (arr5 cs o c va vk) T fz) :=
  heap_set (heap_set (heap_set (heap_set (heap_set h o _) (o + 1) _) (o + 2) _) (o + 3) _) (o + 4) _
theorem arr5_size (cs : Array Value) (o : Nat) (c : TreeS) (va vk : Value) : (arr5 cs o c va vk).size = cs.size := by simp [arr5]
theorem arr5_at (cs : Array Value) (o : Nat) (c : TreeS) (va vk : Value) (h : o + 5 ≤ cs.size) (j : Nat) : (arr5 cs o c va vk)[j]? = if o ≤ j ∧ j < o + 5 then [Value.int .i64 c.f0, .string c.f1, va, .string c.f3, vk][j - o]? else cs[j]? := by
  unfold arr5
  simp only [Array.getElem?_setIfInBounds, Array.size_setIfInBounds]
  by_cases h0 : o ≤ j ∧ j < o + 5
  · rw [if_pos h0]
    have hj : j = o ∨ j = o + 1 ∨ j = o + 2 ∨ j = o + 3 ∨ j = o + 4 := by omega
    rcases hj with rfl | rfl | rfl | rfl | rfl
    · rw [if_neg (by omega), if_neg (by omega), if_neg (by omega), if_neg (by omega), if_pos rfl, if_pos (by omega), Nat.sub_self]; rfl
    · rw [if_neg (by omega), if_neg (by omega), if_neg (by omega), if_pos rfl, if_pos (by omega), Nat.add_sub_cancel_left]; rfl
    · rw [if_neg (by omega), if_neg (by omega), if_pos rfl, if_pos (by omega), Nat.add_sub_cancel_left]; rfl
    · rw [if_neg (by omega), if_pos rfl, if_pos (by omega), Nat.add_sub_cancel_left]; rfl
    · rw [if_pos rfl, if_pos (by omega), Nat.add_sub_cancel_left]; rfl
  · rw [if_neg h0, if_neg (by omega), if_neg (by omega), if_neg (by omega), if_neg (by omega), if_neg (by omega)]
set_option maxHeartbeats 4000000 in
/-- The last one of a row of trees is written over. -/
theorem R_last_put {w : World} {B g cap : Nat} {ok : Nat → Prop} {xs : List TreeS} {z x : TreeS} {va vk : Value} (h : Kd.R k35 35 w B ok (.slice (some ⟨g, 0, none⟩) (xs.length + 1) cap) (xs ++ [z]))
    (ha : Kd.R k61 61 w B (fun k => ok k ∧ k ≠ g) va x.f2) (hk : Kd.R k35 35 w B (fun k => ok k ∧ k ≠ g) vk x.f4) :
    Kd.R k35 35 (put5 w g (xs.length * 5) x va vk) B ok (.slice (some ⟨g, 0, none⟩) (xs.length + 1) cap) (xs ++ [x]) := by
  obtain ⟨h0, inner, hown, hr⟩ := h
  obtain ⟨e0, ⟨e1, _⟩ | ⟨g', cap', cur, e1, e2, e3, e4, e5, e6, e7⟩⟩ := hown
  · cases e1
  injection e1 with f1 f2 f3
  injection f1 with f1
  injection f1 with f1 _ _
  subst f1; subst f3
  have hn : (xs ++ [z]).length = xs.length + 1 := by simp
  rw [hn] at e0 e4 e7
  have hsz : k35.sz = 5 := rfl
  rw [hsz] at e0 e6 e7
  have hfit : xs.length * 5 + 5 ≤ cur.size := by rw [e6]; have := Nat.mul_le_mul_right 5 e4; omega
  have hla : (arr5 cur (xs.length * 5) x va vk).toList.length = cap * 5 := (Array.length_toList (xs := arr5 cur (xs.length * 5) x va vk)).trans ((arr5_size _ _ _ _ _).trans e6)
  have hrl : ((arr5 cur (xs.length * 5) x va vk).toList.take ((xs.length + 1) * 5)).length = (xs ++ [x]).length * k35.sz := by
    rw [List.length_take, hla, hsz, List.length_append]
    exact Nat.min_eq_left (Nat.mul_le_mul_right 5 e4)
  have hother : ∀ k, ok k ∧ some k ≠ (Value.slice (some ⟨g, 0, none⟩) (xs.length + 1) cap).ownBlock → (put5 w g (xs.length * 5) x va vk).heap[k]? = w.heap[k]? := fun k hk => put5_other w g _ x va vk k (fun e => hk.2 (by rw [e]; rfl))
  have hne : ∀ k, ok k ∧ k ≠ g → ok k ∧ some k ≠ (Value.slice (some ⟨g, 0, none⟩) (xs.length + 1) cap).ownBlock := fun k hk => ⟨hk.1, fun e => hk.2 (Option.some.inj e)⟩
  refine ⟨h0, (arr5 cur (xs.length * 5) x va vk).toList.take ((xs.length + 1) * 5), ⟨?_, .inr ⟨g, cap, arr5 cur (xs.length * 5) x va vk, by simp, e2, put5_heap _ x va vk e3, by simpa using e4, e5, by rw [arr5_size]; exact e6, by simp [hsz]⟩⟩, ?_, ?_⟩
  · exact hrl
  · exact hrl
  · intro j p hj
    rw [hsz]
    rcases Nat.lt_or_ge j xs.length with hlt | hge
    · rw [List.getElem?_append_left hlt] at hj
      have hold := hr.2 j p (by rw [List.getElem?_append_left hlt]; exact hj)
      rw [hsz] at hold
      have hrow : (((arr5 cur (xs.length * 5) x va vk).toList.take ((xs.length + 1) * 5)).drop (j * 5)).take 5 = (inner.drop (j * 5)).take 5 := by
        apply List.ext_getElem?
        intro c
        rw [List.getElem?_take, List.getElem?_take]
        by_cases hc : c < 5
        · rw [if_pos hc, if_pos hc, List.getElem?_drop, List.getElem?_drop, List.getElem?_take, if_pos (by omega), Array.getElem?_toList, arr5_at _ _ _ _ _ hfit, if_neg (by omega), ← e7, List.getElem?_take, if_pos (by omega), Array.getElem?_toList]
        · rw [if_neg hc, if_neg hc]
      rw [hrow]
      exact k35.M_move hother hold
    · have hj' : j = xs.length := by
        have := (List.getElem?_eq_some_iff.1 hj).1
        rw [List.length_append, List.length_singleton] at this
        omega
      subst hj'
      have hp : x = p := by simpa using hj
      subst hp
      have hrow : (((arr5 cur (xs.length * 5) x va vk).toList.take ((xs.length + 1) * 5)).drop (xs.length * 5)).take 5 = [Value.int .i64 x.f0, .string x.f1, va, .string x.f3, vk] := by
        apply List.ext_getElem?
        intro c
        rw [List.getElem?_take]
        by_cases hc : c < 5
        · rw [if_pos hc, List.getElem?_drop, List.getElem?_take, if_pos (by omega), Array.getElem?_toList, arr5_at _ _ _ _ _ hfit, if_pos (by omega), Nat.add_sub_cancel_left]
        · rw [if_neg hc, List.getElem?_eq_none (by simp; omega)]
      rw [hrow]
      exact k35_mkM _ _ _ x (Kd.R_move (Kd.R_mono ha hne) hother) (Kd.R_move (Kd.R_mono hk hne) hother)
theorem Frame.relevel {B : Nat} {lv lv' : Nat → Nat} {w : World} {lev b : Nat} {t : TreeS} (h : Frame B lv w lev b t) (hl : ∀ k, lv k = 0 ∨ lv k = lev → lv' k = lv k) : Frame B lv' w lev b t := by
  obtain ⟨h1, h2, va, vk, h3, h4, h5⟩ := h
  exact ⟨h1, (hl b (.inl h2)).trans h2, va, vk, h3, Kd.R_mono h4 (fun k hk => (hl k (.inr hk)).trans hk), Kd.R_mono h5 (fun k hk => (hl k (.inr hk)).trans hk)⟩
theorem Frames.relevel {B : Nat} {lv lv' : Nat → Nat} {w : World} : ∀ {bs : List Nat} {ts : List TreeS}, Frames B lv w bs ts → (∀ k, lv k ≤ ts.length → lv' k = lv k) → Frames B lv' w bs ts
  | [], [], _, _ => trivial
  | b :: bs, t :: ts, h, hl => ⟨h.1.relevel fun k hk => hl k (by rw [List.length_cons]; omega), h.2.1, Frames.relevel h.2.2 fun k hk => hl k (by rw [List.length_cons]; omega)⟩
  | [], _ :: _, h, _ => h.elim
  | _ :: _, [], h, _ => h.elim
/-- The row of what is open, the last one being b. -/
theorem ptrs_last {B : Nat} {w : World} {ov : Value} {b : Nat} {bs : List Nat} (h : w.ownsRow B 53 1 ov (b :: bs).length (ptrs (b :: bs).reverse)) : ∃ g cap, ov = .slice (some ⟨g, 0, none⟩) (bs.length + 1) cap ∧ bs.length + 1 ≤ cap ∧ cap ≤ maxLen ∧ B ≤ g ∧ w.cell? ⟨g, bs.length, none⟩ = some (.pointer (some ⟨b, 0, none⟩)) := by
  obtain ⟨e0, ⟨e1, e2⟩ | ⟨g, cap, cur, e1, e2, e3, e4, e5, e6, e7⟩⟩ := h
  · simp at e2
  · refine ⟨g, cap, by rw [e1]; simp, by simpa using e4, e5, e2, ?_⟩
    rw [blk_cell e3]
    have : (cur.toList.take ((b :: bs).length * 1))[bs.length]? = some (.pointer (some ⟨b, 0, none⟩)) := by
      rw [e7]
      simp [ptrs]
    rw [List.getElem?_take, if_pos (by simp), Array.getElem?_toList] at this
    exact this
theorem ptrs_pop {B : Nat} {w : World} {b g cap N : Nat} {bs : List Nat} (h : w.ownsRow B 53 1 (.slice (some ⟨g, 0, none⟩) N cap) (b :: bs).length (ptrs (b :: bs).reverse)) (hN : bs.length + 1 = N) : w.ownsRow B 53 1 (.slice (some ⟨g, 0, none⟩) (N - 1) cap) bs.length (ptrs bs.reverse) := by
  obtain ⟨e0, ⟨e1, _⟩ | ⟨g', cap', cur, e1, e2, e3, e4, e5, e6, e7⟩⟩ := h
  · cases e1
  · injection e1 with f1 f2 f3
    injection f1 with f1
    injection f1 with f1 _ _
    subst f1; subst f3
    have e8 : (cur.toList.take ((b :: bs).length * 1)).take (bs.length * 1) = ptrs bs.reverse := by
      rw [e7]
      unfold ptrs
      rw [List.reverse_cons, List.map_append, List.take_append_of_le_length (by simp), List.take_of_length_le (by simp)]
    rw [List.take_take, Nat.min_eq_left (by simp)] at e8
    exact ⟨by simp [ptrs], .inr ⟨g, cap, cur, by rw [← hN]; simp, e2, e3, by rw [List.length_cons] at e4; omega, e5, e6, e8⟩⟩
/-- The last one that is open leaves; its rows get the level of the one above. -/
theorem OpenS.pop {B vo : Nat} {t u : TreeS} {r : List TreeS} {w w' : World} {b c : Nat} {bs : List Nat} {ov ov' : Value} {lv : Nat → Nat} (h : OpenS B vo (t :: u :: r) w (b :: c :: bs) ov lv) (hw : ∀ k, k ≠ vo → w'.heap[k]? = w.heap[k]?) (ho : w'.heap[vo]? = some (.cells #[ov'] 54 (0, 0)))
    (hro : w.ownsRow B 53 1 ov' (c :: bs).length (ptrs (c :: bs).reverse)) :
    OpenS B vo (u :: r) w' (c :: bs) ov' (fun k => if lv k = r.length + 2 then r.length + 1 else lv k) := by
  obtain ⟨h1, h2, h3⟩ := h.fr
  refine ⟨h.bo, ho, own_move hro fun k hk => hw k ?_, ?_⟩
  · rintro rfl
    obtain ⟨cs, hc⟩ := own_typed hro k hk
    have := h.ho.symm.trans hc
    injection this with this
    injection this with _ this _
    exact absurd this (by decide)
  · have h4 : Frames B (fun k => if lv k = r.length + 2 then r.length + 1 else lv k) w (c :: bs) (u :: r) := h3.relevel fun k hk => if_neg (by rw [List.length_cons] at hk; omega)
    refine h4.move fun k cs q hc hq hk => hw k ?_
    rintro rfl
    have := h.ho.symm.trans hc
    injection this with this
    injection this with _ this _
    subst this
    exact absurd hq (by decide)
end Go.Proofs.YtealmfcimoomlaaGreatDoor.PA
