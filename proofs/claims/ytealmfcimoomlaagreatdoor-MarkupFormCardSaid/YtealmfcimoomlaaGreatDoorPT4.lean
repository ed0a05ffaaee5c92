/- Texts of this claim, one behind the other: PT3, PT4. Conditions: those of each theorem. -/
import Derived.Test.YtealmfcimoomlaaGreatDoorPT2
import Derived.Test.YtealmfcimoomlaaGreatDoorUPrint
import Derived.Test.YtealmfcimoomlaaGreatDoorPOk
import Derived.Test.YtealmfcimoomlaaGreatDoorUMarkLib
import Derived.Sort.Walk0
/- A forest as it may be spelled: what the scanner tells of it, and what Parse makes of that. -/
namespace Go.Proofs.YtealmfcimoomlaaGreatDoor.PA
open Go.RowKit Go.Proofs.YtealmfcimoomlaaGreatDoorW.PrintWords Go.Proofs.YtealmfcimoomlaaGreatDoorW.PrintLast Go.Proofs.YtealmfcimoomlaaGreatDoorW.PrintMore
set_option linter.unusedVariables false
set_option linter.unusedSimpArgs false
def elemT (n : ByteArray) (l : List S61) (k : List TreeS) : TreeS := ⟨1, n, l, ⟨#[]⟩, k⟩
/-- Bytes that spell a forest. -/
inductive Spell : List TreeS → List UInt8 → Prop
  | nil : Spell [] []
  | junk1 {f : List TreeS} {b : List UInt8} : Spell f b → Spell f (remark1 ++ b)
  | junk2 {f : List TreeS} {b : List UInt8} : Spell f b → Spell f (remark2 ++ b)
  | text {f : List TreeS} {b : List UInt8} (cs : List Nat) : cs ≠ [] → (∀ c ∈ cs, okC c) → (encs cs).length ≤ 16384 → Spell f b → Spell (text0 ⟨(encs cs).toArray⟩ :: f) (cs.flatMap (escC false) ++ b)
  | empty {f : List TreeS} {b : List UInt8} (n : ByteArray) (xs : List Att) (ws : List UInt8) : nameB n = true → (∀ x ∈ xs, x.Ok) → (xs.map (·.a)).Pairwise (fun a b => a.f0 ≠ b.f0) → xs.length ≤ 32 → Blanks ws → Spell f b →
      Spell (elemT n (sortA (xs.map (·.a))) [] :: f) (openTxt n xs ws [47, 62] ++ b)
  | elem {f k : List TreeS} {b kb : List UInt8} (n : ByteArray) (xs : List Att) (ws ws2 : List UInt8) : nameB n = true → (∀ x ∈ xs, x.Ok) → (xs.map (·.a)).Pairwise (fun a b => a.f0 ≠ b.f0) → xs.length ≤ 32 → Blanks ws → Blanks ws2 → Spell k kb → Spell f b →
      Spell (elemT n (sortA (xs.map (·.a))) k :: f) (openTxt n xs ws [62] ++ (kb ++ (closeTxt n ws2 ++ b)))
mutual
/-- What a tree, and a forest, tell. -/
def evsT : TreeS → List Evt
  | ⟨f0, f1, f2, f3, f4⟩ => if f0 = 2 then [⟨2, ⟨#[]⟩, [], f3⟩] else startEv f1 f2 :: (evsK f4 ++ [endEv f1])
def evsK : List TreeS → List Evt
  | [] => []
  | t :: l => evsT t ++ evsK l
end
mutual
/-- No two texts side by side. -/
def nadjT : TreeS → Prop
  | ⟨_, _, _, _, f4⟩ => nadjK f4
def nadjK : List TreeS → Prop
  | [] => True
  | t :: l => (t.f0 = 2 → ∀ u r, l = u :: r → u.f0 ≠ 2) ∧ nadjT t ∧ nadjK l
end
mutual
/-- No node lies too deep. -/
def lowT : TreeS → Nat → Prop
  | ⟨_, _, _, _, f4⟩, d => d ≤ 64 ∧ lowK f4 (d + 1)
def lowK : List TreeS → Nat → Prop
  | [], _ => True
  | t :: l, d => lowT t d ∧ lowK l d
end
theorem evs_elem (n : ByteArray) (l : List S61) (k : List TreeS) : evsT (elemT n l k) = startEv n l :: (evsK k ++ [endEv n]) := by
  unfold elemT
  rw [evsT, if_neg (by decide)]
theorem nod_elem (n : ByteArray) (l : List S61) (k : List TreeS) : nodT (elemT n l k) = 1 + nodK k := by
  unfold elemT
  rw [nodT, if_pos rfl]
theorem nod_text (t : ByteArray) : nodT (text0 t) = 1 := by
  unfold text0
  rw [nodT, if_neg (by decide)]
theorem evs_text (t : ByteArray) : evsT (text0 t) = [⟨2, ⟨#[]⟩, [], t⟩] := by
  unfold text0
  rw [evsT, if_pos rfl]
theorem low_elem {n : ByteArray} {l : List S61} {k : List TreeS} {d : Nat} : lowT (elemT n l k) d ↔ d ≤ 64 ∧ lowK k (d + 1) := by
  unfold elemT
  rw [lowT]
theorem low_text {t : ByteArray} {d : Nat} : lowT (text0 t) d ↔ d ≤ 64 := by
  unfold text0
  rw [lowT, lowK]
  simp
theorem nadj_elem {n : ByteArray} {l : List S61} {k : List TreeS} : nadjT (elemT n l k) ↔ nadjK k := by
  unfold elemT
  rw [nadjT]
theorem flush_none {st : St} (h : st.text = []) : flushE st = [] := if_pos h
theorem flush_some {st : St} (h : st.text ≠ []) : flushE st = [⟨2, ⟨#[]⟩, [], ⟨st.text.toArray⟩⟩] := (if_neg h : flushE st = _)
theorem encs_pos {cs : List Nat} (h : cs ≠ []) (hc : ∀ c ∈ cs, okC c) : encs cs ≠ [] := by
  cases cs with
  | nil => exact absurd rfl h
  | cons c cs =>
    have := (enc_pos c (hc c List.mem_cons_self)).1
    intro e
    have := congrArg List.length e
    rw [encs_cons, List.length_append, List.length_nil] at this
    omega
/-- The scanner goes through what spells a forest, and tells what that tells. -/
theorem Spell.run {s : ByteArray} {f : List TreeS} {b : List UInt8} (h : Spell f b) : ∀ st : St, Stands s st.at_ b → nadjK f → (∀ t r, f = t :: r → t.f0 = 2 → st.text = []) → st.nodes + nodK f ≤ 4096 → lowK f (st.opn.length + 1) →
    ∃ l st', Run s st l st' ∧ st'.at_ = st.at_ + b.length ∧ st'.opn = st.opn ∧ st'.nodes = st.nodes + nodK f ∧ l ++ flushE st' = flushE st ++ evsK f := by
  induction h with
  | nil =>
    intro st _ _ _ _ _
    exact ⟨[], st, .refl st, rfl, rfl, by rw [nodK]; rfl, by rw [evsK]; simp⟩
  | @junk1 f b _ ih =>
    intro st h1 h2 h3 h4 h5
    obtain ⟨s1, s2⟩ := Stands.app.mp h1
    have hp : pieceF s st = ([], .ok () { st with at_ := st.at_ + remark1.length }) := (piece_tag s1).trans (remark1_tag s1)
    obtain ⟨l, st', hr, e1, e2, e3, e4⟩ := ih { st with at_ := st.at_ + remark1.length } s2 h2 h3 h4 h5
    have hh := s1.head.1
    refine ⟨[] ++ l, st', .step hh hp (by simp only [remark1, List.length_cons]; omega) hr, by rw [e1, List.length_append]; simp only; omega, e2, e3, e4⟩
  | @junk2 f b _ ih =>
    intro st h1 h2 h3 h4 h5
    obtain ⟨s1, s2⟩ := Stands.app.mp h1
    have hp : pieceF s st = ([], .ok () { st with at_ := st.at_ + remark2.length }) := (piece_tag s1).trans (remark2_tag s1)
    obtain ⟨l, st', hr, e1, e2, e3, e4⟩ := ih { st with at_ := st.at_ + remark2.length } s2 h2 h3 h4 h5
    have hh := s1.head.1
    refine ⟨[] ++ l, st', .step hh hp (by simp only [remark2, List.length_cons]; omega) hr, by rw [e1, List.length_append]; simp only; omega, e2, e3, e4⟩
  | @text f b cs hne hok hlen _ ih =>
    intro st h1 h2 h3 h4 h5
    obtain ⟨s1, s2⟩ := Stands.app.mp h1
    have ht := h3 _ _ rfl rfl
    rw [nodK, nod_text] at h4
    rw [lowK, low_text] at h5
    rw [nadjK] at h2
    have hr := text_run cs st hok s1 (by rw [ht]; simpa using hlen) (fun _ _ => ⟨by omega, by omega⟩)
    rw [ht, List.nil_append, if_pos ⟨rfl, hne⟩] at hr
    have hep := encs_pos hne hok
    obtain ⟨l, st', hr2, e1, e2, e3, e4⟩ := ih { st with at_ := st.at_ + (cs.flatMap (escC false)).length, text := encs cs, nodes := st.nodes + 1 } s2 h2.2.2 (fun t r e1 e2 => absurd e2 (h2.1 rfl t r e1)) (by simp only; omega) h5.2
    refine ⟨[] ++ l, st', hr.trans hr2, by rw [e1, List.length_append]; simp only; omega, e2, by rw [e3, nodK, nod_text]; simp only; omega, ?_⟩
    rw [List.nil_append, e4, flush_none ht, flush_some (by exact hep), evsK, evs_text]
    rfl
  | @empty f b n xs ws hn hx hp hl hw _ ih =>
    intro st h1 h2 h3 h4 h5
    obtain ⟨s1, s2⟩ := Stands.app.mp h1
    rw [nodK, nod_elem, nodK] at h4
    rw [lowK, low_elem] at h5
    rw [nadjK] at h2
    obtain ⟨c, y, hcy, hc, -⟩ := nameB_all hn
    have s1' := s1
    unfold openTxt at s1'
    rw [hcy] at s1'
    have ho := opensF_run hw (.inl rfl) hn hx hp hl s1 (by omega) (by omega)
    rw [if_pos rfl, if_pos rfl] at ho
    have hpc : pieceF s st = _ := (piece_tag s1').trans ((tag_opens s1' hc).trans ho)
    obtain ⟨l, st', hr, e1, e2, e3, e4⟩ := ih { st with at_ := st.at_ + (openTxt n xs ws [47, 62]).length, text := [], nodes := st.nodes + 1 } s2 h2.2.2 (fun _ _ _ _ => rfl) (by simp only; omega) h5.2
    have e4 : l ++ flushE st' = [] ++ evsK f := e4.trans (congrArg (· ++ evsK f) (flush_none (st := { st with at_ := st.at_ + (openTxt n xs ws [47, 62]).length, text := [], nodes := st.nodes + 1 }) rfl))
    refine ⟨_, st', .step s1'.head.1 hpc (by simp only [openTxt, List.length_cons]; omega) hr, by rw [e1, List.length_append]; simp only; omega, e2, by rw [e3, nodK, nod_elem, nodK]; simp only; omega, ?_⟩
    rw [List.append_assoc, e4, evsK, evs_elem, evsK]
    simp
  | @elem f k b kb n xs ws ws2 hn hx hp hl hw hw2 _ _ ihk ih =>
    intro st h1 h2 h3 h4 h5
    obtain ⟨s1, s2⟩ := Stands.app.mp h1
    obtain ⟨s3, s4⟩ := Stands.app.mp s2
    obtain ⟨s5, s6⟩ := Stands.app.mp s4
    rw [nodK, nod_elem] at h4
    rw [lowK, low_elem] at h5
    rw [nadjK, nadj_elem] at h2
    obtain ⟨c, y, hcy, hc, -⟩ := nameB_all hn
    have s1' := s1
    unfold openTxt at s1'
    rw [hcy] at s1'
    have ho := opensF_run hw (.inr rfl) hn hx hp hl s1 (by omega) (by omega)
    rw [if_neg (by decide), if_neg (by decide), List.append_nil] at ho
    have hpc : pieceF s st = _ := (piece_tag s1').trans ((tag_opens s1' hc).trans ho)
    obtain ⟨l1, st2, hr1, d1, d2, d3, d4⟩ := ihk { st with at_ := st.at_ + (openTxt n xs ws [62]).length, text := [], nodes := st.nodes + 1, opn := st.opn ++ [n] } s3 h2.2.1 (fun _ _ _ _ => rfl) (by simp only; omega) (by simp only [List.length_append, List.length_cons, List.length_nil]; exact h5.1.2)
    simp only at d1 d2 d3
    have s5' : Stands s st2.at_ (closeTxt n ws2) := by rw [d1]; exact s5
    have hcl := closesF_run hw2 hn s5' (by rw [d2, List.getLast?_append]; rfl)
    have hpc2 : pieceF s st2 = _ := (piece_tag s5').trans ((tag_closes s5').trans hcl)
    obtain ⟨l2, st', hr2, e1, e2, e3, e4⟩ := ih { st2 with at_ := st2.at_ + (closeTxt n ws2).length, text := [], opn := st2.opn.dropLast } (by rw [d1]; exact s6) h2.2.2 (fun _ _ _ _ => rfl) (by simp only; omega) (by simp only [d2, List.dropLast_concat]; exact h5.2)
    simp only at e1 e2 e3
    have e4 : l2 ++ flushE st' = [] ++ evsK f := e4.trans (congrArg (· ++ evsK f) (flush_none (st := { st2 with at_ := st2.at_ + (closeTxt n ws2).length, text := [], opn := st2.opn.dropLast }) rfl))
    have d4 : l1 ++ flushE st2 = [] ++ evsK k := d4.trans (congrArg (· ++ evsK k) (flush_none (st := { st with at_ := st.at_ + (openTxt n xs ws [62]).length, text := [], nodes := st.nodes + 1, opn := st.opn ++ [n] }) rfl))
    refine ⟨_, st', .step s1'.head.1 hpc (by simp only [openTxt, List.length_cons]; omega) (hr1.trans (.step s5'.head.1 hpc2 (by simp only [closeTxt, List.length_cons]; omega) hr2)), ?_, ?_, ?_, ?_⟩
    · rw [e1, d1]; simp only [List.length_append]; omega
    · rw [e2, d2, List.dropLast_concat]
    · rw [e3, d3, nodK, nod_elem]; omega
    · have d5 : l1 ++ (flushE st2 ++ ([endEv n] ++ evsK f)) = evsK k ++ ([endEv n] ++ evsK f) := by
        rw [← List.append_assoc, d4, List.nil_append]
      rw [List.append_assoc, List.append_assoc, List.append_assoc, List.append_assoc, e4, evsK, evs_elem]
      simp only [List.nil_append, List.append_assoc, List.cons_append] at d5 ⊢
      rw [d5]
theorem stack_evs {f : List TreeS} {b : List UInt8} (h : Spell f b) : ∀ (t : TreeS) (r : List TreeS), (evsK f).foldl stackStep (t :: r) = { t with f4 := t.f4 ++ f } :: r := by
  induction h with
  | nil =>
    intro t r
    rw [evsK, List.append_nil]
    cases t
    rfl
  | junk1 _ ih => exact ih
  | junk2 _ ih => exact ih
  | @text f b cs hne hok hlen _ ih =>
    intro t r
    rw [evsK, evs_text, List.foldl_append]
    show List.foldl stackStep (kidS (text0 _) (t :: r)) (evsK f) = _
    rw [kidS, ih]
    simp
  | @empty f b n xs ws hn hx hp hl hw _ ih =>
    intro t r
    rw [evsK, evs_elem, evsK, List.foldl_append]
    show List.foldl stackStep (popS (elem0 n _ :: t :: r)) (evsK f) = _
    rw [popS, ih]
    simp [elem0, elemT, startEv]
  | @elem f k b kb n xs ws ws2 hn hx hp hl hw hw2 _ _ ihk ih =>
    intro t r
    rw [evsK, evs_elem, List.cons_append, List.foldl_cons, List.foldl_append, List.foldl_append]
    show List.foldl stackStep (List.foldl stackStep (List.foldl stackStep (elem0 n _ :: t :: r) (evsK k)) [endEv n]) (evsK f) = _
    rw [ihk]
    show List.foldl stackStep (popS (_ :: t :: r)) (evsK f) = _
    rw [popS, ih]
    simp [elem0, elemT, startEv]
/-- What spells a forest is parsed as it. -/
theorem parse_spell {f : List TreeS} {b : List UInt8} (h : Spell f b) (h1 : nadjK f) (h2 : nodK f ≤ 4096) (h3 : lowK f 1) (h4 : b.length ≤ 262144) : parseF ⟨b.toArray⟩ = (f, 0, 0) := by
  obtain ⟨l, st', hr, e1, e2, e3, e4⟩ := h.run ⟨0, [], [], 0⟩ (Stands.whole b) h1 (fun _ _ _ _ => rfl) (by simpa using h2) h3
  simp only at e1 e2 e4
  have hp := hr.pieces ((⟨b.toArray⟩ : ByteArray).size + 1) [] (by simp only; omega) (by rw [e1, sizeMk]; omega)
  have hs : scanF ⟨b.toArray⟩ = (evsK f, 0, 0) := by
    unfold scanF
    rw [if_neg (by rw [sizeMk]; omega), hp, List.nil_append]
    show (l ++ flushE st', if 0 < st'.opn.length then _ else _) = _
    rw [e4, e2, flush_none rfl, List.nil_append]
    rfl
  have hk : stackOf (evsK f) = [⟨0, ⟨#[]⟩, [], ⟨#[]⟩, f⟩] := by
    unfold stackOf
    rw [stack_evs h]
    rfl
  unfold parseF
  rw [hs]
  simp only [if_true, hk]
  rfl
end Go.Proofs.YtealmfcimoomlaaGreatDoor.PA

/- Normal forests: what Print writes spells them; they can be; what Normal answers is one. -/
namespace Go.Proofs.YtealmfcimoomlaaGreatDoor.PA
open Go.RowKit Go.Proofs.YtealmfcimoomlaaGreatDoorW.PrintWords Go.Proofs.YtealmfcimoomlaaGreatDoorW.PrintLast Go.Proofs.YtealmfcimoomlaaGreatDoorW.PrintMore
set_option linter.unusedVariables false
set_option linter.unusedSimpArgs false
abbrev AttrS := S61
def nameL (a : AttrS) : List UInt8 := a.f0.data.toList
/-- Attributes that can be: not too many, each right, rising. -/
structure fineA (l : List AttrS) : Prop where
  len : l.length ≤ 32
  all : ∀ a ∈ l, nameB a.f0 = true ∧ textE a.f1 = 0
  up : l.Pairwise (fun a b => nameL a < nameL b)
theorem rd_at (x0 : List AttrS) (i : Nat) (h : i < x0.length) : rd_T61 x0 (i : Int) = x0[i] := by
  have := drop54 x0 i h
  rw [List.drop_eq_getElem_cons h] at this
  exact (List.cons.inj this).1.symm
theorem attrsI_iff (x0 : List AttrS) : ∀ d i, i + d = x0.length → (attrsI x0 d i = 0 ↔ ∀ j (hj : j < x0.length), i ≤ j → nameB x0[j].f0 = true ∧ textE x0[j].f1 = 0 ∧ (∀ (h : 0 < j), nameL (x0[j - 1]'(by omega)) < nameL x0[j]))
  | 0, i, h => by rw [attrsI]; exact ⟨fun _ j hj hij => by omega, fun _ => rfl⟩
  | d + 1, i, h => by
    have hi : i < x0.length := by omega
    have ih := attrsI_iff x0 d (i + 1) (by omega)
    rw [attrsI, rd_at x0 i hi]
    have hless : (decide (0 < i) && !(Op.bytesLess ((rd_T61 x0 ((i - 1 : Nat) : Int)).f0).toList (x0[i].f0).toList)) = true ↔ ∃ h : 0 < i, ¬ nameL (x0[i - 1]'(by omega)) < nameL x0[i] := by
      by_cases h0 : 0 < i
      · rw [rd_at x0 (i - 1) (by omega), Lib.toList_data, Lib.toList_data, bytesLess_eq, decide_eq_true h0, Bool.true_and, Bool.not_eq_true', decide_eq_false_iff_not]
        exact ⟨fun h => ⟨h0, h⟩, fun ⟨_, h⟩ => h⟩
      · rw [decide_eq_false h0, Bool.false_and]
        exact ⟨fun h => (by cases h), fun ⟨h, _⟩ => absurd h h0⟩
    have step : ∀ (P : Nat → Prop), (∀ j, j < x0.length → i ≤ j → P j) ↔ P i ∧ ∀ j, j < x0.length → i + 1 ≤ j → P j := fun P =>
      ⟨fun H => ⟨H i hi (Nat.le_refl _), fun j hj hij => H j hj (by omega)⟩, fun ⟨H0, H⟩ j hj hij => by
        by_cases e : i = j
        · subst e; exact H0
        · exact H j hj (by omega)⟩
    have st := step (fun j => ∀ hj : j < x0.length, nameB x0[j].f0 = true ∧ textE x0[j].f1 = 0 ∧ (∀ (h : 0 < j), nameL (x0[j - 1]'(by omega)) < nameL x0[j]))
    have st' : (∀ j (hj : j < x0.length), i ≤ j → nameB x0[j].f0 = true ∧ textE x0[j].f1 = 0 ∧ (∀ (h : 0 < j), nameL (x0[j - 1]'(by omega)) < nameL x0[j])) ↔ (nameB x0[i].f0 = true ∧ textE x0[i].f1 = 0 ∧ (∀ (h : 0 < i), nameL (x0[i - 1]'(by omega)) < nameL x0[i])) ∧ (∀ j (hj : j < x0.length), i + 1 ≤ j → nameB x0[j].f0 = true ∧ textE x0[j].f1 = 0 ∧ (∀ (h : 0 < j), nameL (x0[j - 1]'(by omega)) < nameL x0[j])) :=
      ⟨fun H => ⟨H i hi (Nat.le_refl _), fun j hj hij => H j hj (by omega)⟩, fun ⟨H0, H⟩ j hj hij => by
        by_cases e : i = j
        · subst e; exact H0
        · exact H j hj (by omega)⟩
    rw [st', ← ih]
    by_cases h1 : nameB x0[i].f0 = true
    · rw [if_pos h1]
      by_cases h2 : ∃ h : 0 < i, ¬ nameL (x0[i - 1]'(by omega)) < nameL x0[i]
      · rw [if_pos (hless.mpr h2)]
        obtain ⟨h0, h2⟩ := h2
        exact ⟨fun e => (by cases e), fun e => absurd (e.1.2.2 h0) h2⟩
      · rw [if_neg (fun e => h2 (hless.mp e))]
        have h3 : ∀ (h : 0 < i), nameL (x0[i - 1]'(by omega)) < nameL x0[i] := fun h => Classical.byContradiction fun c => h2 ⟨h, c⟩
        by_cases h4 : textE x0[i].f1 = 0
        · rw [if_pos h4]
          exact ⟨fun e => ⟨⟨h1, h4, h3⟩, e⟩, fun e => e.2⟩
        · rw [if_neg h4]
          exact ⟨fun e => absurd e h4, fun e => absurd e.1.2.1 h4⟩
    · rw [if_neg h1]
      exact ⟨fun e => (by cases e), fun e => absurd e.1.1 h1⟩
theorem up_of {l : List AttrS} (h : ∀ j (hj : j < l.length), ∀ (h : 0 < j), nameL (l[j - 1]'(by omega)) < nameL l[j]) : l.Pairwise (fun a b => nameL a < nameL b) := by
  rw [List.pairwise_iff_getElem]
  intro i j hi hj hij
  obtain ⟨d, rfl⟩ : ∃ d, j = i + d + 1 := ⟨j - i - 1, by omega⟩
  induction d with
  | zero => exact h (i + 0 + 1) hj (by omega)
  | succ d ih =>
    have h1 := ih (by omega) (by omega)
    have h2 := h (i + (d + 1) + 1) hj (by omega)
    exact List.lt_trans h1 h2
theorem attrsE_iff (l : List AttrS) : attrsE l = 0 ↔ fineA l := by
  unfold attrsE
  by_cases h1 : l.length > 32
  · rw [if_pos h1]
    exact ⟨fun e => (by cases e), fun e => by have := e.len; omega⟩
  · rw [if_neg h1, attrsI_iff l l.length 0 (by omega)]
    constructor
    · intro H
      refine ⟨by omega, fun a ha => ?_, up_of fun j hj h => (H j hj (Nat.zero_le _)).2.2 h⟩
      obtain ⟨j, hj, rfl⟩ := List.mem_iff_getElem.mp ha
      exact ⟨(H j hj (Nat.zero_le _)).1, (H j hj (Nat.zero_le _)).2.1⟩
    · intro H j hj _
      have := H.all l[j] (List.getElem_mem hj)
      refine ⟨this.1, this.2, fun h => ?_⟩
      exact List.pairwise_iff_getElem.mp H.up (j - 1) j (by omega) hj (by omega)
theorem nameL_inj {a b : AttrS} (h : nameL a = nameL b) : a.f0 = b.f0 := by
  unfold nameL at h
  rw [← mkL a.f0, h, mkL]
/-- Rising attributes, in another order, are sorted into themselves. -/
theorem sortA_of_perm {l m : List AttrS} (hp : l.Perm m) (hm : m.Pairwise (fun a b => nameL a < nameL b)) : sortA l = m := by
  have hle : ∀ a b : AttrS, (!ltA b a) = true ↔ nameL a ≤ nameL b := fun a b => by
    unfold ltA nameL
    rw [Bool.not_eq_true', decide_eq_false_iff_not, cb_neg]
    exact List.not_lt
  unfold sortA
  refine List.Perm.eq_of_pairwise (le := fun a b => nameL a ≤ nameL b) (fun a b ha hb h1 h2 => ?_) ?_ ?_ ((List.mergeSort_perm _ _).trans hp)
  · have ha' : a ∈ m := (hp.mem_iff.mp ((List.mergeSort_perm _ _).mem_iff.mp ha))
    have e := List.le_antisymm h1 h2
    obtain ⟨i, hi, rfl⟩ := List.mem_iff_getElem.mp ha'
    obtain ⟨j, hj, rfl⟩ := List.mem_iff_getElem.mp hb
    rcases Nat.lt_trichotomy i j with c | c | c
    · have := List.pairwise_iff_getElem.mp hm i j hi hj c
      rw [e] at this
      exact absurd this (List.lt_irrefl _)
    · subst c; rfl
    · have := List.pairwise_iff_getElem.mp hm j i hj hi c
      rw [e] at this
      exact absurd this (List.lt_irrefl _)
  · have := List.pairwise_mergeSort (le := fun x y => !ltA y x) (fun a b c h1 h2 => by rw [hle] at *; exact List.le_trans h1 h2) (fun a b => by
      rw [Bool.or_eq_true, hle, hle]; exact List.le_total _ _) l
    exact this.imp fun h => (hle _ _).mp h
  · exact hm.imp fun h => List.le_of_lt h
/-- Attributes with names that differ are sorted into rising ones. -/
theorem sortA_up {l : List AttrS} (hd : l.Pairwise (fun a b => a.f0 ≠ b.f0)) : (sortA l).Pairwise (fun a b => nameL a < nameL b) := by
  have hle : ∀ a b : AttrS, (!ltA b a) = true ↔ nameL a ≤ nameL b := fun a b => by
    unfold ltA nameL
    rw [Bool.not_eq_true', decide_eq_false_iff_not, cb_neg]
    exact List.not_lt
  have h1 := List.pairwise_mergeSort (le := fun x y => !ltA y x) (fun a b c h1 h2 => by rw [hle] at *; exact List.le_trans h1 h2) (fun a b => by
      rw [Bool.or_eq_true, hle, hle]; exact List.le_total _ _) l
  have h2 : (sortA l).Pairwise (fun a b => a.f0 ≠ b.f0) := ((List.mergeSort_perm l (fun x y => !ltA y x)).pairwise_iff (fun h => h.symm)).mpr hd
  refine (h1.and h2).imp fun ⟨h3, h4⟩ => ?_
  rcases List.le_iff_lt_or_eq.mp ((hle _ _).mp h3) with c | c
  · exact c
  · exact absurd (nameL_inj c) h4
theorem sortA_perm (l : List AttrS) : (sortA l).Perm l := List.mergeSort_perm _ _
mutual
/-- A tree of a normal forest, so deep. -/
def nrmT : TreeS → Nat → Prop
  | ⟨f0, f1, f2, f3, f4⟩, d => d ≤ 64 ∧ ((f0 = 1 ∧ nameB f1 = true ∧ fineA f2 ∧ f3 = ⟨#[]⟩ ∧ nrmK f4 (d + 1)) ∨ (f0 = 2 ∧ f1 = ⟨#[]⟩ ∧ f2 = [] ∧ textE f3 = 0 ∧ f3.data.toList ≠ [] ∧ f4 = []))
def nrmK : List TreeS → Nat → Prop
  | [], _ => True
  | t :: l, d => nrmT t d ∧ (t.f0 = 2 → ∀ u r, l = u :: r → u.f0 ≠ 2) ∧ nrmK l d
end
theorem textE_encs {s : ByteArray} (h : textE s = 0) : s.size ≤ 16384 ∧ ∃ cs : List Nat, (∀ c ∈ cs, okC c) ∧ s.data.toList = encs cs := (textR_iff s).mp h
mutual
theorem nrm_lowT : ∀ (t : TreeS) (d : Nat), nrmT t d → lowT t d ∧ nadjT t
  | ⟨f0, f1, f2, f3, f4⟩, d, h => by
    rw [nrmT] at h
    rw [lowT, nadjT]
    rcases h with ⟨h0, ⟨-, -, -, -, hk⟩ | ⟨-, -, -, -, -, rfl⟩⟩
    · have := nrm_lowK f4 (d + 1) hk
      exact ⟨⟨h0, this.1⟩, this.2⟩
    · exact ⟨⟨h0, trivial⟩, trivial⟩
theorem nrm_lowK : ∀ (l : List TreeS) (d : Nat), nrmK l d → lowK l d ∧ nadjK l
  | [], d, _ => ⟨trivial, trivial⟩
  | t :: l, d, h => by
    rw [nrmK] at h
    rw [lowK, nadjK]
    have h1 := nrm_lowT t d h.1
    have h2 := nrm_lowK l d h.2.2
    exact ⟨⟨h1.1, h2.1⟩, h.2.1, h1.2, h2.2⟩
end
theorem nrmT_ne {t : TreeS} {d : Nat} (h : nrmT t d) : solid t = true := by
  obtain ⟨f0, f1, f2, f3, f4⟩ := t
  rw [nrmT] at h
  unfold solid
  rcases h with ⟨-, ⟨rfl, -⟩ | ⟨rfl, -, -, -, h3, -⟩⟩
  · rfl
  · rw [Lib.toList_data]
    simpa using h3
theorem nrm_solid {l : List TreeS} {d : Nat} (h : nrmK l d) : l.any solid = true ↔ l ≠ [] := by
  cases l with
  | nil => simp
  | cons t l => rw [nrmK] at h; simp [nrmT_ne h.1]
/-- An attribute, and an element's attributes, as Print writes them. -/
def attL (a : AttrS) : List UInt8 := 32 :: (a.f0.data.toList ++ (61 :: 34 :: (escAll true a.f1.data.toList ++ [34])))
mutual
def prT : TreeS → List UInt8
  | ⟨f0, f1, f2, f3, f4⟩ => if f0 = 2 then escAll false f3.data.toList else 60 :: (f1.data.toList ++ (f2.flatMap attL ++ (if f4.any solid = true then 62 :: (prK f4 ++ (60 :: 47 :: (f1.data.toList ++ [62]))) else [47, 62])))
def prK : List TreeS → List UInt8
  | [] => []
  | t :: l => prT t ++ prK l
end
theorem esc_free34 {l : List UInt8} : (34 : UInt8) ∉ escAll true l := fun h => ((escAll_free true l 34 h).2.2.2 rfl).1 rfl
theorem atts_ex : ∀ l : List AttrS, (∀ a ∈ l, nameB a.f0 = true ∧ textE a.f1 = 0) → ∃ xs : List Att, xs.map (·.a) = l ∧ (∀ x ∈ xs, x.Ok) ∧ xs.flatMap Att.txt = l.flatMap attL
  | [], _ => ⟨[], rfl, fun _ h => (List.not_mem_nil h).elim, rfl⟩
  | a :: l, h => by
    obtain ⟨xs, h1, h2, h3⟩ := atts_ex l fun z hz => h z (List.mem_cons_of_mem _ hz)
    obtain ⟨hn, ht⟩ := h a List.mem_cons_self
    obtain ⟨hs, cs, hc, he⟩ := textE_encs ht
    have hev : (cs.flatMap (escC true)) = escAll true a.f1.data.toList := by rw [he, escAll_encs]
    refine ⟨⟨[32], 34, a, cs⟩ :: xs, by rw [List.map_cons, h1], fun x hx => ?_, ?_⟩
    · rcases List.mem_cons.mp hx with rfl | hx
      · refine ⟨List.cons_ne_nil _ _, fun z hz => ?_, .inl rfl, hn, ?_, hc, ?_, ?_⟩
        · rw [List.mem_singleton.mp hz]; decide +kernel
        · show a.f1 = _
          rw [← he, mkL]
        · show (encs cs).length ≤ 16384
          rw [← he, size_list]; exact hs
        · show (34 : UInt8) ∉ cs.flatMap (escC true)
          rw [hev]; exact esc_free34
      · exact h2 x hx
    · rw [List.flatMap_cons, List.flatMap_cons, h3]
      congr 1
      unfold Att.txt attL
      simp only [hev]
      rfl
theorem distinct_of_up {l : List AttrS} (h : l.Pairwise (fun a b => nameL a < nameL b)) : l.Pairwise (fun a b => a.f0 ≠ b.f0) := h.imp fun h e => by
  unfold nameL at h
  rw [e] at h
  exact List.lt_irrefl _ h
mutual
/-- What Print writes spells the forest. -/
theorem spellT : ∀ (t : TreeS) (d : Nat), nrmT t d → ∀ f b, Spell f b → Spell (t :: f) (prT t ++ b)
  | ⟨f0, f1, f2, f3, f4⟩, d, h, f, b, hf => by
    rw [nrmT] at h
    rw [prT]
    rcases h with ⟨h0, ⟨rfl, hn, ha, rfl, hk⟩ | ⟨rfl, rfl, rfl, ht, hne, rfl⟩⟩
    · obtain ⟨xs, h1, h2, h3⟩ := atts_ex f2 ha.all
      have hl : xs.length ≤ 32 := by have := congrArg List.length h1; rw [List.length_map] at this; rw [this]; exact ha.len
      have hd : (xs.map (·.a)).Pairwise (fun a b => a.f0 ≠ b.f0) := by rw [h1]; exact distinct_of_up ha.up
      have hs : sortA (xs.map (·.a)) = f2 := by rw [h1]; exact sortA_of_perm (List.Perm.refl _) ha.up
      rw [if_neg (by decide), ← h3]
      by_cases he : f4 = []
      · subst he
        have := Spell.empty f1 xs [] hn h2 hd hl (fun _ h => (List.not_mem_nil h).elim) hf
        rw [hs] at this
        rw [if_neg (by simp)]
        exact this
      · rw [if_pos ((nrm_solid hk).mpr he)]
        have := Spell.elem f1 xs [] [] hn h2 hd hl (fun _ h => (List.not_mem_nil h).elim) (fun _ h => (List.not_mem_nil h).elim) (spellK f4 (d + 1) hk) hf
        rw [hs] at this
        unfold openTxt closeTxt at this
        simp only [List.nil_append, List.append_assoc, List.cons_append] at this ⊢
        exact this
    · obtain ⟨hs, cs, hc, he⟩ := textE_encs ht
      rw [if_pos rfl]
      have hcs : cs ≠ [] := by rintro rfl; exact hne he
      have := Spell.text cs hcs hc (by rw [← he, size_list]; exact hs) hf
      rw [he, escAll_encs]
      rw [← he, mkL] at this
      exact this
theorem spellK : ∀ (l : List TreeS) (d : Nat), nrmK l d → Spell l (prK l)
  | [], _, _ => .nil
  | t :: l, d, h => by
    rw [nrmK] at h
    rw [prK]
    exact spellT t d h.1 l (prK l) (spellK l d h.2.2)
end
/-- What Print writes of a normal forest is parsed as it. -/
theorem parse_print {l : List TreeS} (h : nrmK l 1) (hn : nodK l ≤ 4096) (hb : (prK l).length ≤ 262144) : parseF ⟨(prK l).toArray⟩ = (l, 0, 0) :=
  parse_spell (spellK l 1 h) (nrm_lowK l 1 h).2 hn (nrm_lowK l 1 h).1 hb
/-- What Print's parts write. -/
theorem Rel.attP : ∀ (l : List AttrS) {p r : List UInt8}, (∀ a ∈ l, textE a.f1 = 0) → Rel p r → Rel (attrP l p) (r ++ l.flatMap attL)
  | [], p, r, _, h => by rw [attrP]; simpa using h
  | a :: l, p, r, ht, h => by
    have he : (escR true a.f1).1 = ⟨(escAll true a.f1.data.toList).toArray⟩ := congrArg (·.1) (if_pos (ht a List.mem_cons_self) : escR true a.f1 = _)
    rw [attrP, List.flatMap_cons, ← List.append_assoc]
    refine Rel.attP l (fun z hz => ht z (List.mem_cons_of_mem _ hz)) ?_
    have := ((((h.put ⟨#[32]⟩).put a.f0).put ⟨#[61, 34]⟩).put (escR true a.f1).1).put ⟨#[34]⟩
    rw [he] at this ⊢
    have e : r ++ attL a = ((((r ++ (⟨#[32]⟩ : ByteArray).data.toList) ++ a.f0.data.toList) ++ (⟨#[61, 34]⟩ : ByteArray).data.toList) ++ (⟨(escAll true a.f1.data.toList).toArray⟩ : ByteArray).data.toList) ++ (⟨#[34]⟩ : ByteArray).data.toList := by
      unfold attL
      simp
    rw [e]
    exact this
mutual
theorem Rel.prT : ∀ (t : TreeS) (p r : List UInt8), goodT t → Rel p r → Rel (ptreeE t p) (r ++ prT t)
  | ⟨f0, f1, f2, f3, f4⟩, p, r, hg, h => by
    rw [ptreeE, PA.prT]
    by_cases hp : 262144 < p.length
    · rw [if_pos hp]
      rcases h with rfl | ⟨h1, h2⟩
      · exact .inr ⟨hp, by rw [List.length_append]; omega⟩
      · exact .inr ⟨h1, by rw [List.length_append]; omega⟩
    rw [if_neg hp]
    by_cases h2 : f0 = 2
    · rcases hg with ⟨g0, _⟩ | ⟨g0, g1⟩
      · rw [g0] at h2; cases h2
      rw [if_pos h2, if_pos h2]
      have he : (escR false f3).1 = ⟨(escAll false f3.data.toList).toArray⟩ := congrArg (·.1) (if_pos g1 : escR false f3 = _)
      rw [he]
      exact h.put _
    rcases hg with ⟨g0, g1, g2, g3, g4⟩ | ⟨g0, _⟩
    case inr => exact absurd g0 h2
    rw [if_neg h2, if_neg h2]
    have h1 : Rel (attrP f2 (putF p [⟨#[60]⟩, f1])) (r ++ (60 :: (f1.data.toList ++ f2.flatMap attL))) := by
      have := Rel.attP f2 (fun a ha => (g3 a ha).2) ((h.put ⟨#[60]⟩).put f1)
      have e : r ++ (60 :: (f1.data.toList ++ f2.flatMap attL)) = ((r ++ (⟨#[60]⟩ : ByteArray).data.toList) ++ f1.data.toList) ++ f2.flatMap attL := by simp
      rw [e]
      exact this
    by_cases h3 : f4.any solid = true
    · rw [if_pos h3, if_pos h3]
      have h4 := Rel.prK f4 _ _ g4 (h1.put ⟨#[62]⟩)
      have := ((h4.put ⟨#[60, 47]⟩).put f1).put ⟨#[62]⟩
      have e : r ++ 60 :: (f1.data.toList ++ (f2.flatMap attL ++ 62 :: (PA.prK f4 ++ 60 :: 47 :: (f1.data.toList ++ [62])))) = (((((r ++ (60 :: (f1.data.toList ++ f2.flatMap attL))) ++ (⟨#[62]⟩ : ByteArray).data.toList) ++ PA.prK f4) ++ (⟨#[60, 47]⟩ : ByteArray).data.toList) ++ f1.data.toList) ++ (⟨#[62]⟩ : ByteArray).data.toList := by simp
      rw [e]
      exact this
    · rw [if_neg h3, if_neg h3]
      have := h1.put ⟨#[47, 62]⟩
      have e : r ++ 60 :: (f1.data.toList ++ (f2.flatMap attL ++ [47, 62])) = (r ++ (60 :: (f1.data.toList ++ f2.flatMap attL))) ++ (⟨#[47, 62]⟩ : ByteArray).data.toList := by simp
      rw [e]
      exact this
theorem Rel.prK : ∀ (l : List TreeS) (p r : List UInt8), goodK l → Rel p r → Rel (pkidsE l p) (r ++ prK l)
  | [], p, r, _, h => by rw [pkidsE, PA.prK]; simpa using h
  | t :: l, p, r, hg, h => by
    rw [pkidsE, PA.prK, ← List.append_assoc]
    exact Rel.prK l _ _ hg.2 (Rel.prT t p r hg.1 h)
end
/-- Print, in plain. -/
theorem printE_eq (l : List TreeS) : printE l = if canE l = 0 then (if 262144 < (prK l).length then (⟨#[]⟩, 2) else (⟨(prK l).toArray⟩, 0)) else (⟨#[]⟩, canE l) := by
  unfold printE
  by_cases h : canE l = 0
  · rw [if_pos h, if_pos h]
    rcases Rel.prK l [] [] (canE_good h).1 (.inl rfl) with e | ⟨e1, e2⟩
    · rw [e, List.nil_append]
    · rw [List.nil_append] at e2
      rw [if_pos e1, if_pos e2]
  · rw [if_neg h, if_neg h]
mutual
theorem look_nrm : ∀ (t : TreeS) (d n : Nat), nrmT t d → n + nodT t ≤ 4096 → lookE t (d : Int) (n : Int) = (0, ((n + nodT t : Nat) : Int))
  | ⟨f0, f1, f2, f3, f4⟩, d, n, h, hn => by
    rw [nrmT] at h
    have hpos := nodT_pos ⟨f0, f1, f2, f3, f4⟩
    rw [nodT] at hn hpos ⊢
    rw [lookE, if_neg (by omega), if_neg (by omega)]
    have hw : wrap64 ((n : Int) + 1) = ((n + 1 : Nat) : Int) := by rw [wrap_in (by omega) (by omega)]; omega
    have hw2 : wrap64 ((d : Int) + 1) = ((d + 1 : Nat) : Int) := by rw [wrap_in (by omega) (by omega)]; omega
    rcases h with ⟨h0, ⟨rfl, g1, g2, rfl, hk⟩ | ⟨rfl, rfl, rfl, ht, hne, rfl⟩⟩
    · rw [if_pos rfl] at hn ⊢
      have ho : ownE 1 f1 f2 ⟨#[]⟩ = 0 := by unfold ownE; rw [if_pos rfl, if_pos g1]; exact (attrsE_iff f2).mpr g2
      rw [if_pos ho, if_neg (by decide), hw, hw2, lookK_nrm f4 (d + 1) (n + 1) hk (by omega)]
      congr 2
      omega
    · rw [if_neg (show ¬ (2 : Int) = 1 by decide)] at hn ⊢
      have ho : ownE 2 ⟨#[]⟩ [] f3 = 0 := by unfold ownE; rw [if_neg (by decide), if_pos rfl]; exact ht
      rw [if_pos ho, if_pos rfl, hw]
theorem lookK_nrm : ∀ (l : List TreeS) (d n : Nat), nrmK l d → n + nodK l ≤ 4096 → lookKE l (d : Int) (n : Int) = (0, ((n + nodK l : Nat) : Int))
  | [], d, n, _, _ => by rw [lookKE, nodK]; rfl
  | t :: l, d, n, h, hn => by
    rw [nrmK] at h
    rw [nodK] at hn ⊢
    rw [lookKE, look_nrm t d n h.1 (by omega), if_pos rfl, lookK_nrm l d (n + nodT t) h.2.2 (by omega)]
    congr 2
    omega
end
theorem first_nrm : ∀ (l : List TreeS), nrmK l 1 → nodK l ≤ 4096 → firstE l = 0 ∧ ∀ t ∈ l, (lookE t 1 0).1 = 0
  | [], _, _ => ⟨rfl, fun _ h => (List.not_mem_nil h).elim⟩
  | t :: l, h, hn => by
    rw [nrmK] at h
    rw [nodK] at hn
    have h1 : (lookE t 1 0).1 = 0 := congrArg (·.1) (look_nrm t 1 0 h.1 (by omega))
    obtain ⟨h2, h3⟩ := first_nrm l h.2.2 (by omega)
    refine ⟨by rw [firstE, if_pos h1]; exact h2, fun u hu => ?_⟩
    rcases List.mem_cons.mp hu with rfl | hu
    · exact h1
    · exact h3 u hu
theorem can_nrm {l : List TreeS} (h : nrmK l 1) (hn : nodK l ≤ 4096) : canE l = 0 := by
  unfold canE
  rw [if_pos (first_nrm l h hn).1, if_neg (by omega)]
end Go.Proofs.YtealmfcimoomlaaGreatDoor.PA
