/- A forest as it may be spelled: what the scanner tells of it, and what Parse makes of that. -/
import Derived.Test.YtealmfcimoomlaaGreatDoorPT2
import Derived.Test.YtealmfcimoomlaaGreatDoorUPrint
import Derived.Test.YtealmfcimoomlaaGreatDoorPOk
namespace Go.Proofs.YtealmfcimoomlaaGreatDoor.PA
open Go.RowKit Go.Proofs.YtealmfcimoomlaaGreatDoorW.PrintWords Go.Proofs.YtealmfcimoomlaaGreatDoorW.PrintLast Go.Proofs.YtealmfcimoomlaaGreatDoorW.PrintMore
set_option linter.unusedVariables false
set_option linter.unusedSimpArgs false
def elemT (n : ByteArray) (l : List S61) (k : List TreeS) : TreeS := ⟨1, n, l, ⟨#[]⟩, k⟩
/-- Bytes that spell a forest. -/
inductive Spell : List TreeS → List UInt8 → Prop
  | nil : Spell [] []
  | junk1 {f : List TreeS} {b : List UInt8} : Spell f b → Spell f (remark1 ++ b)
  | junk2 {f : List TreeS} {b : List UInt8} : Spell f b → Spell f (remark2 ++ b)
  | text {f : List TreeS} {b : List UInt8} (cs : List Nat) : cs ≠ [] → (∀ c ∈ cs, okC c) → (encs cs).length ≤ 16384 → Spell f b → Spell (text0 ⟨(encs cs).toArray⟩ :: f) (cs.flatMap (escC false) ++ b)
  | empty {f : List TreeS} {b : List UInt8} (n : ByteArray) (xs : List Att) (ws : List UInt8) : nameB n = true → (∀ x ∈ xs, x.Ok) → (xs.map (·.a)).Pairwise (fun a b => a.f0 ≠ b.f0) → xs.length ≤ 32 → Blanks ws → Spell f b →
      Spell (elemT n (sortA (xs.map (·.a))) [] :: f) (openTxt n xs ws [47, 62] ++ b)
  | elem {f k : List TreeS} {b kb : List UInt8} (n : ByteArray) (xs : List Att) (ws ws2 : List UInt8) : nameB n = true → (∀ x ∈ xs, x.Ok) → (xs.map (·.a)).Pairwise (fun a b => a.f0 ≠ b.f0) → xs.length ≤ 32 → Blanks ws → Blanks ws2 → Spell k kb → Spell f b →
      Spell (elemT n (sortA (xs.map (·.a))) k :: f) (openTxt n xs ws [62] ++ (kb ++ (closeTxt n ws2 ++ b)))
mutual
/-- What a tree, and a forest, tell. -/
def evsT : TreeS → List Evt
  | ⟨f0, f1, f2, f3, f4⟩ => if f0 = 2 then [⟨2, ⟨#[]⟩, [], f3⟩] else startEv f1 f2 :: (evsK f4 ++ [endEv f1])
def evsK : List TreeS → List Evt
  | [] => []
  | t :: l => evsT t ++ evsK l
end
mutual
/-- No two texts side by side. -/
def nadjT : TreeS → Prop
  | ⟨_, _, _, _, f4⟩ => nadjK f4
def nadjK : List TreeS → Prop
  | [] => True
  | t :: l => (t.f0 = 2 → ∀ u r, l = u :: r → u.f0 ≠ 2) ∧ nadjT t ∧ nadjK l
end
mutual
/-- No node lies too deep. -/
def lowT : TreeS → Nat → Prop
  | ⟨_, _, _, _, f4⟩, d => d ≤ 64 ∧ lowK f4 (d + 1)
def lowK : List TreeS → Nat → Prop
  | [], _ => True
  | t :: l, d => lowT t d ∧ lowK l d
end
theorem evs_elem (n : ByteArray) (l : List S61) (k : List TreeS) : evsT (elemT n l k) = startEv n l :: (evsK k ++ [endEv n]) := by
  unfold elemT
  rw [evsT, if_neg (by decide)]
theorem nod_elem (n : ByteArray) (l : List S61) (k : List TreeS) : nodT (elemT n l k) = 1 + nodK k := by
  unfold elemT
  rw [nodT, if_pos rfl]
theorem nod_text (t : ByteArray) : nodT (text0 t) = 1 := by
  unfold text0
  rw [nodT, if_neg (by decide)]
theorem evs_text (t : ByteArray) : evsT (text0 t) = [⟨2, ⟨#[]⟩, [], t⟩] := by
  unfold text0
  rw [evsT, if_pos rfl]
theorem low_elem {n : ByteArray} {l : List S61} {k : List TreeS} {d : Nat} : lowT (elemT n l k) d ↔ d ≤ 64 ∧ lowK k (d + 1) := by
  unfold elemT
  rw [lowT]
theorem low_text {t : ByteArray} {d : Nat} : lowT (text0 t) d ↔ d ≤ 64 := by
  unfold text0
  rw [lowT, lowK]
  simp
theorem nadj_elem {n : ByteArray} {l : List S61} {k : List TreeS} : nadjT (elemT n l k) ↔ nadjK k := by
  unfold elemT
  rw [nadjT]
theorem flush_none {st : St} (h : st.text = []) : flushE st = [] := if_pos h
theorem flush_some {st : St} (h : st.text ≠ []) : flushE st = [⟨2, ⟨#[]⟩, [], ⟨st.text.toArray⟩⟩] := (if_neg h : flushE st = _)
theorem encs_pos {cs : List Nat} (h : cs ≠ []) (hc : ∀ c ∈ cs, okC c) : encs cs ≠ [] := by
  cases cs with
  | nil => exact absurd rfl h
  | cons c cs =>
    have := (enc_pos c (hc c List.mem_cons_self)).1
    intro e
    have := congrArg List.length e
    rw [encs_cons, List.length_append, List.length_nil] at this
    omega
/-- The scanner goes through what spells a forest, and tells what that tells. -/
theorem Spell.run {s : ByteArray} {f : List TreeS} {b : List UInt8} (h : Spell f b) : ∀ st : St, Stands s st.at_ b → nadjK f → (∀ t r, f = t :: r → t.f0 = 2 → st.text = []) → st.nodes + nodK f ≤ 4096 → lowK f (st.opn.length + 1) →
    ∃ l st', Run s st l st' ∧ st'.at_ = st.at_ + b.length ∧ st'.opn = st.opn ∧ st'.nodes = st.nodes + nodK f ∧ l ++ flushE st' = flushE st ++ evsK f := by
  induction h with
  | nil =>
    intro st _ _ _ _ _
    exact ⟨[], st, .refl st, rfl, rfl, by rw [nodK]; rfl, by rw [evsK]; simp⟩
  | @junk1 f b _ ih =>
    intro st h1 h2 h3 h4 h5
    obtain ⟨s1, s2⟩ := Stands.app.mp h1
    have hp : pieceF s st = ([], .ok () { st with at_ := st.at_ + remark1.length }) := (piece_tag s1).trans (remark1_tag s1)
    obtain ⟨l, st', hr, e1, e2, e3, e4⟩ := ih { st with at_ := st.at_ + remark1.length } s2 h2 h3 h4 h5
    have hh := s1.head.1
    refine ⟨[] ++ l, st', .step hh hp (by simp only [remark1, List.length_cons]; omega) hr, by rw [e1, List.length_append]; simp only; omega, e2, e3, e4⟩
  | @junk2 f b _ ih =>
    intro st h1 h2 h3 h4 h5
    obtain ⟨s1, s2⟩ := Stands.app.mp h1
    have hp : pieceF s st = ([], .ok () { st with at_ := st.at_ + remark2.length }) := (piece_tag s1).trans (remark2_tag s1)
    obtain ⟨l, st', hr, e1, e2, e3, e4⟩ := ih { st with at_ := st.at_ + remark2.length } s2 h2 h3 h4 h5
    have hh := s1.head.1
    refine ⟨[] ++ l, st', .step hh hp (by simp only [remark2, List.length_cons]; omega) hr, by rw [e1, List.length_append]; simp only; omega, e2, e3, e4⟩
  | @text f b cs hne hok hlen _ ih =>
    intro st h1 h2 h3 h4 h5
    obtain ⟨s1, s2⟩ := Stands.app.mp h1
    have ht := h3 _ _ rfl rfl
    rw [nodK, nod_text] at h4
    rw [lowK, low_text] at h5
    rw [nadjK] at h2
    have hr := text_run cs st hok s1 (by rw [ht]; simpa using hlen) (fun _ _ => ⟨by omega, by omega⟩)
    rw [ht, List.nil_append, if_pos ⟨rfl, hne⟩] at hr
    have hep := encs_pos hne hok
    obtain ⟨l, st', hr2, e1, e2, e3, e4⟩ := ih { st with at_ := st.at_ + (cs.flatMap (escC false)).length, text := encs cs, nodes := st.nodes + 1 } s2 h2.2.2 (fun t r e1 e2 => absurd e2 (h2.1 rfl t r e1)) (by simp only; omega) h5.2
    refine ⟨[] ++ l, st', hr.trans hr2, by rw [e1, List.length_append]; simp only; omega, e2, by rw [e3, nodK, nod_text]; simp only; omega, ?_⟩
    rw [List.nil_append, e4, flush_none ht, flush_some (by exact hep), evsK, evs_text]
    rfl
  | @empty f b n xs ws hn hx hp hl hw _ ih =>
    intro st h1 h2 h3 h4 h5
    obtain ⟨s1, s2⟩ := Stands.app.mp h1
    rw [nodK, nod_elem, nodK] at h4
    rw [lowK, low_elem] at h5
    rw [nadjK] at h2
    obtain ⟨c, y, hcy, hc, -⟩ := nameB_all hn
    have s1' := s1
    unfold openTxt at s1'
    rw [hcy] at s1'
    have ho := opensF_run hw (.inl rfl) hn hx hp hl s1 (by omega) (by omega)
    rw [if_pos rfl, if_pos rfl] at ho
    have hpc : pieceF s st = _ := (piece_tag s1').trans ((tag_opens s1' hc).trans ho)
    obtain ⟨l, st', hr, e1, e2, e3, e4⟩ := ih { st with at_ := st.at_ + (openTxt n xs ws [47, 62]).length, text := [], nodes := st.nodes + 1 } s2 h2.2.2 (fun _ _ _ _ => rfl) (by simp only; omega) h5.2
    have e4 : l ++ flushE st' = [] ++ evsK f := e4.trans (congrArg (· ++ evsK f) (flush_none (st := { st with at_ := st.at_ + (openTxt n xs ws [47, 62]).length, text := [], nodes := st.nodes + 1 }) rfl))
    refine ⟨_, st', .step s1'.head.1 hpc (by simp only [openTxt, List.length_cons]; omega) hr, by rw [e1, List.length_append]; simp only; omega, e2, by rw [e3, nodK, nod_elem, nodK]; simp only; omega, ?_⟩
    rw [List.append_assoc, e4, evsK, evs_elem, evsK]
    simp
  | @elem f k b kb n xs ws ws2 hn hx hp hl hw hw2 _ _ ihk ih =>
    intro st h1 h2 h3 h4 h5
    obtain ⟨s1, s2⟩ := Stands.app.mp h1
    obtain ⟨s3, s4⟩ := Stands.app.mp s2
    obtain ⟨s5, s6⟩ := Stands.app.mp s4
    rw [nodK, nod_elem] at h4
    rw [lowK, low_elem] at h5
    rw [nadjK, nadj_elem] at h2
    obtain ⟨c, y, hcy, hc, -⟩ := nameB_all hn
    have s1' := s1
    unfold openTxt at s1'
    rw [hcy] at s1'
    have ho := opensF_run hw (.inr rfl) hn hx hp hl s1 (by omega) (by omega)
    rw [if_neg (by decide), if_neg (by decide), List.append_nil] at ho
    have hpc : pieceF s st = _ := (piece_tag s1').trans ((tag_opens s1' hc).trans ho)
    obtain ⟨l1, st2, hr1, d1, d2, d3, d4⟩ := ihk { st with at_ := st.at_ + (openTxt n xs ws [62]).length, text := [], nodes := st.nodes + 1, opn := st.opn ++ [n] } s3 h2.2.1 (fun _ _ _ _ => rfl) (by simp only; omega) (by simp only [List.length_append, List.length_cons, List.length_nil]; exact h5.1.2)
    simp only at d1 d2 d3
    have s5' : Stands s st2.at_ (closeTxt n ws2) := by rw [d1]; exact s5
    have hcl := closesF_run hw2 hn s5' (by rw [d2, List.getLast?_append]; rfl)
    have hpc2 : pieceF s st2 = _ := (piece_tag s5').trans ((tag_closes s5').trans hcl)
    obtain ⟨l2, st', hr2, e1, e2, e3, e4⟩ := ih { st2 with at_ := st2.at_ + (closeTxt n ws2).length, text := [], opn := st2.opn.dropLast } (by rw [d1]; exact s6) h2.2.2 (fun _ _ _ _ => rfl) (by simp only; omega) (by simp only [d2, List.dropLast_concat]; exact h5.2)
    simp only at e1 e2 e3
    have e4 : l2 ++ flushE st' = [] ++ evsK f := e4.trans (congrArg (· ++ evsK f) (flush_none (st := { st2 with at_ := st2.at_ + (closeTxt n ws2).length, text := [], opn := st2.opn.dropLast }) rfl))
    have d4 : l1 ++ flushE st2 = [] ++ evsK k := d4.trans (congrArg (· ++ evsK k) (flush_none (st := { st with at_ := st.at_ + (openTxt n xs ws [62]).length, text := [], nodes := st.nodes + 1, opn := st.opn ++ [n] }) rfl))
    refine ⟨_, st', .step s1'.head.1 hpc (by simp only [openTxt, List.length_cons]; omega) (hr1.trans (.step s5'.head.1 hpc2 (by simp only [closeTxt, List.length_cons]; omega) hr2)), ?_, ?_, ?_, ?_⟩
    · rw [e1, d1]; simp only [List.length_append]; omega
    · rw [e2, d2, List.dropLast_concat]
    · rw [e3, d3, nodK, nod_elem]; omega
    · have d5 : l1 ++ (flushE st2 ++ ([endEv n] ++ evsK f)) = evsK k ++ ([endEv n] ++ evsK f) := by
        rw [← List.append_assoc, d4, List.nil_append]
      rw [List.append_assoc, List.append_assoc, List.append_assoc, List.append_assoc, e4, evsK, evs_elem]
      simp only [List.nil_append, List.append_assoc, List.cons_append] at d5 ⊢
      rw [d5]
theorem stack_evs {f : List TreeS} {b : List UInt8} (h : Spell f b) : ∀ (t : TreeS) (r : List TreeS), (evsK f).foldl stackStep (t :: r) = { t with f4 := t.f4 ++ f } :: r := by
  induction h with
  | nil =>
    intro t r
    rw [evsK, List.append_nil]
    cases t
    rfl
  | junk1 _ ih => exact ih
  | junk2 _ ih => exact ih
  | @text f b cs hne hok hlen _ ih =>
    intro t r
    rw [evsK, evs_text, List.foldl_append]
    show List.foldl stackStep (kidS (text0 _) (t :: r)) (evsK f) = _
    rw [kidS, ih]
    simp
  | @empty f b n xs ws hn hx hp hl hw _ ih =>
    intro t r
    rw [evsK, evs_elem, evsK, List.foldl_append]
    show List.foldl stackStep (popS (elem0 n _ :: t :: r)) (evsK f) = _
    rw [popS, ih]
    simp [elem0, elemT, startEv]
  | @elem f k b kb n xs ws ws2 hn hx hp hl hw hw2 _ _ ihk ih =>
    intro t r
    rw [evsK, evs_elem, List.cons_append, List.foldl_cons, List.foldl_append, List.foldl_append]
    show List.foldl stackStep (List.foldl stackStep (List.foldl stackStep (elem0 n _ :: t :: r) (evsK k)) [endEv n]) (evsK f) = _
    rw [ihk]
    show List.foldl stackStep (popS (_ :: t :: r)) (evsK f) = _
    rw [popS, ih]
    simp [elem0, elemT, startEv]
/-- What spells a forest is parsed as it. -/
theorem parse_spell {f : List TreeS} {b : List UInt8} (h : Spell f b) (h1 : nadjK f) (h2 : nodK f ≤ 4096) (h3 : lowK f 1) (h4 : b.length ≤ 262144) : parseF ⟨b.toArray⟩ = (f, 0, 0) := by
  obtain ⟨l, st', hr, e1, e2, e3, e4⟩ := h.run ⟨0, [], [], 0⟩ (Stands.whole b) h1 (fun _ _ _ _ => rfl) (by simpa using h2) h3
  simp only at e1 e2 e4
  have hp := hr.pieces ((⟨b.toArray⟩ : ByteArray).size + 1) [] (by simp only; omega) (by rw [e1, sizeMk]; omega)
  have hs : scanF ⟨b.toArray⟩ = (evsK f, 0, 0) := by
    unfold scanF
    rw [if_neg (by rw [sizeMk]; omega), hp, List.nil_append]
    show (l ++ flushE st', if 0 < st'.opn.length then _ else _) = _
    rw [e4, e2, flush_none rfl, List.nil_append]
    rfl
  have hk : stackOf (evsK f) = [⟨0, ⟨#[]⟩, [], ⟨#[]⟩, f⟩] := by
    unfold stackOf
    rw [stack_evs h]
    rfl
  unfold parseF
  rw [hs]
  simp only [if_true, hk]
  rfl
end Go.Proofs.YtealmfcimoomlaaGreatDoor.PA
