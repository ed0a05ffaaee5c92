/- Names, texts, attributes, nodes by themselves: what is wrong with them, without rounds. -/
import Derived.Test.YtealmfcimoomlaaDoorPName
import Derived.Test.YtealmfcimoomlaaDoorPCharsR
import Derived.Test.YtealmfcimoomlaaDoorUTreeCheck
import Derived.Test.YtealmfcimoomlaaDoorPA8
namespace Go.Proofs.YtealmfcimoomlaaDoor.PA
open Go.RowKit Go.Proofs.YtealmfcimoomlaaDoorW.PrintWords Go.Proofs.YtealmfcimoomlaaDoorW.PrintLast Go.Proofs.YtealmfcimoomlaaDoorW.PrintMore
set_option linter.unusedVariables false
set_option linter.unusedSimpArgs false
def nameB (s : ByteArray) : Bool := (espalierref02_Name.f (s.size + 2) s).getD false
theorem name_ev (s : ByteArray) (hs : s.size ≤ 140737488355328) : Ev (fun k => espalierref02_Name.f k s) (nameB s) := by
  obtain ⟨b, hb⟩ := Name_ends s hs (s.size + 2) (Nat.le_refl _)
  refine ⟨s.size + 2, fun k hk => ?_⟩
  have : nameB s = b := by unfold nameB; rw [hb]; rfl
  rw [this]
  exact at_rounds (g := fun k => espalierref02_Name.f k s) (fun k => espalierref02_Name.mono _ _) hk hb
theorem name_evP (s : ByteArray) (hs : s.size ≤ 140737488355328) : Ev (fun k => chars_Name.f k s) (nameB s) := (name_ev s hs).congr fun k => Name_eq s k
theorem nameB_size {s : ByteArray} (h : nameB s = true) : s.size ≤ 32 := by
  unfold nameB espalierref02_Name.f at h
  by_cases h1 : (s.size : Int) < 1
  · omega
  · rw [if_neg h1] at h
    by_cases h2 : (s.size : Int) > 32
    · rw [if_pos h2, espalierref02_Name.j0.eq_2, if_pos rfl] at h
      cases h
    · omega
def textE (s : ByteArray) : Int := (textR s).2
theorem text_ev (s : ByteArray) (hs : s.size ≤ 140737488355328) : Ev (fun k => espalierref02_Text.f k s) (textR s) := ⟨s.size + 8, fun k hk => rtext_eq s hs k hk⟩
theorem text_evP (s : ByteArray) (hs : s.size ≤ 140737488355328) : Ev (fun k => chars_Text.f k s) (textR s) := ⟨s.size + 2, fun k hk => by show chars_Text.f k s = _; unfold chars_Text.f; rw [text_eq s hs k hk]; rfl⟩
def attrsI (x0 : List S54) : Nat → Nat → Int
  | 0, _ => 0
  | d + 1, i =>
    if nameB (rd_T54 x0 (i : Int)).f0 = true then
      (if (decide (0 < i) && !(Op.bytesLess ((rd_T54 x0 ((i - 1 : Nat) : Int)).f0).toList ((rd_T54 x0 (i : Int)).f0).toList)) = true then 6
       else if textE (rd_T54 x0 (i : Int)).f1 = 0 then attrsI x0 d (i + 1) else textE (rd_T54 x0 (i : Int)).f1)
    else 6
def attrsE (l : List S54) : Int := if l.length > 32 then 2 else attrsI l l.length 0
def smallA (l : List S54) : Prop := ∀ a ∈ l, a.f0.size ≤ 140737488351232 ∧ a.f1.size ≤ 140737488351232
theorem rd54_mem (l : List S54) (i : Nat) (h : i < l.length) : rd_T54 l (i : Int) ∈ l := by
  have := drop54 l i h
  exact List.mem_of_mem_drop (this ▸ List.mem_cons_self)
theorem attrs_evP (x0 : List S54) (hx : smallA x0) (hl : x0.length ≤ 32) : ∀ (d i : Nat), i + d = x0.length → Ev (fun k => tree_attrs.l0 k x0 x0 (x0.length : Int) (i : Int)) (attrsI x0 d i)
  | 0, i, h => Ev.step (f := fun _ => some 0) (fun k => by rw [tree_attrs.l0.eq_2, if_neg (by omega)]) (Ev.now 0)
  | d + 1, i, h => by
    have hi : i < x0.length := by omega
    have hm := hx _ (rd54_mem x0 i hi)
    have hw : wrap64 ((i : Int) + 1) = ((i + 1 : Nat) : Int) := by unfold wrap64; omega
    have ih := attrs_evP x0 hx hl d (i + 1) (by omega)
    rw [attrsI]
    generalize ha : rd_T54 x0 (i : Int) = a at hm ⊢
    have hj : ∀ bl, Ev (fun k => tree_attrs.j1 k x0 x0 (x0.length : Int) (i : Int) bl a.f0 a.f1) (if bl = true then 6 else if textE a.f1 = 0 then attrsI x0 d (i + 1) else textE a.f1) := by
      intro bl
      cases bl with
      | true => exact Ev.step (f := fun _ => some 6) (fun k => by rw [tree_attrs.j1.eq_2, if_pos rfl]) (Ev.now 6)
      | false =>
        refine Ev.step (fun k => by rw [tree_attrs.j1.eq_2, if_neg (by decide)]) (Ev.bind (text_evP a.f1 (by omega)) ?_)
        rw [if_neg (by decide)]
        unfold textE
        by_cases ht : (textR a.f1).2 = 0
        · simp only [if_pos ht, hw]
          exact ih
        · simp only [if_neg ht]
          exact Ev.now _
    refine Ev.step (fun k => by rw [tree_attrs.l0.eq_2, if_pos (by omega), if_pos (by omega), if_pos (by omega), ha]) (Ev.bind (name_evP a.f0 (by omega)) ?_)
    cases hn : nameB a.f0 with
    | false => simp only [if_neg (show ¬ (false = true) by decide)]; exact hj true
    | true =>
      simp only [if_pos rfl, if_true]
      by_cases h0 : 0 < i
      · have hw1 : wrap64 ((i : Int) - 1) = ((i - 1 : Nat) : Int) := by unfold wrap64; omega
        rw [hw1]
        simp only [if_pos (show (i : Int) > 0 by omega), if_pos (show (0 : Int) ≤ ((i - 1 : Nat) : Int) by omega), if_pos (show ((i - 1 : Nat) : Int) < (x0.length : Int) by omega), decide_eq_true h0, Bool.true_and]
        exact hj _
      · simp only [if_neg (show ¬ (i : Int) > 0 by omega), decide_eq_false h0, Bool.false_and]
        exact hj false
theorem attrs_evR (x0 : List S54) (hx : smallA x0) (hl : x0.length ≤ 32) : ∀ (d i : Nat), i + d = x0.length → Ev (fun k => espalierref03_attrs.l0 k x0 (i : Int)) (attrsI x0 d i)
  | 0, i, h => Ev.step (f := fun _ => some 0) (fun k => by rw [espalierref03_attrs.l0.eq_2, if_neg (by omega)]) (Ev.now 0)
  | d + 1, i, h => by
    have hi : i < x0.length := by omega
    have hm := hx _ (rd54_mem x0 i hi)
    have hw : wrap64 ((i : Int) + 1) = ((i + 1 : Nat) : Int) := by unfold wrap64; omega
    have ih := attrs_evR x0 hx hl d (i + 1) (by omega)
    rw [attrsI]
    generalize ha : rd_T54 x0 (i : Int) = a at hm ⊢
    have hj : ∀ bl, Ev (fun k => espalierref03_attrs.j1 k x0 (i : Int) bl) (if bl = true then 6 else if textE a.f1 = 0 then attrsI x0 d (i + 1) else textE a.f1) := by
      intro bl
      cases bl with
      | true => exact Ev.step (f := fun _ => some 6) (fun k => by rw [espalierref03_attrs.j1.eq_2, if_pos rfl]) (Ev.now 6)
      | false =>
        refine Ev.step (fun k => by rw [espalierref03_attrs.j1.eq_2, if_neg (by decide), if_pos (by omega), if_pos (by omega), ha]) (Ev.bind (text_ev a.f1 (by omega)) ?_)
        rw [if_neg (by decide)]
        unfold textE
        by_cases ht : (textR a.f1).2 = 0
        · simp only [if_pos ht, hw]
          exact ih
        · simp only [if_neg ht]
          exact Ev.now _
    refine Ev.step (fun k => by rw [espalierref03_attrs.l0.eq_2, if_pos (by omega), if_pos (by omega), ha]) (Ev.bind (name_ev a.f0 (by omega)) ?_)
    cases hn : nameB a.f0 with
    | false => simp only [if_neg (show ¬ (false = true) by decide)]; exact hj true
    | true =>
      simp only [if_pos rfl, if_true]
      by_cases h0 : 0 < i
      · have hw1 : wrap64 ((i : Int) - 1) = ((i - 1 : Nat) : Int) := by unfold wrap64; omega
        rw [hw1]
        simp only [if_pos (show (i : Int) > 0 by omega), if_pos (show (0 : Int) ≤ ((i - 1 : Nat) : Int) by omega), if_pos (show ((i - 1 : Nat) : Int) < (x0.length : Int) by omega), decide_eq_true h0, Bool.true_and]
        exact hj _
      · simp only [if_neg (show ¬ (i : Int) > 0 by omega), decide_eq_false h0, Bool.false_and]
        exact hj false
theorem attrsE_P (l : List S54) (hx : smallA l) : Ev (fun k => tree_attrs.f k l) (attrsE l) := by
  unfold tree_attrs.f attrsE
  by_cases h : l.length > 32
  · simp only [if_pos h, if_pos (show (l.length : Int) > 32 by omega)]; exact Ev.now 2
  · simp only [if_neg h, if_neg (show ¬ (l.length : Int) > 32 by omega)]; exact attrs_evP l hx (by omega) l.length 0 (by omega)
theorem attrsE_R (l : List S54) (hx : smallA l) : Ev (fun k => espalierref03_attrs.f k l) (attrsE l) := by
  unfold espalierref03_attrs.f attrsE
  by_cases h : l.length > 32
  · simp only [if_pos h, if_pos (show (l.length : Int) > 32 by omega)]; exact Ev.now 2
  · simp only [if_neg h, if_neg (show ¬ (l.length : Int) > 32 by omega)]; exact attrs_evR l hx (by omega) l.length 0 (by omega)
theorem attrsI_ok (x0 : List S54) : ∀ (d i : Nat), i + d = x0.length → attrsI x0 d i = 0 → ∀ a ∈ x0.drop i, nameB a.f0 = true ∧ textE a.f1 = 0
  | 0, i, h, _ => by rw [List.drop_of_length_le (by omega)]; intro a ha; cases ha
  | d + 1, i, h, he => by
    rw [attrsI] at he
    rw [drop54 x0 i (by omega)]
    by_cases h1 : nameB (rd_T54 x0 (i : Int)).f0 = true
    · rw [if_pos h1] at he
      split at he
      · cases he
      · by_cases h2 : textE (rd_T54 x0 (i : Int)).f1 = 0
        · rw [if_pos h2] at he
          intro a ha
          rcases List.mem_cons.1 ha with rfl | ha
          · exact ⟨h1, h2⟩
          · exact attrsI_ok x0 d (i + 1) (by omega) he a ha
        · rw [if_neg h2] at he; exact absurd he h2
    · rw [if_neg h1] at he; cases he
theorem attrsE_ok {l : List S54} (h : attrsE l = 0) : l.length ≤ 32 ∧ ∀ a ∈ l, nameB a.f0 = true ∧ textE a.f1 = 0 := by
  unfold attrsE at h
  by_cases h1 : l.length > 32
  · rw [if_pos h1] at h; cases h
  · rw [if_neg h1] at h
    exact ⟨by omega, attrsI_ok l l.length 0 (by omega) h⟩
def ownE (f0 : Int) (f1 : ByteArray) (f2 : List S54) (f3 : ByteArray) : Int := if f0 = 1 then (if nameB f1 = true then attrsE f2 else 6) else if f0 = 2 then textE f3 else 1
theorem ownE_P (f0 : Int) (f1 : ByteArray) (f2 : List S54) (f3 : ByteArray) (f4 : List S36) (h1 : f1.size ≤ 140737488351232) (h2 : smallA f2) (h3 : f3.size ≤ 140737488351232) : Ev (fun k => tree_own.f k f0 f1 f2 f3 f4) (ownE f0 f1 f2 f3) := by
  unfold tree_own.f ownE
  by_cases c1 : f0 = 1
  · simp only [if_pos c1]
    refine Ev.bind (name_evP f1 (by omega)) ?_
    cases nameB f1 with
    | true => simp only [if_true]; exact Ev.bind (attrsE_P f2 h2) (Ev.now _)
    | false => simp only [if_neg (show ¬ (false = true) by decide)]; exact Ev.now 6
  · simp only [if_neg c1]
    by_cases c2 : f0 = 2
    · simp only [if_pos c2]; exact Ev.bind (text_evP f3 (by omega)) (Ev.now _)
    · simp only [if_neg c2]; exact Ev.now 1
theorem ownE_R (f0 : Int) (f1 : ByteArray) (f2 : List S54) (f3 : ByteArray) (f4 : List S36) (h1 : f1.size ≤ 140737488351232) (h2 : smallA f2) (h3 : f3.size ≤ 140737488351232) : Ev (fun k => espalierref03_own.f k f0 f1 f2 f3 f4) (ownE f0 f1 f2 f3) := by
  unfold espalierref03_own.f ownE
  by_cases c1 : f0 = 1
  · simp only [if_pos c1]
    refine Ev.bind (name_ev f1 (by omega)) ?_
    cases nameB f1 with
    | true => simp only [if_true]; exact Ev.bind (attrsE_R f2 h2) (Ev.now _)
    | false => simp only [if_neg (show ¬ (false = true) by decide)]; exact Ev.now 6
  · simp only [if_neg c1]
    by_cases c2 : f0 = 2
    · simp only [if_pos c2]; exact Ev.bind (text_ev f3 (by omega)) (Ev.now _)
    · simp only [if_neg c2]; exact Ev.now 1
end Go.Proofs.YtealmfcimoomlaaDoor.PA
