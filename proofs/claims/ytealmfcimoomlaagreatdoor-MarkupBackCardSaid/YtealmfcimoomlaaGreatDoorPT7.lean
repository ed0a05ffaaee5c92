/- Texts of this claim, one behind the other: PT4, PT5, PT7. Conditions: those of each theorem. -/
import Derived.Test.YtealmfcimoomlaaGreatDoorPT3
import Derived.Test.YtealmfcimoomlaaGreatDoorUMarkLib
import Derived.Sort.Walk0
import Derived.Test.YtealmfcimoomlaaGreatDoorPA9
/- Normal forests: what Print writes spells them; they can be; what Normal answers is one. -/
namespace Go.Proofs.YtealmfcimoomlaaGreatDoor.PA
open Go.RowKit Go.Proofs.YtealmfcimoomlaaGreatDoorW.PrintWords Go.Proofs.YtealmfcimoomlaaGreatDoorW.PrintLast Go.Proofs.YtealmfcimoomlaaGreatDoorW.PrintMore
set_option linter.unusedVariables false
set_option linter.unusedSimpArgs false
abbrev AttrS := S61
def nameL (a : AttrS) : List UInt8 := a.f0.data.toList
/-- Attributes that can be: not too many, each right, rising. -/
structure fineA (l : List AttrS) : Prop where
  len : l.length ≤ 32
  all : ∀ a ∈ l, nameB a.f0 = true ∧ textE a.f1 = 0
  up : l.Pairwise (fun a b => nameL a < nameL b)
theorem rd_at (x0 : List AttrS) (i : Nat) (h : i < x0.length) : rd_T61 x0 (i : Int) = x0[i] := by
  have := drop54 x0 i h
  rw [List.drop_eq_getElem_cons h] at this
  exact (List.cons.inj this).1.symm
theorem attrsI_iff (x0 : List AttrS) : ∀ d i, i + d = x0.length → (attrsI x0 d i = 0 ↔ ∀ j (hj : j < x0.length), i ≤ j → nameB x0[j].f0 = true ∧ textE x0[j].f1 = 0 ∧ (∀ (h : 0 < j), nameL (x0[j - 1]'(by omega)) < nameL x0[j]))
  | 0, i, h => by rw [attrsI]; exact ⟨fun _ j hj hij => by omega, fun _ => rfl⟩
  | d + 1, i, h => by
    have hi : i < x0.length := by omega
    have ih := attrsI_iff x0 d (i + 1) (by omega)
    rw [attrsI, rd_at x0 i hi]
    have hless : (decide (0 < i) && !(Op.bytesLess ((rd_T61 x0 ((i - 1 : Nat) : Int)).f0).toList (x0[i].f0).toList)) = true ↔ ∃ h : 0 < i, ¬ nameL (x0[i - 1]'(by omega)) < nameL x0[i] := by
      by_cases h0 : 0 < i
      · rw [rd_at x0 (i - 1) (by omega), Lib.toList_data, Lib.toList_data, bytesLess_eq, decide_eq_true h0, Bool.true_and, Bool.not_eq_true', decide_eq_false_iff_not]
        exact ⟨fun h => ⟨h0, h⟩, fun ⟨_, h⟩ => h⟩
      · rw [decide_eq_false h0, Bool.false_and]
        exact ⟨fun h => (by cases h), fun ⟨h, _⟩ => absurd h h0⟩
    have step : ∀ (P : Nat → Prop), (∀ j, j < x0.length → i ≤ j → P j) ↔ P i ∧ ∀ j, j < x0.length → i + 1 ≤ j → P j := fun P =>
      ⟨fun H => ⟨H i hi (Nat.le_refl _), fun j hj hij => H j hj (by omega)⟩, fun ⟨H0, H⟩ j hj hij => by
        by_cases e : i = j
        · subst e; exact H0
        · exact H j hj (by omega)⟩
    have st := step (fun j => ∀ hj : j < x0.length, nameB x0[j].f0 = true ∧ textE x0[j].f1 = 0 ∧ (∀ (h : 0 < j), nameL (x0[j - 1]'(by omega)) < nameL x0[j]))
    have st' : (∀ j (hj : j < x0.length), i ≤ j → nameB x0[j].f0 = true ∧ textE x0[j].f1 = 0 ∧ (∀ (h : 0 < j), nameL (x0[j - 1]'(by omega)) < nameL x0[j])) ↔ (nameB x0[i].f0 = true ∧ textE x0[i].f1 = 0 ∧ (∀ (h : 0 < i), nameL (x0[i - 1]'(by omega)) < nameL x0[i])) ∧ (∀ j (hj : j < x0.length), i + 1 ≤ j → nameB x0[j].f0 = true ∧ textE x0[j].f1 = 0 ∧ (∀ (h : 0 < j), nameL (x0[j - 1]'(by omega)) < nameL x0[j])) :=
      ⟨fun H => ⟨H i hi (Nat.le_refl _), fun j hj hij => H j hj (by omega)⟩, fun ⟨H0, H⟩ j hj hij => by
        by_cases e : i = j
        · subst e; exact H0
        · exact H j hj (by omega)⟩
    rw [st', ← ih]
    by_cases h1 : nameB x0[i].f0 = true
    · rw [if_pos h1]
      by_cases h2 : ∃ h : 0 < i, ¬ nameL (x0[i - 1]'(by omega)) < nameL x0[i]
      · rw [if_pos (hless.mpr h2)]
        obtain ⟨h0, h2⟩ := h2
        exact ⟨fun e => (by cases e), fun e => absurd (e.1.2.2 h0) h2⟩
      · rw [if_neg (fun e => h2 (hless.mp e))]
        have h3 : ∀ (h : 0 < i), nameL (x0[i - 1]'(by omega)) < nameL x0[i] := fun h => Classical.byContradiction fun c => h2 ⟨h, c⟩
        by_cases h4 : textE x0[i].f1 = 0
        · rw [if_pos h4]
          exact ⟨fun e => ⟨⟨h1, h4, h3⟩, e⟩, fun e => e.2⟩
        · rw [if_neg h4]
          exact ⟨fun e => absurd e h4, fun e => absurd e.1.2.1 h4⟩
    · rw [if_neg h1]
      exact ⟨fun e => (by cases e), fun e => absurd e.1.1 h1⟩
theorem up_of {l : List AttrS} (h : ∀ j (hj : j < l.length), ∀ (h : 0 < j), nameL (l[j - 1]'(by omega)) < nameL l[j]) : l.Pairwise (fun a b => nameL a < nameL b) := by
  rw [List.pairwise_iff_getElem]
  intro i j hi hj hij
  obtain ⟨d, rfl⟩ : ∃ d, j = i + d + 1 := ⟨j - i - 1, by omega⟩
  induction d with
  | zero => exact h (i + 0 + 1) hj (by omega)
  | succ d ih =>
    have h1 := ih (by omega) (by omega)
    have h2 := h (i + (d + 1) + 1) hj (by omega)
    exact List.lt_trans h1 h2
theorem attrsE_iff (l : List AttrS) : attrsE l = 0 ↔ fineA l := by
  unfold attrsE
  by_cases h1 : l.length > 32
  · rw [if_pos h1]
    exact ⟨fun e => (by cases e), fun e => by have := e.len; omega⟩
  · rw [if_neg h1, attrsI_iff l l.length 0 (by omega)]
    constructor
    · intro H
      refine ⟨by omega, fun a ha => ?_, up_of fun j hj h => (H j hj (Nat.zero_le _)).2.2 h⟩
      obtain ⟨j, hj, rfl⟩ := List.mem_iff_getElem.mp ha
      exact ⟨(H j hj (Nat.zero_le _)).1, (H j hj (Nat.zero_le _)).2.1⟩
    · intro H j hj _
      have := H.all l[j] (List.getElem_mem hj)
      refine ⟨this.1, this.2, fun h => ?_⟩
      exact List.pairwise_iff_getElem.mp H.up (j - 1) j (by omega) hj (by omega)
/-- Rising attributes, in another order, are sorted into themselves. -/
theorem sortA_of_perm {l m : List AttrS} (hp : l.Perm m) (hm : m.Pairwise (fun a b => nameL a < nameL b)) : sortA l = m := by
  have hle : ∀ a b : AttrS, (!ltA b a) = true ↔ nameL a ≤ nameL b := fun a b => by
    unfold ltA nameL
    rw [Bool.not_eq_true', decide_eq_false_iff_not, cb_neg]
    exact List.not_lt
  unfold sortA
  refine List.Perm.eq_of_pairwise (le := fun a b => nameL a ≤ nameL b) (fun a b ha hb h1 h2 => ?_) ?_ ?_ ((List.mergeSort_perm _ _).trans hp)
  · have ha' : a ∈ m := (hp.mem_iff.mp ((List.mergeSort_perm _ _).mem_iff.mp ha))
    have e := List.le_antisymm h1 h2
    obtain ⟨i, hi, rfl⟩ := List.mem_iff_getElem.mp ha'
    obtain ⟨j, hj, rfl⟩ := List.mem_iff_getElem.mp hb
    rcases Nat.lt_trichotomy i j with c | c | c
    · have := List.pairwise_iff_getElem.mp hm i j hi hj c
      rw [e] at this
      exact absurd this (List.lt_irrefl _)
    · subst c; rfl
    · have := List.pairwise_iff_getElem.mp hm j i hj hi c
      rw [e] at this
      exact absurd this (List.lt_irrefl _)
  · have := List.pairwise_mergeSort (le := fun x y => !ltA y x) (fun a b c h1 h2 => by rw [hle] at *; exact List.le_trans h1 h2) (fun a b => by
      rw [Bool.or_eq_true, hle, hle]; exact List.le_total _ _) l
    exact this.imp fun h => (hle _ _).mp h
  · exact hm.imp fun h => List.le_of_lt h
mutual
/-- A tree of a normal forest, so deep. -/
def nrmT : TreeS → Nat → Prop
  | ⟨f0, f1, f2, f3, f4⟩, d => d ≤ 64 ∧ ((f0 = 1 ∧ nameB f1 = true ∧ fineA f2 ∧ f3 = ⟨#[]⟩ ∧ nrmK f4 (d + 1)) ∨ (f0 = 2 ∧ f1 = ⟨#[]⟩ ∧ f2 = [] ∧ textE f3 = 0 ∧ f3.data.toList ≠ [] ∧ f4 = []))
def nrmK : List TreeS → Nat → Prop
  | [], _ => True
  | t :: l, d => nrmT t d ∧ (t.f0 = 2 → ∀ u r, l = u :: r → u.f0 ≠ 2) ∧ nrmK l d
end
theorem textE_encs {s : ByteArray} (h : textE s = 0) : s.size ≤ 16384 ∧ ∃ cs : List Nat, (∀ c ∈ cs, okC c) ∧ s.data.toList = encs cs := (textR_iff s).mp h
mutual
theorem nrm_lowT : ∀ (t : TreeS) (d : Nat), nrmT t d → lowT t d ∧ nadjT t
  | ⟨f0, f1, f2, f3, f4⟩, d, h => by
    rw [nrmT] at h
    rw [lowT, nadjT]
    rcases h with ⟨h0, ⟨-, -, -, -, hk⟩ | ⟨-, -, -, -, -, rfl⟩⟩
    · have := nrm_lowK f4 (d + 1) hk
      exact ⟨⟨h0, this.1⟩, this.2⟩
    · exact ⟨⟨h0, trivial⟩, trivial⟩
theorem nrm_lowK : ∀ (l : List TreeS) (d : Nat), nrmK l d → lowK l d ∧ nadjK l
  | [], d, _ => ⟨trivial, trivial⟩
  | t :: l, d, h => by
    rw [nrmK] at h
    rw [lowK, nadjK]
    have h1 := nrm_lowT t d h.1
    have h2 := nrm_lowK l d h.2.2
    exact ⟨⟨h1.1, h2.1⟩, h.2.1, h1.2, h2.2⟩
end
theorem nrmT_ne {t : TreeS} {d : Nat} (h : nrmT t d) : solid t = true := by
  obtain ⟨f0, f1, f2, f3, f4⟩ := t
  rw [nrmT] at h
  unfold solid
  rcases h with ⟨-, ⟨rfl, -⟩ | ⟨rfl, -, -, -, h3, -⟩⟩
  · rfl
  · rw [Lib.toList_data]
    simpa using h3
theorem nrm_solid {l : List TreeS} {d : Nat} (h : nrmK l d) : l.any solid = true ↔ l ≠ [] := by
  cases l with
  | nil => simp
  | cons t l => rw [nrmK] at h; simp [nrmT_ne h.1]
/-- An attribute, and an element's attributes, as Print writes them. -/
def attL (a : AttrS) : List UInt8 := 32 :: (a.f0.data.toList ++ (61 :: 34 :: (escAll true a.f1.data.toList ++ [34])))
mutual
def prT : TreeS → List UInt8
  | ⟨f0, f1, f2, f3, f4⟩ => if f0 = 2 then escAll false f3.data.toList else 60 :: (f1.data.toList ++ (f2.flatMap attL ++ (if f4.any solid = true then 62 :: (prK f4 ++ (60 :: 47 :: (f1.data.toList ++ [62]))) else [47, 62])))
def prK : List TreeS → List UInt8
  | [] => []
  | t :: l => prT t ++ prK l
end
theorem esc_free34 {l : List UInt8} : (34 : UInt8) ∉ escAll true l := fun h => ((escAll_free true l 34 h).2.2.2 rfl).1 rfl
theorem atts_ex : ∀ l : List AttrS, (∀ a ∈ l, nameB a.f0 = true ∧ textE a.f1 = 0) → ∃ xs : List Att, xs.map (·.a) = l ∧ (∀ x ∈ xs, x.Ok) ∧ xs.flatMap Att.txt = l.flatMap attL
  | [], _ => ⟨[], rfl, fun _ h => (List.not_mem_nil h).elim, rfl⟩
  | a :: l, h => by
    obtain ⟨xs, h1, h2, h3⟩ := atts_ex l fun z hz => h z (List.mem_cons_of_mem _ hz)
    obtain ⟨hn, ht⟩ := h a List.mem_cons_self
    obtain ⟨hs, cs, hc, he⟩ := textE_encs ht
    have hev : (cs.flatMap (escC true)) = escAll true a.f1.data.toList := by rw [he, escAll_encs]
    refine ⟨⟨[32], 34, a, cs⟩ :: xs, by rw [List.map_cons, h1], fun x hx => ?_, ?_⟩
    · rcases List.mem_cons.mp hx with rfl | hx
      · refine ⟨List.cons_ne_nil _ _, fun z hz => ?_, .inl rfl, hn, ?_, hc, ?_, ?_⟩
        · rw [List.mem_singleton.mp hz]; decide +kernel
        · show a.f1 = _
          rw [← he, mkL]
        · show (encs cs).length ≤ 16384
          rw [← he, size_list]; exact hs
        · show (34 : UInt8) ∉ cs.flatMap (escC true)
          rw [hev]; exact esc_free34
      · exact h2 x hx
    · rw [List.flatMap_cons, List.flatMap_cons, h3]
      congr 1
      unfold Att.txt attL
      simp only [hev]
      rfl
theorem distinct_of_up {l : List AttrS} (h : l.Pairwise (fun a b => nameL a < nameL b)) : l.Pairwise (fun a b => a.f0 ≠ b.f0) := h.imp fun h e => by
  unfold nameL at h
  rw [e] at h
  exact List.lt_irrefl _ h
mutual
/-- What Print writes spells the forest. -/
theorem spellT : ∀ (t : TreeS) (d : Nat), nrmT t d → ∀ f b, Spell f b → Spell (t :: f) (prT t ++ b)
  | ⟨f0, f1, f2, f3, f4⟩, d, h, f, b, hf => by
    rw [nrmT] at h
    rw [prT]
    rcases h with ⟨h0, ⟨rfl, hn, ha, rfl, hk⟩ | ⟨rfl, rfl, rfl, ht, hne, rfl⟩⟩
    · obtain ⟨xs, h1, h2, h3⟩ := atts_ex f2 ha.all
      have hl : xs.length ≤ 32 := by have := congrArg List.length h1; rw [List.length_map] at this; rw [this]; exact ha.len
      have hd : (xs.map (·.a)).Pairwise (fun a b => a.f0 ≠ b.f0) := by rw [h1]; exact distinct_of_up ha.up
      have hs : sortA (xs.map (·.a)) = f2 := by rw [h1]; exact sortA_of_perm (List.Perm.refl _) ha.up
      rw [if_neg (by decide), ← h3]
      by_cases he : f4 = []
      · subst he
        have := Spell.empty f1 xs [] hn h2 hd hl (fun _ h => (List.not_mem_nil h).elim) hf
        rw [hs] at this
        rw [if_neg (by simp)]
        exact this
      · rw [if_pos ((nrm_solid hk).mpr he)]
        have := Spell.elem f1 xs [] [] hn h2 hd hl (fun _ h => (List.not_mem_nil h).elim) (fun _ h => (List.not_mem_nil h).elim) (spellK f4 (d + 1) hk) hf
        rw [hs] at this
        unfold openTxt closeTxt at this
        simp only [List.nil_append, List.append_assoc, List.cons_append] at this ⊢
        exact this
    · obtain ⟨hs, cs, hc, he⟩ := textE_encs ht
      rw [if_pos rfl]
      have hcs : cs ≠ [] := by rintro rfl; exact hne he
      have := Spell.text cs hcs hc (by rw [← he, size_list]; exact hs) hf
      rw [he, escAll_encs]
      rw [← he, mkL] at this
      exact this
theorem spellK : ∀ (l : List TreeS) (d : Nat), nrmK l d → Spell l (prK l)
  | [], _, _ => .nil
  | t :: l, d, h => by
    rw [nrmK] at h
    rw [prK]
    exact spellT t d h.1 l (prK l) (spellK l d h.2.2)
end
/-- What Print writes of a normal forest is parsed as it. -/
theorem parse_print {l : List TreeS} (h : nrmK l 1) (hn : nodK l ≤ 4096) (hb : (prK l).length ≤ 262144) : parseF ⟨(prK l).toArray⟩ = (l, 0, 0) :=
  parse_spell (spellK l 1 h) (nrm_lowK l 1 h).2 hn (nrm_lowK l 1 h).1 hb
/-- What Print's parts write. -/
theorem Rel.attP : ∀ (l : List AttrS) {p r : List UInt8}, (∀ a ∈ l, textE a.f1 = 0) → Rel p r → Rel (attrP l p) (r ++ l.flatMap attL)
  | [], p, r, _, h => by rw [attrP]; simpa using h
  | a :: l, p, r, ht, h => by
    have he : (escR true a.f1).1 = ⟨(escAll true a.f1.data.toList).toArray⟩ := congrArg (·.1) (if_pos (ht a List.mem_cons_self) : escR true a.f1 = _)
    rw [attrP, List.flatMap_cons, ← List.append_assoc]
    refine Rel.attP l (fun z hz => ht z (List.mem_cons_of_mem _ hz)) ?_
    have := ((((h.put ⟨#[32]⟩).put a.f0).put ⟨#[61, 34]⟩).put (escR true a.f1).1).put ⟨#[34]⟩
    rw [he] at this ⊢
    have e : r ++ attL a = ((((r ++ (⟨#[32]⟩ : ByteArray).data.toList) ++ a.f0.data.toList) ++ (⟨#[61, 34]⟩ : ByteArray).data.toList) ++ (⟨(escAll true a.f1.data.toList).toArray⟩ : ByteArray).data.toList) ++ (⟨#[34]⟩ : ByteArray).data.toList := by
      unfold attL
      simp
    rw [e]
    exact this
mutual
theorem Rel.prT : ∀ (t : TreeS) (p r : List UInt8), goodT t → Rel p r → Rel (ptreeE t p) (r ++ prT t)
  | ⟨f0, f1, f2, f3, f4⟩, p, r, hg, h => by
    rw [ptreeE, PA.prT]
    by_cases hp : 262144 < p.length
    · rw [if_pos hp]
      rcases h with rfl | ⟨h1, h2⟩
      · exact .inr ⟨hp, by rw [List.length_append]; omega⟩
      · exact .inr ⟨h1, by rw [List.length_append]; omega⟩
    rw [if_neg hp]
    by_cases h2 : f0 = 2
    · rcases hg with ⟨g0, _⟩ | ⟨g0, g1⟩
      · rw [g0] at h2; cases h2
      rw [if_pos h2, if_pos h2]
      have he : (escR false f3).1 = ⟨(escAll false f3.data.toList).toArray⟩ := congrArg (·.1) (if_pos g1 : escR false f3 = _)
      rw [he]
      exact h.put _
    rcases hg with ⟨g0, g1, g2, g3, g4⟩ | ⟨g0, _⟩
    case inr => exact absurd g0 h2
    rw [if_neg h2, if_neg h2]
    have h1 : Rel (attrP f2 (putF p [⟨#[60]⟩, f1])) (r ++ (60 :: (f1.data.toList ++ f2.flatMap attL))) := by
      have := Rel.attP f2 (fun a ha => (g3 a ha).2) ((h.put ⟨#[60]⟩).put f1)
      have e : r ++ (60 :: (f1.data.toList ++ f2.flatMap attL)) = ((r ++ (⟨#[60]⟩ : ByteArray).data.toList) ++ f1.data.toList) ++ f2.flatMap attL := by simp
      rw [e]
      exact this
    by_cases h3 : f4.any solid = true
    · rw [if_pos h3, if_pos h3]
      have h4 := Rel.prK f4 _ _ g4 (h1.put ⟨#[62]⟩)
      have := ((h4.put ⟨#[60, 47]⟩).put f1).put ⟨#[62]⟩
      have e : r ++ 60 :: (f1.data.toList ++ (f2.flatMap attL ++ 62 :: (PA.prK f4 ++ 60 :: 47 :: (f1.data.toList ++ [62])))) = (((((r ++ (60 :: (f1.data.toList ++ f2.flatMap attL))) ++ (⟨#[62]⟩ : ByteArray).data.toList) ++ PA.prK f4) ++ (⟨#[60, 47]⟩ : ByteArray).data.toList) ++ f1.data.toList) ++ (⟨#[62]⟩ : ByteArray).data.toList := by simp
      rw [e]
      exact this
    · rw [if_neg h3, if_neg h3]
      have := h1.put ⟨#[47, 62]⟩
      have e : r ++ 60 :: (f1.data.toList ++ (f2.flatMap attL ++ [47, 62])) = (r ++ (60 :: (f1.data.toList ++ f2.flatMap attL))) ++ (⟨#[47, 62]⟩ : ByteArray).data.toList := by simp
      rw [e]
      exact this
theorem Rel.prK : ∀ (l : List TreeS) (p r : List UInt8), goodK l → Rel p r → Rel (pkidsE l p) (r ++ prK l)
  | [], p, r, _, h => by rw [pkidsE, PA.prK]; simpa using h
  | t :: l, p, r, hg, h => by
    rw [pkidsE, PA.prK, ← List.append_assoc]
    exact Rel.prK l _ _ hg.2 (Rel.prT t p r hg.1 h)
end
/-- Print, in plain. -/
theorem printE_eq (l : List TreeS) : printE l = if canE l = 0 then (if 262144 < (prK l).length then (⟨#[]⟩, 2) else (⟨(prK l).toArray⟩, 0)) else (⟨#[]⟩, canE l) := by
  unfold printE
  by_cases h : canE l = 0
  · rw [if_pos h, if_pos h]
    rcases Rel.prK l [] [] (canE_good h).1 (.inl rfl) with e | ⟨e1, e2⟩
    · rw [e, List.nil_append]
    · rw [List.nil_append] at e2
      rw [if_pos e1, if_pos e2]
  · rw [if_neg h, if_neg h]
mutual
theorem look_nrm : ∀ (t : TreeS) (d n : Nat), nrmT t d → n + nodT t ≤ 4096 → lookE t (d : Int) (n : Int) = (0, ((n + nodT t : Nat) : Int))
  | ⟨f0, f1, f2, f3, f4⟩, d, n, h, hn => by
    rw [nrmT] at h
    have hpos := nodT_pos ⟨f0, f1, f2, f3, f4⟩
    rw [nodT] at hn hpos ⊢
    rw [lookE, if_neg (by omega), if_neg (by omega)]
    have hw : wrap64 ((n : Int) + 1) = ((n + 1 : Nat) : Int) := by rw [wrap_in (by omega) (by omega)]; omega
    have hw2 : wrap64 ((d : Int) + 1) = ((d + 1 : Nat) : Int) := by rw [wrap_in (by omega) (by omega)]; omega
    rcases h with ⟨h0, ⟨rfl, g1, g2, rfl, hk⟩ | ⟨rfl, rfl, rfl, ht, hne, rfl⟩⟩
    · rw [if_pos rfl] at hn ⊢
      have ho : ownE 1 f1 f2 ⟨#[]⟩ = 0 := by unfold ownE; rw [if_pos rfl, if_pos g1]; exact (attrsE_iff f2).mpr g2
      rw [if_pos ho, if_neg (by decide), hw, hw2, lookK_nrm f4 (d + 1) (n + 1) hk (by omega)]
      congr 2
      omega
    · rw [if_neg (show ¬ (2 : Int) = 1 by decide)] at hn ⊢
      have ho : ownE 2 ⟨#[]⟩ [] f3 = 0 := by unfold ownE; rw [if_neg (by decide), if_pos rfl]; exact ht
      rw [if_pos ho, if_pos rfl, hw]
theorem lookK_nrm : ∀ (l : List TreeS) (d n : Nat), nrmK l d → n + nodK l ≤ 4096 → lookKE l (d : Int) (n : Int) = (0, ((n + nodK l : Nat) : Int))
  | [], d, n, _, _ => by rw [lookKE, nodK]; rfl
  | t :: l, d, n, h, hn => by
    rw [nrmK] at h
    rw [nodK] at hn ⊢
    rw [lookKE, look_nrm t d n h.1 (by omega), if_pos rfl, lookK_nrm l d (n + nodT t) h.2.2 (by omega)]
    congr 2
    omega
end
theorem first_nrm : ∀ (l : List TreeS), nrmK l 1 → nodK l ≤ 4096 → firstE l = 0 ∧ ∀ t ∈ l, (lookE t 1 0).1 = 0
  | [], _, _ => ⟨rfl, fun _ h => (List.not_mem_nil h).elim⟩
  | t :: l, h, hn => by
    rw [nrmK] at h
    rw [nodK] at hn
    have h1 : (lookE t 1 0).1 = 0 := congrArg (·.1) (look_nrm t 1 0 h.1 (by omega))
    obtain ⟨h2, h3⟩ := first_nrm l h.2.2 (by omega)
    refine ⟨by rw [firstE, if_pos h1]; exact h2, fun u hu => ?_⟩
    rcases List.mem_cons.mp hu with rfl | hu
    · exact h1
    · exact h3 u hu
theorem can_nrm {l : List TreeS} (h : nrmK l 1) (hn : nodK l ≤ 4096) : canE l = 0 := by
  unfold canE
  rw [if_pos (first_nrm l h hn).1, if_neg (by omega)]
end Go.Proofs.YtealmfcimoomlaaGreatDoor.PA

/- What Parse answers is a normal forest that can be. -/
namespace Go.Proofs.YtealmfcimoomlaaGreatDoor.PA
open Go.RowKit Go.Proofs.YtealmfcimoomlaaGreatDoorW.PrintWords Go.Proofs.YtealmfcimoomlaaGreatDoorW.PrintLast Go.Proofs.YtealmfcimoomlaaGreatDoorW.PrintMore
set_option linter.unusedVariables false
set_option linter.unusedSimpArgs false
/-- The bytes of characters that can be. -/
def isText (b : List UInt8) : Prop := ∃ cs : List Nat, (∀ c ∈ cs, okC c) ∧ b = encs cs
theorem isText.nil : isText [] := ⟨[], fun _ h => (List.not_mem_nil h).elim, rfl⟩
theorem isText.app {a b : List UInt8} (h : isText a) (k : isText b) : isText (a ++ b) := by
  obtain ⟨cs, h1, rfl⟩ := h
  obtain ⟨ds, h2, rfl⟩ := k
  refine ⟨cs ++ ds, fun c hc => ?_, (encs_app cs ds).symm⟩
  rcases List.mem_append.mp hc with h | h
  · exact h1 c h
  · exact h2 c h
theorem isText.one {c : Nat} (h : okC c) : isText (enc c) := ⟨[c], fun z hz => by rw [List.mem_singleton.mp hz]; exact h, (encs_one c).symm⟩
theorem isText.ok {b : List UInt8} (h : isText b) (hl : b.length ≤ 16384) : textE ⟨b.toArray⟩ = 0 := by
  obtain ⟨cs, h1, rfl⟩ := h
  exact (textR_iff _).mpr ⟨hl, cs, h1, rfl⟩
theorem nrmK_snoc : ∀ (l : List TreeS) (x : TreeS) (d : Nat), nrmK (l ++ [x]) d ↔ nrmK l d ∧ nrmT x d ∧ (x.f0 = 2 → ∀ z, l.getLast? = some z → z.f0 ≠ 2)
  | [], x, d => by
    rw [List.nil_append, nrmK, nrmK]
    simp [nrmK]
  | t :: l, x, d => by
    have ih := nrmK_snoc l x d
    rw [List.cons_append, nrmK, nrmK, ih]
    cases l with
    | nil =>
      simp only [List.nil_append, List.getLast?_nil, List.getLast?_singleton]
      constructor
      · rintro ⟨h1, h2, h3, h4, h5⟩
        exact ⟨⟨h1, fun _ u r e => by simp at e, trivial⟩, h4, fun e z hz => by
          injection hz with hz
          subst hz
          intro c
          exact h2 c x [] rfl e⟩
      · rintro ⟨⟨h1, h2, h3⟩, h4, h5⟩
        exact ⟨h1, fun c u r e => by
          injection e with e _
          subst e
          exact fun c2 => h5 c2 t rfl c, trivial, h4, fun _ z hz => by cases hz⟩
    | cons u l =>
      have e : (t :: u :: l).getLast? = (u :: l).getLast? := by simp [List.getLast?_cons_cons]
      rw [e]
      constructor
      · rintro ⟨h1, h2, h3, h4, h5⟩
        exact ⟨⟨h1, fun c v r e => h2 c v (r ++ [x]) (by rw [e]; rfl), h3⟩, h4, h5⟩
      · rintro ⟨⟨h1, h2, h3⟩, h4, h5⟩
        exact ⟨h1, fun c v r e => by
          injection e with e1 e2
          subst e1
          exact h2 c u l rfl, h3, h4, h5⟩
/-- The elements that are open, the last one first, with what they hold. -/
def framesOk : List TreeS → Prop
  | [] => False
  | [t] => nrmK t.f4 1
  | t :: u :: r => t.f0 = 1 ∧ nameB t.f1 = true ∧ fineA t.f2 ∧ t.f3 = ⟨#[]⟩ ∧ r.length + 1 ≤ 64 ∧ nrmK t.f4 (r.length + 2) ∧ framesOk (u :: r)
def cntS : List TreeS → Nat
  | [] => 0
  | [t] => nodK t.f4
  | t :: u :: r => 1 + nodK t.f4 + cntS (u :: r)
theorem framesOk.kids {t : TreeS} {r : List TreeS} (h : framesOk (t :: r)) : nrmK t.f4 (r.length + 1) := by
  cases r with
  | nil => exact h
  | cons u r => exact h.2.2.2.2.2.1
theorem framesOk.put {t : TreeS} {r : List TreeS} {k : List TreeS} (h : framesOk (t :: r)) (hk : nrmK k (r.length + 1)) : framesOk ({ t with f4 := k } :: r) := by
  cases r with
  | nil => exact hk
  | cons u r => exact ⟨h.1, h.2.1, h.2.2.1, h.2.2.2.1, h.2.2.2.2.1, hk, h.2.2.2.2.2.2⟩
theorem cntS_put (t : TreeS) (r k : List TreeS) : cntS ({ t with f4 := k } :: r) + nodK t.f4 = cntS (t :: r) + nodK k := by
  cases r with
  | nil => simp only [cntS]; omega
  | cons u r => simp only [cntS]; omega
theorem framesOk.pop {t u : TreeS} {r : List TreeS} (h : framesOk (t :: u :: r)) : framesOk ({ u with f4 := u.f4 ++ [t] } :: r) := by
  obtain ⟨h0, h1, h2, h3, h4, h5, h6⟩ := h
  refine h6.put ((nrmK_snoc _ _ _).mpr ⟨h6.kids, ?_, fun e => by rw [h0] at e; cases e⟩)
  obtain ⟨f0, f1, f2, f3, f4⟩ := t
  rw [nrmT]
  exact ⟨h4, .inl ⟨h0, h1, h2, h3, h5⟩⟩
/-- What holds between the pieces. -/
structure Good (st : St) (S : List TreeS) : Prop where
  fr : framesOk S
  len : S.length = st.opn.length + 1
  cnt : cntS S + (if st.text = [] then 0 else 1) = st.nodes
  nodes : st.nodes ≤ 4096
  text : isText st.text
  tlen : st.text.length ≤ 16384
  last : ∀ t r, S = t :: r → ∀ z, t.f4.getLast? = some z → z.f0 ≠ 2
  room : st.text ≠ [] → st.opn.length < 64
theorem Good.at_ {st : St} {S : List TreeS} (h : Good st S) (a : Nat) : Good { st with at_ := a } S := ⟨h.fr, h.len, h.cnt, h.nodes, h.text, h.tlen, h.last, h.room⟩
theorem Good.flush {st : St} {S : List TreeS} (h : Good st S) : framesOk ((flushE st).foldl stackStep S) ∧ ((flushE st).foldl stackStep S).length = st.opn.length + 1 ∧ cntS ((flushE st).foldl stackStep S) = st.nodes := by
  by_cases h0 : st.text = []
  · rw [flush_none h0]
    have := h.cnt
    rw [if_pos h0] at this
    exact ⟨h.fr, h.len, this⟩
  · rw [flush_some h0]
    have hc := h.cnt
    rw [if_neg h0] at hc
    cases hS : S with
    | nil => have := h.fr; rw [hS] at this; exact this.elim
    | cons t r =>
      have hf := h.fr
      have hl := h.len
      rw [hS] at hf hl hc
      have hr := h.room h0
      rw [List.length_cons] at hl
      have e : List.foldl stackStep (t :: r) [⟨2, ⟨#[]⟩, [], ⟨st.text.toArray⟩⟩] = { t with f4 := t.f4 ++ [text0 ⟨st.text.toArray⟩] } :: r := rfl
      rw [e]
      refine ⟨hf.put ((nrmK_snoc _ _ _).mpr ⟨hf.kids, ?_, fun _ => h.last t r hS⟩), by rw [List.length_cons]; omega, ?_⟩
      · unfold text0
        rw [nrmT]
        exact ⟨by omega, .inr ⟨rfl, rfl, rfl, h.text.ok h.tlen, h0, rfl⟩⟩
      · have := cntS_put t r (t.f4 ++ [text0 ⟨st.text.toArray⟩])
        rw [nodK_app, nodK_one, nod_text] at this
        omega
theorem Good.start : Good ⟨0, [], [], 0⟩ (stackOf []) :=
  ⟨trivial, rfl, rfl, by decide, isText.nil, Nat.zero_le _, (fun t r e z hz => by
    injection e with e _
    subst e
    cases hz), fun c => absurd rfl c⟩
end Go.Proofs.YtealmfcimoomlaaGreatDoor.PA

/- Normal forests, asked by the law's own functions. -/
namespace Go.Proofs.YtealmfcimoomlaaGreatDoor.PA
open Go.RowKit Go.Proofs.YtealmfcimoomlaaGreatDoorW.PrintWords Go.Proofs.YtealmfcimoomlaaGreatDoorW.PrintLast Go.Proofs.YtealmfcimoomlaaGreatDoorW.PrintMore
set_option linter.unusedVariables false
set_option linter.unusedSimpArgs false
theorem nodK_len : ∀ l : List TreeS, l.length ≤ nodK l
  | [] => Nat.zero_le _
  | t :: l => by
    have := nodK_len l
    have := nodT_pos t
    rw [nodK, List.length_cons]
    omega
theorem fine_small {l : List AttrS} (h : fineA l) : (∀ a ∈ l, a.f0.size ≤ 140737488351232 ∧ a.f1.size ≤ 140737488351232) ∧ l.length * 32 ≤ 140737488351232 := by
  refine ⟨fun a ha => ?_, by have := h.len; omega⟩
  have h1 := nameB_size (h.all a ha).1
  have h2 := (textR_ok (h.all a ha).2).1
  exact ⟨by omega, by omega⟩
mutual
theorem nrm_okT : ∀ (t : TreeS) (d : Nat), nrmT t d → nodT t ≤ 4096 → okT t
  | ⟨f0, f1, f2, f3, f4⟩, d, h, hn => by
    rw [nrmT] at h
    rw [nodT] at hn
    rcases h with ⟨-, ⟨rfl, g1, g2, rfl, hk⟩ | ⟨rfl, rfl, rfl, ht, hne, rfl⟩⟩
    · rw [if_pos rfl] at hn
      have h1 := nameB_size g1
      have h2 := nodK_len f4
      exact ⟨by decide, by omega, fine_small g2, by decide, nrm_okK f4 (d + 1) hk (by omega), by omega⟩
    · have h1 := (textR_ok ht).1
      exact ⟨by decide, by decide, ⟨fun _ h => (List.not_mem_nil h).elim, by decide⟩, by omega, trivial, by decide⟩
theorem nrm_okK : ∀ (l : List TreeS) (d : Nat), nrmK l d → nodK l ≤ 4096 → okK l
  | [], _, _, _ => trivial
  | t :: l, d, h, hn => by
    rw [nrmK] at h
    rw [nodK] at hn
    exact ⟨nrm_okT t d h.1 (by omega), nrm_okK l d h.2.2 (by omega)⟩
end
theorem nrmK_pre : ∀ (a b : List TreeS) (d : Nat), nrmK (a ++ b) d → nrmK a d
  | [], _, _, _ => trivial
  | t :: a, b, d, h => by
    rw [List.cons_append, nrmK] at h
    rw [nrmK]
    refine ⟨h.1, fun c u r e => h.2.1 c u (r ++ b) (by rw [e]; rfl), nrmK_pre a b d h.2.2⟩
theorem rd_prev (pre l : List TreeS) (t : TreeS) (h : 0 < pre.length) : ∃ z, pre.getLast? = some z ∧ rd_T35 (pre ++ t :: l) ((pre.length - 1 : Nat) : Int) = z := by
  have hne : pre ≠ [] := List.length_pos_iff.mp h
  refine ⟨pre.getLast hne, List.getLast?_eq_some_getLast hne, ?_⟩
  unfold rd_T35
  rw [Int.toNat_natCast, List.getD_eq_getElem?_getD, List.getElem?_append_left (by omega), List.getElem?_eq_getElem (by omega), Option.getD_some, List.getLast_eq_getElem]
mutual
theorem normal_evT : ∀ (t : TreeS) (d : Nat), nrmT t d → nodT t ≤ 4096 → t.f0 = 1 → Ev (fun k => espalierlaw04_normal.f k t.f4) true
  | ⟨f0, f1, f2, f3, f4⟩, d, h, hn, h1 => by
    refine Ev.step (fun k => by rw [espalierlaw04_normal.f.eq_2]) ?_
    rw [nrmT] at h
    rw [nodT] at hn
    rcases h with ⟨-, ⟨rfl, -, -, -, hk⟩ | ⟨e, -⟩⟩
    · rw [if_pos rfl] at hn
      exact normal_evL f4 [] (d + 1) hk (by rw [List.nil_append]; omega)
    · exact absurd (h1.symm.trans e) (by decide)
theorem normal_evL : ∀ (l pre : List TreeS) (d : Nat), nrmK (pre ++ l) d → nodK (pre ++ l) ≤ 4096 → Ev (fun k => espalierlaw04_normal.l0 k (pre ++ l) ((pre.length : Nat) : Int)) true
  | [], pre, d, h, hn => Ev.step (f := fun _ => some true) (fun k => by rw [espalierlaw04_normal.l0.eq_2, if_neg (by simp)]) (Ev.now _)
  | t :: l, pre, d, h, hn => by
    have hlen := nodK_len (pre ++ t :: l)
    have hll : (pre ++ t :: l).length = pre.length + (l.length + 1) := by rw [List.length_append, List.length_cons]
    have HW := Aside0.mk (show wrap64 ((pre.length : Int) + 1) = (((pre ++ [t]).length : Nat) : Int) by simp only [List.length_append, List.length_cons, List.length_nil]; unfold wrap64; omega)
    have hs := (nrmK_snoc pre t d).mp (nrmK_pre (pre ++ [t]) l d (by rw [← app_step]; exact h))
    have hnt : nodT t ≤ 4096 := by rw [nodK_app, nodK] at hn; omega
    have ih := normal_evL l (pre ++ [t]) d (by rw [← app_step]; exact h) (by rw [← app_step]; exact hn)
    rw [← app_step] at ih
    have hj : Ev (fun k => espalierlaw04_normal.j1 k (pre ++ t :: l) ((pre.length : Nat) : Int) false) true := by
      refine Ev.step (f := fun k => if t.f0 = 1 then (espalierlaw04_normal.f k t.f4).bind fun b => (if b = true then espalierlaw04_normal.l0 k (pre ++ t :: l) (wrap64 ((pre.length : Int) + 1)) else some false) else espalierlaw04_normal.l0 k (pre ++ t :: l) (wrap64 ((pre.length : Int) + 1))) (fun k => by rw [espalierlaw04_normal.j1.eq_2, if_neg (by decide), if_pos (by omega), if_pos (by omega), rd_app]) ?_
      by_cases h1 : t.f0 = 1
      · simp only [if_pos h1, HW.out]
        refine Ev.bind (normal_evT t d hs.2.1 hnt h1) ?_
        simp only [if_true]
        exact ih
      · simp only [if_neg h1, HW.out]
        exact ih
    refine Ev.step (f := fun k => espalierlaw04_normal.j1 k (pre ++ t :: l) ((pre.length : Nat) : Int) false) (fun k => ?_) hj
    rw [espalierlaw04_normal.l0.eq_2, if_pos (by omega), if_pos (by omega), rd_app]
    by_cases h2 : t.f0 = 2
    · rw [if_pos h2]
      have hne : ¬ t.f3.toList = ([] : List UInt8) := by
        obtain ⟨f0, f1, f2, f3, f4⟩ := t
        have := hs.2.1
        rw [nrmT] at this
        rcases this with ⟨-, ⟨e, -⟩ | ⟨-, -, -, -, e, -⟩⟩
        · exact absurd (h2.symm.trans e) (by decide)
        · rw [Lib.toList_data]; exact e
      rw [if_neg hne]
      by_cases h0 : 0 < pre.length
      · obtain ⟨z, hz, hr⟩ := rd_prev pre l t h0
        have HW1 := Aside0.mk (show wrap64 ((pre.length : Int) - 1) = ((pre.length - 1 : Nat) : Int) by unfold wrap64; omega)
        have hzz := hs.2.2 h2 z hz
        rw [if_pos (by omega), HW1.out, if_pos (by omega), if_pos (by omega), hr, beq_eq_false_iff_ne.mpr hzz]
      · rw [if_neg (by omega)]
    · rw [if_neg h2]
end
theorem normal_ev1 (l : List TreeS) (h : nrmK l 1) (hn : nodK l ≤ 4096) : Ev (fun k => espalierlaw04_normal.f k l) true :=
  Ev.step (f := fun k => espalierlaw04_normal.l0 k l 0) (fun k => by rw [espalierlaw04_normal.f.eq_2]) (normal_evL l [] 1 h hn)
end Go.Proofs.YtealmfcimoomlaaGreatDoor.PA
