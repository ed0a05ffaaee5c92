/- Same and 'alike': the program's and the reference's are one. -/
import Derived.Test.YtealmfcimoomlaaDoorPM2
import Derived.Test.YtealmfcimoomlaaDoorUSame
import Derived.Test.YtealmfcimoomlaaDoorPA18
import Derived.Test.YtealmfcimoomlaaDoorPA16
namespace Go.Proofs.YtealmfcimoomlaaDoor.PA
open Go.RowKit Go.Proofs.YtealmfcimoomlaaDoorW.PrintWords Go.Proofs.YtealmfcimoomlaaDoorW.PrintLast Go.Proofs.YtealmfcimoomlaaDoorW.PrintMore
set_option linter.unusedVariables false
set_option linter.unusedSimpArgs false
def neA (a b : S54) : Bool := !(a.f0.toList == b.f0.toList) || (!(a.f1.toList == b.f1.toList))
def attrsSame : List S54 → List S54 → Bool
  | a :: l, b :: m => if neA a b = true then false else attrsSame l m
  | _, _ => true
def attrsEq (l m : List S54) : Bool := if l.length = m.length then attrsSame l m else false
theorem rd_app54 (pre l : List S54) (t : S54) (i : Nat) (hi : i = pre.length) : rd_T54 (pre ++ t :: l) (i : Int) = t := by
  subst hi
  unfold rd_T54
  rw [Int.toNat_natCast, List.getD_eq_getElem?_getD, List.getElem?_append_right (Nat.le_refl _), Nat.sub_self]
  rfl
theorem rd_app36 (pre l : List S36) (t : S36) (i : Nat) (hi : i = pre.length) : rd_T36 (pre ++ t :: l) (i : Int) = t := by
  subst hi
  exact rd_app pre l t
theorem app_step54 (pre l : List S54) (t : S54) : pre ++ t :: l = (pre ++ [t]) ++ l := by simp
theorem attrs_evEP : ∀ (l m pre0 pre1 : List S54), l.length = m.length → pre0.length = pre1.length → (pre0 ++ l).length ≤ 9000000000000000 → Ev (fun k => api_Attr_44.l0 k (pre0 ++ l) (pre1 ++ m) ((pre0 ++ l).length : Int) ((pre0.length : Nat) : Int)) (attrsSame l m)
  | [], m, pre0, pre1, h, hp, hb => by
    rw [attrsSame]
    · exact Ev.step (f := fun _ => some true) (fun k => by rw [api_Attr_44.l0.eq_2, if_neg (by simp)]) (Ev.now _)
    · intro a l b m' h; cases h
  | a :: l, [], pre0, pre1, h, hp, hb => by cases h
  | a :: l, b :: m, pre0, pre1, h, hp, hb => by
    have h' : l.length = m.length := by simpa using h
    have hw := Aside0.mk (show wrap64 ((pre0.length : Int) + 1) = (((pre0 ++ [a]).length : Nat) : Int) by simp only [List.length_append, List.length_cons, List.length_nil] at hb ⊢; unfold wrap64; omega)
    rw [attrsSame]
    refine Ev.step (fun k => by rw [api_Attr_44.l0.eq_2, if_pos (by simp only [List.length_append, List.length_cons]; omega), if_pos (by omega), if_pos (by simp only [List.length_append, List.length_cons]; omega), if_pos (by simp only [List.length_append, List.length_cons]; omega), rd_app54 pre0 l a pre0.length rfl, rd_app54 pre1 m b pre0.length hp, hw.out]) ?_
    by_cases hn : neA a b = true
    · rw [if_pos hn]
      unfold neA at hn
      simp only [if_pos hn]
      exact Ev.now _
    · rw [if_neg hn]
      unfold neA at hn
      simp only [if_neg hn]
      have := attrs_evEP l m (pre0 ++ [a]) (pre1 ++ [b]) h' (by simpa using hp) (by rw [← app_step54]; exact hb)
      rw [← app_step54, ← app_step54] at this
      exact this
theorem attrs_evER : ∀ (l m pre0 pre1 : List S54), l.length = m.length → pre0.length = pre1.length → (pre0 ++ l).length ≤ 9000000000000000 → Ev (fun k => espalierref03_Attrs.l0 k (pre0 ++ l) (pre1 ++ m) ((pre0.length : Nat) : Int)) (attrsSame l m)
  | [], m, pre0, pre1, h, hp, hb => by
    rw [attrsSame]
    · exact Ev.step (f := fun _ => some true) (fun k => by rw [espalierref03_Attrs.l0.eq_2, if_neg (by simp)]) (Ev.now _)
    · intro a l b m' h; cases h
  | a :: l, [], pre0, pre1, h, hp, hb => by cases h
  | a :: l, b :: m, pre0, pre1, h, hp, hb => by
    have h' : l.length = m.length := by simpa using h
    have hw := Aside0.mk (show wrap64 ((pre0.length : Int) + 1) = (((pre0 ++ [a]).length : Nat) : Int) by simp only [List.length_append, List.length_cons, List.length_nil] at hb ⊢; unfold wrap64; omega)
    rw [attrsSame]
    refine Ev.step (fun k => by rw [espalierref03_Attrs.l0.eq_2, if_pos (by simp only [List.length_append, List.length_cons]; omega), if_pos (by omega), if_pos (by simp only [List.length_append, List.length_cons]; omega), rd_app54 pre0 l a pre0.length rfl, rd_app54 pre1 m b pre0.length hp, hw.out]) ?_
    by_cases hn : neA a b = true
    · rw [if_pos hn]
      unfold neA at hn
      simp only [if_pos hn]
      exact Ev.now _
    · rw [if_neg hn]
      unfold neA at hn
      simp only [if_neg hn]
      have := attrs_evER l m (pre0 ++ [a]) (pre1 ++ [b]) h' (by simpa using hp) (by rw [← app_step54]; exact hb)
      rw [← app_step54, ← app_step54] at this
      exact this
theorem attrsEq_P (l m : List S54) (hb : l.length ≤ 9000000000000000) : Ev (fun k => api_Attr_44.f k l m) (attrsEq l m) := by
  unfold api_Attr_44.f attrsEq
  by_cases h : l.length = m.length
  · simp only [if_pos h, if_pos (show (l.length : Int) = (m.length : Int) by omega)]
    exact attrs_evEP l m [] [] h rfl hb
  · simp only [if_neg h, if_neg (show ¬ (l.length : Int) = (m.length : Int) by omega)]; exact Ev.now _
theorem attrsEq_R (l m : List S54) (hb : l.length ≤ 9000000000000000) : Ev (fun k => espalierref03_Attrs.f k l m) (attrsEq l m) := by
  unfold espalierref03_Attrs.f attrsEq
  by_cases h : l.length = m.length
  · simp only [if_pos h, if_pos (show (l.length : Int) = (m.length : Int) by omega)]
    exact attrs_evER l m [] [] h rfl hb
  · simp only [if_neg h, if_neg (show ¬ (l.length : Int) = (m.length : Int) by omega)]; exact Ev.now _
mutual
def sameTE : S36 → S36 → Bool
  | ⟨a0, a1, a2, a3, a4⟩, b =>
    if (a0 != b.f0) = true then false
    else if (a0 == 1) = true then (if (a1.toList == b.f1.toList) = true then (if attrsEq a2 b.f2 = true then (if a4.length = b.f4.length then sameLE a4 b.f4 else false) else false) else false)
    else if (a0 == 2) = true then (a3.toList == b.f3.toList) else true
def sameLE : List S36 → List S36 → Bool
  | [], _ => true
  | _ :: _, [] => true
  | a :: l, b :: m => if sameTE a b = true then sameLE l m else false
end
mutual
theorem sameT_ev : ∀ (a b : S36), okT a → Ev (fun k => sameT k a b) (sameTE a b)
  | ⟨a0, a1, a2, a3, a4⟩, b, h => by
    refine Ev.congr (fun k => by rw [sameT]) ?_
    rw [sameTE]
    by_cases h1 : (a0 != b.f0) = true
    · simp only [if_pos h1]; exact Ev.now _
    simp only [if_neg h1]
    by_cases h2 : (a0 == 1) = true
    · simp only [if_pos h2]
      by_cases h3 : (a1.toList == b.f1.toList) = true
      · simp only [if_pos h3]
        refine Ev.bind (attrsEq_P a2 b.f2 (by have := h.2.2.1.2; omega)) ?_
        by_cases h4 : attrsEq a2 b.f2 = true
        · simp only [if_pos h4]
          by_cases h5 : a4.length = b.f4.length
          · simp only [if_pos h5]; exact sameL_ev a4 b.f4 h.2.2.2.2.1
          · simp only [if_neg h5]; exact Ev.now _
        · simp only [if_neg h4]; exact Ev.now _
      · simp only [if_neg h3]; exact Ev.now _
    · simp only [if_neg h2]
      by_cases h3 : (a0 == 2) = true
      · simp only [if_pos h3]; exact Ev.now _
      · simp only [if_neg h3]; exact Ev.now _
theorem sameL_ev : ∀ (l m : List S36), okK l → Ev (fun k => sameL k l m) (sameLE l m)
  | [], m, _ => Ev.congr (fun k => by rw [sameL]) (by rw [sameLE]; exact Ev.now _)
  | a :: l, [], _ => Ev.congr (fun k => by rw [sameL]) (by rw [sameLE]; exact Ev.now _)
  | a :: l, b :: m, h => by
    refine Ev.congr (fun k => by rw [sameL]) ?_
    rw [sameLE]
    refine Ev.bind (sameT_ev a b h.1) ?_
    by_cases h4 : sameTE a b = true
    · simp only [if_pos h4]; exact sameL_ev l m h.2
    · simp only [if_neg h4]; exact Ev.now _
end
def sameE (l m : List S36) : Bool := if l.length = m.length then sameLE l m else false
theorem same_evP (l m : List S36) (h : okK l) : Ev (fun k => markup_Same.f k l m) (sameE l m) := by
  unfold markup_Same.f sameK sameE
  by_cases h5 : l.length = m.length
  · simp only [if_pos h5]; exact sameL_ev l m h
  · simp only [if_neg h5]; exact Ev.now _
mutual
theorem sameR_T : ∀ (a : S36) (m : List S36), okT a → Ev (fun k => espalierref04_Same.f k a.f4 m) (sameE a.f4 m)
  | ⟨a0, a1, a2, a3, a4⟩, m, h => by
    unfold sameE
    by_cases h5 : a4.length = m.length
    · refine Ev.step (fun k => by rw [espalierref04_Same.f.eq_2, if_pos (show (a4.length : Int) = (m.length : Int) by omega)]) ?_
      simp only [if_pos h5]
      exact sameR_L a4 m [] [] h.2.2.2.2.1 h5 rfl (by have := h.2.2.2.2.2; simp only [List.nil_append]; omega)
    · simp only [if_neg h5]
      exact Ev.step (f := fun _ => some false) (fun k => by rw [espalierref04_Same.f.eq_2, if_neg (show ¬ (a4.length : Int) = (m.length : Int) by omega)]) (Ev.now _)
theorem sameR_L : ∀ (l m pre0 pre1 : List S36), okK l → l.length = m.length → pre0.length = pre1.length → (pre0 ++ l).length ≤ 9000000000000000 → Ev (fun k => espalierref04_Same.l0 k (pre0 ++ l) (pre1 ++ m) ((pre0.length : Nat) : Int)) (sameLE l m)
  | [], m, pre0, pre1, _, h, hp, hb => by
    rw [sameLE]
    exact Ev.step (f := fun _ => some true) (fun k => by rw [espalierref04_Same.l0.eq_2, if_neg (by simp)]) (Ev.now _)
  | a :: l, [], pre0, pre1, _, h, hp, hb => by cases h
  | a :: l, b :: m, pre0, pre1, hk, h, hp, hb => by
    have h' : l.length = m.length := by simpa using h
    have hw := Aside0.mk (show wrap64 ((pre0.length : Int) + 1) = (((pre0 ++ [a]).length : Nat) : Int) by simp only [List.length_append, List.length_cons, List.length_nil] at hb ⊢; unfold wrap64; omega)
    have hT : sameTE a b = if (a.f0 != b.f0) = true then false else if (a.f0 == 1) = true then (if (a.f1.toList == b.f1.toList) = true then (if attrsEq a.f2 b.f2 = true then (if a.f4.length = b.f4.length then sameLE a.f4 b.f4 else false) else false) else false) else if (a.f0 == 2) = true then (a.f3.toList == b.f3.toList) else true := by cases a; rw [sameTE]
    have next : Ev (fun k => espalierref04_Same.l0 k (pre0 ++ a :: l) (pre1 ++ b :: m) (((pre0 ++ [a]).length : Nat) : Int)) (sameLE l m) := by
      have := sameR_L l m (pre0 ++ [a]) (pre1 ++ [b]) hk.2 h' (by simpa using hp) (by rw [← app_step]; exact hb)
      rw [← app_step, ← app_step] at this
      exact this
    have stop : ∀ i : Int, Ev (fun k => espalierref04_Same.j1 k (pre0 ++ a :: l) (pre1 ++ b :: m) i true a.f0 a.f1 a.f2 a.f3 a.f4 b.f0 b.f1 b.f2 b.f3 b.f4) false := fun i => Ev.step (f := fun _ => some false) (fun k => by rw [espalierref04_Same.j1.eq_2, if_pos rfl]) (Ev.now _)
    rw [sameLE, hT]
    have hlen : (pre0 ++ a :: l).length = pre0.length + (l.length + 1) := by rw [List.length_append, List.length_cons]
    have hlen1 : (pre1 ++ b :: m).length = pre1.length + (m.length + 1) := by rw [List.length_append, List.length_cons]
    refine Ev.step (fun k => by rw [espalierref04_Same.l0.eq_2, if_pos (by omega), if_pos (by omega), if_pos (by omega), rd_app36 pre0 l a pre0.length rfl, rd_app36 pre1 m b pre0.length hp]) ?_
    by_cases h0 : a.f0 = b.f0
    case neg =>
      have h1 : (a.f0 != b.f0) = true := bne_iff_ne.mpr h0
      simp only [if_neg h0, if_pos h1, if_neg (show ¬ (false = true) by decide)]
      exact stop _
    have h1 : ¬ (a.f0 != b.f0) = true := by rw [bne_eq_false_iff_eq.mpr h0]; decide
    simp only [if_pos h0, if_neg h1]
    by_cases h2 : a.f0 = 2
    · have h3 : ¬ (a.f0 == 1) = true := by rw [h2]; decide
      have h4 : (a.f0 == 2) = true := beq_iff_eq.mpr h2
      simp only [if_pos h2, if_neg h3, if_pos h4]
      cases h5 : (a.f3.toList == b.f3.toList) with
      | true =>
        rw [show (a.f3.toList != b.f3.toList) = false by unfold bne; rw [h5]; rfl]
        simp only [if_true]
        refine Ev.step (f := fun k => espalierref04_Same.l0 k (pre0 ++ a :: l) (pre1 ++ b :: m) (((pre0 ++ [a]).length : Nat) : Int)) (fun k => by rw [espalierref04_Same.j1.eq_2, if_neg (by decide), if_neg (show ¬ a.f0 = 1 by omega), hw.out]) next
      | false =>
        rw [show (a.f3.toList != b.f3.toList) = true by unfold bne; rw [h5]; rfl]
        simp only [if_neg (show ¬ (false = true) by decide)]
        exact stop _
    · have h4 : ¬ (a.f0 == 2) = true := by rw [beq_eq_false_iff_ne.mpr h2]; decide
      simp only [if_neg h2, if_neg h4]
      by_cases h6 : a.f0 = 1
      · have h3 : (a.f0 == 1) = true := beq_iff_eq.mpr h6
        simp only [if_pos h3]
        by_cases h7 : a.f1.toList = b.f1.toList
        · have h8 : (a.f1.toList == b.f1.toList) = true := beq_iff_eq.mpr h7
          simp only [if_pos h8]
          refine Ev.step (fun k => by rw [espalierref04_Same.j1.eq_2, if_neg (by decide), if_pos h6, if_pos h7, hw.out]) ?_
          have hal : a.f2.length ≤ 9000000000000000 := by
            obtain ⟨a0, a1, a2, a3, a4⟩ := a
            have := hk.1.2.2.1.2
            show a2.length ≤ _
            omega
          refine Ev.bind (attrsEq_R a.f2 b.f2 hal) ?_
          by_cases h9 : attrsEq a.f2 b.f2 = true
          · simp only [if_pos h9]
            refine Ev.bind (sameR_T a b.f4 hk.1) ?_
            unfold sameE
            by_cases h10 : a.f4.length = b.f4.length
            · simp only [if_pos h10]
              by_cases h11 : sameLE a.f4 b.f4 = true
              · simp only [if_pos h11]; exact next
              · simp only [if_neg h11]; exact Ev.now _
            · simp only [if_neg h10, if_neg (show ¬ (false = true) by decide)]; exact Ev.now _
          · simp only [if_neg h9, if_neg (show ¬ (false = true) by decide)]; exact Ev.now _
        · have h8 : ¬ (a.f1.toList == b.f1.toList) = true := by rw [beq_eq_false_iff_ne.mpr h7]; decide
          simp only [if_neg h8, if_neg (show ¬ (false = true) by decide)]
          exact Ev.step (f := fun _ => some false) (fun k => by rw [espalierref04_Same.j1.eq_2, if_neg (by decide), if_pos h6, if_neg h7]) (Ev.now _)
      · have h3 : ¬ (a.f0 == 1) = true := by rw [beq_eq_false_iff_ne.mpr h6]; decide
        simp only [if_neg h3, if_true]
        exact Ev.step (f := fun k => espalierref04_Same.l0 k (pre0 ++ a :: l) (pre1 ++ b :: m) (((pre0 ++ [a]).length : Nat) : Int)) (fun k => by rw [espalierref04_Same.j1.eq_2, if_neg (by decide), if_neg h6, hw.out]) next
end
theorem same_evR (l m : List S36) (h : okK l) (hl : l.length ≤ 9000000000000000) : Ev (fun k => espalierref04_Same.f k l m) (sameE l m) := by
  unfold sameE
  by_cases h5 : l.length = m.length
  · refine Ev.step (fun k => by rw [espalierref04_Same.f.eq_2, if_pos (show (l.length : Int) = (m.length : Int) by omega)]) ?_
    simp only [if_pos h5]
    exact sameR_L l m [] [] h h5 rfl (by simpa using hl)
  · simp only [if_neg h5]
    exact Ev.step (f := fun _ => some false) (fun k => by rw [espalierref04_Same.f.eq_2, if_neg (show ¬ (l.length : Int) = (m.length : Int) by omega)]) (Ev.now _)
theorem attrsSame_refl : ∀ l : List S54, attrsSame l l = true
  | [] => rfl
  | a :: l => by rw [attrsSame, if_neg (by unfold neA; simp), attrsSame_refl l]
mutual
theorem sameTE_refl : ∀ a : S36, sameTE a a = true
  | ⟨a0, a1, a2, a3, a4⟩ => by
    rw [sameTE]
    simp only [bne_self_eq_false, beq_self_eq_true, if_true, attrsEq, attrsSame_refl, sameLE_refl a4, if_neg (show ¬ (false = true) by decide)]
    split <;> simp
theorem sameLE_refl : ∀ l : List S36, sameLE l l = true
  | [] => rfl
  | a :: l => by rw [sameLE, if_pos (sameTE_refl a), sameLE_refl l]
end
theorem sameE_refl (l : List S36) : sameE l l = true := by unfold sameE; rw [if_pos rfl, sameLE_refl]
end Go.Proofs.YtealmfcimoomlaaDoor.PA
