/- Texts of this claim, one behind the other: PM4, PT8. Conditions: those of each theorem. -/
import Derived.Test.YtealmfcimoomlaaGreatDoorUPrint
import Derived.Test.YtealmfcimoomlaaGreatDoorPBack
import Derived.Test.YtealmfcimoomlaaGreatDoorUBack04
import Derived.Test.YtealmfcimoomlaaGreatDoorPT7
/- Normal: the program's form and the reference's are one; and 'alike' of one and the same. -/
namespace Go.Proofs.YtealmfcimoomlaaGreatDoor.PA
open Go.RowKit Go.Proofs.YtealmfcimoomlaaGreatDoorW.PrintWords Go.Proofs.YtealmfcimoomlaaGreatDoorW.PrintLast Go.Proofs.YtealmfcimoomlaaGreatDoorW.PrintMore
set_option linter.unusedVariables false
set_option linter.unusedSimpArgs false
def textNode (s : ByteArray) : S35 := ⟨2, (⟨#[]⟩ : ByteArray), [], s, []⟩
def lastOf (acc : List S35) : S35 := rd_T35 acc ((acc.length - 1 : Nat) : Int)
def grown (z : S35) (s : ByteArray) : S35 := ⟨z.f0, z.f1, z.f2, z.f3 ++ s, z.f4⟩
def addText (acc : List S35) (s : ByteArray) : Option (List S35) :=
  if acc.length = 0 then some (acc ++ [textNode s])
  else if (lastOf acc).f0 = 2 then (if 16384 < (lastOf acc).f3.size + s.size then none else some (acc.set (acc.length - 1) (grown (lastOf acc) s)))
  else some (acc ++ [textNode s])
mutual
def normT : S35 → List S35 → Option (List S35)
  | ⟨f0, f1, f2, f3, f4⟩, acc =>
    if f0 = 1 then (normK f4 []).map fun r => acc ++ [⟨1, f1, f2, (⟨#[]⟩ : ByteArray), r⟩]
    else if f3.toList = ([] : List UInt8) then some acc else addText acc f3
def normK : List S35 → List S35 → Option (List S35)
  | [], acc => some acc
  | t :: l, acc => (normT t acc).bind fun a => normK l a
end
def resP : Option (List S35) → List S35 × Int
  | some r => (r, 0)
  | none => ([], 2)
def smallT (acc : List S35) : Prop := ∀ z ∈ acc, z.f3.size ≤ 16384
theorem smallT.snoc {acc : List S35} (h : smallT acc) {x : S35} (hx : x.f3.size ≤ 16384) : smallT (acc ++ [x]) := by
  intro z hz
  rcases List.mem_append.1 hz with hz | hz
  · exact h z hz
  · rcases List.mem_cons.1 hz with rfl | hz
    · exact hx
    · cases hz
theorem smallT.set {acc : List S35} (h : smallT acc) (i : Nat) {x : S35} (hx : x.f3.size ≤ 16384) : smallT (acc.set i x) := by
  intro z hz
  rcases List.mem_or_eq_of_mem_set hz with hz | rfl
  · exact h z hz
  · exact hx
theorem last_mem {acc : List S35} (h : acc.length ≠ 0) : lastOf acc ∈ acc := rd36_mem acc (acc.length - 1) (by omega)
theorem text_size {s : ByteArray} (h : textE s = 0) : s.size ≤ 16384 := (textR_ok h).1
mutual
theorem normf_evP : ∀ (t : S35), okT t → goodT t → t.f0 = 1 → Ev (fun k => markup_normal.f k t.f4) (resP (normK t.f4 []))
  | ⟨f0, f1, f2, f3, f4⟩, h, hg, h1 => by
    refine Ev.step (fun k => by rw [markup_normal.f.eq_2]) ?_
    rcases hg with ⟨_, _, _, _, g4⟩ | ⟨g0, _⟩
    · exact norml_evP f4 [] [] h.2.2.2.2.1 g4 (by have := h.2.2.2.2.2; simp only [List.nil_append]; omega) (Nat.le_refl _) (fun z hz => by cases hz)
    · exact absurd (h1.symm.trans g0) (by decide)
theorem norml_evP : ∀ (l pre acc : List S35), okK l → goodK l → (pre ++ l).length ≤ 1599289640390 → acc.length ≤ pre.length → smallT acc → Ev (fun k => markup_normal.l0 k acc (pre ++ l) ((pre ++ l).length : Int) ((pre.length : Nat) : Int)) (resP (normK l acc))
  | [], pre, acc, _, _, hb, ha, hs => by
    rw [normK]
    exact Ev.step (f := fun _ => some (acc, 0)) (fun k => by rw [markup_normal.l0.eq_2, if_neg (by simp)]) (Ev.now _)
  | t :: l, pre, acc, h, hg, hb, ha, hs => by
    have hlen : (pre ++ t :: l).length = pre.length + (l.length + 1) := by rw [List.length_append, List.length_cons]
    have hw := Aside0.mk (show wrap64 ((pre.length : Int) + 1) = (((pre ++ [t]).length : Nat) : Int) by simp only [List.length_append, List.length_cons, List.length_nil]; unfold wrap64; omega)
    have hp1 : (pre ++ [t]).length = pre.length + 1 := by simp
    have ih := fun acc' (h1 : acc'.length ≤ pre.length + 1) (h2 : smallT acc') => norml_evP l (pre ++ [t]) acc' h.2 hg.2 (by rw [← app_step]; exact hb) (by omega) h2
    simp only [← app_step] at ih
    refine Ev.step (fun k => by rw [markup_normal.l0.eq_2, if_pos (by omega), if_pos (by omega), if_pos (by omega), rd_app]) ?_
    have hK : normK (t :: l) acc = (normT t acc).bind fun a => normK l a := by rw [normK]
    rw [hK]
    have hT : normT t acc = if t.f0 = 1 then (normK t.f4 []).map (fun r => acc ++ [⟨1, t.f1, t.f2, (⟨#[]⟩ : ByteArray), r⟩]) else if t.f3.toList = ([] : List UInt8) then some acc else addText acc t.f3 := by cases t; rw [normT]
    rw [hT]
    by_cases h1 : t.f0 = 1
    · simp only [if_pos h1]
      refine Ev.bind (normf_evP t h.1 hg.1 h1) ?_
      cases hn : normK t.f4 [] with
      | none => simp only [resP, if_neg (show ¬ ((2 : Int) = 0) by decide), Option.map_none, Option.bind_none]; exact Ev.now _
      | some r =>
        simp only [resP, if_true, Option.map_some, Option.bind_some]
        have hf2 : t.f2.length ≤ 1000000000000 := by
          obtain ⟨f0, f1, f2, f3, f4⟩ := t
          rcases hg.1 with ⟨_, _, g2, _⟩ | ⟨g0, _⟩
          · show f2.length ≤ _; omega
          · exact absurd (h1.symm.trans g0) (by decide)
        unfold api_Attr_56.f
        simp only [if_pos hf2, Option.bind_some, if_pos (show acc.length < 1599289640401 by omega), hw.out]
        exact ih _ (by rw [List.length_append]; simp; omega) (hs.snoc (Nat.zero_le _))
    · simp only [if_neg h1]
      have h2 : t.f0 = 2 ∧ textE t.f3 = 0 := by
        obtain ⟨f0, f1, f2, f3, f4⟩ := t
        rcases hg.1 with ⟨g0, _⟩ | g
        · exact absurd g0 h1
        · exact g
      have hts := text_size h2.2
      by_cases h3 : t.f3.toList = ([] : List UInt8)
      · simp only [if_pos h3, hw.out, Option.bind_some]
        exact ih acc (by omega) hs
      simp only [if_neg h3]
      unfold addText
      have hgl : rd_T35 acc ((acc.length - 1 : Nat) : Int) = lastOf acc := rfl
      have hzm : acc.length ≠ 0 → (lastOf acc).f3.size ≤ 16384 := fun h0 => hs _ (last_mem h0)
      generalize lastOf acc = z at hgl hzm ⊢
      have hj : ∀ (x9 : Int) (bl : Bool), (bl = false → x9 = ((acc.length - 1 : Nat) : Int) ∧ acc.length ≠ 0) → Ev (fun k => markup_normal.j1 k acc x9 (pre ++ t :: l) ((pre ++ t :: l).length : Int) (pre.length : Int) bl t.f0 t.f1 t.f2 t.f3 t.f4)
          (resP ((if bl = true then some (acc ++ [textNode t.f3]) else if 16384 < z.f3.size + t.f3.size then none else some (acc.set (acc.length - 1) (grown z t.f3))).bind fun a => normK l a)) := by
        intro x9 bl hbl
        cases bl with
        | true =>
          refine Ev.step (fun k => by rw [markup_normal.j1.eq_2, if_pos rfl, if_pos (show acc.length < 1599289640401 by omega), hw.out]) ?_
          simp only [if_true, Option.bind_some]
          exact ih _ (by rw [List.length_append]; simp; omega) (hs.snoc hts)
        | false =>
          obtain ⟨rfl, h0⟩ := hbl rfl
          have hz := hzm h0
          have hwz := Aside0.mk (show wrap64 ((z.f3.size : Int) + (t.f3.size : Int)) = ((z.f3.size + t.f3.size : Nat) : Int) by unfold wrap64; omega)
          have hle : z.f3.size + t.f3.size ≤ 9223372036854775807 := Nat.le_trans (Nat.add_le_add hz hts) (by decide)
          have hsz : (grown z t.f3).f3.size = z.f3.size + t.f3.size := by
            unfold grown
            rw [ByteArray.size_append]
          by_cases h5 : 16384 < z.f3.size + t.f3.size
          · rw [if_neg (show ¬ (false = true) by decide), if_pos h5, Option.bind_none]
            exact Ev.step (f := fun _ => some ([], 2)) (fun k => by rw [markup_normal.j1.eq_2, if_neg (by decide), if_pos (by omega), if_pos (by omega), hgl, hwz.out, if_pos (by omega)]) (Ev.now _)
          · rw [if_neg (show ¬ (false = true) by decide), if_neg h5, Option.bind_some]
            refine Ev.step (f := fun k => markup_normal.l0 k (acc.set (acc.length - 1) (grown z t.f3)) (pre ++ t :: l) ((pre ++ t :: l).length : Int) (((pre ++ [t]).length : Nat) : Int)) (fun k => ?_) (ih _ (by rw [List.length_set]; omega) (hs.set _ (by rw [hsz]; exact Nat.le_of_not_lt h5)))
            rw [markup_normal.j1.eq_2, if_neg (by decide), if_pos (by omega), if_pos (by omega), hgl, hwz.out, if_neg (by omega), if_pos hle, hw.out, Int.toNat_natCast]
            rfl
      by_cases h0 : acc.length = 0
      · have hw0 : wrap64 ((acc.length : Int) - 1) = -1 := by rw [h0]; unfold wrap64; omega
        simp only [hw0, if_pos h0, if_pos (show (-1 : Int) < 0 by decide)]
        have := hj (-1) true (fun h => by cases h)
        simp only [if_true] at this
        exact this
      · have hw0 : wrap64 ((acc.length : Int) - 1) = ((acc.length - 1 : Nat) : Int) := by unfold wrap64; omega
        simp only [hw0, hgl, if_neg h0, if_neg (show ¬ ((acc.length - 1 : Nat) : Int) < 0 by omega), if_pos (show 0 ≤ ((acc.length - 1 : Nat) : Int) by omega), if_pos (show ((acc.length - 1 : Nat) : Int) < (acc.length : Int) by omega)]
        have := hj ((acc.length - 1 : Nat) : Int) (z.f0 != 2) (fun _ => ⟨rfl, h0⟩)
        by_cases h5 : z.f0 = 2
        · rw [if_pos h5]
          rw [show (z.f0 != 2) = false from bne_eq_false_iff_eq.mpr h5] at this
          simp only [if_neg (show ¬ (false = true) by decide)] at this
          rw [← show (z.f0 != 2) = false from bne_eq_false_iff_eq.mpr h5] at this
          exact this
        · rw [if_neg h5]
          rw [show (z.f0 != 2) = true from bne_iff_ne.mpr h5] at this
          simp only [if_true] at this
          rw [← show (z.f0 != 2) = true from bne_iff_ne.mpr h5] at this
          exact this
end
/-- What Normal answers. -/
def normalE (l : List S35) : List S35 × Int := if canE l = 0 then resP (normK l []) else ([], canE l)
theorem normal_evP (l : List S35) (h : okK l) (hl : l.length ≤ 1599289640390) : Ev (fun k => markup_Normal.f k l) (normalE l) := by
  unfold markup_Normal.f normalE
  refine Ev.bind (can_evP l h (by omega)) ?_
  by_cases h1 : canE l = 0
  · simp only [if_pos h1]
    have : Ev (fun k => markup_normal.f k l) (resP (normK l [])) := Ev.step (fun k => by rw [markup_normal.f.eq_2]; rfl) (norml_evP l [] [] h (canE_good h1).1 (by simpa using hl) (Nat.le_refl _) (fun z hz => by cases hz))
    exact Ev.bind this (Ev.now _)
  · simp only [if_neg h1]; exact Ev.now _
end Go.Proofs.YtealmfcimoomlaaGreatDoor.PA

/- Normal: what it answers is a normal forest, that prints as it did. -/
namespace Go.Proofs.YtealmfcimoomlaaGreatDoor.PA
open Go.RowKit Go.Proofs.YtealmfcimoomlaaGreatDoorW.PrintWords Go.Proofs.YtealmfcimoomlaaGreatDoorW.PrintLast Go.Proofs.YtealmfcimoomlaaGreatDoorW.PrintMore
set_option linter.unusedVariables false
set_option linter.unusedSimpArgs false
mutual
/-- A tree that can be, so deep. -/
def fineT : TreeS → Nat → Prop
  | ⟨f0, f1, f2, f3, f4⟩, d => d ≤ 64 ∧ ((f0 = 1 ∧ nameB f1 = true ∧ fineA f2 ∧ fineK f4 (d + 1)) ∨ (f0 = 2 ∧ textE f3 = 0))
def fineK : List TreeS → Nat → Prop
  | [], _ => True
  | t :: l, d => fineT t d ∧ fineK l d
end
mutual
theorem look_fine : ∀ (t : TreeS) (d : Nat) (n : Int), d ≤ 65 → 0 ≤ n → (lookE t (d : Int) n).1 = 0 → fineT t d
  | ⟨f0, f1, f2, f3, f4⟩, d, n, hd, hn, h => by
    rw [lookE] at h
    by_cases h1 : 64 < (d : Int)
    · rw [if_pos h1] at h; cases h
    rw [if_neg h1] at h
    by_cases h2 : 4096 ≤ n
    · rw [if_pos h2] at h; cases h
    rw [if_neg h2] at h
    by_cases h3 : ownE f0 f1 f2 f3 = 0
    case neg => rw [if_neg h3] at h; exact absurd h h3
    rw [if_pos h3] at h
    rw [fineT]
    refine ⟨by omega, ?_⟩
    unfold ownE at h3
    by_cases h4 : f0 = 1
    · rw [if_pos h4] at h3
      by_cases h5 : nameB f1 = true
      · rw [if_pos h5] at h3
        rw [if_neg (by omega)] at h
        have hw : wrap64 ((d : Int) + 1) = ((d + 1 : Nat) : Int) := by rw [wrap_in (by omega) (by omega)]; omega
        rw [hw] at h
        exact .inl ⟨h4, h5, (attrsE_iff f2).mp h3, lookK_fine f4 (d + 1) _ (by omega) (by rw [wrap_in (by omega) (by omega)]; omega) h⟩
      · rw [if_neg h5] at h3; cases h3
    · rw [if_neg h4] at h3
      by_cases h5 : f0 = 2
      · rw [if_pos h5] at h3
        exact .inr ⟨h5, h3⟩
      · rw [if_neg h5] at h3; cases h3
theorem lookK_fine : ∀ (l : List TreeS) (d : Nat) (n : Int), d ≤ 65 → 0 ≤ n → (lookKE l (d : Int) n).1 = 0 → fineK l d
  | [], _, _, _, _, _ => trivial
  | t :: l, d, n, hd, hn, h => by
    rw [lookKE] at h
    by_cases h1 : (lookE t (d : Int) n).1 = 0
    · rw [if_pos h1] at h
      have h2 := (look_nodes t (d : Int) n hn h1).1
      exact ⟨look_fine t d n hd hn h1, lookK_fine l d _ hd (by omega) h⟩
    · rw [if_neg h1] at h; exact absurd h h1
end
theorem first_fine : ∀ (l : List TreeS), firstE l = 0 → fineK l 1
  | [], _ => trivial
  | t :: l, h => by
    rw [firstE] at h
    by_cases h1 : (lookE t 1 0).1 = 0
    · rw [if_pos h1] at h
      exact ⟨look_fine t 1 0 (by omega) (by omega) h1, first_fine l h⟩
    · rw [if_neg h1] at h; exact absurd h h1
theorem can_fine {l : List TreeS} (h : canE l = 0) : fineK l 1 := by
  unfold canE at h
  by_cases h1 : firstE l = 0
  · exact first_fine l h1
  · rw [if_neg h1] at h; exact absurd h h1
theorem prK_app : ∀ (a b : List TreeS), prK (a ++ b) = prK a ++ prK b
  | [], b => by rw [prK]; rfl
  | t :: a, b => by rw [List.cons_append, prK, prK, prK_app a b, List.append_assoc]
theorem prK_one (t : TreeS) : prK [t] = prT t := by rw [prK, prK, List.append_nil]
theorem escByte_ne (q : Bool) (b : UInt8) : escByte q b ≠ [] := by
  unfold escByte
  (repeat' split) <;> simp
theorem escAll_ne {q : Bool} {l : List UInt8} : escAll q l ≠ [] ↔ l ≠ [] := by
  cases l with
  | nil => simp [escAll]
  | cons b l =>
    have := escByte_ne q b
    simp only [escAll, List.flatMap_cons, ne_eq, List.append_eq_nil_iff, reduceCtorEq, not_false_eq_true, iff_true]
    exact fun h => this h.1
theorem fine_solidT {t : TreeS} {d : Nat} (h : fineT t d) : solid t = true ↔ prT t ≠ [] := by
  obtain ⟨f0, f1, f2, f3, f4⟩ := t
  rw [fineT] at h
  rw [prT]
  unfold solid
  rcases h with ⟨-, ⟨rfl, -⟩ | ⟨rfl, -⟩⟩
  · rw [if_neg (by decide)]
    simp
  · rw [if_pos rfl, escAll_ne, Lib.toList_data]
    simp
theorem fine_solid : ∀ {l : List TreeS} {d : Nat}, fineK l d → (l.any solid = true ↔ prK l ≠ [])
  | [], d, _ => by rw [prK]; simp
  | t :: l, d, h => by
    rw [fineK] at h
    rw [List.any_cons, prK, Bool.or_eq_true, fine_solidT h.1, fine_solid h.2]
    rw [ne_eq, ne_eq, ne_eq, List.append_eq_nil_iff]
    exact ⟨fun h e => h.elim (fun a => a e.1) (fun b => b e.2), fun h => Classical.byContradiction fun c => h ⟨Classical.byContradiction fun x => c (.inl x), Classical.byContradiction fun x => c (.inr x)⟩⟩
mutual
theorem nrm_fineT : ∀ (t : TreeS) (d : Nat), nrmT t d → fineT t d
  | ⟨f0, f1, f2, f3, f4⟩, d, h => by
    rw [nrmT] at h
    rw [fineT]
    rcases h with ⟨h0, ⟨h1, h2, h3, -, h5⟩ | ⟨h1, -, -, h4, -, -⟩⟩
    · exact ⟨h0, .inl ⟨h1, h2, h3, nrm_fineK f4 (d + 1) h5⟩⟩
    · exact ⟨h0, .inr ⟨h1, h4⟩⟩
theorem nrm_fineK : ∀ (l : List TreeS) (d : Nat), nrmK l d → fineK l d
  | [], _, _ => trivial
  | t :: l, d, h => by
    rw [nrmK] at h
    exact ⟨nrm_fineT t d h.1, nrm_fineK l d h.2.2⟩
end
theorem lastOf_snoc (a : List TreeS) (z : TreeS) : lastOf (a ++ [z]) = z := by
  unfold lastOf
  have : (((a ++ [z]).length - 1 : Nat) : Int) = ((a.length : Nat) : Int) := by rw [List.length_append, List.length_singleton]; rfl
  rw [this]
  exact rd_app a [] z
theorem set_snoc (a : List TreeS) (z x : TreeS) : (a ++ [z]).set ((a ++ [z]).length - 1) x = a ++ [x] := by
  rw [List.length_append, List.length_singleton, Nat.add_sub_cancel, List.set_append_right _ _ (Nat.le_refl _), Nat.sub_self]
  rfl
theorem text_isText {s : ByteArray} (h : textE s = 0) : isText s.data.toList := by
  obtain ⟨-, cs, h1, h2⟩ := textE_encs h
  exact ⟨cs, h1, h2⟩
theorem mk_text {s : ByteArray} (h : isText s.data.toList) (hl : s.size ≤ 16384) : textE s = 0 := by
  have := h.ok (by rw [size_list]; exact hl)
  rw [mkL] at this
  exact this
theorem nrm_textNode {s : ByteArray} {d : Nat} (hd : d ≤ 64) (ht : textE s = 0) (hne : s.data.toList ≠ []) : nrmT (textNode s) d := by
  unfold textNode
  rw [nrmT]
  exact ⟨hd, .inr ⟨rfl, rfl, rfl, ht, hne, rfl⟩⟩
theorem prT_text (s : ByteArray) : prT (textNode s) = escAll false s.data.toList := by
  unfold textNode
  rw [prT, if_pos rfl]
theorem nod_textNode (s : ByteArray) : nodT (textNode s) = 1 := by
  unfold textNode
  rw [nodT, if_neg (by decide)]
theorem addText_nrm {acc r : List TreeS} {s : ByteArray} {d : Nat} (hd : d ≤ 64) (ht : textE s = 0) (hne : s.data.toList ≠ []) (ha : nrmK acc d) (h : addText acc s = some r) : nrmK r d ∧ nodK r ≤ nodK acc + 1 ∧ prK r = prK acc ++ escAll false s.data.toList := by
  unfold addText at h
  by_cases h0 : acc.length = 0
  · rw [if_pos h0] at h
    injection h with h
    subst h
    obtain rfl := List.length_eq_zero_iff.mp h0
    refine ⟨(nrmK_snoc _ _ _).mpr ⟨ha, nrm_textNode hd ht hne, fun _ z hz => by cases hz⟩, ?_, by rw [prK_app, prK_one, prT_text]⟩
    rw [nodK_app, nodK_one, nod_textNode]
    exact Nat.le_refl _
  rw [if_neg h0] at h
  obtain ⟨a, z, rfl⟩ : ∃ a z, acc = a ++ [z] := by
    rcases List.eq_nil_or_concat acc with e | ⟨a, z, e⟩
    · rw [e] at h0; exact absurd rfl h0
    · exact ⟨a, z, by rw [e, List.concat_eq_append]⟩
  rw [lastOf_snoc, set_snoc] at h
  obtain ⟨h1, h2, h3⟩ := (nrmK_snoc _ _ _).mp ha
  by_cases h4 : z.f0 = 2
  · rw [if_pos h4] at h
    by_cases h5 : 16384 < z.f3.size + s.size
    · rw [if_pos h5] at h; cases h
    rw [if_neg h5] at h
    injection h with h
    subst h
    obtain ⟨z0, z1, z2, z3, z4⟩ := z
    rw [nrmT] at h2
    rcases h2 with ⟨-, ⟨e, -⟩ | ⟨rfl, rfl, rfl, t1, t2, rfl⟩⟩
    · rw [e] at h4; cases h4
    have hg : grown ⟨2, ⟨#[]⟩, [], z3, []⟩ s = textNode (z3 ++ s) := rfl
    have htt : textE (z3 ++ s) = 0 := mk_text (by rw [data_app]; exact (text_isText t1).app (text_isText ht)) (by rw [ByteArray.size_append]; simp only at h5; omega)
    rw [hg]
    refine ⟨(nrmK_snoc _ _ _).mpr ⟨h1, nrm_textNode hd htt (by rw [data_app]; intro e; exact t2 (List.append_eq_nil_iff.mp e).1), fun _ => h3 rfl⟩, ?_, ?_⟩
    · rw [nodK_app, nodK_app, nodK_one, nodK_one, nod_textNode]
      have := nodT_pos (⟨2, ⟨#[]⟩, [], z3, []⟩ : TreeS)
      omega
    · rw [prK_app, prK_app, prK_one, prK_one, prT_text, data_app]
      rw [prT, if_pos rfl]
      simp [escAll]
  · rw [if_neg h4] at h
    injection h with h
    subst h
    refine ⟨(nrmK_snoc _ _ _).mpr ⟨ha, nrm_textNode hd ht hne, fun _ y hy => ?_⟩, ?_, by rw [prK_app _ [textNode s], prK_one, prT_text]⟩
    · rw [List.getLast?_append] at hy
      simp only [List.getLast?_singleton, Option.some_or, Option.some.injEq] at hy
      subst hy
      exact h4
    · rw [nodK_app _ [textNode s], nodK_one, nod_textNode]
      exact Nat.le_refl _
mutual
theorem norm_nrmT : ∀ (t : TreeS) (d : Nat) (acc r : List TreeS), fineT t d → nrmK acc d → normT t acc = some r → nrmK r d ∧ nodK r ≤ nodK acc + nodT t ∧ prK r = prK acc ++ prT t
  | ⟨f0, f1, f2, f3, f4⟩, d, acc, r, h, ha, hr => by
    have hft := h
    rw [fineT] at h
    rw [normT] at hr
    rcases h with ⟨h0, ⟨rfl, g1, g2, g3⟩ | ⟨rfl, g1⟩⟩
    · rw [if_pos rfl] at hr
      obtain ⟨k, hk, rfl⟩ := Option.map_eq_some_iff.mp hr
      obtain ⟨k1, k2, k3⟩ := norm_nrmK f4 (d + 1) [] k g3 trivial hk
      rw [prK, List.nil_append] at k3
      rw [nodK, Nat.zero_add] at k2
      have hs : (k.any solid = true ↔ f4.any solid = true) := by rw [fine_solid (nrm_fineK k _ k1), fine_solid g3, k3]
      refine ⟨(nrmK_snoc _ _ _).mpr ⟨ha, by rw [nrmT]; exact ⟨h0, .inl ⟨rfl, g1, g2, rfl, k1⟩⟩, fun e => by cases e⟩, ?_, ?_⟩
      · rw [nodK_app, nodK_one, nodT, nodT, if_pos rfl, if_pos rfl]
        omega
      · rw [prK_app, prK_one, prT, prT, if_neg (show ¬ (1 : Int) = 2 by decide), if_neg (show ¬ (1 : Int) = 2 by decide), k3]
        by_cases hs1 : f4.any solid = true
        · rw [if_pos hs1, if_pos (hs.mpr hs1)]
        · rw [if_neg hs1, if_neg (fun e => hs1 (hs.mp e))]
    · rw [if_neg (by decide)] at hr
      rw [prT, if_pos rfl, nodT, if_neg (by decide)]
      by_cases h3 : f3.toList = ([] : List UInt8)
      · rw [if_pos h3] at hr
        injection hr with hr
        subst hr
        rw [Lib.toList_data] at h3
        rw [h3]
        exact ⟨ha, by omega, by simp [escAll]⟩
      · rw [if_neg h3] at hr
        rw [Lib.toList_data] at h3
        exact addText_nrm h0 g1 h3 ha hr
theorem norm_nrmK : ∀ (l : List TreeS) (d : Nat) (acc r : List TreeS), fineK l d → nrmK acc d → normK l acc = some r → nrmK r d ∧ nodK r ≤ nodK acc + nodK l ∧ prK r = prK acc ++ prK l
  | [], d, acc, r, _, ha, hr => by
    rw [normK] at hr
    injection hr with hr
    subst hr
    rw [nodK, prK, List.append_nil]
    exact ⟨ha, Nat.le_refl _, rfl⟩
  | t :: l, d, acc, r, h, ha, hr => by
    rw [normK] at hr
    rw [fineK] at h
    obtain ⟨a, h1, h2⟩ := Option.bind_eq_some_iff.mp hr
    obtain ⟨a1, a2, a3⟩ := norm_nrmT t d acc a h.1 ha h1
    obtain ⟨b1, b2, b3⟩ := norm_nrmK l d a r h.2 a1 h2
    rw [nodK, prK]
    exact ⟨b1, by omega, by rw [b3, a3, List.append_assoc]⟩
end
/-- What Normal answers. -/
theorem normalE_cases (l : List TreeS) : ((normalE l).2 ≠ 0 ∧ (normalE l).1 = []) ∨ ((normalE l).2 = 0 ∧ canE l = 0 ∧ nrmK (normalE l).1 1 ∧ nodK (normalE l).1 ≤ 4096 ∧ prK (normalE l).1 = prK l) := by
  unfold normalE
  by_cases h : canE l = 0
  · rw [if_pos h]
    cases hn : normK l [] with
    | none => exact .inl ⟨(show (2 : Int) ≠ 0 by decide), rfl⟩
    | some r =>
      obtain ⟨h1, h2, h3⟩ := norm_nrmK l 1 [] r (can_fine h) trivial hn
      have h4 := (canE_good h).2
      rw [nodK, Nat.zero_add] at h2
      exact .inr ⟨rfl, h, h1, by show nodK r ≤ 4096; omega, h3⟩
  · rw [if_neg h]
    exact .inl ⟨h, rfl⟩
end Go.Proofs.YtealmfcimoomlaaGreatDoor.PA
