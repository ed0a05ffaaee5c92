/- Normal: the program's form and the reference's are one; and 'alike' of one and the same. -/
import Derived.Test.YtealmfcimoomlaaDoorPM2
import Derived.Test.YtealmfcimoomlaaDoorPText
import Derived.Test.YtealmfcimoomlaaDoorPA13
import Derived.Test.YtealmfcimoomlaaDoorPA15
import Derived.Test.YtealmfcimoomlaaDoorPA16
namespace Go.Proofs.YtealmfcimoomlaaDoor.PA
open Go.RowKit Go.Proofs.YtealmfcimoomlaaDoorW.PrintWords Go.Proofs.YtealmfcimoomlaaDoorW.PrintLast Go.Proofs.YtealmfcimoomlaaDoorW.PrintMore
set_option linter.unusedVariables false
set_option linter.unusedSimpArgs false
def textNode (s : ByteArray) : S36 := ⟨2, (⟨#[]⟩ : ByteArray), [], s, []⟩
def lastOf (acc : List S36) : S36 := rd_T36 acc ((acc.length - 1 : Nat) : Int)
def grown (z : S36) (s : ByteArray) : S36 := ⟨z.f0, z.f1, z.f2, z.f3 ++ s, z.f4⟩
def addText (acc : List S36) (s : ByteArray) : Option (List S36) :=
  if acc.length = 0 then some (acc ++ [textNode s])
  else if (lastOf acc).f0 = 2 then (if 16384 < (lastOf acc).f3.size + s.size then none else some (acc.set (acc.length - 1) (grown (lastOf acc) s)))
  else some (acc ++ [textNode s])
mutual
def normT : S36 → List S36 → Option (List S36)
  | ⟨f0, f1, f2, f3, f4⟩, acc =>
    if f0 = 1 then (normK f4 []).map fun r => acc ++ [⟨1, f1, f2, (⟨#[]⟩ : ByteArray), r⟩]
    else if f3.toList = ([] : List UInt8) then some acc else addText acc f3
def normK : List S36 → List S36 → Option (List S36)
  | [], acc => some acc
  | t :: l, acc => (normT t acc).bind fun a => normK l a
end
def resP : Option (List S36) → List S36 × Int
  | some r => (r, 0)
  | none => ([], 2)
def resR : Option (List S36) → List S36 × Bool
  | some r => (r, true)
  | none => ([], false)
def smallT (acc : List S36) : Prop := ∀ z ∈ acc, z.f3.size ≤ 16384
theorem smallT.snoc {acc : List S36} (h : smallT acc) {x : S36} (hx : x.f3.size ≤ 16384) : smallT (acc ++ [x]) := by
  intro z hz
  rcases List.mem_append.1 hz with hz | hz
  · exact h z hz
  · rcases List.mem_cons.1 hz with rfl | hz
    · exact hx
    · cases hz
theorem smallT.set {acc : List S36} (h : smallT acc) (i : Nat) {x : S36} (hx : x.f3.size ≤ 16384) : smallT (acc.set i x) := by
  intro z hz
  rcases List.mem_or_eq_of_mem_set hz with hz | rfl
  · exact h z hz
  · exact hx
theorem last_mem {acc : List S36} (h : acc.length ≠ 0) : lastOf acc ∈ acc := rd36_mem acc (acc.length - 1) (by omega)
theorem text_size {s : ByteArray} (h : textE s = 0) : s.size ≤ 16384 := (textR_ok h).1
mutual
theorem normf_evP : ∀ (t : S36), okT t → goodT t → t.f0 = 1 → Ev (fun k => markup_normal.f k t.f4) (resP (normK t.f4 []))
  | ⟨f0, f1, f2, f3, f4⟩, h, hg, h1 => by
    refine Ev.step (fun k => by rw [markup_normal.f.eq_2]) ?_
    rcases hg with ⟨_, _, _, _, g4⟩ | ⟨g0, _⟩
    · exact norml_evP f4 [] [] h.2.2.2.2.1 g4 (by have := h.2.2.2.2.2; simp only [List.nil_append]; omega) (Nat.le_refl _) (fun z hz => by cases hz)
    · exact absurd (h1.symm.trans g0) (by decide)
theorem norml_evP : ∀ (l pre acc : List S36), okK l → goodK l → (pre ++ l).length ≤ 1599289640390 → acc.length ≤ pre.length → smallT acc → Ev (fun k => markup_normal.l0 k acc (pre ++ l) ((pre ++ l).length : Int) ((pre.length : Nat) : Int)) (resP (normK l acc))
  | [], pre, acc, _, _, hb, ha, hs => by
    rw [normK]
    exact Ev.step (f := fun _ => some (acc, 0)) (fun k => by rw [markup_normal.l0.eq_2, if_neg (by simp)]) (Ev.now _)
  | t :: l, pre, acc, h, hg, hb, ha, hs => by
    have hlen : (pre ++ t :: l).length = pre.length + (l.length + 1) := by rw [List.length_append, List.length_cons]
    have hw := Aside0.mk (show wrap64 ((pre.length : Int) + 1) = (((pre ++ [t]).length : Nat) : Int) by simp only [List.length_append, List.length_cons, List.length_nil]; unfold wrap64; omega)
    have hp1 : (pre ++ [t]).length = pre.length + 1 := by simp
    have ih := fun acc' (h1 : acc'.length ≤ pre.length + 1) (h2 : smallT acc') => norml_evP l (pre ++ [t]) acc' h.2 hg.2 (by rw [← app_step]; exact hb) (by omega) h2
    simp only [← app_step] at ih
    refine Ev.step (fun k => by rw [markup_normal.l0.eq_2, if_pos (by omega), if_pos (by omega), if_pos (by omega), rd_app]) ?_
    have hK : normK (t :: l) acc = (normT t acc).bind fun a => normK l a := by rw [normK]
    rw [hK]
    have hT : normT t acc = if t.f0 = 1 then (normK t.f4 []).map (fun r => acc ++ [⟨1, t.f1, t.f2, (⟨#[]⟩ : ByteArray), r⟩]) else if t.f3.toList = ([] : List UInt8) then some acc else addText acc t.f3 := by cases t; rw [normT]
    rw [hT]
    by_cases h1 : t.f0 = 1
    · simp only [if_pos h1]
      refine Ev.bind (normf_evP t h.1 hg.1 h1) ?_
      cases hn : normK t.f4 [] with
      | none => simp only [resP, if_neg (show ¬ ((2 : Int) = 0) by decide), Option.map_none, Option.bind_none]; exact Ev.now _
      | some r =>
        simp only [resP, if_true, Option.map_some, Option.bind_some]
        have hf2 : t.f2.length ≤ 1000000000000 := by
          obtain ⟨f0, f1, f2, f3, f4⟩ := t
          rcases hg.1 with ⟨_, _, g2, _⟩ | ⟨g0, _⟩
          · show f2.length ≤ _; omega
          · exact absurd (h1.symm.trans g0) (by decide)
        unfold api_Attr_39.f
        simp only [if_pos hf2, Option.bind_some, if_pos (show acc.length < 1599289640401 by omega), hw.out]
        exact ih _ (by rw [List.length_append]; simp; omega) (hs.snoc (Nat.zero_le _))
    · simp only [if_neg h1]
      have h2 : t.f0 = 2 ∧ textE t.f3 = 0 := by
        obtain ⟨f0, f1, f2, f3, f4⟩ := t
        rcases hg.1 with ⟨g0, _⟩ | g
        · exact absurd g0 h1
        · exact g
      have hts := text_size h2.2
      by_cases h3 : t.f3.toList = ([] : List UInt8)
      · simp only [if_pos h3, hw.out, Option.bind_some]
        exact ih acc (by omega) hs
      simp only [if_neg h3]
      unfold addText
      have hgl : rd_T36 acc ((acc.length - 1 : Nat) : Int) = lastOf acc := rfl
      have hzm : acc.length ≠ 0 → (lastOf acc).f3.size ≤ 16384 := fun h0 => hs _ (last_mem h0)
      generalize lastOf acc = z at hgl hzm ⊢
      have hj : ∀ (x9 : Int) (bl : Bool), (bl = false → x9 = ((acc.length - 1 : Nat) : Int) ∧ acc.length ≠ 0) → Ev (fun k => markup_normal.j1 k acc x9 (pre ++ t :: l) ((pre ++ t :: l).length : Int) (pre.length : Int) bl t.f0 t.f1 t.f2 t.f3 t.f4)
          (resP ((if bl = true then some (acc ++ [textNode t.f3]) else if 16384 < z.f3.size + t.f3.size then none else some (acc.set (acc.length - 1) (grown z t.f3))).bind fun a => normK l a)) := by
        intro x9 bl hbl
        cases bl with
        | true =>
          refine Ev.step (fun k => by rw [markup_normal.j1.eq_2, if_pos rfl, if_pos (show acc.length < 1599289640401 by omega), hw.out]) ?_
          simp only [if_true, Option.bind_some]
          exact ih _ (by rw [List.length_append]; simp; omega) (hs.snoc hts)
        | false =>
          obtain ⟨rfl, h0⟩ := hbl rfl
          have hz := hzm h0
          have hwz := Aside0.mk (show wrap64 ((z.f3.size : Int) + (t.f3.size : Int)) = ((z.f3.size + t.f3.size : Nat) : Int) by unfold wrap64; omega)
          have hle : z.f3.size + t.f3.size ≤ 9223372036854775807 := Nat.le_trans (Nat.add_le_add hz hts) (by decide)
          have hsz : (grown z t.f3).f3.size = z.f3.size + t.f3.size := by
            unfold grown
            rw [ByteArray.size_append]
          by_cases h5 : 16384 < z.f3.size + t.f3.size
          · rw [if_neg (show ¬ (false = true) by decide), if_pos h5, Option.bind_none]
            exact Ev.step (f := fun _ => some ([], 2)) (fun k => by rw [markup_normal.j1.eq_2, if_neg (by decide), if_pos (by omega), if_pos (by omega), hgl, hwz.out, if_pos (by omega)]) (Ev.now _)
          · rw [if_neg (show ¬ (false = true) by decide), if_neg h5, Option.bind_some]
            refine Ev.step (f := fun k => markup_normal.l0 k (acc.set (acc.length - 1) (grown z t.f3)) (pre ++ t :: l) ((pre ++ t :: l).length : Int) (((pre ++ [t]).length : Nat) : Int)) (fun k => ?_) (ih _ (by rw [List.length_set]; omega) (hs.set _ (by rw [hsz]; exact Nat.le_of_not_lt h5)))
            rw [markup_normal.j1.eq_2, if_neg (by decide), if_pos (by omega), if_pos (by omega), hgl, hwz.out, if_neg (by omega), if_pos hle, hw.out, Int.toNat_natCast]
            rfl
      by_cases h0 : acc.length = 0
      · have hw0 : wrap64 ((acc.length : Int) - 1) = -1 := by rw [h0]; unfold wrap64; omega
        simp only [hw0, if_pos h0, if_pos (show (-1 : Int) < 0 by decide)]
        have := hj (-1) true (fun h => by cases h)
        simp only [if_true] at this
        exact this
      · have hw0 : wrap64 ((acc.length : Int) - 1) = ((acc.length - 1 : Nat) : Int) := by unfold wrap64; omega
        simp only [hw0, hgl, if_neg h0, if_neg (show ¬ ((acc.length - 1 : Nat) : Int) < 0 by omega), if_pos (show 0 ≤ ((acc.length - 1 : Nat) : Int) by omega), if_pos (show ((acc.length - 1 : Nat) : Int) < (acc.length : Int) by omega)]
        have := hj ((acc.length - 1 : Nat) : Int) (z.f0 != 2) (fun _ => ⟨rfl, h0⟩)
        by_cases h5 : z.f0 = 2
        · rw [if_pos h5]
          rw [show (z.f0 != 2) = false from bne_eq_false_iff_eq.mpr h5] at this
          simp only [if_neg (show ¬ (false = true) by decide)] at this
          rw [← show (z.f0 != 2) = false from bne_eq_false_iff_eq.mpr h5] at this
          exact this
        · rw [if_neg h5]
          rw [show (z.f0 != 2) = true from bne_iff_ne.mpr h5] at this
          simp only [if_true] at this
          rw [← show (z.f0 != 2) = true from bne_iff_ne.mpr h5] at this
          exact this
end
mutual
theorem normf_evR : ∀ (t : S36), okT t → goodT t → t.f0 = 1 → Ev (fun k => espalierref04_normal.f k t.f4) (resR (normK t.f4 []))
  | ⟨f0, f1, f2, f3, f4⟩, h, hg, h1 => by
    refine Ev.step (fun k => by rw [espalierref04_normal.f.eq_2]) ?_
    rcases hg with ⟨_, _, _, _, g4⟩ | ⟨g0, _⟩
    · exact norml_evR f4 [] [] h.2.2.2.2.1 g4 (by have := h.2.2.2.2.2; simp only [List.nil_append]; omega) (Nat.le_refl _) (fun z hz => by cases hz)
    · exact absurd (h1.symm.trans g0) (by decide)
theorem norml_evR : ∀ (l pre acc : List S36), okK l → goodK l → (pre ++ l).length ≤ 1599289640390 → acc.length ≤ pre.length → smallT acc → Ev (fun k => espalierref04_normal.l0 k (pre ++ l) acc ((pre.length : Nat) : Int)) (resR (normK l acc))
  | [], pre, acc, _, _, hb, ha, hs => by
    rw [normK]
    exact Ev.step (f := fun _ => some (acc, true)) (fun k => by rw [espalierref04_normal.l0.eq_2, if_neg (by simp)]) (Ev.now _)
  | t :: l, pre, acc, h, hg, hb, ha, hs => by
    have hlen : (pre ++ t :: l).length = pre.length + (l.length + 1) := by rw [List.length_append, List.length_cons]
    have hw := Aside0.mk (show wrap64 ((pre.length : Int) + 1) = (((pre ++ [t]).length : Nat) : Int) by simp only [List.length_append, List.length_cons, List.length_nil]; unfold wrap64; omega)
    have hp1 : (pre ++ [t]).length = pre.length + 1 := by simp
    have ih := fun acc' (h1 : acc'.length ≤ pre.length + 1) (h2 : smallT acc') => norml_evR l (pre ++ [t]) acc' h.2 hg.2 (by rw [← app_step]; exact hb) (by omega) h2
    simp only [← app_step] at ih
    refine Ev.step (fun k => by rw [espalierref04_normal.l0.eq_2, if_pos (by omega), if_pos (by omega), rd_app]) ?_
    have hK : normK (t :: l) acc = (normT t acc).bind fun a => normK l a := by rw [normK]
    rw [hK]
    have hT : normT t acc = if t.f0 = 1 then (normK t.f4 []).map (fun r => acc ++ [⟨1, t.f1, t.f2, (⟨#[]⟩ : ByteArray), r⟩]) else if t.f3.toList = ([] : List UInt8) then some acc else addText acc t.f3 := by cases t; rw [normT]
    rw [hT]
    by_cases h1 : t.f0 = 1
    · simp only [if_neg (show ¬ t.f0 = 2 by omega), if_pos h1]
      refine Ev.bind (normf_evR t h.1 hg.1 h1) ?_
      cases hn : normK t.f4 [] with
      | none => simp only [resR, if_neg (show ¬ (false = true) by decide), Option.map_none, Option.bind_none]; exact Ev.now _
      | some r =>
        simp only [resR, if_true, Option.map_some, Option.bind_some]
        have hf2 : t.f2.length ≤ 1000000000000 := by
          obtain ⟨f0, f1, f2, f3, f4⟩ := t
          rcases hg.1 with ⟨_, _, g2, _⟩ | ⟨g0, _⟩
          · show f2.length ≤ _; omega
          · exact absurd (h1.symm.trans g0) (by decide)
        simp only [List.length_nil, Nat.zero_add, List.nil_append, if_pos (show t.f2.length < 4398046511104 by omega), if_pos (show acc.length < 1599289640401 by omega), hw.out]
        exact ih _ (by rw [List.length_append]; simp; omega) (hs.snoc (Nat.zero_le _))
    · have h2 : t.f0 = 2 ∧ textE t.f3 = 0 := by
        obtain ⟨f0, f1, f2, f3, f4⟩ := t
        rcases hg.1 with ⟨g0, _⟩ | g
        · exact absurd g0 h1
        · exact g
      simp only [if_pos h2.1, if_neg h1]
      have hts := text_size h2.2
      by_cases h3 : t.f3.toList = ([] : List UInt8)
      · simp only [if_pos h3, hw.out, Option.bind_some]
        exact ih acc (by omega) hs
      simp only [if_neg h3]
      unfold addText
      have hgl : rd_T36 acc ((acc.length - 1 : Nat) : Int) = lastOf acc := rfl
      have hzm : acc.length ≠ 0 → (lastOf acc).f3.size ≤ 16384 := fun h0 => hs _ (last_mem h0)
      generalize lastOf acc = z at hgl hzm ⊢
      have hj : ∀ (x9 : Int) (bl : Bool), (bl = true → x9 = ((acc.length - 1 : Nat) : Int) ∧ acc.length ≠ 0) → Ev (fun k => espalierref04_normal.j1 k (pre ++ t :: l) acc (pre.length : Int) x9 bl t.f0 t.f1 t.f2 t.f3 t.f4)
          (resR ((if bl = true then (if 16384 < z.f3.size + t.f3.size then none else some (acc.set (acc.length - 1) (grown z t.f3))) else some (acc ++ [textNode t.f3])).bind fun a => normK l a)) := by
        intro x9 bl hbl
        cases bl with
        | false =>
          refine Ev.step (fun k => by rw [espalierref04_normal.j1.eq_2, if_neg (by decide), if_pos (show acc.length < 1599289640401 by omega), hw.out]) ?_
          simp only [if_neg (show ¬ (false = true) by decide), Option.bind_some]
          exact ih _ (by rw [List.length_append]; simp; omega) (hs.snoc hts)
        | true =>
          obtain ⟨rfl, h0⟩ := hbl rfl
          have hz := hzm h0
          have hwz := Aside0.mk (show wrap64 ((z.f3.size : Int) + (t.f3.size : Int)) = ((z.f3.size + t.f3.size : Nat) : Int) by unfold wrap64; omega)
          have hle : z.f3.size + t.f3.size ≤ 9223372036854775807 := Nat.le_trans (Nat.add_le_add hz hts) (by decide)
          have hsz : (grown z t.f3).f3.size = z.f3.size + t.f3.size := by
            unfold grown
            rw [ByteArray.size_append]
          by_cases h5 : 16384 < z.f3.size + t.f3.size
          · rw [if_pos rfl, if_pos h5, Option.bind_none]
            exact Ev.step (f := fun _ => some ([], false)) (fun k => by rw [espalierref04_normal.j1.eq_2, if_pos rfl, if_pos (by omega), if_pos (by omega), hgl, hwz.out, if_pos (by omega)]) (Ev.now _)
          · rw [if_pos rfl, if_neg h5, Option.bind_some]
            refine Ev.step (f := fun k => espalierref04_normal.l0 k (pre ++ t :: l) (acc.set (acc.length - 1) (grown z t.f3)) (((pre ++ [t]).length : Nat) : Int)) (fun k => ?_) (ih _ (by rw [List.length_set]; omega) (hs.set _ (by rw [hsz]; exact Nat.le_of_not_lt h5)))
            rw [espalierref04_normal.j1.eq_2, if_pos rfl, if_pos (by omega), if_pos (by omega), hgl, hwz.out, if_neg (by omega), if_pos hle, hw.out, Int.toNat_natCast]
            rfl
      by_cases h0 : acc.length = 0
      · have hw0 : wrap64 ((acc.length : Int) - 1) = -1 := by rw [h0]; unfold wrap64; omega
        simp only [hw0, if_pos h0, if_neg (show ¬ (-1 : Int) ≥ 0 by decide)]
        have := hj (-1) false (fun h => by cases h)
        simp only [if_neg (show ¬ (false = true) by decide)] at this
        exact this
      · have hw0 : wrap64 ((acc.length : Int) - 1) = ((acc.length - 1 : Nat) : Int) := by unfold wrap64; omega
        simp only [hw0, hgl, if_neg h0, if_pos (show ((acc.length - 1 : Nat) : Int) ≥ 0 by omega), if_pos (show 0 ≤ ((acc.length - 1 : Nat) : Int) by omega), if_pos (show ((acc.length - 1 : Nat) : Int) < (acc.length : Int) by omega)]
        have := hj ((acc.length - 1 : Nat) : Int) (z.f0 == 2) (fun _ => ⟨rfl, h0⟩)
        by_cases h5 : z.f0 = 2
        · rw [if_pos h5]
          rw [show (z.f0 == 2) = true from beq_iff_eq.mpr h5] at this
          simp only [if_true] at this
          rw [← show (z.f0 == 2) = true from beq_iff_eq.mpr h5] at this
          exact this
        · rw [if_neg h5]
          rw [show (z.f0 == 2) = false from beq_eq_false_iff_ne.mpr h5] at this
          simp only [if_neg (show ¬ (false = true) by decide)] at this
          rw [← show (z.f0 == 2) = false from beq_eq_false_iff_ne.mpr h5] at this
          exact this
end
/-- What Normal answers. -/
def normalE (l : List S36) : List S36 × Int := if canE l = 0 then resP (normK l []) else ([], canE l)
theorem normal_evP (l : List S36) (h : okK l) (hl : l.length ≤ 1599289640390) : Ev (fun k => markup_Normal.f k l) (normalE l) := by
  unfold markup_Normal.f normalE
  refine Ev.bind (can_evP l h (by omega)) ?_
  by_cases h1 : canE l = 0
  · simp only [if_pos h1]
    have : Ev (fun k => markup_normal.f k l) (resP (normK l [])) := Ev.step (fun k => by rw [markup_normal.f.eq_2]; rfl) (norml_evP l [] [] h (canE_good h1).1 (by simpa using hl) (Nat.le_refl _) (fun z hz => by cases hz))
    exact Ev.bind this (Ev.now _)
  · simp only [if_neg h1]; exact Ev.now _
theorem normal_evR (l : List S36) (h : okK l) (hl : l.length ≤ 1599289640390) : Ev (fun k => espalierref04_Normal.f k l) (normalE l) := by
  unfold espalierref04_Normal.f normalE
  refine Ev.bind (can_evR l h (by omega)) ?_
  by_cases h1 : canE l = 0
  · simp only [if_pos h1]
    have : Ev (fun k => espalierref04_normal.f k l) (resR (normK l [])) := Ev.step (fun k => by rw [espalierref04_normal.f.eq_2]; rfl) (norml_evR l [] [] h (canE_good h1).1 (by simpa using hl) (Nat.le_refl _) (fun z hz => by cases hz))
    refine Ev.bind this ?_
    cases normK l [] with
    | none => simp only [resR, resP, if_neg (show ¬ (false = true) by decide)]; exact Ev.now _
    | some r => simp only [resR, resP, if_true]; exact Ev.now _
  · simp only [if_neg h1]; exact Ev.now _
theorem copyK_app : ∀ (a : List S36) (x : S36), copyK a → copyT x → copyK (a ++ [x])
  | [], x, _, hx => ⟨hx, trivial⟩
  | t :: a, x, h, hx => ⟨h.1, copyK_app a x h.2 hx⟩
theorem copyK_set : ∀ (a : List S36) (i : Nat) (x : S36), copyK a → copyT x → copyK (a.set i x)
  | [], i, x, _, _ => trivial
  | t :: a, 0, x, h, hx => ⟨hx, h.2⟩
  | t :: a, i + 1, x, h, hx => ⟨h.1, copyK_set a i x h.2 hx⟩
mutual
theorem norm_copyT : ∀ (t : S36) (acc r : List S36), okT t → copyK acc → normT t acc = some r → copyK r ∧ r.length ≤ acc.length + 1
  | ⟨f0, f1, f2, f3, f4⟩, acc, r, h, ha, hr => by
    rw [normT] at hr
    by_cases h1 : f0 = 1
    · rw [if_pos h1] at hr
      obtain ⟨r1, hr1, rfl⟩ := Option.map_eq_some_iff.mp hr
      obtain ⟨c1, c2⟩ := norm_copyK f4 [] r1 h.2.2.2.2.1 trivial hr1
      refine ⟨copyK_app acc _ ha ⟨by have := h.2.2.1.2; omega, by have := h.2.2.2.2.2; simp only [List.length_nil] at c2; omega, c1⟩, by simp⟩
    rw [if_neg h1] at hr
    have ht : copyT (textNode f3) := ⟨Nat.zero_le _, Nat.zero_le _, trivial⟩
    by_cases h2 : f3.toList = ([] : List UInt8)
    · rw [if_pos h2] at hr
      obtain rfl := Option.some.inj hr
      exact ⟨ha, by omega⟩
    rw [if_neg h2] at hr
    unfold addText at hr
    by_cases h3 : acc.length = 0
    · rw [if_pos h3] at hr
      obtain rfl := Option.some.inj hr
      exact ⟨copyK_app acc _ ha ht, by simp⟩
    rw [if_neg h3] at hr
    by_cases h4 : (lastOf acc).f0 = 2
    · rw [if_pos h4] at hr
      by_cases h5 : 16384 < (lastOf acc).f3.size + f3.size
      · rw [if_pos h5] at hr; cases hr
      · rw [if_neg h5] at hr
        obtain rfl := Option.some.inj hr
        exact ⟨copyK_set acc _ _ ha (copyT_parts _ (copyK_mem acc ha _ (last_mem h3))), by rw [List.length_set]; omega⟩
    · rw [if_neg h4] at hr
      obtain rfl := Option.some.inj hr
      exact ⟨copyK_app acc _ ha ht, by simp⟩
theorem norm_copyK : ∀ (l acc r : List S36), okK l → copyK acc → normK l acc = some r → copyK r ∧ r.length ≤ acc.length + l.length
  | [], acc, r, _, ha, hr => by
    rw [normK] at hr
    obtain rfl := Option.some.inj hr
    exact ⟨ha, by simp⟩
  | t :: l, acc, r, h, ha, hr => by
    rw [normK] at hr
    obtain ⟨a, h1, h2⟩ := Option.bind_eq_some_iff.mp hr
    obtain ⟨c1, c2⟩ := norm_copyT t acc a h.1 ha h1
    obtain ⟨c3, c4⟩ := norm_copyK l a r h.2 c1 h2
    exact ⟨c3, by rw [List.length_cons]; omega⟩
end
theorem normalE_copy (l : List S36) (h : okK l) (hl : l.length ≤ 1599289640390) : copyK (normalE l).1 ∧ (normalE l).1.length ≤ 1599289640390 := by
  unfold normalE
  by_cases h1 : canE l = 0
  · rw [if_pos h1]
    cases hn : normK l [] with
    | none => exact ⟨trivial, Nat.zero_le _⟩
    | some r =>
      obtain ⟨c1, c2⟩ := norm_copyK l [] r h trivial hn
      exact ⟨c1, by simp only [List.length_nil] at c2; show r.length ≤ _; omega⟩
  · rw [if_neg h1]; exact ⟨trivial, Nat.zero_le _⟩
end Go.Proofs.YtealmfcimoomlaaDoor.PA
