/- Print: the program's writing and the reference's are one, or both are too long. -/
import Derived.Test.YtealmfcimoomlaaDoorPM2
import Derived.Test.YtealmfcimoomlaaDoorPEscape
import Derived.Test.YtealmfcimoomlaaDoorUPrint
import Derived.Test.YtealmfcimoomlaaDoorPA1
namespace Go.Proofs.YtealmfcimoomlaaDoor.PA
open Go.RowKit Go.Proofs.YtealmfcimoomlaaDoorW.PrintWords Go.Proofs.YtealmfcimoomlaaDoorW.PrintLast Go.Proofs.YtealmfcimoomlaaDoorW.PrintMore
set_option linter.unusedVariables false
set_option linter.unusedSimpArgs false
theorem escE_P (s : ByteArray) (q : Bool) (hs : s.size ≤ 140737488351232) : Ev (fun k => chars_Escape.f k s q) (escR q s) := ⟨s.size + 2, fun k hk => escape_eq s q (by omega) k hk⟩
theorem escE_R (s : ByteArray) (q : Bool) (hs : s.size ≤ 140737488351232) : Ev (fun k => espalierref02_Escape.f k s q) (escR q s) := ⟨s.size + 8, fun k hk => rescape_eq s q (by omega) k hk⟩
theorem escR_size (s : ByteArray) (q : Bool) (hs : s.size ≤ 140737488351232) : (escR q s).1.size ≤ 98304 := esc_size (escape_eq s q (by omega) (s.size + 2) (Nat.le_refl _))
def attrP : List S54 → List UInt8 → List UInt8
  | [], b => b
  | a :: l, b => attrP l (put1 (put1 (putF b [⟨#[32]⟩, a.f0, ⟨#[61, 34]⟩]) (escR true a.f1).1) ⟨#[34]⟩)
def attrR : List S54 → List UInt8 → List UInt8
  | [], b => b
  | a :: l, b => attrR l (b ++ (⟨#[32]⟩ ++ a.f0 ++ ⟨#[61, 34]⟩ ++ (escR true a.f1).1 ++ ⟨#[34]⟩ : ByteArray).data.toList)
def hollowB : List S36 → Bool
  | [] => true
  | t :: l => if t.f0 = 2 then (if t.f3.toList = ([] : List UInt8) then hollowB l else false) else false
mutual
def ptreeE : S36 → List UInt8 → List UInt8
  | ⟨f0, f1, f2, f3, f4⟩, b =>
    if 262144 < b.length then b
    else if f0 = 2 then put1 b (escR false f3).1
    else if f4.any solid = true then putF (pkidsE f4 (put1 (attrP f2 (putF b [⟨#[60]⟩, f1])) ⟨#[62]⟩)) [⟨#[60, 47]⟩, f1, ⟨#[62]⟩]
    else put1 (attrP f2 (putF b [⟨#[60]⟩, f1])) ⟨#[47, 62]⟩
def pkidsE : List S36 → List UInt8 → List UInt8
  | [], b => b
  | t :: l, b => pkidsE l (ptreeE t b)
end
mutual
def rtreeE : S36 → List UInt8 → List UInt8
  | ⟨f0, f1, f2, f3, f4⟩, b =>
    if f0 = 2 then b ++ (escR false f3).1.data.toList
    else if hollowB f4 = true then attrR f2 (b ++ (⟨#[60]⟩ ++ f1 : ByteArray).data.toList) ++ (⟨#[47, 62]⟩ : ByteArray).data.toList
    else rkidsE f4 (attrR f2 (b ++ (⟨#[60]⟩ ++ f1 : ByteArray).data.toList) ++ (⟨#[62]⟩ : ByteArray).data.toList) ++ (⟨#[60, 47]⟩ ++ f1 ++ ⟨#[62]⟩ : ByteArray).data.toList
def rkidsE : List S36 → List UInt8 → List UInt8
  | [], b => b
  | t :: l, b => if b.length ≤ 262144 then rkidsE l (rtreeE t b) else b
end
def goodA (l : List S54) : Prop := ∀ a ∈ l, nameB a.f0 = true ∧ textE a.f1 = 0
theorem goodA_tail {a : S54} {l : List S54} (h : goodA (a :: l)) : nameB a.f0 = true ∧ goodA l := ⟨(h a List.mem_cons_self).1, fun x hx => h x (List.mem_cons_of_mem _ hx)⟩
theorem smallA_tail {a : S54} {l : List S54} (h : smallA (a :: l)) : (a.f0.size ≤ 140737488351232 ∧ a.f1.size ≤ 140737488351232) ∧ smallA l := ⟨h a List.mem_cons_self, fun x hx => h x (List.mem_cons_of_mem _ hx)⟩
theorem attrF_ev : ∀ (l : List S54) (b : List UInt8), goodA l → smallA l → Ev (fun k => attrF k l b) (attrP l b)
  | [], b, _, _ => Ev.congr (fun k => by rw [attrF]) (Ev.now b)
  | a :: l, b, hg, hs => by
    obtain ⟨g1, g2⟩ := goodA_tail hg
    obtain ⟨⟨s1, s2⟩, s3⟩ := smallA_tail hs
    have hn := nameB_size g1
    refine Ev.congr (fun k => by rw [attrF, if_pos (by omega)]) ?_
    rw [attrP]
    exact Ev.bind (escE_P a.f1 true s2) (attrF_ev l _ g2 s3)
mutual
theorem treeF_ev : ∀ (t : S36) (b : List UInt8), okT t → goodT t → Ev (fun k => treeF k t b) (ptreeE t b)
  | ⟨f0, f1, f2, f3, f4⟩, b, h, hg => by
    refine Ev.congr (fun k => by rw [treeF]) ?_
    rw [ptreeE]
    by_cases h1 : 262144 < b.length
    · simp only [if_pos h1]; exact Ev.now _
    simp only [if_neg h1]
    by_cases h2 : f0 = 2
    · simp only [if_pos h2]; exact Ev.bind (escE_P f3 false h.2.2.2.1) (Ev.now _)
    simp only [if_neg h2]
    rcases hg with ⟨g0, g1, g2, g3, g4⟩ | ⟨g0, _⟩
    case inr => exact absurd g0 h2
    have hn := nameB_size g1
    simp only [if_pos (show f1.size ≤ 100000 by omega)]
    refine Ev.bind (attrF_ev f2 _ g3 h.2.2.1.1) ?_
    by_cases h3 : f4.any solid = true
    · simp only [if_pos h3]
      exact Ev.bind (kidsF_ev f4 _ h.2.2.2.2.1 g4) (Ev.now _)
    · simp only [if_neg h3]; exact Ev.now _
theorem kidsF_ev : ∀ (l : List S36) (b : List UInt8), okK l → goodK l → Ev (fun k => kidsF k l b) (pkidsE l b)
  | [], b, _, _ => Ev.congr (fun k => by rw [kidsF]) (by rw [pkidsE]; exact Ev.now b)
  | t :: l, b, h, hg => by
    refine Ev.congr (fun k => by rw [kidsF]) ?_
    rw [pkidsE]
    exact Ev.bind (treeF_ev t b h.1 hg.1) (kidsF_ev l _ h.2 hg.2)
end
theorem attrR_len : ∀ (l : List S54) (b : List UInt8), goodA l → smallA l → (attrR l b).length ≤ b.length + l.length * 98340
  | [], b, _, _ => by rw [attrR]; simp
  | a :: l, b, hg, hs => by
    obtain ⟨g1, g2⟩ := goodA_tail hg
    obtain ⟨⟨s1, s2⟩, s3⟩ := smallA_tail hs
    have hn := nameB_size g1
    have he := escR_size a.f1 true s2
    have := attrR_len l (b ++ (⟨#[32]⟩ ++ a.f0 ++ ⟨#[61, 34]⟩ ++ (escR true a.f1).1 ++ ⟨#[34]⟩ : ByteArray).data.toList) g2 s3
    rw [attrR]
    have hz : ((⟨#[32]⟩ ++ a.f0 ++ ⟨#[61, 34]⟩ ++ (escR true a.f1).1 ++ ⟨#[34]⟩ : ByteArray).data.toList).length ≤ 98340 := by
      rw [data_length]
      simp only [ByteArray.size_append]
      show 1 + a.f0.size + 2 + (escR true a.f1).1.size + 1 ≤ 98340
      omega
    simp only [List.length_append, List.length_cons] at this ⊢
    omega
theorem rattrF_ev : ∀ (l : List S54) (b : List UInt8), goodA l → smallA l → b.length + l.length * 98340 ≤ 140737488000000 → Ev (fun k => rattrF k l b) (attrR l b)
  | [], b, _, _, _ => Ev.congr (fun k => by rw [rattrF]) (Ev.now b)
  | a :: l, b, hg, hs, hb => by
    obtain ⟨g1, g2⟩ := goodA_tail hg
    obtain ⟨⟨s1, s2⟩, s3⟩ := smallA_tail hs
    have hn := nameB_size g1
    have he := escR_size a.f1 true s2
    refine Ev.congr (fun k => by rw [rattrF, if_pos (by omega)]) ?_
    rw [attrR]
    refine Ev.bind (escE_R a.f1 true s2) ?_
    simp only [if_pos (show (escR true a.f1).1.size ≤ 1000000 by omega)]
    have hz : (⟨#[32]⟩ ++ a.f0 ++ ⟨#[61, 34]⟩ ++ (escR true a.f1).1 ++ ⟨#[34]⟩ : ByteArray).size ≤ 98340 := by
      simp only [ByteArray.size_append]
      show 1 + a.f0.size + 2 + (escR true a.f1).1.size + 1 ≤ 98340
      omega
    simp only [List.length_cons] at hb
    unfold rput
    simp only [if_pos (show b.length + (⟨#[32]⟩ ++ a.f0 ++ ⟨#[61, 34]⟩ ++ (escR true a.f1).1 ++ ⟨#[34]⟩ : ByteArray).size ≤ 140737488000000 by omega), Option.bind_some]
    refine rattrF_ev l _ g2 s3 ?_
    rw [List.length_append, data_length]
    omega
mutual
theorem rtree_len : ∀ (t : S36) (b : List UInt8), okT t → goodT t → (rtreeE t b).length ≤ b.length + nodT t * 4000000
  | ⟨f0, f1, f2, f3, f4⟩, b, h, hg => by
    rw [rtreeE, nodT]
    by_cases h2 : f0 = 2
    · have he := escR_size f3 false h.2.2.2.1
      rw [if_pos h2, if_neg (show ¬ f0 = 1 by omega), List.length_append, data_length]
      omega
    rcases hg with ⟨g0, g1, g2, g3, g4⟩ | ⟨g0, _⟩
    case inr => exact absurd g0 h2
    have hn := nameB_size g1
    have ha := attrR_len f2 (b ++ (⟨#[60]⟩ ++ f1 : ByteArray).data.toList) g3 h.2.2.1.1
    have hz : (⟨#[60]⟩ ++ f1 : ByteArray).data.toList.length ≤ 33 := by
      rw [data_length, ByteArray.size_append]
      show 1 + f1.size ≤ 33
      omega
    rw [List.length_append] at ha
    rw [if_neg h2, if_pos g0]
    by_cases h3 : hollowB f4 = true
    · rw [if_pos h3, List.length_append]
      have : (⟨#[47, 62]⟩ : ByteArray).data.toList.length = 2 := rfl
      omega
    · rw [if_neg h3, List.length_append]
      have hk := rkids_len f4 (attrR f2 (b ++ (⟨#[60]⟩ ++ f1 : ByteArray).data.toList) ++ (⟨#[62]⟩ : ByteArray).data.toList) h.2.2.2.2.1 g4
      have h1 : (⟨#[62]⟩ : ByteArray).data.toList.length = 1 := rfl
      have hy : (⟨#[60, 47]⟩ ++ f1 ++ ⟨#[62]⟩ : ByteArray).data.toList.length ≤ 35 := by
        rw [data_length, ByteArray.size_append, ByteArray.size_append]
        show 2 + f1.size + 1 ≤ 35
        omega
      rw [List.length_append] at hk
      omega
theorem rkids_len : ∀ (l : List S36) (b : List UInt8), okK l → goodK l → (rkidsE l b).length ≤ b.length + nodK l * 4000000
  | [], b, _, _ => by rw [rkidsE]; omega
  | t :: l, b, h, hg => by
    rw [rkidsE, nodK]
    by_cases h1 : b.length ≤ 262144
    · rw [if_pos h1]
      have h2 := rtree_len t b h.1 hg.1
      have h3 := rkids_len l (rtreeE t b) h.2 hg.2
      omega
    · rw [if_neg h1]; omega
end
theorem hollow_ev : ∀ (l pre : List S36), okK l → (pre ++ l).length ≤ 9000000000000000 → Ev (fun k => espalierref04_hollow.l0 k (pre ++ l) ((pre.length : Nat) : Int)) (hollowB l)
  | [], pre, _, hb => Ev.step (f := fun _ => some true) (fun k => by rw [espalierref04_hollow.l0.eq_2, if_neg (by simp)]) (Ev.now _)
  | t :: l, pre, h, hb => by
    have hw : wrap64 ((pre.length : Int) + 1) = (((pre ++ [t]).length : Nat) : Int) := by simp only [List.length_append, List.length_cons, List.length_nil] at hb ⊢; unfold wrap64; omega
    refine Ev.step (fun k => by rw [espalierref04_hollow.l0.eq_2, if_pos (by simp only [List.length_append, List.length_cons]; omega), if_pos (by omega), rd_app]) ?_
    rw [hollowB]
    by_cases h1 : t.f0 = 2
    · simp only [if_pos h1]
      by_cases h2 : t.f3.toList = ([] : List UInt8)
      · simp only [if_pos h2, hw]
        have := hollow_ev l (pre ++ [t]) h.2 (by rw [← app_step]; exact hb)
        rw [← app_step] at this
        exact this
      · simp only [if_neg h2]; exact Ev.now _
    · simp only [if_neg h1]; exact Ev.now _
theorem bound_fst {b x y C B : Nat} (hb : b + (x + y) * C ≤ B) : b + x * C ≤ B := Nat.le_trans (Nat.add_le_add_left (Nat.mul_le_mul_right C (Nat.le_add_right x y)) b) hb
theorem bound_snd {a b x y C B : Nat} (h2 : a ≤ b + x * C) (hb : b + (x + y) * C ≤ B) : a + y * C ≤ B := by
  rw [Nat.add_mul] at hb
  omega
mutual
theorem rtreeF_ev : ∀ (t : S36) (b : List UInt8), okT t → goodT t → b.length + nodT t * 4000000 ≤ 140737488000000 → Ev (fun k => rtreeF k t b) (rtreeE t b)
  | ⟨f0, f1, f2, f3, f4⟩, b, h, hg, hb => by
    refine Ev.congr (fun k => by rw [rtreeF]) ?_
    rw [rtreeE]
    rw [nodT] at hb
    by_cases h2 : f0 = 2
    · have he := escR_size f3 false h.2.2.2.1
      rw [if_neg (show ¬ f0 = 1 by omega)] at hb
      simp only [if_pos h2]
      refine Ev.bind (escE_R f3 false h.2.2.2.1) ?_
      unfold rput
      simp only [if_pos (show b.length + (escR false f3).1.size ≤ 140737488000000 by omega)]
      exact Ev.now _
    simp only [if_neg h2]
    rcases hg with ⟨g0, g1, g2, g3, g4⟩ | ⟨g0, _⟩
    case inr => exact absurd g0 h2
    rw [if_pos g0] at hb
    have hn := nameB_size g1
    simp only [if_pos (show f1.size ≤ 100000 by omega)]
    have hz : (⟨#[60]⟩ ++ f1 : ByteArray).size ≤ 33 := by
      rw [ByteArray.size_append]
      show 1 + f1.size ≤ 33
      omega
    have hzl : (⟨#[60]⟩ ++ f1 : ByteArray).data.toList.length ≤ 33 := by rw [data_length]; exact hz
    have ha := attrR_len f2 (b ++ (⟨#[60]⟩ ++ f1 : ByteArray).data.toList) g3 h.2.2.1.1
    rw [List.length_append] at ha
    rw [show rput b (⟨#[60]⟩ ++ f1) = some (b ++ (⟨#[60]⟩ ++ f1 : ByteArray).data.toList) by unfold rput; rw [if_pos (by omega)]]
    simp only [Option.bind_some]
    refine Ev.bind (rattrF_ev f2 _ g3 h.2.2.1.1 (by rw [List.length_append]; omega)) ?_
    have hho : Ev (fun k => espalierref04_hollow.f k f4) (hollowB f4) := hollow_ev f4 [] h.2.2.2.2.1 (by have := h.2.2.2.2.2; simp only [List.nil_append]; omega)
    refine Ev.bind hho ?_
    generalize attrR f2 (b ++ (⟨#[60]⟩ ++ f1 : ByteArray).data.toList) = b2 at ha
    have h2' : (⟨#[47, 62]⟩ : ByteArray).size = 2 := rfl
    have h1' : (⟨#[62]⟩ : ByteArray).size = 1 := rfl
    by_cases h3 : hollowB f4 = true
    · simp only [if_pos h3]
      unfold rput
      simp only [if_pos (show b2.length + (⟨#[47, 62]⟩ : ByteArray).size ≤ 140737488000000 by omega)]
      exact Ev.now _
    · simp only [if_neg h3]
      rw [show rput b2 ⟨#[62]⟩ = some (b2 ++ (⟨#[62]⟩ : ByteArray).data.toList) by unfold rput; rw [if_pos (by omega)]]
      simp only [Option.bind_some]
      have hl1 : (b2 ++ (⟨#[62]⟩ : ByteArray).data.toList).length = b2.length + 1 := by rw [List.length_append]; rfl
      have hl2 : (b2 ++ [62]).length = b2.length + 1 := by rw [List.length_append]; rfl
      refine Ev.bind (rkidsF_ev f4 _ h.2.2.2.2.1 g4 (by omega)) ?_
      have hk := rkids_len f4 (b2 ++ (⟨#[62]⟩ : ByteArray).data.toList) h.2.2.2.2.1 g4
      have hy : (⟨#[60, 47]⟩ ++ f1 ++ ⟨#[62]⟩ : ByteArray).size ≤ 35 := by
        rw [ByteArray.size_append, ByteArray.size_append]
        show 2 + f1.size + 1 ≤ 35
        omega
      unfold rput
      simp only [if_pos (show (rkidsE f4 (b2 ++ (⟨#[62]⟩ : ByteArray).data.toList)).length + (⟨#[60, 47]⟩ ++ f1 ++ ⟨#[62]⟩ : ByteArray).size ≤ 140737488000000 by omega)]
      exact Ev.now _
theorem rkidsF_ev : ∀ (l : List S36) (b : List UInt8), okK l → goodK l → b.length + nodK l * 4000000 ≤ 140737488000000 → Ev (fun k => rkidsF k l b) (rkidsE l b)
  | [], b, _, _, _ => Ev.congr (fun k => by rw [rkidsF]) (by rw [rkidsE]; exact Ev.now b)
  | t :: l, b, h, hg, hb => by
    refine Ev.congr (fun k => by rw [rkidsF]) ?_
    rw [rkidsE]
    rw [nodK] at hb
    by_cases h1 : b.length ≤ 262144
    · simp only [if_pos h1]
      have h2 := rtree_len t b h.1 hg.1
      have hb1 := bound_fst hb
      have hb2 := bound_snd h2 hb
      exact Ev.bind (rtreeF_ev t b h.1 hg.1 hb1) (rkidsF_ev l _ h.2 hg.2 hb2)
    · simp only [if_neg h1]; exact Ev.now _
end
/-- One, or both too long. -/
def Rel (p r : List UInt8) : Prop := p = r ∨ (262144 < p.length ∧ 262144 < r.length)
theorem Rel.put {p r : List UInt8} (h : Rel p r) (s : ByteArray) : Rel (put1 p s) (r ++ s.data.toList) := by
  unfold put1
  rcases h with rfl | ⟨h1, h2⟩
  · by_cases h : 262144 < p.length
    · rw [if_pos h]; exact .inr ⟨h, by rw [List.length_append]; omega⟩
    · rw [if_neg h]; exact .inl rfl
  · rw [if_pos h1]; exact .inr ⟨h1, by rw [List.length_append]; omega⟩
theorem data_app (a b : ByteArray) : (a ++ b).data.toList = a.data.toList ++ b.data.toList := by simp [ByteArray.data_append]
theorem Rel.attr : ∀ (l : List S54) {p r : List UInt8}, Rel p r → Rel (attrP l p) (attrR l r)
  | [], p, r, h => h
  | a :: l, p, r, h => by
    rw [attrP, attrR]
    refine Rel.attr l ?_
    have := ((((h.put ⟨#[32]⟩).put a.f0).put ⟨#[61, 34]⟩).put (escR true a.f1).1).put ⟨#[34]⟩
    simp only [data_app, ← List.append_assoc]
    exact this
theorem hollow_solid : ∀ (l : List S36), goodK l → (l.any solid = true ↔ ¬ hollowB l = true)
  | [], _ => by simp [hollowB]
  | ⟨f0, f1, f2, f3, f4⟩ :: l, h => by
    have ih := hollow_solid l h.2
    have hg := h.1
    rw [List.any_cons, hollowB]
    show ((f0 == 1 || (f3.toList != ([] : List UInt8))) || l.any solid) = true ↔ ¬ (if f0 = 2 then (if f3.toList = ([] : List UInt8) then hollowB l else false) else false) = true
    rcases hg with ⟨g0, _⟩ | ⟨g0, _⟩
    · subst g0; simp
    · subst g0
      by_cases h3 : f3.toList = ([] : List UInt8)
      · simp [h3, ih]
      · simp [h3]
theorem ptree_full (t : S36) (b : List UInt8) (h : 262144 < b.length) : ptreeE t b = b := by cases t; rw [ptreeE, if_pos h]
theorem pkids_full : ∀ (l : List S36) (b : List UInt8), 262144 < b.length → pkidsE l b = b
  | [], b, _ => rfl
  | t :: l, b, h => by rw [pkidsE, ptree_full t b h, pkids_full l b h]
mutual
theorem Rel.tree : ∀ (t : S36) (b : List UInt8), goodT t → b.length ≤ 262144 → Rel (ptreeE t b) (rtreeE t b)
  | ⟨f0, f1, f2, f3, f4⟩, b, hg, hb => by
    rw [ptreeE, rtreeE, if_neg (by omega)]
    by_cases h2 : f0 = 2
    · rw [if_pos h2, if_pos h2]
      exact Rel.put (.inl rfl) _
    rcases hg with ⟨g0, g1, g2, g3, g4⟩ | ⟨g0, _⟩
    case inr => exact absurd g0 h2
    rw [if_neg h2, if_neg h2]
    have hs := hollow_solid f4 g4
    have h1 : Rel (attrP f2 (putF b [⟨#[60]⟩, f1])) (attrR f2 (b ++ (⟨#[60]⟩ ++ f1 : ByteArray).data.toList)) := by
      refine Rel.attr f2 ?_
      have : Rel (put1 (put1 b ⟨#[60]⟩) f1) ((b ++ (⟨#[60]⟩ : ByteArray).data.toList) ++ f1.data.toList) := Rel.put (Rel.put (.inl rfl) _) _
      rw [data_app, ← List.append_assoc]
      exact this
    by_cases h3 : hollowB f4 = true
    · rw [if_pos h3, if_neg (by rw [hs]; exact fun c => c h3)]
      exact h1.put _
    · rw [if_neg h3, if_pos (hs.mpr h3)]
      have h4 := Rel.kids f4 _ _ g4 (h1.put ⟨#[62]⟩)
      have := ((h4.put ⟨#[60, 47]⟩).put f1).put ⟨#[62]⟩
      rw [show ((⟨#[60, 47]⟩ ++ f1 ++ ⟨#[62]⟩ : ByteArray).data.toList) = (⟨#[60, 47]⟩ : ByteArray).data.toList ++ f1.data.toList ++ (⟨#[62]⟩ : ByteArray).data.toList by rw [data_app, data_app], ← List.append_assoc, ← List.append_assoc]
      exact this
theorem Rel.kids : ∀ (l : List S36) (p r : List UInt8), goodK l → Rel p r → Rel (pkidsE l p) (rkidsE l r)
  | [], p, r, _, h => by rw [pkidsE, rkidsE]; exact h
  | t :: l, p, r, hg, h => by
    rw [rkidsE]
    rcases h with rfl | ⟨h1, h2⟩
    · by_cases hp : p.length ≤ 262144
      · rw [if_pos hp, pkidsE]
        exact Rel.kids l _ _ hg.2 (Rel.tree t p hg.1 hp)
      · rw [if_neg hp, pkids_full (t :: l) p (by omega)]
        exact .inl rfl
    · rw [if_neg (by omega), pkids_full (t :: l) p h1]
      exact .inr ⟨h1, h2⟩
end
/-- What Print answers. -/
def printE (l : List S36) : ByteArray × Int := if canE l = 0 then (if 262144 < (pkidsE l []).length then (⟨#[]⟩, 2) else (⟨(pkidsE l []).toArray⟩, 0)) else (⟨#[]⟩, canE l)
theorem print_evP (l : List S36) (h : okK l) (hl : l.length ≤ 9000000000000000) : Ev (fun k => markup_Print.f k l) (printE l) := by
  unfold markup_Print.f printE
  refine Ev.bind (can_evP l h hl) ?_
  by_cases h1 : canE l = 0
  · simp only [if_pos h1]
    refine Ev.bind (kidsF_ev l [] h (canE_good h1).1) ?_
    by_cases h2 : 262144 < (pkidsE l []).length
    · simp only [if_pos h2]; exact Ev.now _
    · simp only [if_neg h2]; exact Ev.now _
  · simp only [if_neg h1]; exact Ev.now _
theorem print_evR (l : List S36) (h : okK l) (hl : l.length ≤ 9000000000000000) : Ev (fun k => espalierref04_Print.f k l) (printE l) := by
  unfold espalierref04_Print.f printE
  refine Ev.bind (can_evR l h hl) ?_
  by_cases h1 : canE l = 0
  · simp only [if_pos h1]
    obtain ⟨hg, hn⟩ := canE_good h1
    have hb : ([] : List UInt8).length + nodK l * 4000000 ≤ 140737488000000 := by simp only [List.length_nil]; omega
    refine Ev.bind (rkidsF_ev l [] h hg hb) ?_
    rcases Rel.kids l [] [] hg (.inl rfl) with e | ⟨e1, e2⟩
    · rw [← e]
      by_cases h2 : 262144 < (pkidsE l []).length
      · simp only [if_pos h2]; exact Ev.now _
      · simp only [if_neg h2]; exact Ev.now _
    · simp only [if_pos e1, if_pos e2]; exact Ev.now _
  · simp only [if_neg h1]; exact Ev.now _
end Go.Proofs.YtealmfcimoomlaaDoor.PA
