/- Texts of this claim, one behind the other: PM3, ULives04, PA1, UMarkLib. Conditions: those of each theorem. -/
import Derived.Test.YtealmfcimoomlaaGreatDoorUPrint
import Derived.Test.YtealmfcimoomlaaGreatDoorPTree
import Derived.Test.YtealmfcimoomlaaGreatDoorPOk
import Derived.Test.YtealmfcimoomlaaGreatDoorUBuild
import Derived.Test.YtealmfcimoomlaaGreatDoorPA4
import Derived.WalkKit
import Derived.BigCall
/- Print: the program's writing and the reference's are one, or both are too long. -/
namespace Go.Proofs.YtealmfcimoomlaaGreatDoor.PA
open Go.RowKit Go.Proofs.YtealmfcimoomlaaGreatDoorW.PrintWords Go.Proofs.YtealmfcimoomlaaGreatDoorW.PrintLast Go.Proofs.YtealmfcimoomlaaGreatDoorW.PrintMore
set_option linter.unusedVariables false
set_option linter.unusedSimpArgs false
theorem escE_P (s : ByteArray) (q : Bool) (hs : s.size ≤ 140737488351232) : Ev (fun k => chars_Escape.f k s q) (escR q s) := ⟨s.size + 2, fun k hk => escape_eq s q (by omega) k hk⟩
def attrP : List S61 → List UInt8 → List UInt8
  | [], b => b
  | a :: l, b => attrP l (put1 (put1 (putF b [⟨#[32]⟩, a.f0, ⟨#[61, 34]⟩]) (escR true a.f1).1) ⟨#[34]⟩)
def attrR : List S61 → List UInt8 → List UInt8
  | [], b => b
  | a :: l, b => attrR l (b ++ (⟨#[32]⟩ ++ a.f0 ++ ⟨#[61, 34]⟩ ++ (escR true a.f1).1 ++ ⟨#[34]⟩ : ByteArray).data.toList)
def hollowB : List S35 → Bool
  | [] => true
  | t :: l => if t.f0 = 2 then (if t.f3.toList = ([] : List UInt8) then hollowB l else false) else false
mutual
def ptreeE : S35 → List UInt8 → List UInt8
  | ⟨f0, f1, f2, f3, f4⟩, b =>
    if 262144 < b.length then b
    else if f0 = 2 then put1 b (escR false f3).1
    else if f4.any solid = true then putF (pkidsE f4 (put1 (attrP f2 (putF b [⟨#[60]⟩, f1])) ⟨#[62]⟩)) [⟨#[60, 47]⟩, f1, ⟨#[62]⟩]
    else put1 (attrP f2 (putF b [⟨#[60]⟩, f1])) ⟨#[47, 62]⟩
def pkidsE : List S35 → List UInt8 → List UInt8
  | [], b => b
  | t :: l, b => pkidsE l (ptreeE t b)
end
mutual
def rtreeE : S35 → List UInt8 → List UInt8
  | ⟨f0, f1, f2, f3, f4⟩, b =>
    if f0 = 2 then b ++ (escR false f3).1.data.toList
    else if hollowB f4 = true then attrR f2 (b ++ (⟨#[60]⟩ ++ f1 : ByteArray).data.toList) ++ (⟨#[47, 62]⟩ : ByteArray).data.toList
    else rkidsE f4 (attrR f2 (b ++ (⟨#[60]⟩ ++ f1 : ByteArray).data.toList) ++ (⟨#[62]⟩ : ByteArray).data.toList) ++ (⟨#[60, 47]⟩ ++ f1 ++ ⟨#[62]⟩ : ByteArray).data.toList
def rkidsE : List S35 → List UInt8 → List UInt8
  | [], b => b
  | t :: l, b => if b.length ≤ 262144 then rkidsE l (rtreeE t b) else b
end
def goodA (l : List S61) : Prop := ∀ a ∈ l, nameB a.f0 = true ∧ textE a.f1 = 0
theorem goodA_tail {a : S61} {l : List S61} (h : goodA (a :: l)) : nameB a.f0 = true ∧ goodA l := ⟨(h a List.mem_cons_self).1, fun x hx => h x (List.mem_cons_of_mem _ hx)⟩
theorem smallA_tail {a : S61} {l : List S61} (h : smallA (a :: l)) : (a.f0.size ≤ 140737488351232 ∧ a.f1.size ≤ 140737488351232) ∧ smallA l := ⟨h a List.mem_cons_self, fun x hx => h x (List.mem_cons_of_mem _ hx)⟩
theorem attrF_ev : ∀ (l : List S61) (b : List UInt8), goodA l → smallA l → Ev (fun k => attrF k l b) (attrP l b)
  | [], b, _, _ => Ev.congr (fun k => by rw [attrF]) (Ev.now b)
  | a :: l, b, hg, hs => by
    obtain ⟨g1, g2⟩ := goodA_tail hg
    obtain ⟨⟨s1, s2⟩, s3⟩ := smallA_tail hs
    have hn := nameB_size g1
    refine Ev.congr (fun k => by rw [attrF, if_pos (by omega)]) ?_
    rw [attrP]
    exact Ev.bind (escE_P a.f1 true s2) (attrF_ev l _ g2 s3)
mutual
theorem treeF_ev : ∀ (t : S35) (b : List UInt8), okT t → goodT t → Ev (fun k => treeF k t b) (ptreeE t b)
  | ⟨f0, f1, f2, f3, f4⟩, b, h, hg => by
    refine Ev.congr (fun k => by rw [treeF]) ?_
    rw [ptreeE]
    by_cases h1 : 262144 < b.length
    · simp only [if_pos h1]; exact Ev.now _
    simp only [if_neg h1]
    by_cases h2 : f0 = 2
    · simp only [if_pos h2]; exact Ev.bind (escE_P f3 false h.2.2.2.1) (Ev.now _)
    simp only [if_neg h2]
    rcases hg with ⟨g0, g1, g2, g3, g4⟩ | ⟨g0, _⟩
    case inr => exact absurd g0 h2
    have hn := nameB_size g1
    simp only [if_pos (show f1.size ≤ 100000 by omega)]
    refine Ev.bind (attrF_ev f2 _ g3 h.2.2.1.1) ?_
    by_cases h3 : f4.any solid = true
    · simp only [if_pos h3]
      exact Ev.bind (kidsF_ev f4 _ h.2.2.2.2.1 g4) (Ev.now _)
    · simp only [if_neg h3]; exact Ev.now _
theorem kidsF_ev : ∀ (l : List S35) (b : List UInt8), okK l → goodK l → Ev (fun k => kidsF k l b) (pkidsE l b)
  | [], b, _, _ => Ev.congr (fun k => by rw [kidsF]) (by rw [pkidsE]; exact Ev.now b)
  | t :: l, b, h, hg => by
    refine Ev.congr (fun k => by rw [kidsF]) ?_
    rw [pkidsE]
    exact Ev.bind (treeF_ev t b h.1 hg.1) (kidsF_ev l _ h.2 hg.2)
end
/-- One, or both too long. -/
def Rel (p r : List UInt8) : Prop := p = r ∨ (262144 < p.length ∧ 262144 < r.length)
theorem Rel.put {p r : List UInt8} (h : Rel p r) (s : ByteArray) : Rel (put1 p s) (r ++ s.data.toList) := by
  unfold put1
  rcases h with rfl | ⟨h1, h2⟩
  · by_cases h : 262144 < p.length
    · rw [if_pos h]; exact .inr ⟨h, by rw [List.length_append]; omega⟩
    · rw [if_neg h]; exact .inl rfl
  · rw [if_pos h1]; exact .inr ⟨h1, by rw [List.length_append]; omega⟩
theorem data_app (a b : ByteArray) : (a ++ b).data.toList = a.data.toList ++ b.data.toList := by simp [ByteArray.data_append]
theorem Rel.attr : ∀ (l : List S61) {p r : List UInt8}, Rel p r → Rel (attrP l p) (attrR l r)
  | [], p, r, h => h
  | a :: l, p, r, h => by
    rw [attrP, attrR]
    refine Rel.attr l ?_
    have := ((((h.put ⟨#[32]⟩).put a.f0).put ⟨#[61, 34]⟩).put (escR true a.f1).1).put ⟨#[34]⟩
    simp only [data_app, ← List.append_assoc]
    exact this
theorem hollow_solid : ∀ (l : List S35), goodK l → (l.any solid = true ↔ ¬ hollowB l = true)
  | [], _ => by simp [hollowB]
  | ⟨f0, f1, f2, f3, f4⟩ :: l, h => by
    have ih := hollow_solid l h.2
    have hg := h.1
    rw [List.any_cons, hollowB]
    show ((f0 == 1 || (f3.toList != ([] : List UInt8))) || l.any solid) = true ↔ ¬ (if f0 = 2 then (if f3.toList = ([] : List UInt8) then hollowB l else false) else false) = true
    rcases hg with ⟨g0, _⟩ | ⟨g0, _⟩
    · subst g0; simp
    · subst g0
      by_cases h3 : f3.toList = ([] : List UInt8)
      · simp [h3, ih]
      · simp [h3]
theorem ptree_full (t : S35) (b : List UInt8) (h : 262144 < b.length) : ptreeE t b = b := by cases t; rw [ptreeE, if_pos h]
theorem pkids_full : ∀ (l : List S35) (b : List UInt8), 262144 < b.length → pkidsE l b = b
  | [], b, _ => rfl
  | t :: l, b, h => by rw [pkidsE, ptree_full t b h, pkids_full l b h]
mutual
theorem Rel.tree : ∀ (t : S35) (b : List UInt8), goodT t → b.length ≤ 262144 → Rel (ptreeE t b) (rtreeE t b)
  | ⟨f0, f1, f2, f3, f4⟩, b, hg, hb => by
    rw [ptreeE, rtreeE, if_neg (by omega)]
    by_cases h2 : f0 = 2
    · rw [if_pos h2, if_pos h2]
      exact Rel.put (.inl rfl) _
    rcases hg with ⟨g0, g1, g2, g3, g4⟩ | ⟨g0, _⟩
    case inr => exact absurd g0 h2
    rw [if_neg h2, if_neg h2]
    have hs := hollow_solid f4 g4
    have h1 : Rel (attrP f2 (putF b [⟨#[60]⟩, f1])) (attrR f2 (b ++ (⟨#[60]⟩ ++ f1 : ByteArray).data.toList)) := by
      refine Rel.attr f2 ?_
      have : Rel (put1 (put1 b ⟨#[60]⟩) f1) ((b ++ (⟨#[60]⟩ : ByteArray).data.toList) ++ f1.data.toList) := Rel.put (Rel.put (.inl rfl) _) _
      rw [data_app, ← List.append_assoc]
      exact this
    by_cases h3 : hollowB f4 = true
    · rw [if_pos h3, if_neg (by rw [hs]; exact fun c => c h3)]
      exact h1.put _
    · rw [if_neg h3, if_pos (hs.mpr h3)]
      have h4 := Rel.kids f4 _ _ g4 (h1.put ⟨#[62]⟩)
      have := ((h4.put ⟨#[60, 47]⟩).put f1).put ⟨#[62]⟩
      rw [show ((⟨#[60, 47]⟩ ++ f1 ++ ⟨#[62]⟩ : ByteArray).data.toList) = (⟨#[60, 47]⟩ : ByteArray).data.toList ++ f1.data.toList ++ (⟨#[62]⟩ : ByteArray).data.toList by rw [data_app, data_app], ← List.append_assoc, ← List.append_assoc]
      exact this
theorem Rel.kids : ∀ (l : List S35) (p r : List UInt8), goodK l → Rel p r → Rel (pkidsE l p) (rkidsE l r)
  | [], p, r, _, h => by rw [pkidsE, rkidsE]; exact h
  | t :: l, p, r, hg, h => by
    rw [rkidsE]
    rcases h with rfl | ⟨h1, h2⟩
    · by_cases hp : p.length ≤ 262144
      · rw [if_pos hp, pkidsE]
        exact Rel.kids l _ _ hg.2 (Rel.tree t p hg.1 hp)
      · rw [if_neg hp, pkids_full (t :: l) p (by omega)]
        exact .inl rfl
    · rw [if_neg (by omega), pkids_full (t :: l) p h1]
      exact .inr ⟨h1, h2⟩
end
/-- What Print answers. -/
def printE (l : List S35) : ByteArray × Int := if canE l = 0 then (if 262144 < (pkidsE l []).length then (⟨#[]⟩, 2) else (⟨(pkidsE l []).toArray⟩, 0)) else (⟨#[]⟩, canE l)
theorem print_evP (l : List S35) (h : okK l) (hl : l.length ≤ 9000000000000000) : Ev (fun k => markup_Print.f k l) (printE l) := by
  unfold markup_Print.f printE
  refine Ev.bind (can_evP l h hl) ?_
  by_cases h1 : canE l = 0
  · simp only [if_pos h1]
    refine Ev.bind (kidsF_ev l [] h (canE_good h1).1) ?_
    by_cases h2 : 262144 < (pkidsE l []).length
    · simp only [if_pos h2]; exact Ev.now _
    · simp only [if_neg h2]; exact Ev.now _
  · simp only [if_neg h1]; exact Ev.now _
end Go.Proofs.YtealmfcimoomlaaGreatDoor.PA

/- espalierlaw04.lives: the document's examples. -/
namespace Go.Proofs.YtealmfcimoomlaaGreatDoor.PA
open Go.RowKit Go.Proofs.YtealmfcimoomlaaGreatDoorW.PrintWords Go.Proofs.YtealmfcimoomlaaGreatDoorW.PrintLast Go.Proofs.YtealmfcimoomlaaGreatDoorW.PrintMore
set_option linter.unusedVariables false
set_option linter.unusedSimpArgs false
theorem Env.at_ {B : Nat} {w : World} (h : Env B w) : Env w.heap.size w := ⟨w, rfl, h.g1, h.g2, h.g3, Below.refl _ _⟩
theorem lt_of_cell {w : World} {g j : Nat} {v : Value} (h : w.cell? ⟨g, j, none⟩ = some v) : g < w.heap.size := World.block_lt_of_cell? w ⟨g, j, none⟩ h
theorem cell_below {w w' : World} (h : Below w.heap.size w w') {g j : Nat} (hg : g < w.heap.size) : w'.cell? ⟨g, j, none⟩ = w.cell? ⟨g, j, none⟩ := World.cell?_of_block (a := ⟨g, j, none⟩) (h.block g hg)
def exT : TreeS := ⟨1, ⟨#[97]⟩, [⟨⟨#[98]⟩, ⟨#[49]⟩⟩], ⟨#[]⟩, [⟨2, ⟨#[]⟩, [], ⟨#[120, 122]⟩, []⟩, ⟨1, ⟨#[99]⟩, [], ⟨#[]⟩, []⟩]⟩
set_option maxRecDepth 100000 in
theorem ex_parse : parseF ⟨#[60, 97, 32, 98, 61, 39, 49, 39, 62, 120, 60, 33, 45, 45, 32, 121, 32, 45, 45, 62, 122, 60, 99, 47, 62, 60, 47, 97, 62]⟩ = ([exT], 0, 0) := by kernel_rfl
set_option maxRecDepth 100000 in
theorem ex_fails : parseF ⟨#[60, 97, 62, 60, 47, 98, 62]⟩ = ([], 3, 40) := by kernel_rfl
set_option maxRecDepth 100000 in
theorem ex_print : printE [exT] = (⟨#[60, 97, 32, 98, 61, 34, 49, 34, 62, 120, 122, 60, 99, 47, 62, 60, 47, 97, 62]⟩, 0) := by kernel_rfl
theorem ex_ok : okK [exT] := by
  refine ⟨⟨by decide, by decide, ⟨fun a ha => ?_, by decide⟩, by decide, ⟨⟨by decide, by decide, ⟨fun a ha => (List.not_mem_nil ha).elim, by decide⟩, by decide, trivial, by decide⟩, ⟨by decide, by decide, ⟨fun a ha => (List.not_mem_nil ha).elim, by decide⟩, by decide, trivial, by decide⟩, trivial⟩, by decide⟩, trivial⟩
  rw [List.mem_singleton.mp ha]
  exact ⟨by decide, by decide⟩
set_option maxHeartbeats 16000000 in
set_option maxRecDepth 100000 in
theorem lives_calls (w : World) (hE : Env w.heap.size w) :
    Calls Tryz.prog 13 #[] w fun x w' => x = .returned (.bool true) ∧ Below w.heap.size w w' := by
  have HE := Aside0.mk hE
  have C1 := Aside0.mk (Parse_calls ⟨#[60, 97, 32, 98, 61, 39, 49, 39, 62, 120, 60, 33, 45, 45, 32, 121, 32, 45, 45, 62, 122, 60, 99, 47, 62, 60, 47, 97, 62]⟩ w hE)
  rw [ex_parse] at C1
  clear hE
  go_enter Tryz.func13, Tryz.ntmps13
  go_wp2_with (go_at_call 10; refine C1.out.mono ?_; rintro x w1 ⟨v, rfl, hR, hB⟩; have HB := Aside0.mk hB; have HR := Aside0.mk hR; clear hR hB C1)
  obtain ⟨A, c, e⟩ : ∃ A c, v = .slice A 1 c := Kd.R_slice HR.out
  subst e
  obtain ⟨g, cur, rfl, -, -, -, -, -⟩ := tree_row (n := 0) HR.out
  have hrd := Kd.R_reads' HR.out
  have hC := hrd.2.2
  have hC0 : w1.cell? ⟨g, 0, none⟩ = some (.int .i64 1) := by
    obtain ⟨ad, _, _, _, _, e, h0, -⟩ := at_T35 hC 0 (by decide) (by decide)
    obtain rfl := Option.some.inj e
    exact h0
  obtain ⟨k, hk⟩ := print_evP [exT] ex_ok (by decide)
  have hp := hk k (Nat.le_refl _)
  rw [ex_print] at hp
  have C2 := Aside0.mk (show Calls _ _ #[.slice (some ⟨g, 0, none⟩) 1 c] _ _ from markup_Print.calls k (some ⟨g, 0, none⟩) c [exT] _ 0 w1 hC hrd.2.1 hp (HE.out.step HB.out).g1)
  have HC := Aside0.mk hC0
  clear hrd hk hp hC hC0
  go_wp2_with (go_at_call 17; refine C2.out.mono ?_; rintro x w2 ⟨rfl, hB2⟩; have HB2 := Aside0.mk hB2; clear hB2 C2)
  have HC2 := Aside0.mk ((cell_below HB2.out (lt_of_cell HC.out)).trans HC.out)
  have C3 := Aside0.mk (Parse_calls ⟨#[60, 97, 62, 60, 47, 98, 62]⟩ w2 ((HE.out.step HB.out).step (HB2.out.mono HB.out.size)).at_)
  rw [ex_fails] at C3
  go_wp2_with (go_at_call 10; refine C3.out.mono ?_; rintro x w3 ⟨v, rfl, hR, hB3⟩; have HB3 := Aside0.mk hB3; obtain ⟨A3, c3, e⟩ : ∃ A c, v = .slice A 0 c := Kd.R_slice hR; subst e; have hc3 := (cell_below hB3 (lt_of_cell HC2.out)).trans HC2.out; clear hR hB3 C3)
  go_ret
  exact ⟨rfl, HB.out.trans ((HB2.out.trans (HB3.out.mono HB2.out.size)).mono HB.out.size)⟩
end Go.Proofs.YtealmfcimoomlaaGreatDoor.PA

-- Written by a program of this session (wip/tools/xprint.py: the kit's print, with given functions). Not trusted: Lean checks it.
-- squeezed
namespace Go.Proofs.YtealmfcimoomlaaGreatDoor.PA
open Go.RowKit Go.Proofs.YtealmfcimoomlaaGreatDoorW.PrintWords Go.Proofs.YtealmfcimoomlaaGreatDoorW.PrintLast Go.Proofs.YtealmfcimoomlaaGreatDoorW.PrintMore
attribute [local go_sem] max2_int min2_int max_two min_two max_three min_three max_four min_four   -- for this text's walks alone
set_option linter.unusedVariables false
set_option linter.unusedSimpArgs false

theorem eqA61 (d : Nat) (w : World) (x0 y0 : ByteArray) (x1 y1 : ByteArray) :
  (Op.equalIn (d + 2) 61 (.agg #[.string x0, .string x1]) (.agg #[.string y0, .string y1])).run Tryz.prog w = .ok (x0.toList == y0.toList && (x1.toList == y1.toList)) w := by
 refine eqA_of Tryz.underlying61 (by kernel_rfl) ?_
 refine eqf_cons (by rfl) (by go_simp; rfl) (by go_simp; rfl) (by go_simp) ?_
 exact eqf_last (by rfl) (by go_simp; rfl) (by go_simp; rfl) (by go_simp)
end Go.Proofs.YtealmfcimoomlaaGreatDoor.PA

/- Library functions that markup calls, by the shelf's contracts: strings.Count of one byte, strings.LastIndexByte. -/
namespace Go.Proofs.YtealmfcimoomlaaGreatDoor.PA
open Go.RowKit Go.Proofs.YtealmfcimoomlaaGreatDoorW.PrintWords Go.Proofs.YtealmfcimoomlaaGreatDoorW.PrintLast Go.Proofs.YtealmfcimoomlaaGreatDoorW.PrintMore
set_option linter.unusedVariables false
set_option linter.unusedSimpArgs false
def strings_Count.f (a0 a1 : ByteArray) : Option Int := if a1 = ⟨#[10]⟩ then some (Lib.countByte a0.data.toList 10) else none
theorem strings_Count.calls (a0 a1 : ByteArray) (r : Int) (w : World) (h : strings_Count.f a0 a1 = some r) :
    Calls Tryz.prog 34 #[.string a0, .string a1] w fun e w' => e = .returned (.int .i64 r) ∧ Below w.heap.size w w' := by
  unfold strings_Count.f at h
  by_cases hs : a1 = ⟨#[10]⟩
  · rw [if_pos hs] at h
    obtain rfl := Option.some.inj h
    subst hs
    refine (Tryz.strings_Count_one a0 10 w).mono ?_
    rintro e w' ⟨rfl, rfl⟩
    exact ⟨rfl, Below.refl _ _⟩
  · rw [if_neg hs] at h; cases h
def strings_LastIndexByte.f (a0 : ByteArray) (a1 : Int) : Option Int := if a0.size < 4611686018427387904 then some (Lib.lastIndexByte a0 a1) else none
theorem strings_LastIndexByte.calls (a0 : ByteArray) (a1 : Int) (r : Int) (w : World) (h : strings_LastIndexByte.f a0 a1 = some r) :
    Calls Tryz.prog 35 #[.string a0, .int .u8 a1] w fun e w' => e = .returned (.int .i64 r) ∧ Below w.heap.size w w' := by
  unfold strings_LastIndexByte.f at h
  by_cases hs : a0.size < 4611686018427387904
  · rw [if_pos hs] at h
    obtain rfl := Option.some.inj h
    refine (Tryz.strings_LastIndexByte a0 a1 hs w).mono ?_
    rintro e w' ⟨rfl, rfl⟩
    exact ⟨rfl, Below.refl _ _⟩
  · rw [if_neg hs] at h; cases h
end Go.Proofs.YtealmfcimoomlaaGreatDoor.PA
