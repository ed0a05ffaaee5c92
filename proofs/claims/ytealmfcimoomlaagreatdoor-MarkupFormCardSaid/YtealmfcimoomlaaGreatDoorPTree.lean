/- Texts of this claim, one behind the other: PEscape, PUnescape, PName, PTree. Conditions: those of each theorem. -/
import Derived.Test.YtealmfcimoomlaaGreatDoorPNumber
import Derived.Test.YtealmfcimoomlaaGreatDoorUEscape
import Derived.Lib.LazyBuf
import Derived.Test.YtealmfcimoomlaaGreatDoorUUnescape
import Derived.Laws.Cover4
import Derived.Test.YtealmfcimoomlaaGreatDoorPA3
/- The reference's Escape in plain Lean: byte by byte. -/
namespace Go.Proofs.YtealmfcimoomlaaGreatDoor.PA
open Go.RowKit Go.Proofs.YtealmfcimoomlaaGreatDoorW.PrintWords Go.Proofs.YtealmfcimoomlaaGreatDoorW.PrintLast Go.Proofs.YtealmfcimoomlaaGreatDoorW.PrintMore
set_option linter.unusedVariables false
set_option linter.unusedSimpArgs false
def escR (q : Bool) (s : ByteArray) : ByteArray × Int × Int := if (textR s).2 = 0 then (⟨(escAll q s.data.toList).toArray⟩, 0, 0) else (⟨#[]⟩, (textR s).1, (textR s).2)
theorem escape_eq (s : ByteArray) (q : Bool) (hn : s.size ≤ 140737488355328) (k : Nat) (hk : s.size + 2 ≤ k) : chars_Escape.f k s q = some (escR q s) := by
  unfold chars_Escape.f escR
  rw [text_eq s hn k hk, Option.bind_some]
  by_cases e : (textR s).2 = 0
  · rw [if_pos e, if_pos e, if_pos (textR_ok e).1]
  · rw [if_neg e, if_neg e]
end Go.Proofs.YtealmfcimoomlaaGreatDoor.PA

/- chars.Unescape and the reference's Unescape in plain Lean: one by one. -/
namespace Go.Proofs.YtealmfcimoomlaaGreatDoor.PA
open Go.RowKit Go.Proofs.YtealmfcimoomlaaGreatDoorW.PrintWords Go.Proofs.YtealmfcimoomlaaGreatDoorW.PrintLast Go.Proofs.YtealmfcimoomlaaGreatDoorW.PrintMore
set_option linter.unusedVariables false
set_option linter.unusedSimpArgs false
theorem pre_iff (l p : List UInt8) : Lib.hasPrefix l p = true ↔ p = l.take p.length := by
  unfold Lib.hasPrefix
  rw [List.isPrefixOf_iff_prefix, List.prefix_iff_eq_take]
def namedRes (l : List UInt8) : Int × Int × Int :=
  match refNames.find? (fun x => Lib.hasPrefix l x.1) with
  | some x => (x.2, (x.1.length : Int), 0)
  | none => (0, 0, if refNames.any (fun x => Lib.hasPrefix x.1 l) = true then 4 else 20)
theorem refNamed_eq (l : List UInt8) : refNamed l = encR (namedRes l) := by
  unfold refNamed namedRes encR
  cases refNames.find? (fun x => Lib.hasPrefix l x.1) with
  | some x => simp
  | none =>
    simp only
    by_cases h : l = [38]
    · subst h
      have : (refNames.any fun x => Lib.hasPrefix x.1 [38]) = true := by decide
      simp [this]
    · by_cases g : (refNames.any fun x => Lib.hasPrefix x.1 l) = true
      · simp [h, g]
      · simp [h, g]
def refRes (s : ByteArray) : Int × Int × Int := if 2 ≤ s.size ∧ s.get! 1 = 35 then numOf s else namedRes s.data.toList
theorem named_code {l : List UInt8} {x : List UInt8 × Int} (h : refNames.find? (fun x => Lib.hasPrefix l x.1) = some x) : canB x.2 = true ∧ 0 < x.1.length ∧ x.1.length ≤ l.length ∧ x.1.length ≤ 6 := by
  have hm := List.mem_of_find?_eq_some h
  have hp : Lib.hasPrefix l x.1 = true := by simpa using List.find?_some h
  have hl : x.1.length ≤ l.length := by
    have := congrArg List.length ((pre_iff _ _).mp hp)
    rw [List.length_take] at this
    omega
  have : canB x.2 = true ∧ 0 < x.1.length ∧ x.1.length ≤ 6 := by
    simp only [refNames, List.mem_cons, List.mem_nil_iff, or_false] at hm
    rcases hm with rfl | rfl | rfl | rfl | rfl <;> decide
  exact ⟨this.1, this.2.1, hl, this.2.2⟩
theorem reference_eq (s : ByteArray) (hn : s.size ≤ 140737488355328) (h0 : 0 < s.size) (h38 : s.get! 0 = 38) (k : Nat) (hk : 20 ≤ k) : chars_reference.f k s = some (encR (refRes s)) := by
  have hsz := Lib.size_eq s
  have g0 := get_list s 0
  have g1 := get_list s 1
  have g2 := get_list s 2
  rw [h38] at g0
  have l16 := numbered_eq s 16 3 6 (.inr rfl) hn (by omega)
  have l10 := numbered_eq s 10 2 7 (.inl rfl) hn (by omega)
  unfold chars_reference.f refRes numOf hexB numB
  rw [refNamed_eq]
  generalize s.data.toList = l at *
  rcases l with _ | ⟨a, _ | ⟨b, t⟩⟩
  · have : s.size = 0 := hsz
    omega
  · have : s.size = 1 := by simpa using hsz
    rw [if_neg (by simp [Lib.hasPrefix]), if_neg (by simp [Lib.hasPrefix]), if_neg (by omega)]
  · have ha : a = 38 := by simpa using g0.symm
    have hb : s.get! 1 = b := by simpa using g1
    have h2 : 2 ≤ s.size := by simp at hsz; omega
    subst ha
    rw [hb]
    by_cases e : b = 35
    · subst e
      rw [if_pos (show 2 ≤ s.size ∧ (35 : UInt8) = 35 from ⟨h2, rfl⟩)]
      rcases t with _ | ⟨c, t⟩
      · have hs2 : s.size = 2 := by simpa using hsz
        rw [if_neg (by simp [Lib.hasPrefix]), if_pos (by simp [Lib.hasPrefix]), if_pos hs2, if_neg (show ¬ (2 < s.size ∧ s.get! 2 = 120) by omega)]
        have : runD s 10 7 2 = 2 := by simp [runD, hs2]
        rw [this]
        unfold numRes
        rw [if_pos hs2.symm]
        rfl
      · have hc : s.get! 2 = c := by simpa using g2
        have h3 : 2 < s.size := by simp at hsz; omega
        rw [hc]
        by_cases e2 : c = 120
        · subst e2
          rw [if_pos (by simp [Lib.hasPrefix]), if_pos (show 2 < s.size ∧ (120 : UInt8) = 120 from ⟨h3, rfl⟩)]
          exact l16 (by omega) k (by omega)
        · rw [if_neg (by simp [Lib.hasPrefix]; exact fun h => e2 h.symm), if_pos (by simp [Lib.hasPrefix]), if_neg (by omega), if_neg (fun h => e2 h.2)]
          exact l10 h2 k (by omega)
    · rw [if_neg (by simp [Lib.hasPrefix]; intro h; exact absurd h.symm e), if_neg (by simp [Lib.hasPrefix]; exact fun h => e h.symm), if_neg (fun h => e h.2)]
theorem numRes_ok {s : ByteArray} {b a m : Nat} (hm : m ≤ s.size) (h : (numRes s b a m).2.2 = 0) : canB (numRes s b a m).1 = true ∧ 0 < (numRes s b a m).2.1 ∧ (numRes s b a m).2.1 ≤ s.size := by
  unfold numRes at h ⊢
  by_cases e0 : m = s.size
  · rw [if_pos e0] at h; simp at h
  rw [if_neg e0] at h ⊢
  by_cases e1 : m = a ∨ s.get! m ≠ 59
  · rw [if_pos e1] at h; simp at h
  rw [if_neg e1] at h ⊢
  by_cases e2 : canB (numVal b (seg s a m) : Int) = true
  · rw [if_pos e2]
    exact ⟨e2, by simp only; omega, by simp only; omega⟩
  · rw [if_neg e2] at h; simp at h
theorem refRes_ok {s : ByteArray} (h : (refRes s).2.2 = 0) : canB (refRes s).1 = true ∧ 0 < (refRes s).2.1 ∧ (refRes s).2.1 ≤ s.size := by
  unfold refRes at h ⊢
  by_cases e : 2 ≤ s.size ∧ s.get! 1 = 35
  · rw [if_pos e] at h ⊢
    unfold numOf at h ⊢
    by_cases e2 : 2 < s.size ∧ s.get! 2 = 120
    · rw [if_pos e2] at h ⊢
      exact numRes_ok (runD_le s 16 6 3 (by omega)).2.1 h
    · rw [if_neg e2] at h ⊢
      exact numRes_ok (runD_le s 10 7 2 e.1).2.1 h
  · rw [if_neg e] at h ⊢
    unfold namedRes at h ⊢
    cases hf : refNames.find? (fun x => Lib.hasPrefix s.data.toList x.1) with
    | some x =>
      have := named_code hf
      rw [← Lib.size_eq] at this
      exact ⟨this.1, by simp only; omega, by simp only; omega⟩
    | none =>
      rw [hf] at h
      simp only at h
      split at h <;> omega
/-- The character, or the reference, at a place: its bytes, how many bytes it has there, what is wrong. -/
def unR (s : ByteArray) (i : Nat) : ByteArray × Int × Int :=
  if s.get! i = 38 then encR (refRes (s.extract i s.size)) else if (chr s i).2 = 0 then (⟨#[]⟩, 0, 7) else (s.extract i (i + (chr s i).2), ((chr s i).2 : Int), 0)
theorem byte38 (c : UInt8) : (c.toNat : Int) = 38 ↔ c = 38 := ⟨fun h => UInt8.toNat_inj.mp (by have : (38 : UInt8).toNat = 38 := rfl; omega), fun h => by rw [h]; rfl⟩
theorem unR_ok {s : ByteArray} {i : Nat} (hi : i < s.size) : (unR s i).1.size ≤ 4 ∧ ((unR s i).2.2 = 0 → 0 < (unR s i).2.1 ∧ (i : Int) + (unR s i).2.1 ≤ s.size) := by
  unfold unR
  by_cases e : s.get! i = 38
  · rw [if_pos e]
    unfold encR
    by_cases e2 : (refRes (s.extract i s.size)).2.2 = 0
    · rw [if_pos e2]
      have := refRes_ok e2
      have hz : (s.extract i s.size).size = s.size - i := by simp
      rw [hz] at this
      exact ⟨encode_size_le _, fun _ => ⟨this.2.1, by simp only; omega⟩⟩
    · rw [if_neg e2]
      exact ⟨by simp [ByteArray.size], fun h => absurd h e2⟩
  · rw [if_neg e]
    have hl := chr_le s i hi
    by_cases e2 : (chr s i).2 = 0
    · rw [if_pos e2]; exact ⟨by simp [ByteArray.size], fun h => by simp at h⟩
    · rw [if_neg e2]
      exact ⟨by simp only [ByteArray.size_extract]; omega, fun _ => ⟨by simp only; omega, by simp only; omega⟩⟩
theorem step_eq (s : ByteArray) (i : Nat) (hi : i < s.size) (hn : s.size ≤ 140737488355328) (k : Nat) (hk : 20 ≤ k) : unescStep k s i = some (unR s i) := by
  unfold unescStep unR
  have hz : (s.extract i s.size).size = s.size - i := by simp
  rw [bt_byte s i hi]
  by_cases e : s.get! i = 38
  · rw [if_pos ((byte38 _).mpr e), if_pos e]
    exact reference_eq _ (by omega) (by omega) (by rw [get_extract]; exact e) k hk
  · rw [if_neg (fun h => e ((byte38 _).mp h)), if_neg e]
    obtain ⟨k, rfl⟩ : ∃ j, k = j + 1 := ⟨k - 1, by omega⟩
    rw [first_eq k _ (by omega), chr_extract s i (by omega)]
    have hl := chr_le s i hi
    by_cases e2 : (chr s i).2 = 0
    · rw [if_pos e2, if_pos e2, Option.bind_some, if_pos ⟨by simp, by simp; omega⟩]
      refine congrArg some (Prod.ext ?_ rfl)
      refine ByteArray.ext ?_
      simp
    · rw [if_neg e2, if_neg e2, Option.bind_some, if_pos ⟨by simp only; omega, by simp only; omega⟩]
      rfl
def unAll (s : ByteArray) : Nat → List UInt8 → Nat → ByteArray × Int × Int
  | 0, acc, _ => (⟨acc.toArray⟩, 0, 0)
  | f + 1, acc, i => if i < s.size then (if (unR s i).2.2 = 0 then (if (acc.length : Int) + (unR s i).1.size > 16384 then ((⟨#[]⟩ : ByteArray), (i : Int), 2) else unAll s f (acc ++ (unR s i).1.data.toList) (i + (unR s i).2.1.toNat)) else ((⟨#[]⟩ : ByteArray), (i : Int), (unR s i).2.2)) else (⟨acc.toArray⟩, 0, 0)
theorem unesc_loop (s : ByteArray) (hn : s.size ≤ 140737488355328) : ∀ (f k i : Nat) (acc : List UInt8), i ≤ s.size → s.size - i ≤ f → f + 21 ≤ k → unescL k s acc i = some (unAll s f acc i) := by
  intro f
  induction f with
  | zero =>
    intro k i acc h1 h2 h3
    obtain ⟨k, rfl⟩ : ∃ m, k = m + 1 := ⟨k - 1, by omega⟩
    rw [unescL.eq_2, if_neg (by omega)]
    rfl
  | succ f ih =>
    intro k i acc h1 h2 h3
    obtain ⟨k, rfl⟩ : ∃ m, k = m + 1 := ⟨k - 1, by omega⟩
    rw [unescL.eq_2, unAll]
    by_cases hi : i < s.size
    · have ho := unR_ok hi
      rw [if_pos hi, if_pos hi, step_eq s i hi hn k (by omega), Option.bind_some, if_pos (by omega)]
      by_cases e : (unR s i).2.2 = 0
      · have ho2 := ho.2 e
        rw [if_pos e, if_pos e]
        by_cases g : (acc.length : Int) + (unR s i).1.size > 16384
        · rw [if_pos g, if_pos g]
        · rw [if_neg g, if_neg g, if_pos ⟨by omega, ho2.2⟩]
          exact ih k _ _ (by omega) (by omega) (by omega)
      · rw [if_neg e, if_neg e]
    · rw [if_neg hi, if_neg hi]
theorem unescape_eq (s : ByteArray) (hn : s.size ≤ 140737488355328) (k : Nat) (hk : s.size + 21 ≤ k) : chars_Unescape.f k s = some (unAll s s.size [] 0) := by
  unfold chars_Unescape.f
  rw [if_pos hn]
  exact unesc_loop s hn s.size k 0 [] (by omega) (by omega) hk
end Go.Proofs.YtealmfcimoomlaaGreatDoor.PA

/- Names: the program's and the reference's are one. -/
namespace Go.Proofs.YtealmfcimoomlaaGreatDoor.PA
open Go.RowKit Go.Proofs.YtealmfcimoomlaaGreatDoorW.PrintWords Go.Proofs.YtealmfcimoomlaaGreatDoorW.PrintLast Go.Proofs.YtealmfcimoomlaaGreatDoorW.PrintMore
set_option linter.unusedVariables false
set_option linter.unusedSimpArgs false
theorem letter_some (c : Int) : ∃ t, chars_letter.f c = some t := by
  unfold chars_letter.f
  repeat' split
  all_goals exact ⟨_, rfl⟩
/-- A name's answer is always there, with rounds enough. -/
theorem name_ends (s : ByteArray) (hn : s.size ≤ 140737488355328) : ∀ (d k i : Nat), i ≤ s.size → s.size - i = d → d + 1 ≤ k → ∃ b, chars_Name.l0 k s (s.size : Int) (i : Int) = some b := by
  intro d
  induction d with
  | zero =>
    intro k i hi hd hk
    obtain ⟨k, rfl⟩ : ∃ m, k = m + 1 := ⟨k - 1, by omega⟩
    rw [chars_Name.l0.eq_2, if_neg (by omega)]
    exact ⟨_, rfl⟩
  | succ d ih =>
    intro k i hi hd hk
    obtain ⟨k, rfl⟩ : ∃ m, k = m + 1 := ⟨k - 1, by omega⟩
    have hw : wrap64 ((i : Int) + 1) = ((i + 1 : Nat) : Int) := by rw [wrap_in (by omega) (by omega)]; omega
    obtain ⟨t, ht⟩ := letter_some (bt s (i : Int))
    have hs := ih k (i + 1) (by omega) (by omega) (by omega)
    rw [chars_Name.l0.eq_2, if_pos (by omega), if_pos (by omega), if_pos (by omega), ht, Option.bind_some, hw]
    repeat' split
    all_goals first | exact hs | exact ⟨_, rfl⟩
theorem Name_ends (s : ByteArray) (hn : s.size ≤ 140737488355328) (k : Nat) (hk : s.size + 2 ≤ k) : ∃ b, chars_Name.f k s = some b := by
  obtain ⟨k, rfl⟩ : ∃ m, k = m + 1 := ⟨k - 1, by omega⟩
  have hj : ∀ b, ∃ r, chars_Name.j0 (k + 1) s b = some r := by
    intro b
    rw [chars_Name.j0.eq_2]
    split
    · exact ⟨_, rfl⟩
    · exact name_ends s hn s.size k 0 (by omega) (by omega) (by omega)
  have hz : s.toList = [] ↔ (s.size : Int) < 1 := by
    rw [Lib.toList_data, Lib.size_eq]
    constructor
    · intro h; rw [h]; simp
    · intro h; exact List.eq_nil_of_length_eq_zero (by omega)
  unfold chars_Name.f
  obtain ⟨t, e2⟩ := letter_some (bt s 0)
  by_cases h : (s.size : Int) < 1
  · rw [if_pos (hz.mpr h)]; exact hj _
  · rw [if_neg (fun e => h (hz.mp e))]
    by_cases h2 : (s.size : Int) > 32
    · rw [if_pos h2]; exact hj _
    · rw [if_neg h2, if_pos (by omega), e2, Option.bind_some]
      exact hj _
end Go.Proofs.YtealmfcimoomlaaGreatDoor.PA

/- Trees in plain Lean: what the writer writes. -/
namespace Go.Proofs.YtealmfcimoomlaaGreatDoor.PA
open Go.RowKit Go.Proofs.YtealmfcimoomlaaGreatDoorW.PrintWords Go.Proofs.YtealmfcimoomlaaGreatDoorW.PrintLast Go.Proofs.YtealmfcimoomlaaGreatDoorW.PrintMore
set_option linter.unusedVariables false
set_option linter.unusedSimpArgs false
instance : Inhabited S35 := ⟨z35⟩
/-- One text put, and some, one behind the other, up to so much. -/
def put1 (b : List UInt8) (s : ByteArray) : List UInt8 := if 262144 < b.length then b else b ++ s.data.toList
def putF (b : List UInt8) (xs : List ByteArray) : List UInt8 := xs.foldl put1 b
def attrF (k : Nat) : List S61 → List UInt8 → Option (List UInt8)
  | [], b => some b
  | a :: l, b => if a.f0.size ≤ 100000 then (chars_Escape.f k a.f1 true).bind fun e => attrF k l (put1 (put1 (putF b [⟨#[32]⟩, a.f0, ⟨#[61, 34]⟩]) e.1) ⟨#[34]⟩) else none
def solid (t : S35) : Bool := t.f0 == 1 || (t.f3.toList != ([] : List UInt8))
mutual
def treeF (k : Nat) : S35 → List UInt8 → Option (List UInt8)
  | ⟨f0, f1, f2, f3, f4⟩, b =>
    if 262144 < b.length then some b
    else if f0 = 2 then (chars_Escape.f k f3 false).bind fun e => some (put1 b e.1)
    else if f1.size ≤ 100000 then (attrF k f2 (putF b [⟨#[60]⟩, f1])).bind fun b1 =>
      if f4.any solid = true then (kidsF k f4 (put1 b1 ⟨#[62]⟩)).bind fun b2 => some (putF b2 [⟨#[60, 47]⟩, f1, ⟨#[62]⟩])
      else some (put1 b1 ⟨#[47, 62]⟩)
    else none
def kidsF (k : Nat) : List S35 → List UInt8 → Option (List UInt8)
  | [], b => some b
  | t :: l, b => (treeF k t b).bind fun b1 => kidsF k l b1
end
theorem tree_one (t : S35) : (⟨t.f0, t.f1, t.f2, t.f3, t.f4⟩ : S35) = t := by cases t; rfl
end Go.Proofs.YtealmfcimoomlaaGreatDoor.PA
