/- Texts of this claim, one behind the other: PChars, PName. Conditions: those of each theorem. -/
import Derived.Test.YtealmfcimoomlaaDoorPA3
import Derived.Lib.DecodeNEq
import Derived.Lib.LazyBuf
import Derived.Lib.RuneCountTail
import Derived.Test.YtealmfcimoomlaaDoorPA2
import Derived.Test.YtealmfcimoomlaaDoorPA8
/- Characters in plain Lean: what stands at a place of a text, by Go's decoder and by the reference; which texts can be. -/
namespace Go.Proofs.YtealmfcimoomlaaDoor.PA
open Go.RowKit Go.Proofs.YtealmfcimoomlaaDoorW.PrintWords Go.Proofs.YtealmfcimoomlaaDoorW.PrintLast Go.Proofs.YtealmfcimoomlaaDoorW.PrintMore
set_option linter.unusedVariables false
set_option linter.unusedSimpArgs false
/-- Whether a character can be. -/
def canB (r : Int) : Bool := decide (r = 9 ∨ r = 10 ∨ r = 13 ∨ (32 ≤ r ∧ r ≤ 55295) ∨ (57344 ≤ r ∧ r ≤ 65533) ∨ (65536 ≤ r ∧ r ≤ 1114111))
/-- The character that begins at a place, and its bytes; (0, 0): none that can be. -/
def chr (s : ByteArray) (i : Nat) : Nat × Nat :=
  if (Utf8.decode s i).1 = 65533 ∧ (Utf8.decode s i).2 = 1 then (0, 0) else if canB ((Utf8.decode s i).1 : Int) = true then Utf8.decode s i else (0, 0)
theorem wrap_in {n : Int} (h0 : -9223372036854775808 ≤ n) (h1 : n ≤ 9223372036854775807) : wrap64 n = n := by unfold wrap64; omega
theorem canB_can (k : Nat) (r : Int) : chars_can.f (k + 1) r = some (canB r) := by
  unfold chars_can.f canB
  simp only [chars_can.j0]
  by_cases h9 : r = 9
  · subst h9; simp
  by_cases h10 : r = 10
  · subst h10; simp
  by_cases h13 : r = 13
  · subst h13; simp
  simp only [h9, h10, h13, if_false, beq_iff_eq, false_or]
  repeat' split
  all_goals (simp only [Option.some.injEq]; first | (symm; rw [decide_eq_true_iff]; omega) | (symm; rw [decide_eq_false_iff_not]; omega) | (rw [decide_eq_decide]; omega))
theorem bt_byte (s : ByteArray) (i : Nat) (h : i < s.size) : bt s (i : Int) = ((s.get! i).toNat : Int) := by
  rw [Utf8W.get!_of_lt s i h]
  unfold bt
  rw [dif_pos (by simpa using h)]
  simp
theorem byte_lt (s : ByteArray) (i : Nat) : (s.get! i).toNat < 256 := (s.get! i).toNat_lt
/-- A character in the form of the two numbers. -/
def chrOf (d : Nat × Nat) : Nat × Nat := if d.1 = 65533 ∧ d.2 = 1 then (0, 0) else if canB (d.1 : Int) = true then d else (0, 0)
theorem chr_eq (s : ByteArray) (i : Nat) : chr s i = chrOf (Lib.decodeN (s.size - i) (s.get! i).toNat (s.get! (i + 1)).toNat (s.get! (i + 2)).toNat (s.get! (i + 3)).toNat) := by
  unfold chr
  rw [Lib.decode_at]
  rfl
def sizeR (r : Int) : Int := if r < 128 then 1 else if r < 2048 then 2 else if r < 65536 then 3 else 4
theorem chrOf_wide (v w : Nat) (hw : 2 ≤ w) : chrOf (v, w) = if canB (v : Int) = true then (v, w) else (0, 0) := by
  unfold chrOf
  rw [if_neg (fun h => by have h2 : w = 1 := h.2; omega)]
theorem fin_ (v w : Nat) (c : Prop) [Decidable c] (h1 : c → sizeR v = w) (h2 : ¬ c → ¬ (canB (v : Int) = true ∧ sizeR v = w)) (hw : 2 ≤ w) :
    (if canB (v : Int) = true ∧ sizeR v = (w : Int) then some ((v : Int), (w : Int)) else some (0, 0)) = some (((chrOf (if c then (v, w) else (65533, 1))).1 : Int), ((chrOf (if c then (v, w) else (65533, 1))).2 : Int)) := by
  by_cases hc : c
  · rw [if_pos hc, chrOf_wide v w hw]
    have e := h1 hc
    by_cases hb : canB (v : Int) = true
    · rw [if_pos ⟨hb, e⟩, if_pos hb]
    · rw [if_neg (fun h => hb h.1), if_neg hb]; rfl
  · rw [if_neg hc, if_neg (h2 hc)]; rfl
/-- Its bytes lie in the text. -/
theorem chr_le (s : ByteArray) (i : Nat) (h : i < s.size) : i + (chr s i).2 ≤ s.size ∧ (chr s i).2 ≤ 4 := by
  rw [chr_eq]
  generalize (s.get! i).toNat = b0
  generalize (s.get! (i + 1)).toNat = b1
  generalize (s.get! (i + 2)).toNat = b2
  generalize (s.get! (i + 3)).toNat = b3
  have hw : (Lib.decodeN (s.size - i) b0 b1 b2 b3).2 ≤ s.size - i ∧ (Lib.decodeN (s.size - i) b0 b1 b2 b3).2 ≤ 4 := by
    unfold Lib.decodeN
    repeat' split
    all_goals (simp only; omega)
  unfold chrOf
  repeat' split
  all_goals first | omega | (simp only; omega)
theorem decode_pos (s : ByteArray) (i : Nat) : (Utf8.decode s i).2 ≠ 0 := by
  rw [Lib.decode_at]
  unfold Lib.decodeN
  repeat' split
  all_goals (simp only; omega)
theorem decode_big (s : ByteArray) (i : Nat) : (Utf8.decode s i).1 ≤ 1114111 := by
  rw [Lib.decode_at]
  have := byte_lt s i
  unfold Lib.decodeN
  repeat' split
  all_goals (simp only; omega)
/-- chars.first: the character with which a text begins. -/
theorem first_eq (k : Nat) (s : ByteArray) (h : 0 < s.size) : chars_first.f (k + 1) s = some (if (chr s 0).2 = 0 then (0, 0, 7) else (((chr s 0).1 : Int), ((chr s 0).2 : Int), 0)) := by
  have hp := decode_pos s 0
  have hbg := decode_big s 0
  have hd : Lib.decodeGo s = Utf8.decode s 0 := by unfold Lib.decodeGo; rw [if_neg (by omega)]
  unfold chars_first.f utf8_DecodeRuneInString.f
  rw [hd]
  unfold chr
  generalize Utf8.decode s 0 = d at *
  obtain ⟨r, n⟩ := d
  simp only [Option.bind_some] at *
  rw [wrap_in (n := (r : Int)) (by omega) (by omega), canB_can]
  simp only [Option.bind_some]
  rw [if_neg (show ¬ (n : Int) = 0 by omega)]
  by_cases hb : canB (r : Int) = true
  · by_cases e : r = 65533
    · subst e
      by_cases e2 : n = 1
      · subst e2; simp
      · have : ¬ (n : Int) = 1 := by omega
        simp [this, e2, (show canB 65533 = true by decide), hp]
    · have : ¬ (r : Int) = 65533 := by omega
      simp [this, e, hb, hp]
  · by_cases e : r = 65533
    · subst e
      exact absurd (by decide) hb
    · have : ¬ (r : Int) = 65533 := by omega
      simp [this, e, hb]
theorem first_none (k : Nat) (s : ByteArray) (h : s.size = 0) : chars_first.f k s = some (0, 0, 4) := by
  unfold chars_first.f utf8_DecodeRuneInString.f Lib.decodeGo
  rw [if_pos h]
  rfl
theorem get_extract (s : ByteArray) (i j : Nat) : (s.extract i s.size).get! j = s.get! (i + j) := Lib.tail_get! s i j
theorem chr_extract (s : ByteArray) (i : Nat) (h : i ≤ s.size) : chr (s.extract i s.size) 0 = chr s i := by
  rw [chr_eq, chr_eq, get_extract, get_extract, get_extract, get_extract]
  congr 2
  simp
/-- The first place at which no character that can be begins. -/
def scanT (s : ByteArray) : Nat → Nat → Option Nat
  | 0, _ => none
  | f + 1, i => if i < s.size then (if (chr s i).2 = 0 then some i else scanT s f (i + (chr s i).2)) else none
def scanR : Option Nat → Int × Int
  | none => (0, 0)
  | some j => ((j : Int), 7)
/-- Whether a text can be; else the place, and the error. -/
def textR (s : ByteArray) : Int × Int := if s.size > 16384 then (0, 2) else scanR (scanT s s.size 0)
theorem text_loop (s : ByteArray) (hn : s.size ≤ 140737488355328) : ∀ (f k i : Nat), i ≤ s.size → s.size - i ≤ f → f + 2 ≤ k → chars_text.l0 k s i = some (scanR (scanT s f i)) := by
  intro f
  induction f with
  | zero =>
    intro k i h1 h2 h3
    obtain ⟨k, rfl⟩ : ∃ m, k = m + 1 := ⟨k - 1, by omega⟩
    simp only [chars_text.l0]
    rw [if_neg (by omega)]
    rfl
  | succ f ih =>
    intro k i h1 h2 h3
    obtain ⟨k, rfl⟩ : ∃ m, k = m + 2 := ⟨k - 2, by omega⟩
    simp only [chars_text.l0, scanT]
    by_cases hi : i < s.size
    · have hle := chr_le s i hi
      rw [if_pos (show (i : Int) < s.size by omega), if_pos (by omega), if_pos (by omega), if_pos hi]
      rw [show ((i : Int)).toNat = i from by omega, first_eq k _ (by simp; omega), chr_extract s i h1]
      by_cases e : (chr s i).2 = 0
      · rw [if_pos e, if_pos e]
        simp only [Option.bind_some]
        rw [if_neg (by omega)]
        rfl
      · rw [if_neg e, if_neg e, Option.bind_some, if_pos rfl]
        exact (congrArg (chars_text.l0 (k + 1) s) (show wrap64 ((i : Int) + ((chr s i).2 : Int)) = ((i + (chr s i).2 : Nat) : Int) by rw [wrap_in (by omega) (by omega)]; omega)).trans (ih (k + 1) (i + (chr s i).2) (by omega) (by omega) (by omega))
    · rw [if_neg (show ¬ (i : Int) < s.size by omega), if_neg hi]
      rfl
/-- chars.text, and the reference's Text. -/
theorem text_eq (s : ByteArray) (hn : s.size ≤ 140737488355328) (k : Nat) (hk : s.size + 2 ≤ k) : chars_text.f k s = some (textR s) := by
  unfold chars_text.f textR
  by_cases h : s.size > 16384
  · rw [if_pos (by omega), if_pos h]
  · rw [if_neg (by omega), if_neg h]
    exact text_loop s hn s.size k 0 (by omega) (by omega) hk
theorem textR_ok {s : ByteArray} (h : (textR s).2 = 0) : s.size ≤ 16384 ∧ scanT s s.size 0 = none ∧ (textR s).1 = 0 := by
  unfold textR at h ⊢
  by_cases g : s.size > 16384
  · rw [if_pos g] at h; simp at h
  · rw [if_neg g] at h ⊢
    refine ⟨by omega, ?_⟩
    cases e : scanT s s.size 0 with
    | none => exact ⟨rfl, rfl⟩
    | some j => rw [e] at h; simp [scanR] at h
theorem get_list (s : ByteArray) (i : Nat) : s.get! i = s.data.toList.getD i 0 := by
  by_cases h : i < s.size
  · rw [Utf8W.get!_of_lt s i h, List.getD_eq_getElem?_getD, List.getElem?_eq_getElem (by rw [← Lib.size_eq]; exact h)]
    rfl
  · have g : s.get! i = 0 := by
      show s.data[i]! = 0
      exact (getElem!_neg s.data i (show ¬ i < s.data.size from h)).trans rfl
    rw [g, List.getD_eq_getElem?_getD, List.getElem?_eq_none (by rw [← Lib.size_eq]; omega)]
    rfl
theorem toList_mk (l : List UInt8) : (⟨l.toArray⟩ : ByteArray).toList = l := by rw [Lib.toList_data]
def numsL (l : List UInt8) : List Int := l.map fun b => (b.toNat : Int)
theorem bytesOf_eq (s : ByteArray) : bytesOf s = numsL s.data.toList := rfl
theorem numsL_app (a b : List UInt8) : numsL (a ++ b) = numsL a ++ numsL b := by simp [numsL]
theorem numsL_len (a : List UInt8) : (numsL a).length = a.length := by simp [numsL]
theorem str_numsL (l : List UInt8) : strOfNums (numsL l) = ⟨l.toArray⟩ := Lib.Lz.strOfNums_map l
end Go.Proofs.YtealmfcimoomlaaDoor.PA

/- Names: the program's and the reference's are one. -/
namespace Go.Proofs.YtealmfcimoomlaaDoor.PA
open Go.RowKit Go.Proofs.YtealmfcimoomlaaDoorW.PrintWords Go.Proofs.YtealmfcimoomlaaDoorW.PrintLast Go.Proofs.YtealmfcimoomlaaDoorW.PrintMore
set_option linter.unusedVariables false
set_option linter.unusedSimpArgs false
theorem letter_begins (c : Int) : ∃ t, chars_letter.f c = some t ∧ espalierref02_Begins.f c = some t := by
  unfold chars_letter.f espalierref02_Begins.f
  repeat' split
  all_goals exact ⟨_, rfl, rfl⟩
theorem name_loop (s : ByteArray) : ∀ (k : Nat) (i : Int), chars_Name.l0 k s (s.size : Int) i = espalierref02_Name.l0 k s i
  | 0, i => by rw [chars_Name.l0.eq_1, espalierref02_Name.l0.eq_1]
  | k + 1, i => by
    have ih := name_loop s k (wrap64 (i + 1))
    rw [chars_Name.l0.eq_2, espalierref02_Name.l0.eq_2, ih]
    generalize espalierref02_Name.l0 k s (wrap64 (i + 1)) = A
    by_cases h1 : i < (s.size : Int)
    · simp only [if_pos h1]
      by_cases h2 : 0 ≤ i
      · simp only [if_pos h2]
        generalize bt s i = c
        obtain ⟨t, e1, e2⟩ := letter_begins c
        unfold espalierref02_In.f
        rw [e1, e2, Option.bind_some, Option.bind_some]
        cases t with
        | true => rfl
        | false =>
          rw [if_neg (show ¬ (false = true) by simp), if_neg (show ¬ (false = true) by simp)]
          by_cases c1 : c = 45
          · subst c1; simp
          by_cases c2 : c = 46
          · subst c2; simp
          by_cases c3 : c < 48
          · rw [if_pos c3, if_neg c1, if_neg c2, if_neg (by omega), if_neg c1, Option.bind_some, if_neg (by simpa using c2)]
          · rw [if_neg c3, if_pos (show c ≥ 48 by omega)]
            by_cases c4 : c > 57
            · rw [if_pos c4, if_neg c1, if_neg c2, if_neg (by omega), if_neg c1, Option.bind_some, if_neg (by simpa using c2)]
            · rw [if_neg c4, if_pos (show c ≤ 57 by omega), Option.bind_some, if_pos rfl]
      · simp only [if_neg h2]
    · simp only [if_neg h1]
theorem name_j0 (s : ByteArray) (b : Bool) : ∀ k : Nat, chars_Name.j0 k s b = espalierref02_Name.j0 k s b
  | 0 => by rw [chars_Name.j0.eq_1, espalierref02_Name.j0.eq_1]
  | k + 1 => by rw [chars_Name.j0.eq_2, espalierref02_Name.j0.eq_2, name_loop]
theorem Name_eq (s : ByteArray) (k : Nat) : chars_Name.f k s = espalierref02_Name.f k s := by
  unfold chars_Name.f espalierref02_Name.f
  have hz : s.toList = [] ↔ (s.size : Int) < 1 := by
    rw [Lib.toList_data, Lib.size_eq]
    constructor
    · intro h; rw [h]; simp
    · intro h; exact List.eq_nil_of_length_eq_zero (by omega)
  by_cases h : (s.size : Int) < 1
  · rw [if_pos (hz.mpr h), if_pos h, name_j0]
  · rw [if_neg (fun e => h (hz.mp e)), if_neg h]
    by_cases h2 : (s.size : Int) > 32
    · rw [if_pos h2, if_pos h2, name_j0]
    · rw [if_neg h2, if_neg h2]
      obtain ⟨t, e1, e2⟩ := letter_begins (bt s 0)
      rw [e1, e2, Option.bind_some, Option.bind_some, name_j0]
/-- A name's answer is always there, with rounds enough. -/
theorem name_ends (s : ByteArray) (hn : s.size ≤ 140737488355328) : ∀ (d k i : Nat), i ≤ s.size → s.size - i = d → d + 1 ≤ k → ∃ b, espalierref02_Name.l0 k s i = some b := by
  intro d
  induction d with
  | zero =>
    intro k i hi hd hk
    obtain ⟨k, rfl⟩ : ∃ m, k = m + 1 := ⟨k - 1, by omega⟩
    rw [espalierref02_Name.l0.eq_2, if_neg (by omega)]
    exact ⟨_, rfl⟩
  | succ d ih =>
    intro k i hi hd hk
    obtain ⟨k, rfl⟩ : ∃ m, k = m + 1 := ⟨k - 1, by omega⟩
    have hw : wrap64 ((i : Int) + 1) = ((i + 1 : Nat) : Int) := by rw [wrap_in (by omega) (by omega)]; omega
    obtain ⟨t, ht⟩ : ∃ t, espalierref02_In.f (bt s (i : Int)) = some t := by
      unfold espalierref02_In.f
      obtain ⟨t, _, e2⟩ := letter_begins (bt s (i : Int))
      rw [e2, Option.bind_some]
      repeat' split
      all_goals exact ⟨_, rfl⟩
    rw [espalierref02_Name.l0.eq_2, if_pos (by omega), if_pos (by omega), ht, Option.bind_some, hw]
    split
    · exact ih k (i + 1) (by omega) (by omega) (by omega)
    · exact ⟨_, rfl⟩
theorem Name_ends (s : ByteArray) (hn : s.size ≤ 140737488355328) (k : Nat) (hk : s.size + 2 ≤ k) : ∃ b, espalierref02_Name.f k s = some b := by
  obtain ⟨k, rfl⟩ : ∃ m, k = m + 1 := ⟨k - 1, by omega⟩
  have hj : ∀ b, ∃ r, espalierref02_Name.j0 (k + 1) s b = some r := by
    intro b
    rw [espalierref02_Name.j0.eq_2]
    split
    · exact ⟨_, rfl⟩
    · exact name_ends s hn s.size k 0 (by omega) (by omega) (by omega)
  unfold espalierref02_Name.f
  obtain ⟨t, _, e2⟩ := letter_begins (bt s 0)
  rw [e2, Option.bind_some]
  split
  · exact hj _
  · split
    · exact hj _
    · rw [if_pos (by omega)]
      exact hj _
end Go.Proofs.YtealmfcimoomlaaDoor.PA
