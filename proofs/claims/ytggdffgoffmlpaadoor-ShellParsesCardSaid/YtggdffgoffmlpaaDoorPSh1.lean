/- Words, lines and fields of a text, as shell.Parse and the reference cut them: in plain Lean. -/
import Derived.Test.YtggdffgoffmlpaaDoorPA7
import Derived.Test.YtggdffgoffmlpaaDoorPA9
import Derived.Test.YtggdffgoffmlpaaDoorPA6
import Derived.Test.YtggdffgoffmlpaaDoorPA1
import Derived.Test.YtggdffgoffmlpaaDoorUShellLib
import Derived.Test.YtggdffgoffmlpaaDoorUStrings
import Derived.Lib.SlTrimSet
import Derived.Lib.IndexMore
import Derived.Lib.MapLaws
import Derived.Lib.DecodeN
namespace Go.Proofs.YtggdffgoffmlpaaDoor.PA
open Go.RowKit Go.Proofs.YtggdffgoffmlpaaDoorW.PrintWords Go.Proofs.YtggdffgoffmlpaaDoorW.PrintLast Go.Proofs.YtggdffgoffmlpaaDoorW.PrintMore
set_option linter.unusedVariables false
set_option linter.unusedSimpArgs false
abbrev Lb (s : ByteArray) : List UInt8 := s.data.toList
def mkB (l : List UInt8) : ByteArray := ⟨l.toArray⟩
theorem Lb_mk (l : List UInt8) : Lb (mkB l) = l := rfl
theorem mk_Lb (s : ByteArray) : mkB (Lb s) = s := ByteArray.ext (by simp [mkB, Lb])
theorem size_Lb (s : ByteArray) : s.size = (Lb s).length := Lib.size_eq s
theorem toL (s : ByteArray) : s.toList = Lb s := Lib.toList_data s
theorem bt_byte (s : ByteArray) (i : Nat) (h : i < s.size) : bt s (i : Int) = ((s.get! i).toNat : Int) := by
  rw [Utf8W.get!_of_lt s i h]
  unfold bt
  rw [dif_pos (by simpa using h)]
  simp
theorem get_at (s : ByteArray) (i : Nat) (h : i < s.size) : s.get! i = (Lb s)[i]'(by rw [← size_Lb]; exact h) := by
  rw [Utf8W.get!_of_lt s i h]
  rfl
theorem drop_at (s : ByteArray) (i : Nat) (h : i < s.size) : (Lb s).drop i = s.get! i :: (Lb s).drop (i + 1) := by
  rw [get_at s i h]
  exact List.drop_eq_getElem_cons _
theorem ext_L (s : ByteArray) (a b : Nat) : s.extract a b = mkB (((Lb s).drop a).take (b - a)) := by
  apply ByteArray.ext
  apply Array.toList_inj.mp
  rw [Lib.extract_data]
  rfl
theorem ext_end (s : ByteArray) (a : Nat) : s.extract a s.size = mkB ((Lb s).drop a) := by
  rw [ext_L, List.take_of_length_le (by rw [List.length_drop, size_Lb]; exact Nat.le_refl _)]
theorem w64 (i : Nat) (h : i ≤ 9000000000000000000) : wrap64 ((i : Int) + 1) = ((i + 1 : Nat) : Int) := by unfold wrap64; omega
theorem w64m (i : Nat) (h0 : 0 < i) (h : i ≤ 9000000000000000000) : wrap64 ((i : Int) - 1) = ((i - 1 : Nat) : Int) := by unfold wrap64; omega
theorem b32 (b : UInt8) : ((b.toNat : Int) = 32) ↔ b = 32 := ⟨fun h => UInt8.toNat_inj.mp (by show b.toNat = 32; omega), fun h => by subst h; rfl⟩
theorem b10 (b : UInt8) : ((b.toNat : Int) = 10) ↔ b = 10 := ⟨fun h => UInt8.toNat_inj.mp (by show b.toNat = 10; omega), fun h => by subst h; rfl⟩
/-! words -/
def sp (b : UInt8) : Bool := b == 32
def ns (b : UInt8) : Bool := !(b == 32)
def wrd (l : List UInt8) : List UInt8 := (l.dropWhile sp).takeWhile ns
def rst (l : List UInt8) : List UInt8 := (l.dropWhile sp).dropWhile ns
theorem first_l1 (s : ByteArray) (hn : s.size ≤ 140737488355328) (i : Nat) : ∀ (m k j : Nat), i ≤ j → j ≤ s.size → s.size - j = m → m + 1 ≤ k →
    espalierref30_first.l1 k s (i : Int) (j : Int) = some (mkB (((Lb s).drop i).take (j - i) ++ ((Lb s).drop j).takeWhile ns), mkB (((Lb s).drop j).dropWhile ns)) := by
  intro m
  induction m with
  | zero =>
    intro k j h1 h2 h3 h4
    obtain ⟨k, rfl⟩ : ∃ q, k = q + 1 := ⟨k - 1, by omega⟩
    obtain rfl : j = s.size := by omega
    rw [espalierref30_first.l1.eq_2, if_neg (by omega), if_pos (by omega), if_pos (by omega), if_pos (by omega), if_pos (by omega), Int.toNat_natCast, Int.toNat_natCast, ext_L, ext_end, show (Lb s).drop s.size = [] from List.drop_of_length_le (by rw [← size_Lb]; exact Nat.le_refl _)]
    simp
  | succ m ih =>
    intro k j h1 h2 h3 h4
    obtain ⟨k, rfl⟩ : ∃ q, k = q + 1 := ⟨k - 1, by omega⟩
    have hj : j < s.size := by omega
    rw [espalierref30_first.l1.eq_2, if_pos (by omega), if_pos (by omega), bt_byte s j hj, drop_at s j hj]
    by_cases h32 : s.get! j = 32
    · rw [if_pos ((b32 _).mpr h32), if_pos (by omega), if_pos (by omega), if_pos (by omega), Int.toNat_natCast, Int.toNat_natCast, ext_L, ext_end, drop_at s j hj, h32]
      rw [show (32 :: (Lb s).drop (j + 1)).takeWhile ns = [] from by simp [List.takeWhile_cons, ns], show (32 :: (Lb s).drop (j + 1)).dropWhile ns = 32 :: (Lb s).drop (j + 1) from by simp [List.dropWhile_cons, ns], List.append_nil]
    · have hns : ns (s.get! j) = true := by unfold ns; rw [beq_eq_false_iff_ne.mpr h32]; rfl
      rw [if_neg (fun h => h32 ((b32 _).mp h)), w64 j (by omega), ih k (j + 1) (by omega) (by omega) (by omega) (by omega), List.takeWhile_cons, List.dropWhile_cons, if_pos hns, if_pos hns]
      congr 3
      rw [show j + 1 - i = (j - i) + 1 by omega, List.take_add_one, List.getElem?_drop, show i + (j - i) = j by omega, List.getElem?_eq_getElem (by rw [← size_Lb]; exact hj), ← get_at s j hj, List.append_assoc]
      rfl
theorem first_l0 (s : ByteArray) (hn : s.size ≤ 140737488355328) : ∀ (m k i : Nat), i ≤ s.size → s.size - i = m → m + s.size + 4 ≤ k →
    espalierref30_first.l0 k s (i : Int) = some (mkB (wrd ((Lb s).drop i)), mkB (rst ((Lb s).drop i))) := by
  intro m
  induction m with
  | zero =>
    intro k i h1 h2 h3
    obtain ⟨k, rfl⟩ : ∃ q, k = q + 2 := ⟨k - 2, by omega⟩
    rw [espalierref30_first.l0.eq_2, if_neg (by omega), espalierref30_first.j1.eq_2, first_l1 s hn i (s.size - i) k i (by omega) h1 rfl (by omega), List.drop_of_length_le (by rw [← size_Lb]; omega)]
    simp [wrd, rst]
  | succ m ih =>
    intro k i h1 h2 h3
    obtain ⟨k, rfl⟩ : ∃ q, k = q + 2 := ⟨k - 2, by omega⟩
    have hi : i < s.size := by omega
    rw [espalierref30_first.l0.eq_2, if_pos (by omega), if_pos (by omega), bt_byte s i hi]
    by_cases h32 : s.get! i = 32
    · rw [if_pos ((b32 _).mpr h32), w64 i (by omega), ih (k + 1) (i + 1) (by omega) (by omega) (by omega), drop_at s i hi]
      unfold wrd rst
      rw [List.dropWhile_cons, if_pos (show sp (s.get! i) = true by rw [h32]; rfl)]
    · have hns : ¬ sp (s.get! i) = true := by unfold sp; rw [beq_eq_false_iff_ne.mpr h32]; decide
      rw [if_neg (fun h => h32 ((b32 _).mp h)), espalierref30_first.j1.eq_2, first_l1 s hn i (s.size - i) k i (by omega) h1 rfl (by omega), Nat.sub_self, List.take_zero, List.nil_append]
      unfold wrd rst
      rw [show ((Lb s).drop i).dropWhile sp = (Lb s).drop i from by rw [drop_at s i hi, List.dropWhile_cons, if_neg hns]]
theorem first_eq (s : ByteArray) (hn : s.size ≤ 140737488355328) (k : Nat) (hk : 2 * s.size + 4 ≤ k) : espalierref30_first.f k s = some (mkB (wrd (Lb s)), mkB (rst (Lb s))) := by
  unfold espalierref30_first.f
  have := first_l0 s hn s.size k 0 (by omega) (by omega) (by omega)
  rw [List.drop_zero] at this
  exact this
/-! cuts at one byte -/
theorem index_one (c : UInt8) : ∀ l : List UInt8, Lib.index l [c] = if l.contains c = true then ((l.takeWhile (fun b => !(b == c))).length : Int) else -1
  | [] => rfl
  | b :: l => by
    rw [Lib.index, index_one c l]
    by_cases h : b = c
    · subst h
      rw [if_pos (by simp [List.isPrefixOf]), if_pos (by simp)]
      simp
    · have hb : (b == c) = false := beq_eq_false_iff_ne.mpr h
      have hc : (c == b) = false := beq_eq_false_iff_ne.mpr (fun e => h e.symm)
      rw [if_neg (by simp [List.isPrefixOf, hc])]
      by_cases hl : l.contains c = true
      · rw [if_pos hl, if_neg (by rw [beq_iff_eq]; omega), if_pos (by rw [List.contains_cons, hc, hl]; rfl), List.takeWhile_cons, if_pos (by rw [hb]; rfl), List.length_cons]
        omega
      · rw [if_neg hl, if_pos (by decide), if_neg (by rw [List.contains_cons, hc]; simpa using hl)]
def pre (c : UInt8) (l : List UInt8) : List UInt8 := l.takeWhile (fun b => !(b == c))
def aft (c : UInt8) (l : List UInt8) : List UInt8 := (l.dropWhile (fun b => !(b == c))).drop 1
theorem take_all (c : UInt8) (l : List UInt8) (h : l.contains c = false) : l.takeWhile (fun b => !(b == c)) = l ∧ l.dropWhile (fun b => !(b == c)) = [] := by
  induction l with
  | nil => exact ⟨rfl, rfl⟩
  | cons b l ih =>
    rw [List.contains_cons, Bool.or_eq_false_iff] at h
    obtain ⟨i1, i2⟩ := ih h.2
    have hb : (b == c) = false := by rw [beq_eq_false_iff_ne]; exact fun e => absurd e.symm (beq_eq_false_iff_ne.mp h.1)
    rw [List.takeWhile_cons, List.dropWhile_cons, if_pos (by rw [hb]; rfl), if_pos (by rw [hb]; rfl), i1, i2]
    exact ⟨rfl, rfl⟩
theorem cut_one (c : UInt8) (l : List UInt8) : Lib.cut l [c] = (pre c l, aft c l, l.contains c) := by
  unfold Lib.cut pre aft
  cases h : l.contains c with
  | true =>
    have hi : Lib.index l [c] = ((l.takeWhile (fun b => !(b == c))).length : Int) := by rw [index_one, if_pos h]
    rw [hi, if_pos (by omega), Int.toNat_natCast]
    have e := List.takeWhile_append_dropWhile (p := fun b => !(b == c)) (l := l)
    generalize hA : l.takeWhile (fun b => !(b == c)) = A at e ⊢
    generalize hB : l.dropWhile (fun b => !(b == c)) = B at e ⊢
    rw [← e, List.take_left, ← List.drop_drop, List.drop_left]
    rfl
  | false =>
    have hi : Lib.index l [c] = -1 := by rw [index_one, if_neg (by rw [h]; decide)]
    rw [hi, if_neg (by decide), (take_all c l h).1, (take_all c l h).2]
    rfl
theorem rst_shape (l : List UInt8) : rst l = if (l.dropWhile sp).contains 32 = true then 32 :: aft 32 (l.dropWhile sp) else [] := by
  unfold rst aft
  generalize l.dropWhile sp = q
  show q.dropWhile (fun b => !(b == 32)) = _
  cases h : q.contains 32 with
  | false => rw [if_neg (by decide), (take_all 32 q h).2]
  | true =>
    rw [if_pos rfl]
    have key : ∀ q : List UInt8, q.contains 32 = true → ∃ r, q.dropWhile (fun b => !(b == 32)) = 32 :: r := by
      intro q
      induction q with
      | nil => intro h; simp at h
      | cons b q ih =>
        intro h
        by_cases hb : b = 32
        · subst hb; exact ⟨q, by simp [List.dropWhile_cons]⟩
        · have hb' : (b == 32) = false := beq_eq_false_iff_ne.mpr hb
          have hb2 : ((32 : UInt8) == b) = false := beq_eq_false_iff_ne.mpr (fun e => hb e.symm)
          rw [List.contains_cons, hb2, Bool.false_or] at h
          obtain ⟨r, hr⟩ := ih h
          exact ⟨r, by rw [List.dropWhile_cons, if_pos (by rw [hb']; rfl), hr]⟩
    obtain ⟨r, hr⟩ := key q h
    rw [hr]
    rfl
/-- What the program and the reference keep of a line behind a word: the same, but for one blank ahead. -/
def Rel (p q : List UInt8) : Prop := q = p ∨ q = 32 :: p
theorem Rel.drop {p q : List UInt8} (h : Rel p q) : q.dropWhile sp = p.dropWhile sp := by
  rcases h with rfl | rfl
  · rfl
  · rw [List.dropWhile_cons, if_pos (by decide)]
theorem word_eq (s : ByteArray) (hs : s.size < 4294967281) : ∃ p, shell_word.f s = some (mkB (wrd (Lb s)), mkB p) ∧ Rel p (rst (Lb s)) ∧ p.length ≤ s.size := by
  unfold shell_word.f strings_TrimLeft.f strings_Cut.f
  rw [if_pos rfl, Option.bind_some]
  have e1 : Lib.trimLeftB s.data.toList 32 = (Lb s).dropWhile sp := rfl
  have hl : ((Lb s).dropWhile sp).length ≤ s.size := by
    rw [size_Lb]
    exact (List.dropWhile_sublist _).length_le
  rw [e1, if_pos (by show (mkB ((Lb s).dropWhile sp)).size < _; rw [size_Lb, Lb_mk]; omega), Option.bind_some]
  simp only
  rw [cut_one]
  refine ⟨aft 32 ((Lb s).dropWhile sp), rfl, ?_, ?_⟩
  · rw [rst_shape]
    cases h : ((Lb s).dropWhile sp).contains 32 with
    | true => rw [if_pos rfl]; exact .inr rfl
    | false =>
      rw [if_neg (by decide)]
      refine .inl ?_
      unfold aft
      rw [(take_all 32 _ h).2]
      rfl
  · unfold aft
    rw [List.length_drop]
    have := (List.dropWhile_sublist (fun b => !(b == 32)) (l := (Lb s).dropWhile sp)).length_le
    omega
theorem Rel.wrd {p q : List UInt8} (h : Rel p q) : wrd q = wrd p := by unfold PA.wrd; rw [h.drop]
theorem Rel.rst {p q : List UInt8} (h : Rel p q) : rst q = rst p := by unfold PA.rst; rw [h.drop]
end Go.Proofs.YtggdffgoffmlpaaDoor.PA
