/- The reference's Escape in plain Lean: byte by byte. -/
import Derived.Test.YtealmfcimoomlaaDoorPName
import Derived.Test.YtealmfcimoomlaaDoorPCharsR
import Derived.Test.YtealmfcimoomlaaDoorUEscape
import Derived.Test.YtealmfcimoomlaaDoorPA10
import Derived.Lib.LazyBuf
namespace Go.Proofs.YtealmfcimoomlaaDoor.PA
open Go.RowKit Go.Proofs.YtealmfcimoomlaaDoorW.PrintWords Go.Proofs.YtealmfcimoomlaaDoorW.PrintLast Go.Proofs.YtealmfcimoomlaaDoorW.PrintMore
set_option linter.unusedVariables false
set_option linter.unusedSimpArgs false
theorem bt_nat (s : ByteArray) (i : Nat) (h : i < s.size) : bt s (i : Int) = (s[i].toNat : Int) := by
  rw [bt_byte s i h, Utf8W.get!_of_lt s i h]
theorem escaped_eq (k : Nat) (b : UInt8) (q : Bool) : ∃ x, espalierref02_escaped.f (k + 2) (b.toNat : Int) q = some x ∧
    ((x.toList = [] ∧ escByte q b = [b]) ∨ (¬ x.toList = [] ∧ x.data.toList = escByte q b)) := by
  have hne : ∀ (c : UInt8) (z : Int), (c.toNat : Int) = z → ¬ b = c → ¬ (b.toNat : Int) = z := fun c z hz h e => h (UInt8.toNat_inj.mp (by omega))
  have tl : ∀ l : List UInt8, (⟨l.toArray⟩ : ByteArray).toList = l := toList_mk
  unfold espalierref02_escaped.f
  simp only [espalierref02_escaped.j0, espalierref02_escaped.j1]
  by_cases e0 : b = 38
  · subst e0; exact ⟨_, if_pos (by decide), .inr ⟨by rw [show (#[38, 97, 109, 112, 59] : Array UInt8) = [38, 97, 109, 112, 59].toArray from rfl, tl]; simp, rfl⟩⟩
  rw [if_neg (hne 38 38 rfl e0)]
  by_cases e1 : b = 60
  · subst e1; exact ⟨_, if_pos (by decide), .inr ⟨by rw [show (#[38, 108, 116, 59] : Array UInt8) = [38, 108, 116, 59].toArray from rfl, tl]; simp, rfl⟩⟩
  rw [if_neg (hne 60 60 rfl e1)]
  by_cases e2 : b = 62
  · subst e2; exact ⟨_, if_pos (by decide), .inr ⟨by rw [show (#[38, 103, 116, 59] : Array UInt8) = [38, 103, 116, 59].toArray from rfl, tl]; simp, rfl⟩⟩
  rw [if_neg (hne 62 62 rfl e2)]
  by_cases e3 : b = 13
  · subst e3; exact ⟨_, if_pos (by decide), .inr ⟨by rw [show (#[38, 35, 49, 51, 59] : Array UInt8) = [38, 35, 49, 51, 59].toArray from rfl, tl]; simp, rfl⟩⟩
  rw [if_neg (hne 13 13 rfl e3)]
  have hnil : (⟨#[]⟩ : ByteArray).toList = [] := by rw [show (#[] : Array UInt8) = [].toArray from rfl, tl]
  cases q with
  | false =>
    simp only [Bool.false_eq_true, if_false]
    exact ⟨_, rfl, .inl ⟨hnil, by simp [escByte, e0, e1, e2, e3]⟩⟩
  | true =>
    simp only [if_true]
    by_cases e4 : b = 34
    · subst e4; exact ⟨_, if_pos (by decide), .inr ⟨by rw [show (#[38, 113, 117, 111, 116, 59] : Array UInt8) = [38, 113, 117, 111, 116, 59].toArray from rfl, tl]; simp, rfl⟩⟩
    rw [if_neg (by simpa using hne 34 34 rfl e4)]
    by_cases e5 : b = 9
    · subst e5; exact ⟨_, if_pos (by decide), .inr ⟨by rw [show (#[38, 35, 57, 59] : Array UInt8) = [38, 35, 57, 59].toArray from rfl, tl]; simp, rfl⟩⟩
    rw [if_neg (by simpa using hne 9 9 rfl e5)]
    by_cases e6 : b = 10
    · subst e6; exact ⟨_, if_pos (by decide), .inr ⟨by rw [show (#[38, 35, 49, 48, 59] : Array UInt8) = [38, 35, 49, 48, 59].toArray from rfl, tl]; simp, rfl⟩⟩
    rw [if_neg (hne 10 10 rfl e6)]
    exact ⟨_, rfl, .inl ⟨hnil, by simp [escByte, e0, e1, e2, e3, e4, e5, e6]⟩⟩
theorem esc_loop (s : ByteArray) (q : Bool) (hn : s.size ≤ 16384) : ∀ (d k i : Nat), i ≤ s.size → s.size - i = d → d + 3 ≤ k →
    espalierref02_Escape.l0 k s q (numsL (escAll q (s.data.toList.take i))) i = some (⟨(escAll q s.data.toList).toArray⟩, 0, 0) := by
  intro d
  induction d with
  | zero =>
    intro k i h1 h2 h3
    obtain ⟨k, rfl⟩ : ∃ m, k = m + 1 := ⟨k - 1, by omega⟩
    simp only [espalierref02_Escape.l0]
    rw [if_neg (by omega), List.take_of_length_le (by rw [← Lib.size_eq]; omega), str_numsL]
  | succ d ih =>
    intro k i h1 h2 h3
    obtain ⟨k, rfl⟩ : ∃ m, k = m + 3 := ⟨k - 3, by omega⟩
    have hi : i < s.size := by omega
    have hl := escAll_len q (s.data.toList.take i)
    have hl2 : (s.data.toList.take i).length ≤ i := List.length_take_le _ _
    have hb := escByte_len q s[i]
    have ih2 := ih (k + 2) (i + 1) (by omega) (by omega) (by omega)
    rw [escAll_snoc q s i hi, numsL_app] at ih2
    have hw : wrap64 ((i : Int) + 1) = ((i + 1 : Nat) : Int) := by rw [wrap_in (by omega) (by omega)]; omega
    obtain ⟨x, hx, hc⟩ := escaped_eq k s[i] q
    simp only [espalierref02_Escape.l0]
    rw [if_pos (show (i : Int) < s.size by omega), if_pos (by omega), bt_nat s i hi, hx, Option.bind_some, hw]
    rcases hc with ⟨h0, h4⟩ | ⟨h0, h4⟩
    · rw [if_pos h0, if_pos (by rw [numsL_len]; omega)]
      rw [h4] at ih2
      exact ih2
    · have hsz : x.size = (escByte q s[i]).length := by rw [← h4, Lib.size_eq]
      rw [if_neg h0, if_pos (by rw [numsL_len, hsz]; omega), bytesOf_eq, h4]
      exact ih2
/-- chars.Escape, and the reference's Escape, in one form. -/
def escR (q : Bool) (s : ByteArray) : ByteArray × Int × Int := if (textR s).2 = 0 then (⟨(escAll q s.data.toList).toArray⟩, 0, 0) else (⟨#[]⟩, (textR s).1, (textR s).2)
theorem escape_eq (s : ByteArray) (q : Bool) (hn : s.size ≤ 140737488355328) (k : Nat) (hk : s.size + 2 ≤ k) : chars_Escape.f k s q = some (escR q s) := by
  unfold chars_Escape.f escR
  rw [text_eq s hn k hk, Option.bind_some]
  by_cases e : (textR s).2 = 0
  · rw [if_pos e, if_pos e, if_pos (textR_ok e).1]
  · rw [if_neg e, if_neg e]
theorem rescape_eq (s : ByteArray) (q : Bool) (hn : s.size ≤ 140737488355328) (k : Nat) (hk : s.size + 8 ≤ k) : espalierref02_Escape.f k s q = some (escR q s) := by
  unfold espalierref02_Escape.f escR
  rw [rtext_eq s hn k hk, Option.bind_some]
  by_cases e : (textR s).2 = 0
  · rw [if_pos e, if_pos e]
    exact esc_loop s q (textR_ok e).1 s.size k 0 (by omega) (by omega) (by omega)
  · rw [if_neg e, if_neg e]
end Go.Proofs.YtealmfcimoomlaaDoor.PA
