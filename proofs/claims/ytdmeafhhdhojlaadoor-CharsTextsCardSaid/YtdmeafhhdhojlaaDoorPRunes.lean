/- A text as the list of its characters: how many, one by one, and back: in plain Lean. -/
import Derived.Test.YtdmeafhhdhojlaaDoorPText
import Derived.Test.YtdmeafhhdhojlaaDoorUCut
import Derived.Lib.RuneCount
import Derived.Test.YtdmeafhhdhojlaaDoorPB5
import Derived.Test.YtdmeafhhdhojlaaDoorPB3
import Derived.Test.YtdmeafhhdhojlaaDoorPB1
namespace Go.Proofs.YtdmeafhhdhojlaaDoor.PB
open Go.RowKit Go.Proofs.YtdmeafhhdhojlaaDoorW.PrintWords Go.Proofs.YtdmeafhhdhojlaaDoorW.PrintLast Go.Proofs.YtdmeafhhdhojlaaDoorW.PrintMore
set_option linter.unusedVariables false
set_option linter.unusedSimpArgs false
theorem count_chars (s : ByteArray) : ∀ (cs : List Nat) (f : Nat) (pre : List UInt8), (∀ c ∈ cs, okC c) → s.data.toList = pre ++ encs cs → s.size - pre.length ≤ f → Lib.runeCountFrom s f pre.length = cs.length ∧ runesI s f pre.length = cs.map Int.ofNat := by
  intro cs
  have hsz := Lib.size_eq s
  induction cs with
  | nil =>
    intro f pre _ h _
    have : ¬ pre.length < s.size := by rw [hsz, h]; simp [encs]
    cases f with
    | zero => exact ⟨rfl, rfl⟩
    | succ f => rw [Lib.runeCountFrom, runesI, if_neg this, if_neg this]; exact ⟨rfl, rfl⟩
  | cons c cs ih =>
    intro f pre hc h hf
    have hok := hc c (by simp)
    have hp := enc_pos c hok
    have hch := chr_enc s pre (encs cs) c hok (by rw [h, encs_cons, List.append_assoc])
    have hlt : pre.length < s.size := by rw [hsz, h, encs_cons]; simp; omega
    obtain ⟨f, rfl⟩ : ∃ g, f = g + 1 := ⟨f - 1, by omega⟩
    have hd : Utf8.decode s pre.length = (c, (enc c).length) := by rw [chr_decode (by rw [hch]; simp only; omega), hch]
    have := ih f (pre ++ enc c) (fun x hx => hc x (by simp [hx])) (by rw [h, encs_cons, List.append_assoc]) (by rw [List.length_append]; omega)
    rw [List.length_append] at this
    rw [Lib.runeCountFrom, runesI, if_pos hlt, if_pos hlt, hd]
    simp only
    rw [this.1, this.2]
    exact ⟨by simp; omega, by simp⟩
theorem count_of (s : ByteArray) (cs : List Nat) (hc : ∀ c ∈ cs, okC c) (h : s.data.toList = encs cs) : Lib.runeCount s = cs.length ∧ runesOf s = cs.map Int.ofNat := by
  have := count_chars s cs s.size [] hc (by simpa using h) (by simp)
  rw [List.length_nil] at this
  exact this
theorem fold_encode (cs : List Nat) : ∀ b : ByteArray, ((cs.map Int.ofNat).foldl (fun r n => r ++ Utf8.encode n) b).data.toList = b.data.toList ++ encs cs := by
  induction cs with
  | nil => intro b; simp [encs]
  | cons c cs ih =>
    intro b
    have hcast : Int.ofNat c = (c : Int) := rfl
    rw [List.map_cons, List.foldl_cons, ih, encs_cons, ← List.append_assoc, hcast, ByteArray.data_append, Array.toList_append, ← enc.eq_1]
theorem runesBytes_of (cs : List Nat) : (runesBytes (cs.map Int.ofNat)).data.toList = encs cs := by
  unfold runesBytes
  rw [fold_encode]
  rfl
/-- What is cut out of a text: the characters between two places. -/
theorem cut_of (s : ByteArray) (cs : List Nat) (hc : ∀ c ∈ cs, okC c) (h : s.data.toList = encs cs) (a b : Int) : (cutR s a b).data.toList = encs ((cs.drop a.toNat).take b.toNat) := by
  unfold cutR
  rw [(count_of s cs hc h).2, ← List.map_drop, ← List.map_take, runesBytes_of]
theorem can_true (k : Nat) (c : Nat) (h : okC c) : chars_Char.f (k + 1) (c : Int) = some true := by
  unfold chars_Char.f
  rw [canB_can, show canB (c : Int) = true from h]
  rfl
theorem First_eq (k : Nat) (s : ByteArray) (i : Nat) (h : i < s.size) : chars_First.f (k + 1) (s.extract i s.size) = some (if (chr s i).2 = 0 then (0, 0, 7) else (((chr s i).1 : Int), ((chr s i).2 : Int), 0)) := by
  have hz : (s.extract i s.size).size = s.size - i := by simp
  unfold chars_First.f
  rw [first_eq k _ (by omega), chr_extract s i (by omega)]
  split <;> rfl
theorem Len_eq (k : Nat) (s : ByteArray) (hn : s.size ≤ 140737488355328) (hk : s.size + 2 ≤ k) : chars_Len.f k s = some (if (textR s).2 = 0 then ((Lib.runeCount s : Int), 0) else (0, (textR s).2)) := by
  unfold chars_Len.f utf8_RuneCountInString.f
  rw [text_eq s hn k hk, Option.bind_some, if_pos (show s.size < 9223372036854775807 by omega)]
  split <;> rfl
theorem Text_eq (k : Nat) (s : ByteArray) (hn : s.size ≤ 140737488355328) (hk : s.size + 2 ≤ k) : chars_Text.f k s = some (textR s) := by
  unfold chars_Text.f
  rw [text_eq s hn k hk]
  rfl
end Go.Proofs.YtdmeafhhdhojlaaDoor.PB
