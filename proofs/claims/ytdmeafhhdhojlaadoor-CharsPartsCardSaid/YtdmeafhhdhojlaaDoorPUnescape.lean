/- chars.Unescape and the reference's Unescape in plain Lean: one by one. -/
import Derived.Test.YtdmeafhhdhojlaaDoorPNumber
import Derived.Test.YtdmeafhhdhojlaaDoorPEscape
import Derived.Test.YtdmeafhhdhojlaaDoorUUnescape
import Derived.Test.YtdmeafhhdhojlaaDoorPA8
import Derived.Laws.Cover4
namespace Go.Proofs.YtdmeafhhdhojlaaDoor.PA
open Go.RowKit Go.Proofs.YtdmeafhhdhojlaaDoorW.PrintWords Go.Proofs.YtdmeafhhdhojlaaDoorW.PrintLast Go.Proofs.YtdmeafhhdhojlaaDoorW.PrintMore
set_option linter.unusedVariables false
set_option linter.unusedSimpArgs false
theorem pre_iff (l p : List UInt8) : Lib.hasPrefix l p = true ↔ p = l.take p.length := by
  unfold Lib.hasPrefix
  rw [List.isPrefixOf_iff_prefix, List.prefix_iff_eq_take]
theorem get_list (s : ByteArray) (i : Nat) : s.get! i = s.data.toList.getD i 0 := by
  by_cases h : i < s.size
  · rw [Utf8W.get!_of_lt s i h, List.getD_eq_getElem?_getD, List.getElem?_eq_getElem (by rw [← Lib.size_eq]; exact h)]
    rfl
  · have g : s.get! i = 0 := by
      show s.data[i]! = 0
      exact (getElem!_neg s.data i (show ¬ i < s.data.size from h)).trans rfl
    rw [g, List.getD_eq_getElem?_getD, List.getElem?_eq_none (by rw [← Lib.size_eq]; omega)]
    rfl
def namedRes (l : List UInt8) : Int × Int × Int :=
  match refNames.find? (fun x => Lib.hasPrefix l x.1) with
  | some x => (x.2, (x.1.length : Int), 0)
  | none => (0, 0, if refNames.any (fun x => Lib.hasPrefix x.1 l) = true then 4 else 20)
theorem refNamed_eq (l : List UInt8) : refNamed l = encR (namedRes l) := by
  unfold refNamed namedRes encR
  cases refNames.find? (fun x => Lib.hasPrefix l x.1) with
  | some x => simp
  | none =>
    simp only
    by_cases h : l = [38]
    · subst h
      have : (refNames.any fun x => Lib.hasPrefix x.1 [38]) = true := by decide
      simp [this]
    · by_cases g : (refNames.any fun x => Lib.hasPrefix x.1 l) = true
      · simp [h, g]
      · simp [h, g]
def nmsB : List ByteArray := [(⟨#[38, 97, 109, 112, 59]⟩ : ByteArray), (⟨#[38, 108, 116, 59]⟩ : ByteArray), (⟨#[38, 103, 116, 59]⟩ : ByteArray), (⟨#[38, 113, 117, 111, 116, 59]⟩ : ByteArray), (⟨#[38, 97, 112, 111, 115, 59]⟩ : ByteArray)]
theorem named_step (k : Nat) (s : ByteArray) (p : List UInt8) (c : Int) (j : Nat) (hj : j < 5) (hr : rdOf ByteArray.empty nmsB (j : Int) = ⟨p.toArray⟩) (ho : wrap64 (bt (⟨#[38, 60, 62, 34, 39]⟩ : ByteArray) (j : Int)) = c) :
    espalierref02_named.l0 (k + 1) s nmsB ⟨#[38, 60, 62, 34, 39]⟩ j = if Lib.hasPrefix s.data.toList p = true then some (c, (p.length : Int)) else espalierref02_named.l0 k s nmsB ⟨#[38, 60, 62, 34, 39]⟩ ((j + 1 : Nat) : Int) := by
  have hps : (⟨p.toArray⟩ : ByteArray).size = p.length := by simp [ByteArray.size]
  have hw : wrap64 ((j : Int) + 1) = ((j + 1 : Nat) : Int) := by rw [wrap_in (by omega) (by omega)]; omega
  have hx : (s.extract 0 p.length).toList = s.data.toList.take p.length := by rw [Lib.toList_data, Lib.extract_data]; simp
  have ht : (⟨p.toArray⟩ : ByteArray).toList = p := toList_mk p
  simp only [espalierref02_named.l0]
  rw [if_pos (show (j : Int) < (nmsB.length : Int) by have : nmsB.length = 5 := rfl; omega), if_pos (by omega), hr, hps, hw, hx, ht]
  have hsz := Lib.size_eq s
  by_cases hp : Lib.hasPrefix s.data.toList p = true
  · have hp2 := (pre_iff _ _).mp hp
    have hl : p.length ≤ s.size := by
      have := congrArg List.length hp2
      rw [List.length_take] at this
      omega
    rw [if_pos (by omega), if_pos (by omega), if_pos (by omega), if_pos hp2.symm, if_pos (show (j : Int) < ((⟨#[38, 60, 62, 34, 39]⟩ : ByteArray).size : Int) by have : (⟨#[38, 60, 62, 34, 39]⟩ : ByteArray).size = 5 := rfl; omega), if_pos hp, ho]
  · rw [if_neg hp]
    by_cases hl : p.length ≤ s.size
    · rw [if_pos (by omega), if_pos (by omega), if_pos (by omega), if_neg (fun h => hp ((pre_iff _ _).mpr h.symm))]
    · rw [if_neg (by omega)]
theorem named_eq (s : ByteArray) (k : Nat) (hk : 6 ≤ k) : espalierref02_named.f k s = some (match refNames.find? (fun x => Lib.hasPrefix s.data.toList x.1) with | some x => (x.2, (x.1.length : Int)) | none => (0, 0)) := by
  obtain ⟨k, rfl⟩ : ∃ j, k = j + 6 := ⟨k - 6, by omega⟩
  have s0 := named_step (k + 5) s [38, 97, 109, 112, 59] 38 0 (by omega) rfl (by decide +kernel)
  have s1 := named_step (k + 4) s [38, 108, 116, 59] 60 1 (by omega) rfl (by decide +kernel)
  have s2 := named_step (k + 3) s [38, 103, 116, 59] 62 2 (by omega) rfl (by decide +kernel)
  have s3 := named_step (k + 2) s [38, 113, 117, 111, 116, 59] 34 3 (by omega) rfl (by decide +kernel)
  have s4 := named_step (k + 1) s [38, 97, 112, 111, 115, 59] 39 4 (by omega) rfl (by decide +kernel)
  have s5 : espalierref02_named.l0 (k + 1) s nmsB ⟨#[38, 60, 62, 34, 39]⟩ ((5 : Nat) : Int) = some (0, 0) := by
    simp only [espalierref02_named.l0]
    rw [if_neg (by have : nmsB.length = 5 := rfl; omega)]
  show espalierref02_named.l0 (k + 6) s nmsB ⟨#[38, 60, 62, 34, 39]⟩ ((0 : Nat) : Int) = _
  rw [s0]
  simp only [refNames, List.find?]
  cases h0 : Lib.hasPrefix s.data.toList [38, 97, 109, 112, 59] with
  | true => rfl
  | false =>
  simp only [Bool.false_eq_true, if_false]
  rw [s1]
  cases h1 : Lib.hasPrefix s.data.toList [38, 108, 116, 59] with
  | true => rfl
  | false =>
  simp only [Bool.false_eq_true, if_false]
  rw [s2]
  cases h2 : Lib.hasPrefix s.data.toList [38, 103, 116, 59] with
  | true => rfl
  | false =>
  simp only [Bool.false_eq_true, if_false]
  rw [s3]
  cases h3 : Lib.hasPrefix s.data.toList [38, 113, 117, 111, 116, 59] with
  | true => rfl
  | false =>
  simp only [Bool.false_eq_true, if_false]
  rw [s4]
  cases h4 : Lib.hasPrefix s.data.toList [38, 97, 112, 111, 115, 59] with
  | true => rfl
  | false =>
  simp only [Bool.false_eq_true, if_false]
  exact s5
theorem begins_step (k : Nat) (s : ByteArray) (p : List UInt8) (j : Nat) (hj : j < 5) (hr : rdOf ByteArray.empty nmsB (j : Int) = ⟨p.toArray⟩) (hnp : Lib.hasPrefix s.data.toList p = false) :
    espalierref02_begins.l0 (k + 1) s nmsB j = if Lib.hasPrefix p s.data.toList = true then some true else espalierref02_begins.l0 k s nmsB ((j + 1 : Nat) : Int) := by
  have hps : (⟨p.toArray⟩ : ByteArray).size = p.length := by simp [ByteArray.size]
  have hw : wrap64 ((j : Int) + 1) = ((j + 1 : Nat) : Int) := by rw [wrap_in (by omega) (by omega)]; omega
  have hx : ((⟨p.toArray⟩ : ByteArray).extract 0 s.size).toList = p.take s.size := by rw [Lib.toList_data, Lib.extract_data]; simp
  simp only [espalierref02_begins.l0]
  rw [if_pos (show (j : Int) < (nmsB.length : Int) by have : nmsB.length = 5 := rfl; omega), if_pos (by omega), hr, hps, hw, hx, Lib.toList_data]
  have hsz := Lib.size_eq s
  by_cases hp : Lib.hasPrefix p s.data.toList = true
  · have hp2 := (pre_iff _ _).mp hp
    rw [← hsz] at hp2
    have hl : s.size ≤ p.length := by
      have := congrArg List.length hp2
      rw [List.length_take, ← hsz] at this
      omega
    have hl2 : s.size ≠ p.length := by
      intro e
      rw [e, List.take_length] at hp2
      have : Lib.hasPrefix s.data.toList p = true := (pre_iff _ _).mpr (by rw [hp2]; simp)
      rw [hnp] at this
      exact absurd this (by simp)
    rw [if_pos (by omega), if_pos (by omega), if_pos (by omega), if_pos hp2.symm, if_pos hp]
  · rw [if_neg hp]
    by_cases hl : s.size < p.length
    · rw [if_pos (by omega), if_pos (by omega), if_pos (by omega), if_neg (fun h => hp ((pre_iff _ _).mpr (by rw [← hsz]; exact h.symm)))]
    · rw [if_neg (by omega)]
theorem begins_eq (s : ByteArray) (hf : refNames.find? (fun x => Lib.hasPrefix s.data.toList x.1) = none) (k : Nat) (hk : 6 ≤ k) : espalierref02_begins.f k s = some (refNames.any (fun x => Lib.hasPrefix x.1 s.data.toList)) := by
  obtain ⟨k, rfl⟩ : ∃ j, k = j + 6 := ⟨k - 6, by omega⟩
  have hf' := List.find?_eq_none.mp hf
  have hn : ∀ x ∈ refNames, Lib.hasPrefix s.data.toList x.1 = false := fun x hx => by simpa using hf' x hx
  have s0 := begins_step (k + 5) s [38, 97, 109, 112, 59] 0 (by omega) rfl (hn ([38, 97, 109, 112, 59], 38) (by simp [refNames]))
  have s1 := begins_step (k + 4) s [38, 108, 116, 59] 1 (by omega) rfl (hn ([38, 108, 116, 59], 60) (by simp [refNames]))
  have s2 := begins_step (k + 3) s [38, 103, 116, 59] 2 (by omega) rfl (hn ([38, 103, 116, 59], 62) (by simp [refNames]))
  have s3 := begins_step (k + 2) s [38, 113, 117, 111, 116, 59] 3 (by omega) rfl (hn ([38, 113, 117, 111, 116, 59], 34) (by simp [refNames]))
  have s4 := begins_step (k + 1) s [38, 97, 112, 111, 115, 59] 4 (by omega) rfl (hn ([38, 97, 112, 111, 115, 59], 39) (by simp [refNames]))
  have s5 : espalierref02_begins.l0 (k + 1) s nmsB ((5 : Nat) : Int) = some false := by
    simp only [espalierref02_begins.l0]
    rw [if_neg (by have : nmsB.length = 5 := rfl; omega)]
  show espalierref02_begins.l0 (k + 6) s nmsB ((0 : Nat) : Int) = _
  rw [s0, s1, s2, s3, s4, s5]
  simp only [refNames, List.any_cons, List.any_nil]
  cases Lib.hasPrefix [38, 97, 109, 112, 59] s.data.toList <;> cases Lib.hasPrefix [38, 108, 116, 59] s.data.toList <;> cases Lib.hasPrefix [38, 103, 116, 59] s.data.toList <;> cases Lib.hasPrefix [38, 113, 117, 111, 116, 59] s.data.toList <;> cases Lib.hasPrefix [38, 97, 112, 111, 115, 59] s.data.toList <;> rfl
/-- The reference with which a text begins that begins with '&': the character, its bytes, what is wrong. -/
def refRes (s : ByteArray) : Int × Int × Int := if 2 ≤ s.size ∧ s.get! 1 = 35 then numOf s else namedRes s.data.toList
theorem byte35 (c : UInt8) : (c.toNat : Int) = 35 ↔ c = 35 := ⟨fun h => UInt8.toNat_inj.mp (by have : (35 : UInt8).toNat = 35 := rfl; omega), fun h => by rw [h]; rfl⟩
theorem named_code {l : List UInt8} {x : List UInt8 × Int} (h : refNames.find? (fun x => Lib.hasPrefix l x.1) = some x) : canB x.2 = true ∧ 0 < x.1.length ∧ x.1.length ≤ l.length ∧ x.1.length ≤ 6 := by
  have hm := List.mem_of_find?_eq_some h
  have hp : Lib.hasPrefix l x.1 = true := by simpa using List.find?_some h
  have hl : x.1.length ≤ l.length := by
    have := congrArg List.length ((pre_iff _ _).mp hp)
    rw [List.length_take] at this
    omega
  have : canB x.2 = true ∧ 0 < x.1.length ∧ x.1.length ≤ 6 := by
    simp only [refNames, List.mem_cons, List.mem_nil_iff, or_false] at hm
    rcases hm with rfl | rfl | rfl | rfl | rfl <;> decide
  exact ⟨this.1, this.2.1, hl, this.2.2⟩
theorem Ref_eq (s : ByteArray) (hn : s.size ≤ 140737488355328) (k : Nat) (hk : 20 ≤ k) : espalierref02_Ref.f k s = some (refRes s) := by
  obtain ⟨k, rfl⟩ : ∃ j, k = j + 1 := ⟨k - 1, by omega⟩
  unfold espalierref02_Ref.f refRes
  have hnum := fun h => rnumber_eq s h hn k (by omega)
  have hrest : ((espalierref02_named.f k s).bind fun bt165 => (if bt165.2 > 0 then (some (bt165.1, bt165.2, (0 : Int))) else ((espalierref02_begins.f k s).bind fun t167 => (if t167 = true then (some (0, 0, 4)) else (some (0, 0, 20)))))) = some (namedRes s.data.toList) := by
    rw [named_eq s k (by omega), Option.bind_some]
    unfold namedRes
    cases hf : refNames.find? (fun x => Lib.hasPrefix s.data.toList x.1) with
    | some x =>
      have := named_code hf
      simp only
      rw [if_pos (by omega)]
    | none =>
      simp only
      rw [if_neg (by omega), begins_eq s hf k (by omega), Option.bind_some]
      by_cases g : (refNames.any fun x => Lib.hasPrefix x.1 s.data.toList) = true
      · rw [if_pos g, if_pos g]
      · rw [if_neg g, if_neg g]
  by_cases h2 : 2 ≤ s.size
  · have hb : bt s 1 = ((s.get! 1).toNat : Int) := bt_byte s 1 (by omega)
    rw [if_pos (by omega), if_pos (by omega), hb]
    simp only [espalierref02_Ref.j0]
    by_cases e : s.get! 1 = 35
    · rw [if_pos (show (((s.get! 1).toNat : Int) == 35) = true by rw [beq_iff_eq]; exact (byte35 _).mpr e), if_pos ⟨h2, e⟩, hnum h2, Option.bind_some]
    · rw [if_neg (show ¬ (((s.get! 1).toNat : Int) == 35) = true by rw [beq_iff_eq]; exact fun h => e ((byte35 _).mp h)), if_neg (fun h => e h.2)]
      exact hrest
  · rw [if_neg (by omega), if_neg (fun h => h2 h.1)]
    simp only [espalierref02_Ref.j0]
    rw [if_neg (by simp)]
    exact hrest
/-- chars.reference, where the text begins with '&'. -/
theorem reference_eq (s : ByteArray) (hn : s.size ≤ 140737488355328) (h0 : 0 < s.size) (h38 : s.get! 0 = 38) (k : Nat) (hk : 20 ≤ k) : chars_reference.f k s = some (encR (refRes s)) := by
  have hsz := Lib.size_eq s
  have g0 := get_list s 0
  have g1 := get_list s 1
  have g2 := get_list s 2
  rw [h38] at g0
  have l16 := numbered_eq s 16 3 6 (.inr rfl) hn (by omega)
  have l10 := numbered_eq s 10 2 7 (.inl rfl) hn (by omega)
  unfold chars_reference.f refRes numOf hexB numB
  rw [refNamed_eq]
  generalize s.data.toList = l at *
  rcases l with _ | ⟨a, _ | ⟨b, t⟩⟩
  · have : s.size = 0 := hsz
    omega
  · have : s.size = 1 := by simpa using hsz
    rw [if_neg (by simp [Lib.hasPrefix]), if_neg (by simp [Lib.hasPrefix]), if_neg (by omega)]
  · have ha : a = 38 := by simpa using g0.symm
    have hb : s.get! 1 = b := by simpa using g1
    have h2 : 2 ≤ s.size := by simp at hsz; omega
    subst ha
    rw [hb]
    by_cases e : b = 35
    · subst e
      rw [if_pos (show 2 ≤ s.size ∧ (35 : UInt8) = 35 from ⟨h2, rfl⟩)]
      rcases t with _ | ⟨c, t⟩
      · have hs2 : s.size = 2 := by simpa using hsz
        rw [if_neg (by simp [Lib.hasPrefix]), if_pos (by simp [Lib.hasPrefix]), if_pos hs2, if_neg (show ¬ (2 < s.size ∧ s.get! 2 = 120) by omega)]
        have : runD s 10 7 2 = 2 := by simp [runD, hs2]
        rw [this]
        unfold numRes
        rw [if_pos hs2.symm]
        rfl
      · have hc : s.get! 2 = c := by simpa using g2
        have h3 : 2 < s.size := by simp at hsz; omega
        rw [hc]
        by_cases e2 : c = 120
        · subst e2
          rw [if_pos (by simp [Lib.hasPrefix]), if_pos (show 2 < s.size ∧ (120 : UInt8) = 120 from ⟨h3, rfl⟩)]
          exact l16 (by omega) k (by omega)
        · rw [if_neg (by simp [Lib.hasPrefix]; exact fun h => e2 h.symm), if_pos (by simp [Lib.hasPrefix]), if_neg (by omega), if_neg (fun h => e2 h.2)]
          exact l10 h2 k (by omega)
    · rw [if_neg (by simp [Lib.hasPrefix]; intro h; exact absurd h.symm e), if_neg (by simp [Lib.hasPrefix]; exact fun h => e h.symm), if_neg (fun h => e h.2)]
theorem numRes_ok {s : ByteArray} {b a m : Nat} (hm : m ≤ s.size) (h : (numRes s b a m).2.2 = 0) : canB (numRes s b a m).1 = true ∧ 0 < (numRes s b a m).2.1 ∧ (numRes s b a m).2.1 ≤ s.size := by
  unfold numRes at h ⊢
  by_cases e0 : m = s.size
  · rw [if_pos e0] at h; simp at h
  rw [if_neg e0] at h ⊢
  by_cases e1 : m = a ∨ s.get! m ≠ 59
  · rw [if_pos e1] at h; simp at h
  rw [if_neg e1] at h ⊢
  by_cases e2 : canB (numVal b (seg s a m) : Int) = true
  · rw [if_pos e2]
    exact ⟨e2, by simp only; omega, by simp only; omega⟩
  · rw [if_neg e2] at h; simp at h
theorem refRes_ok {s : ByteArray} (h : (refRes s).2.2 = 0) : canB (refRes s).1 = true ∧ 0 < (refRes s).2.1 ∧ (refRes s).2.1 ≤ s.size := by
  unfold refRes at h ⊢
  by_cases e : 2 ≤ s.size ∧ s.get! 1 = 35
  · rw [if_pos e] at h ⊢
    unfold numOf at h ⊢
    by_cases e2 : 2 < s.size ∧ s.get! 2 = 120
    · rw [if_pos e2] at h ⊢
      exact numRes_ok (runD_le s 16 6 3 (by omega)).2.1 h
    · rw [if_neg e2] at h ⊢
      exact numRes_ok (runD_le s 10 7 2 e.1).2.1 h
  · rw [if_neg e] at h ⊢
    unfold namedRes at h ⊢
    cases hf : refNames.find? (fun x => Lib.hasPrefix s.data.toList x.1) with
    | some x =>
      have := named_code hf
      rw [← Lib.size_eq] at this
      exact ⟨this.1, by simp only; omega, by simp only; omega⟩
    | none =>
      rw [hf] at h
      simp only at h
      split at h <;> omega
/-- The character, or the reference, at a place: its bytes, how many bytes it has there, what is wrong. -/
def unR (s : ByteArray) (i : Nat) : ByteArray × Int × Int :=
  if s.get! i = 38 then encR (refRes (s.extract i s.size)) else if (chr s i).2 = 0 then (⟨#[]⟩, 0, 7) else (s.extract i (i + (chr s i).2), ((chr s i).2 : Int), 0)
theorem byte38 (c : UInt8) : (c.toNat : Int) = 38 ↔ c = 38 := ⟨fun h => UInt8.toNat_inj.mp (by have : (38 : UInt8).toNat = 38 := rfl; omega), fun h => by rw [h]; rfl⟩
theorem unR_ok {s : ByteArray} {i : Nat} (hi : i < s.size) : (unR s i).1.size ≤ 4 ∧ ((unR s i).2.2 = 0 → 0 < (unR s i).2.1 ∧ (i : Int) + (unR s i).2.1 ≤ s.size) := by
  unfold unR
  by_cases e : s.get! i = 38
  · rw [if_pos e]
    unfold encR
    by_cases e2 : (refRes (s.extract i s.size)).2.2 = 0
    · rw [if_pos e2]
      have := refRes_ok e2
      have hz : (s.extract i s.size).size = s.size - i := by simp
      rw [hz] at this
      exact ⟨encode_size_le _, fun _ => ⟨this.2.1, by simp only; omega⟩⟩
    · rw [if_neg e2]
      exact ⟨by simp [ByteArray.size], fun h => absurd h e2⟩
  · rw [if_neg e]
    have hl := chr_le s i hi
    by_cases e2 : (chr s i).2 = 0
    · rw [if_pos e2]; exact ⟨by simp [ByteArray.size], fun h => by simp at h⟩
    · rw [if_neg e2]
      exact ⟨by simp only [ByteArray.size_extract]; omega, fun _ => ⟨by simp only; omega, by simp only; omega⟩⟩
theorem step_eq (s : ByteArray) (i : Nat) (hi : i < s.size) (hn : s.size ≤ 140737488355328) (k : Nat) (hk : 20 ≤ k) : unescStep k s i = some (unR s i) := by
  unfold unescStep unR
  have hz : (s.extract i s.size).size = s.size - i := by simp
  rw [bt_byte s i hi]
  by_cases e : s.get! i = 38
  · rw [if_pos ((byte38 _).mpr e), if_pos e]
    exact reference_eq _ (by omega) (by omega) (by rw [get_extract]; exact e) k hk
  · rw [if_neg (fun h => e ((byte38 _).mp h)), if_neg e]
    obtain ⟨k, rfl⟩ : ∃ j, k = j + 1 := ⟨k - 1, by omega⟩
    rw [first_eq k _ (by omega), chr_extract s i (by omega)]
    have hl := chr_le s i hi
    by_cases e2 : (chr s i).2 = 0
    · rw [if_pos e2, if_pos e2, Option.bind_some, if_pos ⟨by simp, by simp; omega⟩]
      refine congrArg some (Prod.ext ?_ rfl)
      refine ByteArray.ext ?_
      simp
    · rw [if_neg e2, if_neg e2, Option.bind_some, if_pos ⟨by simp only; omega, by simp only; omega⟩]
      rfl
theorem Next_eq (s : ByteArray) (i : Nat) (hi : i < s.size) (hn : s.size ≤ 140737488355328) (k : Nat) (hk : 20 ≤ k) : espalierref02_Next.f k s i = some (unR s i) := by
  unfold espalierref02_Next.f unR
  have hz : (s.extract i s.size).size = s.size - i := by simp
  rw [if_pos (by omega), if_pos (by omega), bt_byte s i hi]
  by_cases e : s.get! i = 38
  · rw [if_pos ((byte38 _).mpr e), if_pos e, if_pos (by omega), show ((i : Int)).toNat = i from by omega, Ref_eq _ (by omega) k hk, Option.bind_some]
    unfold encR
    by_cases e2 : (refRes (s.extract i s.size)).2.2 = 0
    · rw [if_pos e2, if_pos e2, Bytes_eq _ (refRes_ok e2).1]
      rfl
    · rw [if_neg e2, if_neg e2]
  · obtain ⟨k, rfl⟩ : ∃ j, k = j + 6 := ⟨k - 6, by omega⟩
    rw [if_neg (fun h => e ((byte38 _).mp h)), if_neg e, ref_at k s i hi hn, Option.bind_some]
    have hl := chr_le s i hi
    by_cases e2 : (chr s i).2 = 0
    · rw [if_pos (by simp only; omega), if_pos e2]
    · rw [if_neg (by simp only; omega), if_neg e2]
      simp only
      have hw : wrap64 ((i : Int) + ((chr s i).2 : Int)) = ((i + (chr s i).2 : Nat) : Int) := by rw [wrap_in (by omega) (by omega)]; omega
      rw [hw, if_pos (by omega), if_pos (by omega)]
      rfl
def unAll (s : ByteArray) : Nat → List UInt8 → Nat → ByteArray × Int × Int
  | 0, acc, _ => (⟨acc.toArray⟩, 0, 0)
  | f + 1, acc, i => if i < s.size then (if (unR s i).2.2 = 0 then (if (acc.length : Int) + (unR s i).1.size > 16384 then ((⟨#[]⟩ : ByteArray), (i : Int), 2) else unAll s f (acc ++ (unR s i).1.data.toList) (i + (unR s i).2.1.toNat)) else ((⟨#[]⟩ : ByteArray), (i : Int), (unR s i).2.2)) else (⟨acc.toArray⟩, 0, 0)
theorem unesc_loop (s : ByteArray) (hn : s.size ≤ 140737488355328) : ∀ (f k i : Nat) (acc : List UInt8), i ≤ s.size → s.size - i ≤ f → f + 21 ≤ k → unescL k s acc i = some (unAll s f acc i) := by
  intro f
  induction f with
  | zero =>
    intro k i acc h1 h2 h3
    obtain ⟨k, rfl⟩ : ∃ m, k = m + 1 := ⟨k - 1, by omega⟩
    rw [unescL.eq_2, if_neg (by omega)]
    rfl
  | succ f ih =>
    intro k i acc h1 h2 h3
    obtain ⟨k, rfl⟩ : ∃ m, k = m + 1 := ⟨k - 1, by omega⟩
    rw [unescL.eq_2, unAll]
    by_cases hi : i < s.size
    · have ho := unR_ok hi
      rw [if_pos hi, if_pos hi, step_eq s i hi hn k (by omega), Option.bind_some, if_pos (by omega)]
      by_cases e : (unR s i).2.2 = 0
      · have ho2 := ho.2 e
        rw [if_pos e, if_pos e]
        by_cases g : (acc.length : Int) + (unR s i).1.size > 16384
        · rw [if_pos g, if_pos g]
        · rw [if_neg g, if_neg g, if_pos ⟨by omega, ho2.2⟩]
          exact ih k _ _ (by omega) (by omega) (by omega)
      · rw [if_neg e, if_neg e]
    · rw [if_neg hi, if_neg hi]
theorem runesc_loop (s : ByteArray) (hn : s.size ≤ 140737488355328) : ∀ (f k i : Nat) (acc : List UInt8), i ≤ s.size → s.size - i ≤ f → 2 * f + 22 ≤ k → acc.length ≤ 16384 → espalierref02_Unescape.l0 k s (numsL acc) i = some (unAll s f acc i) := by
  intro f
  induction f with
  | zero =>
    intro k i acc h1 h2 h3 h4
    obtain ⟨k, rfl⟩ : ∃ m, k = m + 1 := ⟨k - 1, by omega⟩
    simp only [espalierref02_Unescape.l0]
    rw [if_neg (by omega), str_numsL]
    rfl
  | succ f ih =>
    intro k i acc h1 h2 h3 h4
    obtain ⟨k, rfl⟩ : ∃ m, k = m + 2 := ⟨k - 2, by omega⟩
    rw [unAll, espalierref02_Unescape.l0]
    by_cases hi : i < s.size
    · have ho := unR_ok hi
      rw [if_pos (by omega), if_pos hi, Next_eq s i hi hn (k + 1) (by omega), Option.bind_some]
      by_cases e : (unR s i).2.2 = 0
      · have ho2 := ho.2 e
        rw [if_pos e, if_pos e, numsL_len, wrap_in (by omega) (by omega), espalierref02_Unescape.j1]
        by_cases g : (acc.length : Int) + (unR s i).1.size > 16384
        · rw [if_pos g, if_pos (decide_eq_true g)]
        · rw [if_neg g, if_neg (by rw [decide_eq_true_iff]; exact g), if_pos e, if_pos (by rw [numsL_len]; omega), bytesOf_eq, ← numsL_app]
          have hw : wrap64 ((i : Int) + (unR s i).2.1) = ((i + (unR s i).2.1.toNat : Nat) : Int) := by rw [wrap_in (by omega) (by omega)]; omega
          rw [hw]
          exact ih k _ _ (by omega) (by omega) (by omega) (by rw [List.length_append, ← Lib.size_eq]; omega)
      · rw [if_neg e, if_neg e, espalierref02_Unescape.j1, if_neg (by simp), if_neg e]
    · rw [if_neg (by omega), if_neg hi, str_numsL]
theorem unescape_eq (s : ByteArray) (hn : s.size ≤ 140737488355328) (k : Nat) (hk : s.size + 21 ≤ k) : chars_Unescape.f k s = some (unAll s s.size [] 0) := by
  unfold chars_Unescape.f
  rw [if_pos hn]
  exact unesc_loop s hn s.size k 0 [] (by omega) (by omega) hk
theorem runescape_eq (s : ByteArray) (hn : s.size ≤ 140737488355328) (k : Nat) (hk : 2 * s.size + 22 ≤ k) : espalierref02_Unescape.f k s = some (unAll s s.size [] 0) := by
  unfold espalierref02_Unescape.f
  exact runesc_loop s hn s.size k 0 [] (by omega) (by omega) hk (by simp)
end Go.Proofs.YtdmeafhhdhojlaaDoor.PA
