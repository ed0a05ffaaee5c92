/- Numbers as texts in plain Lean: a number's digits are a text that can be, and are read as that number. -/
import Derived.Test.YtnkjchcaonaifaaGreatDoorPText
import Derived.Test.YtnkjchcaonaifaaGreatDoorURead
import Derived.Lib.ItoaLen
namespace Go.Proofs.YtnkjchcaonaifaaGreatDoor.PA
open Go.RowKit Go.Proofs.YtnkjchcaonaifaaGreatDoorW.PrintWords Go.Proofs.YtnkjchcaonaifaaGreatDoorW.PrintLast Go.Proofs.YtnkjchcaonaifaaGreatDoorW.PrintMore
set_option linter.unusedVariables false
set_option linter.unusedSimpArgs false
theorem dec_digits (u : Nat) : ∀ b ∈ Lib.decDigits u, 48 ≤ b.toNat ∧ b.toNat ≤ 57 := by
  induction u using Nat.strongRecOn with
  | _ u ih =>
    intro b hb
    rw [Lib.decDigits] at hb
    by_cases h : u < 10
    · rw [dif_pos h] at hb
      simp only [List.mem_singleton] at hb
      subst hb
      simp only [UInt8.toNat_ofNat']; omega
    · rw [dif_neg h] at hb
      rcases List.mem_append.mp hb with h1 | h1
      · exact ih (u / 10) (by omega) b h1
      · simp only [List.mem_singleton] at h1
        subst h1
        simp only [UInt8.toNat_ofNat']; omega
theorem dec_ne (u : Nat) : Lib.decDigits u ≠ [] := by
  rw [Lib.decDigits]
  by_cases h : u < 10
  · rw [dif_pos h]; simp
  · rw [dif_neg h]; simp
theorem parse_app (M : Nat) (l2 : List UInt8) : ∀ (l1 : List UInt8) (acc a : Nat), Lib.parseUintM M acc l1 = .ok a → Lib.parseUintM M acc (l1 ++ l2) = Lib.parseUintM M a l2
  | [], acc, a, h => by
    simp only [Lib.parseUintM, Lib.NumEnd.ok.injEq] at h
    subst h; rfl
  | c :: r, acc, a, h => by
    rw [List.cons_append, Lib.parseUintM]
    rw [Lib.parseUintM] at h
    by_cases h1 : 48 ≤ c.toNat ∧ c.toNat ≤ 57
    · rw [if_pos h1] at h ⊢
      by_cases h2 : 1844674407370955162 ≤ acc
      · rw [if_pos h2] at h; cases h
      · rw [if_neg h2] at h ⊢
        by_cases h3 : M < acc * 10 + (c.toNat - 48)
        · rw [if_pos h3] at h; cases h
        · rw [if_neg h3] at h ⊢
          exact parse_app M l2 r _ a h
    · rw [if_neg h1] at h; cases h
theorem parse_dec (M : Nat) (hM : M ≤ 18446744073709551615) (u : Nat) : u ≤ M → Lib.parseUintM M 0 (Lib.decDigits u) = .ok u := by
  induction u using Nat.strongRecOn with
  | _ u ih =>
    intro hu
    have one : ∀ (acc d : Nat), d < 10 → acc * 10 + d ≤ M → Lib.parseUintM M acc [UInt8.ofNat (48 + d)] = .ok (acc * 10 + d) := by
      intro acc d hd ha
      have e : (UInt8.ofNat (48 + d)).toNat = 48 + d := by simp only [UInt8.toNat_ofNat']; omega
      rw [Lib.parseUintM, e, if_pos ⟨by omega, by omega⟩, if_neg (by omega), if_neg (by omega), Lib.parseUintM]
      congr 1; omega
    rw [Lib.decDigits]
    by_cases h : u < 10
    · rw [dif_pos h, one 0 u h (by omega)]
      congr 1; omega
    · rw [dif_neg h, parse_app M _ _ 0 (u / 10) (ih (u / 10) (by omega) (by omega)), one (u / 10) (u % 10) (by omega) (by omega)]
      congr 1; omega
theorem parse_itoa (n : Int) (h0 : -9223372036854775808 ≤ n) (h1 : n ≤ 9223372036854775807) : Lib.parseIntB 64 (Lib.itoa n) = .ok n := by
  unfold Lib.itoa
  by_cases hn : n < 0
  · rw [if_pos hn]
    unfold Lib.parseIntB
    have e45 : (45 : UInt8).toNat = 45 := rfl
    simp only [e45]
    rw [if_pos (by simp)]
    have : Lib.parseUintB 64 (Lib.decDigits n.natAbs) = .ok n.natAbs := by
      unfold Lib.parseUintB
      rw [if_neg (dec_ne _)]
      exact parse_dec _ (by decide) _ (by omega)
    rw [this]
    simp only
    rw [if_neg (by simp), if_neg (by omega), if_pos trivial]
    congr 1; omega
  · rw [if_neg hn]
    have hd := dec_digits n.toNat
    have hne := dec_ne n.toNat
    have hp : Lib.parseUintB 64 (Lib.decDigits n.toNat) = .ok n.toNat := by
      unfold Lib.parseUintB
      rw [if_neg hne]
      exact parse_dec _ (by decide) _ (by omega)
    generalize Lib.decDigits n.toNat = l at hd hne hp
    cases l with
    | nil => exact absurd rfl hne
    | cons c r =>
      have hc := hd c (by simp)
      unfold Lib.parseIntB
      simp only
      rw [if_neg (by omega), hp]
      simp only
      rw [if_neg (by omega), if_neg (by omega), if_neg (by omega)]
      congr 1; omega
theorem drop_head (p : UInt8 → Bool) (l : List UInt8) (h : ∀ b, l.head? = some b → p b = false) : l.dropWhile p = l := by
  cases l with
  | nil => rfl
  | cons a l => rw [List.dropWhile_cons, h a rfl]; simp
theorem trimS_self (l cs : List UInt8) (h : ∀ b ∈ l, cs.contains b = false) : Lib.trimS l cs = l := by
  unfold Lib.trimS Lib.trimLeftS Lib.trimRightS
  rw [drop_head (cs.contains ·) l.reverse (fun b hb => h b (by
    have := List.mem_of_mem_head? hb
    exact List.mem_reverse.mp this)), List.reverse_reverse]
  exact drop_head _ l (fun b hb => h b (List.mem_of_mem_head? hb))
theorem drop_all (p : UInt8 → Bool) : ∀ l : List UInt8, (∀ b ∈ l, p b = true) → l.dropWhile p = []
  | [], _ => rfl
  | a :: l, h => by
    rw [List.dropWhile_cons, h a (by simp)]
    simp only [if_true]
    exact drop_all p l (fun b hb => h b (by simp [hb]))
theorem trimS_all (l cs : List UInt8) (h : ∀ b ∈ l, cs.contains b = true) : Lib.trimS l cs = [] := by
  unfold Lib.trimS Lib.trimLeftS Lib.trimRightS
  rw [drop_all (cs.contains ·) l.reverse (fun b hb => h b (List.mem_reverse.mp hb))]
  rfl
theorem blank_no (b : UInt8) (h : 33 ≤ b.toNat) : blanksR.contains b = false := by
  have : ∀ c : Fin 256, 33 ≤ c.val → blanksR.contains (UInt8.ofNat c.val) = false := by decide +kernel
  have e : UInt8.ofNat b.toNat = b := by simp
  have := this ⟨b.toNat, b.toNat_lt⟩ h
  rwa [e] at this
theorem digit_yes (b : UInt8) (h : 48 ≤ b.toNat ∧ b.toNat ≤ 57) : digitsR.contains b = true := by
  have : ∀ c : Fin 256, 48 ≤ c.val ∧ c.val ≤ 57 → digitsR.contains (UInt8.ofNat c.val) = true := by decide +kernel
  have e : UInt8.ofNat b.toNat = b := by simp
  have := this ⟨b.toNat, b.toNat_lt⟩ h
  rwa [e] at this
theorem itoa_bytes (n : Int) : ∀ b ∈ Lib.itoa n, b.toNat = 45 ∨ (48 ≤ b.toNat ∧ b.toNat ≤ 57) := by
  intro b hb
  unfold Lib.itoa at hb
  by_cases hn : n < 0
  · rw [if_pos hn] at hb
    rcases List.mem_cons.mp hb with h | h
    · subst h; exact .inl rfl
    · exact .inr (dec_digits _ b h)
  · rw [if_neg hn] at hb
    exact .inr (dec_digits _ b hb)
theorem read_itoa (n : Int) (h0 : -9223372036854775808 ≤ n) (h1 : n ≤ 9223372036854775807) : readR ⟨(Lib.itoa n).toArray⟩ = (n, true) := by
  have ht : Lib.trimS (Lib.itoa n) blanksR = Lib.itoa n := trimS_self _ _ fun b hb => blank_no b (by have := itoa_bytes n b hb; omega)
  have hp : ∃ u, Lib.trimPrefix (Lib.itoa n) [45] = Lib.decDigits u := by
    unfold Lib.itoa
    by_cases hn : n < 0
    · rw [if_pos hn]
      exact ⟨n.natAbs, by simp [Lib.trimPrefix, Lib.hasPrefix, List.isPrefixOf]⟩
    · rw [if_neg hn]
      refine ⟨n.toNat, ?_⟩
      have hd := dec_digits n.toNat
      have hne := dec_ne n.toNat
      generalize Lib.decDigits n.toNat = l at hd hne
      cases l with
      | nil => exact absurd rfl hne
      | cons c r =>
        have hc := hd c (by simp)
        have : ¬ c = 45 := fun e => by subst e; exact absurd hc (by decide)
        simp [Lib.trimPrefix, Lib.hasPrefix, List.isPrefixOf, Ne.symm this, this]
  obtain ⟨u, hu⟩ := hp
  unfold readR readL
  rw [data_of, ht, hu, trimS_all _ _ (fun b hb => digit_yes b (dec_digits u b hb)), parse_itoa n h0 h1]
  have hne := dec_ne u
  rw [if_neg (by simpa using hne), if_neg (by simp)]
/-- A text of plain characters can be. -/
theorem ascii_text (l : List UInt8) (h : ∀ b ∈ l, 32 ≤ b.toNat ∧ b.toNat < 127) (hl : l.length ≤ 16384) : (textR ⟨l.toArray⟩).2 = 0 := by
  rw [textR_iff]
  refine ⟨by rw [size_of]; exact hl, l.map (·.toNat), fun c hc => ?_, ?_⟩
  · obtain ⟨b, hb, rfl⟩ := List.mem_map.mp hc
    rw [okC_iff]
    have := h b hb
    omega
  · show l = _
    induction l with
    | nil => rfl
    | cons b l ih =>
      have hb := h b (by simp)
      rw [List.map_cons, encs_cons, enc_low _ (by rw [okC_iff]; omega) (by omega), ← ih (fun c hc => h c (by simp [hc])) (by simp at hl; omega)]
      simp
theorem itoa_text (n : Int) (h0 : -9223372036854775808 ≤ n) (h1 : n ≤ 9223372036854775807) : (textR ⟨(Lib.itoa n).toArray⟩).2 = 0 :=
  ascii_text _ (fun b hb => by have := itoa_bytes n b hb; omega) (by have := Lib.itoa_length_le n h0 h1; omega)
/-- value.textual: whether a text can be. -/
theorem textual_eq (k : Nat) (s : ByteArray) (hs : s.size ≤ 140737488355328) (hk : s.size + 2 ≤ k) : value_textual.f k s = some ((textR s).2 == 0) := by
  unfold value_textual.f chars_Text.f
  rw [text_eq s hs k hk]
  rfl
end Go.Proofs.YtnkjchcaonaifaaGreatDoor.PA
