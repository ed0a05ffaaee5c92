/- Texts of this claim, one behind the other: PBack, PT1. Conditions: those of each theorem. -/
import Derived.Test.YtealmfcimoomlaaGreatDoorPText
import Derived.Test.YtealmfcimoomlaaGreatDoorPNumber
import Derived.Test.YtealmfcimoomlaaGreatDoorPTree
import Derived.Test.YtealmfcimoomlaaGreatDoorUScan22
/- What is escaped reads as it was: in plain Lean. -/
namespace Go.Proofs.YtealmfcimoomlaaGreatDoor.PA
open Go.RowKit Go.Proofs.YtealmfcimoomlaaGreatDoorW.PrintWords Go.Proofs.YtealmfcimoomlaaGreatDoorW.PrintLast Go.Proofs.YtealmfcimoomlaaGreatDoorW.PrintMore
set_option linter.unusedVariables false
set_option linter.unusedSimpArgs false
/-- What stands for a character. -/
def escC (q : Bool) (c : Nat) : List UInt8 := escAll q (enc c)
theorem escAll_encs (q : Bool) (cs : List Nat) : escAll q (encs cs) = cs.flatMap (escC q) := by
  induction cs with
  | nil => rfl
  | cons c cs ih =>
    rw [encs_cons, List.flatMap_cons, ← ih]
    simp [escC, escAll]
theorem escByte_high (q : Bool) (b : UInt8) (h : 128 ≤ b.toNat) : escByte q b = [b] := by
  have hn : ∀ c : UInt8, c.toNat < 128 → ¬ b = c := fun c hc e => by rw [e] at h; omega
  unfold escByte
  rw [if_neg (hn 38 (by decide)), if_neg (hn 60 (by decide)), if_neg (hn 62 (by decide)), if_neg (hn 13 (by decide)), if_neg (fun h => hn 34 (by decide) h.2), if_neg (fun h => hn 9 (by decide) h.2), if_neg (fun h => hn 10 (by decide) h.2)]
theorem escAll_high (q : Bool) (l : List UInt8) (h : ∀ b ∈ l, 128 ≤ b.toNat) : escAll q l = l := by
  induction l with
  | nil => rfl
  | cons b l ih =>
    have := ih (fun x hx => h x (by simp [hx]))
    simp only [escAll, List.flatMap_cons] at *
    rw [escByte_high q b (h b (by simp)), this]
    rfl
/-- A character that stands for itself is read as itself. -/
theorem unR_self (x : ByteArray) (pre suf : List UInt8) (c : Nat) (hc : okC c) (h38 : c ≠ 38) (hx : x.data.toList = pre ++ enc c ++ suf) : unR x pre.length = (⟨(enc c).toArray⟩, ((enc c).length : Int), 0) := by
  have hch := chr_enc x pre suf c hc hx
  have hp := enc_pos c hc
  have hg : x.get! pre.length = (enc c ++ suf).getD 0 0 := by
    have := getD_app pre (enc c ++ suf) 0
    rw [Nat.add_zero] at this
    rw [get_list, hx, List.append_assoc, this]
  have hne : x.get! pre.length ≠ 38 := by
    rw [hg]
    by_cases c1 : c < 128
    · rw [enc_low c hc c1]
      simp only [List.cons_append, List.getD_cons_zero]
      intro e
      have := congrArg UInt8.toNat e
      rw [u8n c (by omega)] at this
      exact h38 this
    · obtain ⟨b, l, hb⟩ : ∃ b l, enc c = b :: l := by
        cases he : enc c with
        | nil => rw [he] at hp; simp at hp
        | cons b l => exact ⟨b, l, rfl⟩
      have := enc_high c hc (by omega) b (by rw [hb]; simp)
      rw [hb]
      simp only [List.cons_append, List.getD_cons_zero]
      intro e
      rw [e] at this
      exact absurd this (by decide)
  have hX : x.extract pre.length (pre.length + (enc c).length) = ⟨(enc c).toArray⟩ := ByteArray.ext (Array.ext' (by rw [Lib.extract_data, hx]; simp))
  have h2 : (chr x pre.length).2 = (enc c).length := by rw [hch]
  unfold unR
  rw [if_neg hne, h2, if_neg (by omega), hX]
theorem unR_ref (x : ByteArray) (pre L suf : List UInt8) (c : Nat) (hx : x.data.toList = pre ++ L ++ suf) (h38 : L.getD 0 0 = 38) (h0 : 0 < L.length)
    (hr : ∀ y : ByteArray, y.data.toList = L ++ suf → refRes y = ((c : Int), (L.length : Int), 0)) : unR x pre.length = (Utf8.encode (c : Int), (L.length : Int), 0) := by
  have hsz := Lib.size_eq x
  rw [hx] at hsz
  simp only [List.length_append] at hsz
  have hg : x.get! pre.length = 38 := by
    have := getD_app pre (L ++ suf) 0
    rw [Nat.add_zero] at this
    rw [get_list, hx, List.append_assoc, this]
    cases L with
    | nil => simp at h0
    | cons b l => simpa using h38
  unfold unR
  rw [if_pos hg, hr (x.extract pre.length x.size) (by rw [Lib.extract_to_end, hx]; simp)]
  rfl
theorem list_get (y : ByteArray) (l : List UInt8) (h : y.data.toList = l) (j : Nat) : y.get! j = l.getD j 0 := by rw [get_list, h]
theorem ref_num (y : ByteArray) (suf : List UInt8) (c : Nat) (d : List UInt8) (hd : d = [49, 51] ∧ c = 13 ∨ d = [57] ∧ c = 9 ∨ d = [49, 48] ∧ c = 10) (h : y.data.toList = ([38, 35] ++ d ++ [59]) ++ suf) :
    refRes y = ((c : Int), (([38, 35] ++ d ++ [59] : List UInt8).length : Int), 0) := by
  have hsz := Lib.size_eq y
  have g := list_get y _ h
  rw [h] at hsz
  unfold refRes numOf
  rcases hd with ⟨rfl, rfl⟩ | ⟨rfl, rfl⟩ | ⟨rfl, rfl⟩
  · have hz : y.size = suf.length + 5 := by simp at hsz; omega
    have g1 : y.get! 1 = 35 := by rw [g]; rfl
    have g2 : y.get! 2 = 49 := by rw [g]; rfl
    have g3 : y.get! 3 = 51 := by rw [g]; rfl
    have g4 : y.get! 4 = 59 := by rw [g]; rfl
    rw [if_pos ⟨by omega, g1⟩, if_neg (by rw [g2]; exact fun h => absurd h.2 (by decide))]
    have hrun : runD y 10 7 2 = 4 := by
      simp only [runD, g2, g3, g4]
      rw [if_pos ⟨by omega, by decide⟩, if_pos ⟨by omega, by decide⟩, if_neg (fun h => absurd h.2 (by decide))]
    have hseg : seg y 2 4 = [49, 51] := by rw [seg_eq, h]; rfl
    rw [hrun]
    unfold numRes
    rw [if_neg (by omega), if_neg (by rw [g4]; simp), hseg, if_pos (by decide)]
    rfl
  · have hz : y.size = suf.length + 4 := by simp at hsz; omega
    have g1 : y.get! 1 = 35 := by rw [g]; rfl
    have g2 : y.get! 2 = 57 := by rw [g]; rfl
    have g3 : y.get! 3 = 59 := by rw [g]; rfl
    rw [if_pos ⟨by omega, g1⟩, if_neg (by rw [g2]; exact fun h => absurd h.2 (by decide))]
    have hrun : runD y 10 7 2 = 3 := by
      simp only [runD, g2, g3]
      rw [if_pos ⟨by omega, by decide⟩, if_neg (fun h => absurd h.2 (by decide))]
    have hseg : seg y 2 3 = [57] := by rw [seg_eq, h]; rfl
    rw [hrun]
    unfold numRes
    rw [if_neg (by omega), if_neg (by rw [g3]; simp), hseg, if_pos (by decide)]
    rfl
  · have hz : y.size = suf.length + 5 := by simp at hsz; omega
    have g1 : y.get! 1 = 35 := by rw [g]; rfl
    have g2 : y.get! 2 = 49 := by rw [g]; rfl
    have g3 : y.get! 3 = 48 := by rw [g]; rfl
    have g4 : y.get! 4 = 59 := by rw [g]; rfl
    rw [if_pos ⟨by omega, g1⟩, if_neg (by rw [g2]; exact fun h => absurd h.2 (by decide))]
    have hrun : runD y 10 7 2 = 4 := by
      simp only [runD, g2, g3, g4]
      rw [if_pos ⟨by omega, by decide⟩, if_pos ⟨by omega, by decide⟩, if_neg (fun h => absurd h.2 (by decide))]
    have hseg : seg y 2 4 = [49, 48] := by rw [seg_eq, h]; rfl
    rw [hrun]
    unfold numRes
    rw [if_neg (by omega), if_neg (by rw [g4]; simp), hseg, if_pos (by decide)]
    rfl
theorem ref_nm (y : ByteArray) (suf L : List UInt8) (c : Nat) (hL : L = [38, 97, 109, 112, 59] ∧ c = 38 ∨ L = [38, 108, 116, 59] ∧ c = 60 ∨ L = [38, 103, 116, 59] ∧ c = 62 ∨ L = [38, 113, 117, 111, 116, 59] ∧ c = 34) (h : y.data.toList = L ++ suf) :
    refRes y = ((c : Int), (L.length : Int), 0) := by
  have g := list_get y _ h
  unfold refRes namedRes
  rw [h]
  rcases hL with ⟨rfl, rfl⟩ | ⟨rfl, rfl⟩ | ⟨rfl, rfl⟩ | ⟨rfl, rfl⟩
  all_goals
    rw [if_neg (by rw [g]; simp)]
    simp [refNames, List.find?, Lib.hasPrefix, List.isPrefixOf]
/-- What stands for a character is read as the character. -/
theorem unR_esc (x : ByteArray) (q : Bool) (pre suf : List UInt8) (c : Nat) (hc : okC c) (hx : x.data.toList = pre ++ escC q c ++ suf) : unR x pre.length = (⟨(enc c).toArray⟩, ((escC q c).length : Int), 0) := by
  have henc := encB c
  by_cases c1 : c < 128
  · have he := enc_low c hc c1
    have hE : escC q c = escByte q (UInt8.ofNat c) := by unfold escC; rw [he]; simp [escAll]
    have hone : ∀ L : List UInt8, escByte q (UInt8.ofNat c) = L → escC q c = L := fun L h => by rw [hE, h]
    by_cases s0 : c = 38
    · subst s0
      have hL := hone [38, 97, 109, 112, 59] (by unfold escByte; rfl)
      rw [hL] at hx ⊢
      rw [henc]
      exact unR_ref x pre _ suf 38 hx rfl (by simp) (fun y hy => ref_nm y suf _ 38 (.inl ⟨rfl, rfl⟩) hy)
    by_cases s1 : c = 60
    · subst s1
      have hL := hone [38, 108, 116, 59] (by unfold escByte; rfl)
      rw [hL] at hx ⊢
      rw [henc]
      exact unR_ref x pre _ suf 60 hx rfl (by simp) (fun y hy => ref_nm y suf _ 60 (.inr (.inl ⟨rfl, rfl⟩)) hy)
    by_cases s2 : c = 62
    · subst s2
      have hL := hone [38, 103, 116, 59] (by unfold escByte; rfl)
      rw [hL] at hx ⊢
      rw [henc]
      exact unR_ref x pre _ suf 62 hx rfl (by simp) (fun y hy => ref_nm y suf _ 62 (.inr (.inr (.inl ⟨rfl, rfl⟩))) hy)
    by_cases s3 : c = 13
    · subst s3
      have hL := hone [38, 35, 49, 51, 59] (by unfold escByte; rfl)
      rw [hL] at hx ⊢
      rw [henc]
      exact unR_ref x pre _ suf 13 hx rfl (by simp) (fun y hy => ref_num y suf 13 [49, 51] (.inl ⟨rfl, rfl⟩) hy)
    by_cases s4 : q = true ∧ c = 34
    · obtain ⟨rfl, rfl⟩ := s4
      have hL := hone [38, 113, 117, 111, 116, 59] (by unfold escByte; rfl)
      rw [hL] at hx ⊢
      rw [henc]
      exact unR_ref x pre _ suf 34 hx rfl (by simp) (fun y hy => ref_nm y suf _ 34 (.inr (.inr (.inr ⟨rfl, rfl⟩))) hy)
    by_cases s5 : q = true ∧ c = 9
    · obtain ⟨rfl, rfl⟩ := s5
      have hL := hone [38, 35, 57, 59] (by unfold escByte; rfl)
      rw [hL] at hx ⊢
      rw [henc]
      exact unR_ref x pre _ suf 9 hx rfl (by simp) (fun y hy => ref_num y suf 9 [57] (.inr (.inl ⟨rfl, rfl⟩)) hy)
    by_cases s6 : q = true ∧ c = 10
    · obtain ⟨rfl, rfl⟩ := s6
      have hL := hone [38, 35, 49, 48, 59] (by unfold escByte; rfl)
      rw [hL] at hx ⊢
      rw [henc]
      exact unR_ref x pre _ suf 10 hx rfl (by simp) (fun y hy => ref_num y suf 10 [49, 48] (.inr (.inr ⟨rfl, rfl⟩)) hy)
    have hn : ∀ z : UInt8, ¬ c = z.toNat → ¬ UInt8.ofNat c = z := fun z h e => h (by have := congrArg UInt8.toNat e; rw [u8n c (by omega)] at this; exact this)
    have hL : escC q c = enc c := by
      rw [hE, he]
      unfold escByte
      rw [if_neg (hn 38 s0), if_neg (hn 60 s1), if_neg (hn 62 s2), if_neg (hn 13 s3), if_neg (fun h => hn 34 (fun e => s4 ⟨h.1, e⟩) h.2), if_neg (fun h => hn 9 (fun e => s5 ⟨h.1, e⟩) h.2), if_neg (fun h => hn 10 (fun e => s6 ⟨h.1, e⟩) h.2)]
    rw [hL] at hx ⊢
    exact unR_self x pre suf c hc s0 hx
  · have hL : escC q c = enc c := escAll_high q _ (enc_high c hc (by omega))
    rw [hL] at hx ⊢
    exact unR_self x pre suf c hc (by omega) hx
theorem escC_pos (q : Bool) (c : Nat) (hc : okC c) : 0 < (escC q c).length := by
  unfold escC
  have hp := enc_pos c hc
  cases he : enc c with
  | nil => rw [he] at hp; simp at hp
  | cons b l =>
    have : 0 < (escByte q b).length := by unfold escByte; (repeat' split) <;> simp
    simp only [escAll, List.flatMap_cons, List.length_append]
    omega
theorem unAll_step (s : ByteArray) (f : Nat) (acc : List UInt8) (i : Nat) (b : ByteArray) (n : Int) (hi : i < s.size) (hu : unR s i = (b, n, 0)) (hb : ¬ (acc.length : Int) + b.size > 16384) : unAll s (f + 1) acc i = unAll s f (acc ++ b.data.toList) (i + n.toNat) := by
  rw [unAll, if_pos hi, hu]
  exact (if_pos rfl).trans (if_neg hb)
theorem unAll_esc (x : ByteArray) (q : Bool) : ∀ (cs : List Nat) (f : Nat) (pre acc : List UInt8), (∀ c ∈ cs, okC c) → x.data.toList = pre ++ cs.flatMap (escC q) → x.size - pre.length ≤ f → (acc ++ encs cs).length ≤ 16384 →
    unAll x f acc pre.length = (⟨(acc ++ encs cs).toArray⟩, 0, 0) := by
  have hsz := Lib.size_eq x
  intro cs
  induction cs with
  | nil =>
    intro f pre acc _ h _ _
    have : ¬ pre.length < x.size := by rw [hsz, h]; simp
    cases f with
    | zero => simp [unAll, encs]
    | succ f => rw [unAll, if_neg this]; simp [encs]
  | cons c cs ih =>
    intro f pre acc hc h hf hb
    have hok := hc c (by simp)
    have hp := escC_pos q c hok
    rw [List.flatMap_cons, ← List.append_assoc] at h
    have hlen : x.size = pre.length + (escC q c).length + (cs.flatMap (escC q)).length := by rw [hsz, h]; simp; omega
    have hu := unR_esc x q pre (cs.flatMap (escC q)) c hok h
    obtain ⟨f, rfl⟩ : ∃ g, f = g + 1 := ⟨f - 1, by omega⟩
    rw [encs_cons, ← List.append_assoc] at hb ⊢
    rw [unAll_step x f acc pre.length ⟨(enc c).toArray⟩ _ (by omega) hu (by rw [sizeMk]; simp only [List.length_append] at hb; omega), Int.toNat_natCast, listMk]
    have := ih f (pre ++ escC q c) (acc ++ enc c) (fun z hz => hc z (by simp [hz])) h (by rw [List.length_append]; omega) hb
    rw [List.length_append] at this
    exact this
/-- What is escaped holds nothing that markup would take for something else. -/
theorem esc_free (q : Bool) (a : UInt8) : ∀ b ∈ escByte q a, b ≠ 60 ∧ b ≠ 62 ∧ b ≠ 13 ∧ (q = true → b ≠ 34 ∧ b ≠ 9 ∧ b ≠ 10) := by
  intro b hb
  unfold escByte at hb
  by_cases s0 : a = 38
  · rw [if_pos s0] at hb; simp at hb; rcases hb with rfl | rfl | rfl | rfl | rfl <;> exact ⟨by decide, by decide, by decide, fun _ => ⟨by decide, by decide, by decide⟩⟩
  rw [if_neg s0] at hb
  by_cases s1 : a = 60
  · rw [if_pos s1] at hb; simp at hb; rcases hb with rfl | rfl | rfl | rfl <;> exact ⟨by decide, by decide, by decide, fun _ => ⟨by decide, by decide, by decide⟩⟩
  rw [if_neg s1] at hb
  by_cases s2 : a = 62
  · rw [if_pos s2] at hb; simp at hb; rcases hb with rfl | rfl | rfl | rfl <;> exact ⟨by decide, by decide, by decide, fun _ => ⟨by decide, by decide, by decide⟩⟩
  rw [if_neg s2] at hb
  by_cases s3 : a = 13
  · rw [if_pos s3] at hb; simp at hb; rcases hb with rfl | rfl | rfl | rfl | rfl <;> exact ⟨by decide, by decide, by decide, fun _ => ⟨by decide, by decide, by decide⟩⟩
  rw [if_neg s3] at hb
  by_cases s4 : q = true ∧ a = 34
  · rw [if_pos s4] at hb; simp at hb; rcases hb with rfl | rfl | rfl | rfl | rfl | rfl <;> exact ⟨by decide, by decide, by decide, fun _ => ⟨by decide, by decide, by decide⟩⟩
  rw [if_neg s4] at hb
  by_cases s5 : q = true ∧ a = 9
  · rw [if_pos s5] at hb; simp at hb; rcases hb with rfl | rfl | rfl | rfl <;> exact ⟨by decide, by decide, by decide, fun _ => ⟨by decide, by decide, by decide⟩⟩
  rw [if_neg s5] at hb
  by_cases s6 : q = true ∧ a = 10
  · rw [if_pos s6] at hb; simp at hb; rcases hb with rfl | rfl | rfl | rfl | rfl <;> exact ⟨by decide, by decide, by decide, fun _ => ⟨by decide, by decide, by decide⟩⟩
  rw [if_neg s6] at hb
  simp at hb
  subst hb
  exact ⟨s1, s2, s3, fun hq => ⟨fun e => s4 ⟨hq, e⟩, fun e => s5 ⟨hq, e⟩, fun e => s6 ⟨hq, e⟩⟩⟩
theorem escAll_free (q : Bool) (l : List UInt8) : ∀ b ∈ escAll q l, b ≠ 60 ∧ b ≠ 62 ∧ b ≠ 13 ∧ (q = true → b ≠ 34 ∧ b ≠ 9 ∧ b ≠ 10) := by
  intro b hb
  simp only [escAll, List.mem_flatMap] at hb
  obtain ⟨a, _, hb⟩ := hb
  exact esc_free q a b hb
end Go.Proofs.YtealmfcimoomlaaGreatDoor.PA

/- What stands in a text, and how the scanner reads it: characters, texts, names. -/
namespace Go.Proofs.YtealmfcimoomlaaGreatDoor.PA
open Go.RowKit Go.Proofs.YtealmfcimoomlaaGreatDoorW.PrintWords Go.Proofs.YtealmfcimoomlaaGreatDoorW.PrintLast Go.Proofs.YtealmfcimoomlaaGreatDoorW.PrintMore
set_option linter.unusedVariables false
set_option linter.unusedSimpArgs false
/-- The bytes x stand in s from the place i on. -/
def Stands (s : ByteArray) (i : Nat) (x : List UInt8) : Prop := i ≤ s.size ∧ ∃ t, s.data.toList.drop i = x ++ t
theorem size_list (s : ByteArray) : s.data.toList.length = s.size := (Lib.size_eq s).symm
theorem Stands.len {s : ByteArray} {i : Nat} {x : List UInt8} (h : Stands s i x) : i + x.length ≤ s.size := by
  obtain ⟨h0, t, ht⟩ := h
  have := congrArg List.length ht
  rw [List.length_drop, size_list, List.length_append] at this
  omega
theorem Stands.app {s : ByteArray} {i : Nat} {x y : List UInt8} : Stands s i (x ++ y) ↔ Stands s i x ∧ Stands s (i + x.length) y := by
  constructor
  · intro h
    have hl := h.len
    obtain ⟨h0, t, ht⟩ := h
    rw [List.length_append] at hl
    refine ⟨⟨h0, y ++ t, by rw [ht, List.append_assoc]⟩, by omega, t, ?_⟩
    rw [← List.drop_drop, ht, List.append_assoc, List.drop_left]
  · rintro ⟨⟨h0, t, ht⟩, ⟨h1, u, hu⟩⟩
    refine ⟨h0, u, ?_⟩
    rw [← List.drop_drop, ht, List.drop_left] at hu
    rw [ht, hu, List.append_assoc]
theorem Stands.split {s : ByteArray} {i : Nat} {x : List UInt8} (h : Stands s i x) : ∃ pre suf, pre.length = i ∧ s.data.toList = pre ++ x ++ suf := by
  obtain ⟨h0, t, ht⟩ := h
  refine ⟨s.data.toList.take i, t, by rw [List.length_take, size_list]; omega, ?_⟩
  rw [List.append_assoc, ← ht, List.take_append_drop]
theorem Stands.head {s : ByteArray} {i : Nat} {b : UInt8} {x : List UInt8} (h : Stands s i (b :: x)) : i < s.size ∧ s.get! i = b ∧ bt s (i : Int) = (b.toNat : Int) ∧ Stands s (i + 1) x := by
  have hl := h.len
  rw [List.length_cons] at hl
  have hg : s.get! i = b := by
    obtain ⟨pre, suf, rfl, hs⟩ := h.split
    rw [get_list, hs, List.append_assoc]
    have := getD_app pre (b :: x ++ suf) 0
    rw [Nat.add_zero] at this
    rw [this]
    rfl
  refine ⟨by omega, hg, by rw [bt_byte s i (by omega), hg], ?_⟩
  exact (Stands.app (x := [b])).mp h |>.2
theorem Stands.extract {s : ByteArray} {i : Nat} {x : List UInt8} (h : Stands s i x) : s.extract i (i + x.length) = ⟨x.toArray⟩ := by
  obtain ⟨h0, t, ht⟩ := h
  refine ByteArray.ext (Array.ext' ?_)
  rw [Lib.extract_data, ht, show i + x.length - i = x.length by omega, List.take_left]
theorem Stands.rest {s : ByteArray} {i : Nat} {x : List UInt8} (h : Stands s i x) : ∃ t, restL s i = x ++ t := by
  obtain ⟨h0, t, ht⟩ := h
  exact ⟨t, by unfold restL; rw [Lib.extract_to_end, ht]⟩
theorem Stands.whole (x : List UInt8) : Stands ⟨x.toArray⟩ 0 x := ⟨Nat.zero_le _, [], by simp⟩
/-- A character's first byte. -/
theorem enc_head (c : Nat) (hc : okC c) : ∃ b l, enc c = b :: l ∧ ∀ k : UInt8, k.toNat < 128 → (b = k ↔ c = k.toNat) := by
  by_cases c1 : c < 128
  · refine ⟨_, _, enc_low c hc c1, fun k hk => ⟨fun e => ?_, fun e => ?_⟩⟩
    · rw [← e, u8n c (by omega)]
    · subst e; simp
  · have hp := enc_pos c hc
    cases he : enc c with
    | nil => rw [he] at hp; simp at hp
    | cons b l =>
      refine ⟨b, l, rfl, fun k hk => ⟨fun e => ?_, fun e => by omega⟩⟩
      have := enc_high c hc (by omega) b (by rw [he]; simp)
      rw [e] at this
      omega
theorem hn_ {c : Nat} (h : c < 128) {z : UInt8} (hz : ¬ c = z.toNat) : ¬ UInt8.ofNat c = z := fun e => hz (by have := congrArg UInt8.toNat e; rw [u8n c (by omega)] at this; exact this)
/-- What stands for a character is itself, or a reference. -/
theorem escC_cases (q : Bool) (c : Nat) (hc : okC c) : (escC q c = enc c ∧ c ≠ 38 ∧ c ≠ 60 ∧ (q = true → c ≠ 34)) ∨ ∃ m, escC q c = 38 :: m ++ [59] ∧ 59 ∉ m ∧ m.length ≤ 4 := by
  by_cases c1 : c < 128
  · have he := enc_low c hc c1
    have hE : escC q c = escByte q (UInt8.ofNat c) := by unfold escC; rw [he]; simp [escAll]
    rw [hE, he]
    by_cases s0 : c = 38
    · subst s0; exact .inr ⟨[97, 109, 112], rfl, by decide, by decide⟩
    by_cases s1 : c = 60
    · subst s1; exact .inr ⟨[108, 116], rfl, by decide, by decide⟩
    by_cases s2 : c = 62
    · subst s2; exact .inr ⟨[103, 116], rfl, by decide, by decide⟩
    by_cases s3 : c = 13
    · subst s3; exact .inr ⟨[35, 49, 51], rfl, by decide, by decide⟩
    by_cases s4 : q = true ∧ c = 34
    · obtain ⟨rfl, rfl⟩ := s4; exact .inr ⟨[113, 117, 111, 116], rfl, by decide, by decide⟩
    by_cases s5 : q = true ∧ c = 9
    · obtain ⟨rfl, rfl⟩ := s5; exact .inr ⟨[35, 57], rfl, by decide, by decide⟩
    by_cases s6 : q = true ∧ c = 10
    · obtain ⟨rfl, rfl⟩ := s6; exact .inr ⟨[35, 49, 48], rfl, by decide, by decide⟩
    refine .inl ⟨?_, s0, s1, fun h e => s4 ⟨h, e⟩⟩
    unfold escByte
    rw [if_neg (hn_ (z := 38) c1 s0), if_neg (hn_ (z := 60) c1 s1), if_neg (hn_ (z := 62) c1 s2), if_neg (hn_ (z := 13) c1 s3), if_neg (fun h => hn_ (z := 34) c1 (fun e => s4 ⟨h.1, e⟩) h.2), if_neg (fun h => hn_ (z := 9) c1 (fun e => s5 ⟨h.1, e⟩) h.2), if_neg (fun h => hn_ (z := 10) c1 (fun e => s6 ⟨h.1, e⟩) h.2)]
  · exact .inl ⟨escAll_high q _ (enc_high c hc (by omega)), by omega, by omega, fun _ => by omega⟩
theorem indexByte_at : ∀ (m : List UInt8) (t : List UInt8) (z : UInt8), z ∉ m → Lib.indexByte (m ++ z :: t) z = m.length
  | [], t, z, _ => by simp [Lib.indexByte]
  | b :: m, t, z, h => by
    have ih := indexByte_at m t z (fun e => h (List.mem_cons_of_mem _ e))
    have hb : (b == z) = false := beq_eq_false_iff_ne.mpr (fun e => h (by rw [e]; exact List.mem_cons_self))
    rw [List.cons_append, Lib.indexByte, hb, ih, if_neg (by decide), if_neg (by rw [beq_iff_eq]; omega), List.length_cons]
    omega
/-- A reference that ends with the first semicolon is what the reader takes. -/
theorem refS_at {s : ByteArray} {i : Nat} {m : List UInt8} (h : Stands s i (m ++ [59])) (hm : 59 ∉ m) (hl : m.length ≤ 9) : refS s i = ⟨(m ++ [59]).toArray⟩ := by
  have hlen := h.len
  rw [List.length_append, List.length_singleton] at hlen
  obtain ⟨h0, t, ht⟩ := h
  have he : (s.extract i (min (i + 10) s.size)).data.toList = m ++ 59 :: (t.take (min (i + 10) s.size - i - m.length - 1)) := by
    rw [Lib.extract_data, ht, List.append_assoc, List.take_append, List.take_of_length_le (by omega)]
    congr 1
    obtain ⟨j, hj⟩ : ∃ j, min (i + 10) s.size - i - m.length = j + 1 := ⟨min (i + 10) s.size - i - m.length - 1, by omega⟩
    rw [hj]
    rfl
  unfold refS
  rw [he, indexByte_at m _ 59 hm, if_neg (by omega)]
  refine ByteArray.ext (Array.ext' ?_)
  rw [Lib.extract_data, he, show ((m.length : Int) + 1).toNat - 0 = m.length + 1 by omega, List.drop_zero, List.take_append, List.take_of_length_le (by omega), show m.length + 1 - m.length = 1 by omega]
  rfl
theorem encs_one (c : Nat) : encs [c] = enc c := by rw [encs_cons]; simp [encs]
theorem unAll_one (q : Bool) (c : Nat) (hc : okC c) : unAll ⟨(escC q c).toArray⟩ (escC q c).length [] 0 = (⟨(enc c).toArray⟩, 0, 0) := by
  have hl : ([] ++ encs [c]).length ≤ 16384 := by
    rw [List.nil_append, encs_one]
    have := (enc_pos c hc).2
    omega
  have hx : (⟨(escC q c).toArray⟩ : ByteArray).data.toList = [] ++ [c].flatMap (escC q) := by
    rw [listMk, List.nil_append, List.flatMap_cons, List.flatMap_nil, List.append_nil]
  have := unAll_esc ⟨(escC q c).toArray⟩ q [c] (escC q c).length [] [] (fun z hz => by rw [List.mem_singleton.mp hz]; exact hc) hx (by rw [sizeMk]; exact Nat.sub_le _ _) hl
  rw [List.length_nil, List.nil_append, encs_one] at this
  exact this
theorem refF_ok (s : ByteArray) (st : St) (t : ByteArray) : refF s st t 0 = .ok t { st with at_ := st.at_ + (refS s st.at_).size } := by
  unfold refF
  exact if_pos rfl
/-- What stands for a character is read as the character. -/
theorem esc_next {s : ByteArray} {st : St} {q : Bool} {c : Nat} (h : Stands s st.at_ (escC q c)) (hc : okC c) :
    (if bt s (st.at_ : Int) = 38 then refP s st else charP s st) = .ok ⟨(enc c).toArray⟩ { st with at_ := st.at_ + (escC q c).length } := by
  rcases escC_cases q c hc with ⟨he, h38, -, -⟩ | ⟨m, he, hm, hl⟩
  · rw [he] at h ⊢
    obtain ⟨b, l, hb, hbk⟩ := enc_head c hc
    have hh := h
    rw [hb] at hh
    obtain ⟨hlt, -, hbt, -⟩ := hh.head
    have hp := enc_pos c hc
    rw [if_neg (by
      rw [hbt]
      intro e
      exact h38 ((hbk 38 (by decide)).mp (UInt8.toNat_inj.mp (by have : (38 : UInt8).toNat = 38 := rfl; omega))))]
    obtain ⟨pre, suf, hpl, hs⟩ := h.split
    have hch := chr_enc s pre suf c hc hs
    rw [hpl] at hch
    unfold charP
    rw [hch, if_neg (show ¬ (enc c).length = 0 by omega), h.extract]
  · have h' := h
    rw [he, List.cons_append] at h'
    obtain ⟨hlt, -, hbt, -⟩ := h'.head
    rw [if_pos (show bt s (st.at_ : Int) = 38 from hbt)]
    have hr : refS s st.at_ = ⟨(escC q c).toArray⟩ := by
      rw [he]
      exact refS_at (m := 38 :: m) (by rw [← he]; exact h) (by simp [hm]) (by rw [List.length_cons]; omega)
    have hu : unAll ⟨(escC q c).toArray⟩ (escC q c).length [] 0 = (⟨(enc c).toArray⟩, 0, 0) := unAll_one q c hc
    have he2 : refP s st = refF s st ⟨(enc c).toArray⟩ 0 := by
      unfold refP
      rw [hr, sizeMk, hu]
    rw [he2, refF_ok, hr, sizeMk]
/-- The reader goes from a state to another one, and tells so much. -/
inductive Run (s : ByteArray) : St → List Evt → St → Prop
  | refl (st : St) : Run s st [] st
  | step {st st1 st2 : St} {ev l : List Evt} : st.at_ < s.size → pieceF s st = (ev, .ok () st1) → st.at_ < st1.at_ → Run s st1 l st2 → Run s st (ev ++ l) st2
theorem Run.trans {s : ByteArray} {a b c : St} {l m : List Evt} (h : Run s a l b) (k : Run s b m c) : Run s a (l ++ m) c := by
  induction h with
  | refl st => exact k
  | step h1 h2 h3 _ ih => rw [List.append_assoc]; exact .step h1 h2 h3 (ih k)
theorem Run.one {s : ByteArray} {st st1 : St} {ev : List Evt} (h1 : st.at_ < s.size) (h2 : pieceF s st = (ev, .ok () st1)) (h3 : st.at_ < st1.at_) : Run s st ev st1 := by
  have := Run.step h1 h2 h3 (.refl st1)
  rw [List.append_nil] at this
  exact this
theorem Run.pieces {s : ByteArray} {st st' : St} {l : List Evt} (h : Run s st l st') : ∀ (d : Nat) (acc : List Evt), s.size < d + st.at_ → st'.at_ = s.size → piecesF s d st acc = (acc ++ l, .ok () st') := by
  induction h with
  | refl st =>
    intro d acc hd he
    obtain ⟨d, rfl⟩ : ∃ e, d = e + 1 := ⟨d - 1, by omega⟩
    rw [piecesF, if_neg (by omega), List.append_nil]
  | step h1 h2 h3 _ ih =>
    intro d acc hd he
    obtain ⟨d, rfl⟩ : ∃ e, d = e + 1 := ⟨d - 1, by omega⟩
    rw [piecesF, if_pos h1, h2]
    simp only
    rw [ih d _ (by omega) he, List.append_assoc]
theorem addsF_run {st : St} {x : ByteArray} {a : Int} (hx : st.text.length + x.size ≤ 16384) (hb : st.text = [] → st.nodes < 4096 ∧ st.opn.length < 64) :
    addsF st x a = .ok () { st with text := st.text ++ x.data.toList, nodes := st.nodes + if st.text = [] then 1 else 0 } := by
  unfold addsF writeF beginsF
  by_cases h0 : st.text = []
  · obtain ⟨h1, h2⟩ := hb h0
    rw [if_pos (by rw [h0]; rfl), if_neg (by omega), if_neg (by omega)]
    show (if 16384 < st.text.length + x.size then _ else _) = _
    rw [if_neg (by omega), if_pos h0]
  · rw [if_neg (fun e => h0 (List.length_eq_zero_iff.mp e)), if_neg (by omega), if_neg h0]
    rfl
theorem esc_ne60 {c : Nat} {q : Bool} {b : UInt8} {l : List UInt8} (h : escC q c = b :: l) : b ≠ 60 := (escAll_free q (enc c) b (by unfold escC at h; rw [h]; exact List.mem_cons_self)).1
/-- A text is read as its characters. -/
theorem text_run {s : ByteArray} : ∀ (cs : List Nat) (st : St), (∀ c ∈ cs, okC c) → Stands s st.at_ (cs.flatMap (escC false)) → st.text.length + (encs cs).length ≤ 16384 → (st.text = [] → cs ≠ [] → st.nodes < 4096 ∧ st.opn.length < 64) →
    Run s st [] { st with at_ := st.at_ + (cs.flatMap (escC false)).length, text := st.text ++ encs cs, nodes := st.nodes + if st.text = [] ∧ cs ≠ [] then 1 else 0 } := by
  intro cs
  induction cs with
  | nil =>
    intro st _ _ _ _
    have e : ({ st with at_ := st.at_ + (([] : List Nat).flatMap (escC false)).length, text := st.text ++ encs [], nodes := st.nodes + if st.text = [] ∧ ([] : List Nat) ≠ [] then 1 else 0 } : St) = st := by
      simp [encs]
    rw [e]
    exact .refl st
  | cons c cs ih =>
    intro st hc h hl hb
    rw [List.flatMap_cons] at h
    obtain ⟨h1, h2⟩ := Stands.app.mp h
    have hok := hc c List.mem_cons_self
    have hpos := escC_pos false c hok
    rw [encs_cons, List.length_append] at hl
    have hep := enc_pos c hok
    obtain ⟨b, l, hbl⟩ : ∃ b l, escC false c = b :: l := by
      cases he : escC false c with
      | nil => rw [he] at hpos; simp at hpos
      | cons b l => exact ⟨b, l, rfl⟩
    have hh := h1
    rw [hbl] at hh
    obtain ⟨hlt, -, hbt, -⟩ := hh.head
    have hp : pieceF s st = ([], .ok () { st with at_ := st.at_ + (escC false c).length, text := st.text ++ enc c, nodes := st.nodes + if st.text = [] then 1 else 0 }) := by
      unfold pieceF
      rw [if_neg (by rw [hbt]; intro e; exact esc_ne60 hbl (UInt8.toNat_inj.mp (by have : (60 : UInt8).toNat = 60 := rfl; omega))), esc_next h1 hok]
      show ([], addsF _ _ _) = _
      rw [addsF_run (st := { st with at_ := st.at_ + (escC false c).length }) (by rw [sizeMk]; simp only; omega) (fun e => hb e (List.cons_ne_nil _ _))]
    have ih := ih { st with at_ := st.at_ + (escC false c).length, text := st.text ++ enc c, nodes := st.nodes + if st.text = [] then 1 else 0 } (fun z hz => hc z (List.mem_cons_of_mem _ hz)) h2 (by simp only [List.length_append]; omega) (fun e => by
      have := congrArg List.length e
      simp only [List.length_append, List.length_nil] at this
      omega)
    have hne : st.text ++ enc c ≠ [] := fun e => by
      have := congrArg List.length e
      simp only [List.length_append, List.length_nil] at this
      omega
    have := (Run.one hlt hp (by simp only; omega)).trans ih
    rw [List.nil_append] at this
    have e : ({ st with at_ := st.at_ + (escC false c).length + (cs.flatMap (escC false)).length, text := st.text ++ enc c ++ encs cs, nodes := (st.nodes + if st.text = [] then 1 else 0) + if st.text ++ enc c = [] ∧ cs ≠ [] then 1 else 0 } : St) = { st with at_ := st.at_ + ((c :: cs).flatMap (escC false)).length, text := st.text ++ encs (c :: cs), nodes := st.nodes + if st.text = [] ∧ c :: cs ≠ [] then 1 else 0 } := by
      rw [St.mk.injEq]
      refine ⟨by rw [List.flatMap_cons, List.length_append, Nat.add_assoc], rfl, by rw [encs_cons, List.append_assoc], ?_⟩
      have e1 : (if st.text ++ enc c = [] ∧ cs ≠ [] then 1 else 0 : Nat) = 0 := if_neg (fun h => hne h.1)
      rw [e1, Nat.add_zero]
      by_cases h0 : st.text = []
      · rw [if_pos h0, if_pos ⟨h0, List.cons_ne_nil _ _⟩]
      · rw [if_neg h0, if_neg (fun h => h0 h.1)]
    rw [← e]
    exact this
theorem skipF_run {s : ByteArray} {p : Int → Bool} : ∀ (x : List UInt8) (i : Nat), Stands s i x → (∀ b ∈ x, p (b.toNat : Int) = true) → (i + x.length < s.size → p (bt s ((i + x.length : Nat) : Int)) = false) → skipF s p i = i + x.length
  | [], i, h, _, hs => by
    rw [List.length_nil, Nat.add_zero] at hs ⊢
    by_cases hi : i < s.size
    · exact skipF_no hi (hs hi)
    · exact skipF_end hi
  | b :: x, i, h, hp, hs => by
    obtain ⟨hlt, -, hbt, h2⟩ := h.head
    rw [List.length_cons] at hs ⊢
    rw [skipF_yes hlt (by rw [hbt]; exact hp b List.mem_cons_self), skipF_run x (i + 1) h2 (fun z hz => hp z (List.mem_cons_of_mem _ hz)) (fun hlt2 => by rw [show i + 1 + x.length = i + (x.length + 1) by omega] at hlt2 ⊢; exact hs hlt2)]
    omega
end Go.Proofs.YtealmfcimoomlaaGreatDoor.PA
