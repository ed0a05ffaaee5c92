/- Texts of this claim, one behind the other: PText, PBack. Conditions: those of each theorem. -/
import Derived.Test.YtealmfcimoomlaaGreatDoorPNumber
import Derived.Test.YtealmfcimoomlaaGreatDoorPTree
/- Texts that can be, as lists of characters. -/
namespace Go.Proofs.YtealmfcimoomlaaGreatDoor.PA
open Go.RowKit Go.Proofs.YtealmfcimoomlaaGreatDoorW.PrintWords Go.Proofs.YtealmfcimoomlaaGreatDoorW.PrintLast Go.Proofs.YtealmfcimoomlaaGreatDoorW.PrintMore
set_option linter.unusedVariables false
set_option linter.unusedSimpArgs false
/-- A character's bytes. -/
def enc (c : Nat) : List UInt8 := (Utf8.encode (c : Int)).data.toList
def okC (c : Nat) : Prop := canB (c : Int) = true
theorem okC_iff (c : Nat) : okC c ↔ (c = 9 ∨ c = 10 ∨ c = 13 ∨ (32 ≤ c ∧ c ≤ 55295) ∨ (57344 ≤ c ∧ c ≤ 65533) ∨ (65536 ≤ c ∧ c ≤ 1114111)) := by
  unfold okC canB
  rw [decide_eq_true_iff]
  omega
theorem enc_raw (c : Nat) (hv : Utf8.valid (c : Int) = true) : (Utf8.encode (c : Int)).data.toList = if c < 128 then [UInt8.ofNat c] else if c < 2048 then [UInt8.ofNat (192 + c / 64), UInt8.ofNat (128 + c % 64)]
    else if c < 65536 then [UInt8.ofNat (224 + c / 4096), UInt8.ofNat (128 + c / 64 % 64), UInt8.ofNat (128 + c % 64)]
    else [UInt8.ofNat (240 + c / 262144), UInt8.ofNat (128 + c / 4096 % 64), UInt8.ofNat (128 + c / 64 % 64), UInt8.ofNat (128 + c % 64)] := by
  unfold Utf8.encode
  simp only [hv, if_true, Int.toNat_natCast]
  by_cases c1 : c < 128
  · simp only [if_pos c1]
  by_cases c2 : c < 2048
  · simp only [if_neg c1, if_pos c2]
  by_cases c3 : c < 65536
  · simp only [if_neg c1, if_neg c2, if_pos c3]
  · simp only [if_neg c1, if_neg c2, if_neg c3]
theorem valid_okC (c : Nat) (h : okC c) : Utf8.valid (c : Int) = true := by
  have r := (okC_iff c).mp h
  unfold Utf8.valid
  rw [Bool.or_eq_true, Bool.and_eq_true, Bool.and_eq_true, decide_eq_true_iff, decide_eq_true_iff, decide_eq_true_iff, decide_eq_true_iff]
  omega
theorem enc_eq (c : Nat) (h : okC c) : enc c = if c < 128 then [UInt8.ofNat c] else if c < 2048 then [UInt8.ofNat (192 + c / 64), UInt8.ofNat (128 + c % 64)]
    else if c < 65536 then [UInt8.ofNat (224 + c / 4096), UInt8.ofNat (128 + c / 64 % 64), UInt8.ofNat (128 + c % 64)]
    else [UInt8.ofNat (240 + c / 262144), UInt8.ofNat (128 + c / 4096 % 64), UInt8.ofNat (128 + c / 64 % 64), UInt8.ofNat (128 + c % 64)] := (enc.eq_1 c).trans (enc_raw c (valid_okC c h))
theorem getD_app (a b : List UInt8) (j : Nat) : (a ++ b).getD (a.length + j) 0 = b.getD j 0 := by
  simp [List.getD_eq_getElem?_getD, List.getElem?_append_right]
theorem u8n (n : Nat) (h : n < 256) : (UInt8.ofNat n).toNat = n := by simp; omega
theorem enc_len (c : Nat) (h : okC c) : (enc c).length = if c < 128 then 1 else if c < 2048 then 2 else if c < 65536 then 3 else 4 := by
  rw [enc_eq c h]; repeat' split
  all_goals rfl
theorem enc_pos (c : Nat) (h : okC c) : 0 < (enc c).length ∧ (enc c).length ≤ 4 := by
  rw [enc_len c h]; repeat' split
  all_goals omega
/-- A character's bytes, wherever they stand, are read as the character. -/
theorem chr_enc (s : ByteArray) (pre suf : List UInt8) (c : Nat) (hc : okC c) (hs : s.data.toList = pre ++ enc c ++ suf) : chr s pre.length = (c, (enc c).length) := by
  have hsz : s.size = pre.length + (enc c).length + suf.length := by rw [Lib.size_eq, hs]; simp; omega
  have g : ∀ j, s.get! (pre.length + j) = (enc c ++ suf).getD j 0 := fun j => by rw [get_list, hs, List.append_assoc, getD_app]
  have g0 := g 0
  rw [Nat.add_zero] at g0
  have r := (okC_iff c).mp hc
  have hl := enc_len c hc
  rw [chr_eq, g0, g 1, g 2, g 3, show s.size - pre.length = (enc c).length + suf.length from by omega, hl]
  rw [enc_eq c hc]
  have hcb : canB (c : Int) = true := hc
  by_cases c1 : c < 128
  · simp only [if_pos c1, List.cons_append, List.nil_append, List.getD_cons_zero, u8n c (by omega)]
    rw [show Lib.decodeN (1 + suf.length) c _ _ _ = (c, 1) from by unfold Lib.decodeN; rw [if_pos c1]]
    unfold chrOf
    rw [if_neg (by simp; omega), if_pos hcb]
  by_cases c2 : c < 2048
  · simp only [if_neg c1, if_pos c2, List.cons_append, List.nil_append, List.getD_cons_zero, List.getD_cons_succ]
    rw [u8n _ (by omega), u8n _ (by omega)]
    have : Lib.decodeN (2 + suf.length) (192 + c / 64) (128 + c % 64) (suf.getD 0 0).toNat (suf.getD 1 0).toNat = (c, 2) := by
      unfold Lib.decodeN
      rw [if_neg (by omega), if_pos (by omega), if_pos (by omega)]
      exact Prod.ext (by show _ = c; omega) rfl
    rw [this, chrOf_wide c 2 (by omega), if_pos hcb]
  by_cases c3 : c < 65536
  · simp only [if_neg c1, if_neg c2, if_pos c3, List.cons_append, List.nil_append, List.getD_cons_zero, List.getD_cons_succ]
    rw [u8n _ (by omega), u8n _ (by omega), u8n _ (by omega)]
    have : Lib.decodeN (3 + suf.length) (224 + c / 4096) (128 + c / 64 % 64) (128 + c % 64) (suf.getD 0 0).toNat = (c, 3) := by
      unfold Lib.decodeN
      rw [if_neg (by omega), if_neg (by omega), if_pos (by omega), if_pos (by omega)]
      exact Prod.ext (by show _ = c; omega) rfl
    rw [this, chrOf_wide c 3 (by omega), if_pos hcb]
  · simp only [if_neg c1, if_neg c2, if_neg c3, List.cons_append, List.nil_append, List.getD_cons_zero, List.getD_cons_succ]
    rw [u8n _ (by omega), u8n _ (by omega), u8n _ (by omega), u8n _ (by omega)]
    have : Lib.decodeN (4 + suf.length) (240 + c / 262144) (128 + c / 4096 % 64) (128 + c / 64 % 64) (128 + c % 64) = (c, 4) := by
      unfold Lib.decodeN
      rw [if_neg (by omega), if_neg (by omega), if_neg (by omega), if_pos (by omega), if_pos (by omega)]
      exact Prod.ext (by show _ = c; omega) rfl
    rw [this, chrOf_wide c 4 (by omega), if_pos hcb]
theorem drop_getD (l : List UInt8) (i : Nat) (h : i < l.length) : l.drop i = l.getD i 0 :: l.drop (i + 1) := by
  rw [List.drop_eq_getElem_cons h, List.getD_eq_getElem?_getD, List.getElem?_eq_getElem h]
  rfl
theorem u8_eq (b : UInt8) (n : Nat) (h : b.toNat = n) : b = UInt8.ofNat n := by
  subst h; simp
/-- What is read at a place are a character's bytes. -/
theorem enc_chr (s : ByteArray) (i : Nat) (hi : i < s.size) (h : (chr s i).2 ≠ 0) : okC (chr s i).1 ∧ s.data.toList.drop i = enc (chr s i).1 ++ s.data.toList.drop (i + (chr s i).2) := by
  have hle := chr_le s i hi
  have hsz := Lib.size_eq s
  have hok : okC (chr s i).1 := by
    unfold chr at h ⊢
    split
    · rename_i g; rw [if_pos g] at h; exact absurd rfl h
    · rename_i g
      rw [if_neg g] at h
      split
      · assumption
      · rename_i g2; rw [if_neg g2] at h; exact absurd rfl h
  refine ⟨hok, ?_⟩
  have r := (okC_iff _).mp hok
  rw [enc_eq _ hok]
  have d0 := drop_getD s.data.toList i (by omega)
  rw [← get_list] at d0
  have hb0 := byte_lt s i
  have hb1 := byte_lt s (i + 1)
  have hb2 := byte_lt s (i + 2)
  have hb3 := byte_lt s (i + 3)
  have hch := chr_eq s i
  have e0 := fun n => u8_eq (s.get! i) n
  have e1 := fun n => u8_eq (s.get! (i + 1)) n
  have e2 := fun n => u8_eq (s.get! (i + 2)) n
  have e3 := fun n => u8_eq (s.get! (i + 3)) n
  have d1 := fun h => drop_getD s.data.toList (i + 1) h
  have d2 := fun h => drop_getD s.data.toList (i + 2) h
  have d3 := fun h => drop_getD s.data.toList (i + 3) h
  rw [← get_list] at d1 d2 d3
  generalize chr s i = p at *
  obtain ⟨c, w⟩ := p
  simp only at h hle r hch ⊢
  generalize hq0 : (s.get! i).toNat = b0 at *
  generalize hq1 : (s.get! (i + 1)).toNat = b1 at *
  generalize hq2 : (s.get! (i + 2)).toNat = b2 at *
  generalize hq3 : (s.get! (i + 3)).toNat = b3 at *
  have hbad : ∀ {d : Nat × Nat}, d = (65533, 1) → (c, w) = chrOf d → False := fun hd hc => by rw [hd] at hc; have := congrArg Prod.snd hc; simp [chrOf] at this; exact h this
  have hgood : ∀ {v u : Nat}, (c, w) = chrOf (v, u) → c = v ∧ w = u := by
    intro v u hc
    unfold chrOf at hc
    split at hc
    · simp at hc; exact absurd hc.2 h
    · split at hc
      · simpa using hc
      · simp at hc; exact absurd hc.2 h
  unfold Lib.decodeN at hch
  by_cases c1 : b0 < 128
  · rw [if_pos c1] at hch
    obtain ⟨rfl, rfl⟩ := hgood hch
    rw [if_pos c1, d0, e0 c rfl]
    rfl
  rw [if_neg c1] at hch
  by_cases c2 : b0 / 32 = 6 ∧ (1 < s.size - i ∧ b1 / 64 = 2)
  · rw [if_pos c2] at hch
    by_cases c3 : b0 % 32 * 64 + b1 % 64 ≥ 128
    · rw [if_pos c3] at hch
      obtain ⟨hcv, rfl⟩ := hgood hch
      rw [if_neg (by omega), if_pos (by omega), d0, d1 (by omega), e0 (192 + c / 64) (by omega), e1 (128 + c % 64) (by omega)]
      rfl
    · rw [if_neg c3] at hch; exact (hbad rfl hch).elim
  rw [if_neg c2] at hch
  by_cases c4 : b0 / 16 = 14 ∧ (1 < s.size - i ∧ b1 / 64 = 2) ∧ (2 < s.size - i ∧ b2 / 64 = 2)
  · rw [if_pos c4] at hch
    split at hch
    · rename_i g
      obtain ⟨hcv, rfl⟩ := hgood hch
      rw [if_neg (by omega), if_neg (by omega), if_pos (by omega), d0, d1 (by omega), d2 (by omega), e0 (224 + c / 4096) (by omega), e1 (128 + c / 64 % 64) (by omega), e2 (128 + c % 64) (by omega)]
      rfl
    · exact (hbad rfl hch).elim
  rw [if_neg c4] at hch
  by_cases c5 : b0 / 8 = 30 ∧ (1 < s.size - i ∧ b1 / 64 = 2) ∧ (2 < s.size - i ∧ b2 / 64 = 2) ∧ (3 < s.size - i ∧ b3 / 64 = 2)
  · rw [if_pos c5] at hch
    split at hch
    · rename_i g
      obtain ⟨hcv, rfl⟩ := hgood hch
      rw [if_neg (by omega), if_neg (by omega), if_neg (by omega), d0, d1 (by omega), d2 (by omega), d3 (by omega), e0 (240 + c / 262144) (by omega), e1 (128 + c / 4096 % 64) (by omega), e2 (128 + c / 64 % 64) (by omega), e3 (128 + c % 64) (by omega)]
      rfl
    · exact (hbad rfl hch).elim
  · rw [if_neg c5] at hch; exact (hbad rfl hch).elim
/-- The bytes of characters. -/
def encs (cs : List Nat) : List UInt8 := cs.flatMap enc
theorem encs_cons (c : Nat) (cs : List Nat) : encs (c :: cs) = enc c ++ encs cs := rfl
theorem encs_app (a b : List Nat) : encs (a ++ b) = encs a ++ encs b := by simp [encs]
theorem scan_chars (s : ByteArray) : ∀ (f i : Nat), i ≤ s.size → s.size - i ≤ f → scanT s f i = none → ∃ cs : List Nat, (∀ c ∈ cs, okC c) ∧ s.data.toList.drop i = encs cs := by
  have hsz := Lib.size_eq s
  intro f
  induction f with
  | zero => intro i h1 h2 _; exact ⟨[], by simp, by rw [List.drop_eq_nil_of_le (by omega)]; rfl⟩
  | succ f ih =>
    intro i h1 h2 h
    simp only [scanT] at h
    by_cases hi : i < s.size
    · rw [if_pos hi] at h
      by_cases e : (chr s i).2 = 0
      · rw [if_pos e] at h; exact absurd h (by simp)
      · rw [if_neg e] at h
        have hle := chr_le s i hi
        obtain ⟨cs, h3, h4⟩ := ih (i + (chr s i).2) (by omega) (by omega) h
        have hE := enc_chr s i hi e
        refine ⟨(chr s i).1 :: cs, ?_, ?_⟩
        · intro c hc
          rcases List.mem_cons.mp hc with rfl | hc
          · exact hE.1
          · exact h3 c hc
        · rw [hE.2, h4]; rfl
    · exact ⟨[], by simp, by rw [List.drop_eq_nil_of_le (by omega)]; rfl⟩
theorem chars_scan (s : ByteArray) : ∀ (cs : List Nat) (f : Nat) (pre : List UInt8), (∀ c ∈ cs, okC c) → s.data.toList = pre ++ encs cs → scanT s f pre.length = none := by
  intro cs
  have hsz := Lib.size_eq s
  induction cs with
  | nil =>
    intro f pre _ h
    cases f with
    | zero => rfl
    | succ f => simp only [scanT]; rw [if_neg (by rw [hsz, h]; simp [encs])]
  | cons c cs ih =>
    intro f pre hc h
    cases f with
    | zero => rfl
    | succ f =>
      have hok := hc c (by simp)
      have hp := enc_pos c hok
      have hch := chr_enc s pre (encs cs) c hok (by rw [h, encs_cons, List.append_assoc])
      simp only [scanT]
      rw [if_pos (by rw [hsz, h, encs_cons]; simp; omega), hch, if_neg (by simp only; omega)]
      have := ih f (pre ++ enc c) (fun x hx => hc x (by simp [hx])) (by rw [h, encs_cons, List.append_assoc])
      rw [List.length_append] at this
      dsimp only
      exact this
/-- A text can be just where it is short enough, and a list of characters. -/
theorem textR_iff (s : ByteArray) : (textR s).2 = 0 ↔ s.size ≤ 16384 ∧ ∃ cs : List Nat, (∀ c ∈ cs, okC c) ∧ s.data.toList = encs cs := by
  constructor
  · intro h
    have h1 := textR_ok h
    obtain ⟨cs, h2, h3⟩ := scan_chars s s.size 0 (by omega) (by omega) h1.2.1
    exact ⟨h1.1, cs, h2, by simpa using h3⟩
  · rintro ⟨h1, cs, h2, h3⟩
    have := chars_scan s cs s.size [] h2 (by simpa using h3)
    unfold textR
    rw [if_neg (by omega)]
    rw [List.length_nil] at this
    rw [this]
    rfl
theorem mkL (b : ByteArray) : (⟨b.data.toList.toArray⟩ : ByteArray) = b := by cases b; simp
theorem listMk (l : List UInt8) : (⟨l.toArray⟩ : ByteArray).data.toList = l := rfl
theorem sizeMk (l : List UInt8) : (⟨l.toArray⟩ : ByteArray).size = l.length := rfl
theorem encB (c : Nat) : (⟨(enc c).toArray⟩ : ByteArray) = Utf8.encode (c : Int) := by rw [enc.eq_1, mkL]
theorem enc_high (c : Nat) (h : okC c) (hc : 128 ≤ c) : ∀ b ∈ enc c, 128 ≤ b.toNat := by
  have r := (okC_iff c).mp h
  rw [enc_eq c h, if_neg (by omega)]
  intro b hb
  by_cases c2 : c < 2048
  · rw [if_pos c2] at hb
    simp only [List.mem_cons, List.mem_nil_iff, or_false] at hb
    rcases hb with rfl | rfl <;> rw [u8n _ (by omega)] <;> omega
  rw [if_neg c2] at hb
  by_cases c3 : c < 65536
  · rw [if_pos c3] at hb
    simp only [List.mem_cons, List.mem_nil_iff, or_false] at hb
    rcases hb with rfl | rfl | rfl <;> rw [u8n _ (by omega)] <;> omega
  · rw [if_neg c3] at hb
    simp only [List.mem_cons, List.mem_nil_iff, or_false] at hb
    rcases hb with rfl | rfl | rfl | rfl <;> rw [u8n _ (by omega)] <;> omega
theorem enc_low (c : Nat) (h : okC c) (hc : c < 128) : enc c = [UInt8.ofNat c] := by rw [enc_eq c h, if_pos hc]
end Go.Proofs.YtealmfcimoomlaaGreatDoor.PA

/- What is escaped reads as it was: in plain Lean. -/
namespace Go.Proofs.YtealmfcimoomlaaGreatDoor.PA
open Go.RowKit Go.Proofs.YtealmfcimoomlaaGreatDoorW.PrintWords Go.Proofs.YtealmfcimoomlaaGreatDoorW.PrintLast Go.Proofs.YtealmfcimoomlaaGreatDoorW.PrintMore
set_option linter.unusedVariables false
set_option linter.unusedSimpArgs false
/-- What stands for a character. -/
def escC (q : Bool) (c : Nat) : List UInt8 := escAll q (enc c)
theorem escAll_encs (q : Bool) (cs : List Nat) : escAll q (encs cs) = cs.flatMap (escC q) := by
  induction cs with
  | nil => rfl
  | cons c cs ih =>
    rw [encs_cons, List.flatMap_cons, ← ih]
    simp [escC, escAll]
theorem escByte_high (q : Bool) (b : UInt8) (h : 128 ≤ b.toNat) : escByte q b = [b] := by
  have hn : ∀ c : UInt8, c.toNat < 128 → ¬ b = c := fun c hc e => by rw [e] at h; omega
  unfold escByte
  rw [if_neg (hn 38 (by decide)), if_neg (hn 60 (by decide)), if_neg (hn 62 (by decide)), if_neg (hn 13 (by decide)), if_neg (fun h => hn 34 (by decide) h.2), if_neg (fun h => hn 9 (by decide) h.2), if_neg (fun h => hn 10 (by decide) h.2)]
theorem escAll_high (q : Bool) (l : List UInt8) (h : ∀ b ∈ l, 128 ≤ b.toNat) : escAll q l = l := by
  induction l with
  | nil => rfl
  | cons b l ih =>
    have := ih (fun x hx => h x (by simp [hx]))
    simp only [escAll, List.flatMap_cons] at *
    rw [escByte_high q b (h b (by simp)), this]
    rfl
/-- A character that stands for itself is read as itself. -/
theorem unR_self (x : ByteArray) (pre suf : List UInt8) (c : Nat) (hc : okC c) (h38 : c ≠ 38) (hx : x.data.toList = pre ++ enc c ++ suf) : unR x pre.length = (⟨(enc c).toArray⟩, ((enc c).length : Int), 0) := by
  have hch := chr_enc x pre suf c hc hx
  have hp := enc_pos c hc
  have hg : x.get! pre.length = (enc c ++ suf).getD 0 0 := by
    have := getD_app pre (enc c ++ suf) 0
    rw [Nat.add_zero] at this
    rw [get_list, hx, List.append_assoc, this]
  have hne : x.get! pre.length ≠ 38 := by
    rw [hg]
    by_cases c1 : c < 128
    · rw [enc_low c hc c1]
      simp only [List.cons_append, List.getD_cons_zero]
      intro e
      have := congrArg UInt8.toNat e
      rw [u8n c (by omega)] at this
      exact h38 this
    · obtain ⟨b, l, hb⟩ : ∃ b l, enc c = b :: l := by
        cases he : enc c with
        | nil => rw [he] at hp; simp at hp
        | cons b l => exact ⟨b, l, rfl⟩
      have := enc_high c hc (by omega) b (by rw [hb]; simp)
      rw [hb]
      simp only [List.cons_append, List.getD_cons_zero]
      intro e
      rw [e] at this
      exact absurd this (by decide)
  have hX : x.extract pre.length (pre.length + (enc c).length) = ⟨(enc c).toArray⟩ := ByteArray.ext (Array.ext' (by rw [Lib.extract_data, hx]; simp))
  have h2 : (chr x pre.length).2 = (enc c).length := by rw [hch]
  unfold unR
  rw [if_neg hne, h2, if_neg (by omega), hX]
theorem unR_ref (x : ByteArray) (pre L suf : List UInt8) (c : Nat) (hx : x.data.toList = pre ++ L ++ suf) (h38 : L.getD 0 0 = 38) (h0 : 0 < L.length)
    (hr : ∀ y : ByteArray, y.data.toList = L ++ suf → refRes y = ((c : Int), (L.length : Int), 0)) : unR x pre.length = (Utf8.encode (c : Int), (L.length : Int), 0) := by
  have hsz := Lib.size_eq x
  rw [hx] at hsz
  simp only [List.length_append] at hsz
  have hg : x.get! pre.length = 38 := by
    have := getD_app pre (L ++ suf) 0
    rw [Nat.add_zero] at this
    rw [get_list, hx, List.append_assoc, this]
    cases L with
    | nil => simp at h0
    | cons b l => simpa using h38
  unfold unR
  rw [if_pos hg, hr (x.extract pre.length x.size) (by rw [Lib.extract_to_end, hx]; simp)]
  rfl
theorem list_get (y : ByteArray) (l : List UInt8) (h : y.data.toList = l) (j : Nat) : y.get! j = l.getD j 0 := by rw [get_list, h]
theorem ref_num (y : ByteArray) (suf : List UInt8) (c : Nat) (d : List UInt8) (hd : d = [49, 51] ∧ c = 13 ∨ d = [57] ∧ c = 9 ∨ d = [49, 48] ∧ c = 10) (h : y.data.toList = ([38, 35] ++ d ++ [59]) ++ suf) :
    refRes y = ((c : Int), (([38, 35] ++ d ++ [59] : List UInt8).length : Int), 0) := by
  have hsz := Lib.size_eq y
  have g := list_get y _ h
  rw [h] at hsz
  unfold refRes numOf
  rcases hd with ⟨rfl, rfl⟩ | ⟨rfl, rfl⟩ | ⟨rfl, rfl⟩
  · have hz : y.size = suf.length + 5 := by simp at hsz; omega
    have g1 : y.get! 1 = 35 := by rw [g]; rfl
    have g2 : y.get! 2 = 49 := by rw [g]; rfl
    have g3 : y.get! 3 = 51 := by rw [g]; rfl
    have g4 : y.get! 4 = 59 := by rw [g]; rfl
    rw [if_pos ⟨by omega, g1⟩, if_neg (by rw [g2]; exact fun h => absurd h.2 (by decide))]
    have hrun : runD y 10 7 2 = 4 := by
      simp only [runD, g2, g3, g4]
      rw [if_pos ⟨by omega, by decide⟩, if_pos ⟨by omega, by decide⟩, if_neg (fun h => absurd h.2 (by decide))]
    have hseg : seg y 2 4 = [49, 51] := by rw [seg_eq, h]; rfl
    rw [hrun]
    unfold numRes
    rw [if_neg (by omega), if_neg (by rw [g4]; simp), hseg, if_pos (by decide)]
    rfl
  · have hz : y.size = suf.length + 4 := by simp at hsz; omega
    have g1 : y.get! 1 = 35 := by rw [g]; rfl
    have g2 : y.get! 2 = 57 := by rw [g]; rfl
    have g3 : y.get! 3 = 59 := by rw [g]; rfl
    rw [if_pos ⟨by omega, g1⟩, if_neg (by rw [g2]; exact fun h => absurd h.2 (by decide))]
    have hrun : runD y 10 7 2 = 3 := by
      simp only [runD, g2, g3]
      rw [if_pos ⟨by omega, by decide⟩, if_neg (fun h => absurd h.2 (by decide))]
    have hseg : seg y 2 3 = [57] := by rw [seg_eq, h]; rfl
    rw [hrun]
    unfold numRes
    rw [if_neg (by omega), if_neg (by rw [g3]; simp), hseg, if_pos (by decide)]
    rfl
  · have hz : y.size = suf.length + 5 := by simp at hsz; omega
    have g1 : y.get! 1 = 35 := by rw [g]; rfl
    have g2 : y.get! 2 = 49 := by rw [g]; rfl
    have g3 : y.get! 3 = 48 := by rw [g]; rfl
    have g4 : y.get! 4 = 59 := by rw [g]; rfl
    rw [if_pos ⟨by omega, g1⟩, if_neg (by rw [g2]; exact fun h => absurd h.2 (by decide))]
    have hrun : runD y 10 7 2 = 4 := by
      simp only [runD, g2, g3, g4]
      rw [if_pos ⟨by omega, by decide⟩, if_pos ⟨by omega, by decide⟩, if_neg (fun h => absurd h.2 (by decide))]
    have hseg : seg y 2 4 = [49, 48] := by rw [seg_eq, h]; rfl
    rw [hrun]
    unfold numRes
    rw [if_neg (by omega), if_neg (by rw [g4]; simp), hseg, if_pos (by decide)]
    rfl
theorem ref_nm (y : ByteArray) (suf L : List UInt8) (c : Nat) (hL : L = [38, 97, 109, 112, 59] ∧ c = 38 ∨ L = [38, 108, 116, 59] ∧ c = 60 ∨ L = [38, 103, 116, 59] ∧ c = 62 ∨ L = [38, 113, 117, 111, 116, 59] ∧ c = 34) (h : y.data.toList = L ++ suf) :
    refRes y = ((c : Int), (L.length : Int), 0) := by
  have g := list_get y _ h
  unfold refRes namedRes
  rw [h]
  rcases hL with ⟨rfl, rfl⟩ | ⟨rfl, rfl⟩ | ⟨rfl, rfl⟩ | ⟨rfl, rfl⟩
  all_goals
    rw [if_neg (by rw [g]; simp)]
    simp [refNames, List.find?, Lib.hasPrefix, List.isPrefixOf]
/-- What stands for a character is read as the character. -/
theorem unR_esc (x : ByteArray) (q : Bool) (pre suf : List UInt8) (c : Nat) (hc : okC c) (hx : x.data.toList = pre ++ escC q c ++ suf) : unR x pre.length = (⟨(enc c).toArray⟩, ((escC q c).length : Int), 0) := by
  have henc := encB c
  by_cases c1 : c < 128
  · have he := enc_low c hc c1
    have hE : escC q c = escByte q (UInt8.ofNat c) := by unfold escC; rw [he]; simp [escAll]
    have hone : ∀ L : List UInt8, escByte q (UInt8.ofNat c) = L → escC q c = L := fun L h => by rw [hE, h]
    by_cases s0 : c = 38
    · subst s0
      have hL := hone [38, 97, 109, 112, 59] (by unfold escByte; rfl)
      rw [hL] at hx ⊢
      rw [henc]
      exact unR_ref x pre _ suf 38 hx rfl (by simp) (fun y hy => ref_nm y suf _ 38 (.inl ⟨rfl, rfl⟩) hy)
    by_cases s1 : c = 60
    · subst s1
      have hL := hone [38, 108, 116, 59] (by unfold escByte; rfl)
      rw [hL] at hx ⊢
      rw [henc]
      exact unR_ref x pre _ suf 60 hx rfl (by simp) (fun y hy => ref_nm y suf _ 60 (.inr (.inl ⟨rfl, rfl⟩)) hy)
    by_cases s2 : c = 62
    · subst s2
      have hL := hone [38, 103, 116, 59] (by unfold escByte; rfl)
      rw [hL] at hx ⊢
      rw [henc]
      exact unR_ref x pre _ suf 62 hx rfl (by simp) (fun y hy => ref_nm y suf _ 62 (.inr (.inr (.inl ⟨rfl, rfl⟩))) hy)
    by_cases s3 : c = 13
    · subst s3
      have hL := hone [38, 35, 49, 51, 59] (by unfold escByte; rfl)
      rw [hL] at hx ⊢
      rw [henc]
      exact unR_ref x pre _ suf 13 hx rfl (by simp) (fun y hy => ref_num y suf 13 [49, 51] (.inl ⟨rfl, rfl⟩) hy)
    by_cases s4 : q = true ∧ c = 34
    · obtain ⟨rfl, rfl⟩ := s4
      have hL := hone [38, 113, 117, 111, 116, 59] (by unfold escByte; rfl)
      rw [hL] at hx ⊢
      rw [henc]
      exact unR_ref x pre _ suf 34 hx rfl (by simp) (fun y hy => ref_nm y suf _ 34 (.inr (.inr (.inr ⟨rfl, rfl⟩))) hy)
    by_cases s5 : q = true ∧ c = 9
    · obtain ⟨rfl, rfl⟩ := s5
      have hL := hone [38, 35, 57, 59] (by unfold escByte; rfl)
      rw [hL] at hx ⊢
      rw [henc]
      exact unR_ref x pre _ suf 9 hx rfl (by simp) (fun y hy => ref_num y suf 9 [57] (.inr (.inl ⟨rfl, rfl⟩)) hy)
    by_cases s6 : q = true ∧ c = 10
    · obtain ⟨rfl, rfl⟩ := s6
      have hL := hone [38, 35, 49, 48, 59] (by unfold escByte; rfl)
      rw [hL] at hx ⊢
      rw [henc]
      exact unR_ref x pre _ suf 10 hx rfl (by simp) (fun y hy => ref_num y suf 10 [49, 48] (.inr (.inr ⟨rfl, rfl⟩)) hy)
    have hn : ∀ z : UInt8, ¬ c = z.toNat → ¬ UInt8.ofNat c = z := fun z h e => h (by have := congrArg UInt8.toNat e; rw [u8n c (by omega)] at this; exact this)
    have hL : escC q c = enc c := by
      rw [hE, he]
      unfold escByte
      rw [if_neg (hn 38 s0), if_neg (hn 60 s1), if_neg (hn 62 s2), if_neg (hn 13 s3), if_neg (fun h => hn 34 (fun e => s4 ⟨h.1, e⟩) h.2), if_neg (fun h => hn 9 (fun e => s5 ⟨h.1, e⟩) h.2), if_neg (fun h => hn 10 (fun e => s6 ⟨h.1, e⟩) h.2)]
    rw [hL] at hx ⊢
    exact unR_self x pre suf c hc s0 hx
  · have hL : escC q c = enc c := escAll_high q _ (enc_high c hc (by omega))
    rw [hL] at hx ⊢
    exact unR_self x pre suf c hc (by omega) hx
theorem escC_pos (q : Bool) (c : Nat) (hc : okC c) : 0 < (escC q c).length := by
  unfold escC
  have hp := enc_pos c hc
  cases he : enc c with
  | nil => rw [he] at hp; simp at hp
  | cons b l =>
    have : 0 < (escByte q b).length := by unfold escByte; (repeat' split) <;> simp
    simp only [escAll, List.flatMap_cons, List.length_append]
    omega
theorem unAll_step (s : ByteArray) (f : Nat) (acc : List UInt8) (i : Nat) (b : ByteArray) (n : Int) (hi : i < s.size) (hu : unR s i = (b, n, 0)) (hb : ¬ (acc.length : Int) + b.size > 16384) : unAll s (f + 1) acc i = unAll s f (acc ++ b.data.toList) (i + n.toNat) := by
  rw [unAll, if_pos hi, hu]
  exact (if_pos rfl).trans (if_neg hb)
theorem unAll_esc (x : ByteArray) (q : Bool) : ∀ (cs : List Nat) (f : Nat) (pre acc : List UInt8), (∀ c ∈ cs, okC c) → x.data.toList = pre ++ cs.flatMap (escC q) → x.size - pre.length ≤ f → (acc ++ encs cs).length ≤ 16384 →
    unAll x f acc pre.length = (⟨(acc ++ encs cs).toArray⟩, 0, 0) := by
  have hsz := Lib.size_eq x
  intro cs
  induction cs with
  | nil =>
    intro f pre acc _ h _ _
    have : ¬ pre.length < x.size := by rw [hsz, h]; simp
    cases f with
    | zero => simp [unAll, encs]
    | succ f => rw [unAll, if_neg this]; simp [encs]
  | cons c cs ih =>
    intro f pre acc hc h hf hb
    have hok := hc c (by simp)
    have hp := escC_pos q c hok
    rw [List.flatMap_cons, ← List.append_assoc] at h
    have hlen : x.size = pre.length + (escC q c).length + (cs.flatMap (escC q)).length := by rw [hsz, h]; simp; omega
    have hu := unR_esc x q pre (cs.flatMap (escC q)) c hok h
    obtain ⟨f, rfl⟩ : ∃ g, f = g + 1 := ⟨f - 1, by omega⟩
    rw [encs_cons, ← List.append_assoc] at hb ⊢
    rw [unAll_step x f acc pre.length ⟨(enc c).toArray⟩ _ (by omega) hu (by rw [sizeMk]; simp only [List.length_append] at hb; omega), Int.toNat_natCast, listMk]
    have := ih f (pre ++ escC q c) (acc ++ enc c) (fun z hz => hc z (by simp [hz])) h (by rw [List.length_append]; omega) hb
    rw [List.length_append] at this
    exact this
/-- What is escaped holds nothing that markup would take for something else. -/
theorem esc_free (q : Bool) (a : UInt8) : ∀ b ∈ escByte q a, b ≠ 60 ∧ b ≠ 62 ∧ b ≠ 13 ∧ (q = true → b ≠ 34 ∧ b ≠ 9 ∧ b ≠ 10) := by
  intro b hb
  unfold escByte at hb
  by_cases s0 : a = 38
  · rw [if_pos s0] at hb; simp at hb; rcases hb with rfl | rfl | rfl | rfl | rfl <;> exact ⟨by decide, by decide, by decide, fun _ => ⟨by decide, by decide, by decide⟩⟩
  rw [if_neg s0] at hb
  by_cases s1 : a = 60
  · rw [if_pos s1] at hb; simp at hb; rcases hb with rfl | rfl | rfl | rfl <;> exact ⟨by decide, by decide, by decide, fun _ => ⟨by decide, by decide, by decide⟩⟩
  rw [if_neg s1] at hb
  by_cases s2 : a = 62
  · rw [if_pos s2] at hb; simp at hb; rcases hb with rfl | rfl | rfl | rfl <;> exact ⟨by decide, by decide, by decide, fun _ => ⟨by decide, by decide, by decide⟩⟩
  rw [if_neg s2] at hb
  by_cases s3 : a = 13
  · rw [if_pos s3] at hb; simp at hb; rcases hb with rfl | rfl | rfl | rfl | rfl <;> exact ⟨by decide, by decide, by decide, fun _ => ⟨by decide, by decide, by decide⟩⟩
  rw [if_neg s3] at hb
  by_cases s4 : q = true ∧ a = 34
  · rw [if_pos s4] at hb; simp at hb; rcases hb with rfl | rfl | rfl | rfl | rfl | rfl <;> exact ⟨by decide, by decide, by decide, fun _ => ⟨by decide, by decide, by decide⟩⟩
  rw [if_neg s4] at hb
  by_cases s5 : q = true ∧ a = 9
  · rw [if_pos s5] at hb; simp at hb; rcases hb with rfl | rfl | rfl | rfl <;> exact ⟨by decide, by decide, by decide, fun _ => ⟨by decide, by decide, by decide⟩⟩
  rw [if_neg s5] at hb
  by_cases s6 : q = true ∧ a = 10
  · rw [if_pos s6] at hb; simp at hb; rcases hb with rfl | rfl | rfl | rfl | rfl <;> exact ⟨by decide, by decide, by decide, fun _ => ⟨by decide, by decide, by decide⟩⟩
  rw [if_neg s6] at hb
  simp at hb
  subst hb
  exact ⟨s1, s2, s3, fun hq => ⟨fun e => s4 ⟨hq, e⟩, fun e => s5 ⟨hq, e⟩, fun e => s6 ⟨hq, e⟩⟩⟩
theorem escAll_free (q : Bool) (l : List UInt8) : ∀ b ∈ escAll q l, b ≠ 60 ∧ b ≠ 62 ∧ b ≠ 13 ∧ (q = true → b ≠ 34 ∧ b ≠ 9 ∧ b ≠ 10) := by
  intro b hb
  simp only [escAll, List.mem_flatMap] at hb
  obtain ⟨a, _, hb⟩ := hb
  exact esc_free q a b hb
end Go.Proofs.YtealmfcimoomlaaGreatDoor.PA
