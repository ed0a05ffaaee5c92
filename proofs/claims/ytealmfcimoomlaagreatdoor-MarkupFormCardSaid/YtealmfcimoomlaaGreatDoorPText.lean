/- Texts of this claim, one behind the other: PM5, PText. Conditions: those of each theorem. -/
import Derived.Test.YtealmfcimoomlaaGreatDoorUPrint
import Derived.Test.YtealmfcimoomlaaGreatDoorUSame
import Derived.Test.YtealmfcimoomlaaGreatDoorPNumber
/- Same and 'alike': the program's and the reference's are one. -/
namespace Go.Proofs.YtealmfcimoomlaaGreatDoor.PA
open Go.RowKit Go.Proofs.YtealmfcimoomlaaGreatDoorW.PrintWords Go.Proofs.YtealmfcimoomlaaGreatDoorW.PrintLast Go.Proofs.YtealmfcimoomlaaGreatDoorW.PrintMore
set_option linter.unusedVariables false
set_option linter.unusedSimpArgs false
def neA (a b : S61) : Bool := !(a.f0.toList == b.f0.toList) || (!(a.f1.toList == b.f1.toList))
def attrsSame : List S61 → List S61 → Bool
  | a :: l, b :: m => if neA a b = true then false else attrsSame l m
  | _, _ => true
def attrsEq (l m : List S61) : Bool := if l.length = m.length then attrsSame l m else false
theorem rd_app54 (pre l : List S61) (t : S61) (i : Nat) (hi : i = pre.length) : rd_T61 (pre ++ t :: l) (i : Int) = t := by
  subst hi
  unfold rd_T61
  rw [Int.toNat_natCast, List.getD_eq_getElem?_getD, List.getElem?_append_right (Nat.le_refl _), Nat.sub_self]
  rfl
theorem app_step54 (pre l : List S61) (t : S61) : pre ++ t :: l = (pre ++ [t]) ++ l := by simp
theorem attrs_evEP : ∀ (l m pre0 pre1 : List S61), l.length = m.length → pre0.length = pre1.length → (pre0 ++ l).length ≤ 9000000000000000 → Ev (fun k => api_Attr_51.l0 k (pre0 ++ l) (pre1 ++ m) ((pre0 ++ l).length : Int) ((pre0.length : Nat) : Int)) (attrsSame l m)
  | [], m, pre0, pre1, h, hp, hb => by
    rw [attrsSame]
    · exact Ev.step (f := fun _ => some true) (fun k => by rw [api_Attr_51.l0.eq_2, if_neg (by simp)]) (Ev.now _)
    · intro a l b m' h; cases h
  | a :: l, [], pre0, pre1, h, hp, hb => by cases h
  | a :: l, b :: m, pre0, pre1, h, hp, hb => by
    have h' : l.length = m.length := by simpa using h
    have hw := Aside0.mk (show wrap64 ((pre0.length : Int) + 1) = (((pre0 ++ [a]).length : Nat) : Int) by simp only [List.length_append, List.length_cons, List.length_nil] at hb ⊢; unfold wrap64; omega)
    rw [attrsSame]
    refine Ev.step (fun k => by rw [api_Attr_51.l0.eq_2, if_pos (by simp only [List.length_append, List.length_cons]; omega), if_pos (by omega), if_pos (by simp only [List.length_append, List.length_cons]; omega), if_pos (by simp only [List.length_append, List.length_cons]; omega), rd_app54 pre0 l a pre0.length rfl, rd_app54 pre1 m b pre0.length hp, hw.out]) ?_
    by_cases hn : neA a b = true
    · rw [if_pos hn]
      unfold neA at hn
      simp only [if_pos hn]
      exact Ev.now _
    · rw [if_neg hn]
      unfold neA at hn
      simp only [if_neg hn]
      have := attrs_evEP l m (pre0 ++ [a]) (pre1 ++ [b]) h' (by simpa using hp) (by rw [← app_step54]; exact hb)
      rw [← app_step54, ← app_step54] at this
      exact this
theorem attrsEq_P (l m : List S61) (hb : l.length ≤ 9000000000000000) : Ev (fun k => api_Attr_51.f k l m) (attrsEq l m) := by
  unfold api_Attr_51.f attrsEq
  by_cases h : l.length = m.length
  · simp only [if_pos h, if_pos (show (l.length : Int) = (m.length : Int) by omega)]
    exact attrs_evEP l m [] [] h rfl hb
  · simp only [if_neg h, if_neg (show ¬ (l.length : Int) = (m.length : Int) by omega)]; exact Ev.now _
mutual
def sameTE : S35 → S35 → Bool
  | ⟨a0, a1, a2, a3, a4⟩, b =>
    if (a0 != b.f0) = true then false
    else if (a0 == 1) = true then (if (a1.toList == b.f1.toList) = true then (if attrsEq a2 b.f2 = true then (if a4.length = b.f4.length then sameLE a4 b.f4 else false) else false) else false)
    else if (a0 == 2) = true then (a3.toList == b.f3.toList) else true
def sameLE : List S35 → List S35 → Bool
  | [], _ => true
  | _ :: _, [] => true
  | a :: l, b :: m => if sameTE a b = true then sameLE l m else false
end
mutual
theorem sameT_ev : ∀ (a b : S35), okT a → Ev (fun k => sameT k a b) (sameTE a b)
  | ⟨a0, a1, a2, a3, a4⟩, b, h => by
    refine Ev.congr (fun k => by rw [sameT]) ?_
    rw [sameTE]
    by_cases h1 : (a0 != b.f0) = true
    · simp only [if_pos h1]; exact Ev.now _
    simp only [if_neg h1]
    by_cases h2 : (a0 == 1) = true
    · simp only [if_pos h2]
      by_cases h3 : (a1.toList == b.f1.toList) = true
      · simp only [if_pos h3]
        refine Ev.bind (attrsEq_P a2 b.f2 (by have := h.2.2.1.2; omega)) ?_
        by_cases h4 : attrsEq a2 b.f2 = true
        · simp only [if_pos h4]
          by_cases h5 : a4.length = b.f4.length
          · simp only [if_pos h5]; exact sameL_ev a4 b.f4 h.2.2.2.2.1
          · simp only [if_neg h5]; exact Ev.now _
        · simp only [if_neg h4]; exact Ev.now _
      · simp only [if_neg h3]; exact Ev.now _
    · simp only [if_neg h2]
      by_cases h3 : (a0 == 2) = true
      · simp only [if_pos h3]; exact Ev.now _
      · simp only [if_neg h3]; exact Ev.now _
theorem sameL_ev : ∀ (l m : List S35), okK l → Ev (fun k => sameL k l m) (sameLE l m)
  | [], m, _ => Ev.congr (fun k => by rw [sameL]) (by rw [sameLE]; exact Ev.now _)
  | a :: l, [], _ => Ev.congr (fun k => by rw [sameL]) (by rw [sameLE]; exact Ev.now _)
  | a :: l, b :: m, h => by
    refine Ev.congr (fun k => by rw [sameL]) ?_
    rw [sameLE]
    refine Ev.bind (sameT_ev a b h.1) ?_
    by_cases h4 : sameTE a b = true
    · simp only [if_pos h4]; exact sameL_ev l m h.2
    · simp only [if_neg h4]; exact Ev.now _
end
def sameE (l m : List S35) : Bool := if l.length = m.length then sameLE l m else false
theorem same_evP (l m : List S35) (h : okK l) : Ev (fun k => markup_Same.f k l m) (sameE l m) := by
  unfold markup_Same.f sameK sameE
  by_cases h5 : l.length = m.length
  · simp only [if_pos h5]; exact sameL_ev l m h
  · simp only [if_neg h5]; exact Ev.now _
theorem attrsSame_refl : ∀ l : List S61, attrsSame l l = true
  | [] => rfl
  | a :: l => by rw [attrsSame, if_neg (by unfold neA; simp), attrsSame_refl l]
mutual
theorem sameTE_refl : ∀ a : S35, sameTE a a = true
  | ⟨a0, a1, a2, a3, a4⟩ => by
    rw [sameTE]
    simp only [bne_self_eq_false, beq_self_eq_true, if_true, attrsEq, attrsSame_refl, sameLE_refl a4, if_neg (show ¬ (false = true) by decide)]
    split <;> simp
theorem sameLE_refl : ∀ l : List S35, sameLE l l = true
  | [] => rfl
  | a :: l => by rw [sameLE, if_pos (sameTE_refl a), sameLE_refl l]
end
theorem sameE_refl (l : List S35) : sameE l l = true := by unfold sameE; rw [if_pos rfl, sameLE_refl]
end Go.Proofs.YtealmfcimoomlaaGreatDoor.PA

/- Texts that can be, as lists of characters. -/
namespace Go.Proofs.YtealmfcimoomlaaGreatDoor.PA
open Go.RowKit Go.Proofs.YtealmfcimoomlaaGreatDoorW.PrintWords Go.Proofs.YtealmfcimoomlaaGreatDoorW.PrintLast Go.Proofs.YtealmfcimoomlaaGreatDoorW.PrintMore
set_option linter.unusedVariables false
set_option linter.unusedSimpArgs false
/-- A character's bytes. -/
def enc (c : Nat) : List UInt8 := (Utf8.encode (c : Int)).data.toList
def okC (c : Nat) : Prop := canB (c : Int) = true
theorem okC_iff (c : Nat) : okC c ↔ (c = 9 ∨ c = 10 ∨ c = 13 ∨ (32 ≤ c ∧ c ≤ 55295) ∨ (57344 ≤ c ∧ c ≤ 65533) ∨ (65536 ≤ c ∧ c ≤ 1114111)) := by
  unfold okC canB
  rw [decide_eq_true_iff]
  omega
theorem enc_raw (c : Nat) (hv : Utf8.valid (c : Int) = true) : (Utf8.encode (c : Int)).data.toList = if c < 128 then [UInt8.ofNat c] else if c < 2048 then [UInt8.ofNat (192 + c / 64), UInt8.ofNat (128 + c % 64)]
    else if c < 65536 then [UInt8.ofNat (224 + c / 4096), UInt8.ofNat (128 + c / 64 % 64), UInt8.ofNat (128 + c % 64)]
    else [UInt8.ofNat (240 + c / 262144), UInt8.ofNat (128 + c / 4096 % 64), UInt8.ofNat (128 + c / 64 % 64), UInt8.ofNat (128 + c % 64)] := by
  unfold Utf8.encode
  simp only [hv, if_true, Int.toNat_natCast]
  by_cases c1 : c < 128
  · simp only [if_pos c1]
  by_cases c2 : c < 2048
  · simp only [if_neg c1, if_pos c2]
  by_cases c3 : c < 65536
  · simp only [if_neg c1, if_neg c2, if_pos c3]
  · simp only [if_neg c1, if_neg c2, if_neg c3]
theorem valid_okC (c : Nat) (h : okC c) : Utf8.valid (c : Int) = true := by
  have r := (okC_iff c).mp h
  unfold Utf8.valid
  rw [Bool.or_eq_true, Bool.and_eq_true, Bool.and_eq_true, decide_eq_true_iff, decide_eq_true_iff, decide_eq_true_iff, decide_eq_true_iff]
  omega
theorem enc_eq (c : Nat) (h : okC c) : enc c = if c < 128 then [UInt8.ofNat c] else if c < 2048 then [UInt8.ofNat (192 + c / 64), UInt8.ofNat (128 + c % 64)]
    else if c < 65536 then [UInt8.ofNat (224 + c / 4096), UInt8.ofNat (128 + c / 64 % 64), UInt8.ofNat (128 + c % 64)]
    else [UInt8.ofNat (240 + c / 262144), UInt8.ofNat (128 + c / 4096 % 64), UInt8.ofNat (128 + c / 64 % 64), UInt8.ofNat (128 + c % 64)] := (enc.eq_1 c).trans (enc_raw c (valid_okC c h))
theorem getD_app (a b : List UInt8) (j : Nat) : (a ++ b).getD (a.length + j) 0 = b.getD j 0 := by
  simp [List.getD_eq_getElem?_getD, List.getElem?_append_right]
theorem u8n (n : Nat) (h : n < 256) : (UInt8.ofNat n).toNat = n := by simp; omega
theorem enc_len (c : Nat) (h : okC c) : (enc c).length = if c < 128 then 1 else if c < 2048 then 2 else if c < 65536 then 3 else 4 := by
  rw [enc_eq c h]; repeat' split
  all_goals rfl
theorem enc_pos (c : Nat) (h : okC c) : 0 < (enc c).length ∧ (enc c).length ≤ 4 := by
  rw [enc_len c h]; repeat' split
  all_goals omega
/-- A character's bytes, wherever they stand, are read as the character. -/
theorem chr_enc (s : ByteArray) (pre suf : List UInt8) (c : Nat) (hc : okC c) (hs : s.data.toList = pre ++ enc c ++ suf) : chr s pre.length = (c, (enc c).length) := by
  have hsz : s.size = pre.length + (enc c).length + suf.length := by rw [Lib.size_eq, hs]; simp; omega
  have g : ∀ j, s.get! (pre.length + j) = (enc c ++ suf).getD j 0 := fun j => by rw [get_list, hs, List.append_assoc, getD_app]
  have g0 := g 0
  rw [Nat.add_zero] at g0
  have r := (okC_iff c).mp hc
  have hl := enc_len c hc
  rw [chr_eq, g0, g 1, g 2, g 3, show s.size - pre.length = (enc c).length + suf.length from by omega, hl]
  rw [enc_eq c hc]
  have hcb : canB (c : Int) = true := hc
  by_cases c1 : c < 128
  · simp only [if_pos c1, List.cons_append, List.nil_append, List.getD_cons_zero, u8n c (by omega)]
    rw [show Lib.decodeN (1 + suf.length) c _ _ _ = (c, 1) from by unfold Lib.decodeN; rw [if_pos c1]]
    unfold chrOf
    rw [if_neg (by simp; omega), if_pos hcb]
  by_cases c2 : c < 2048
  · simp only [if_neg c1, if_pos c2, List.cons_append, List.nil_append, List.getD_cons_zero, List.getD_cons_succ]
    rw [u8n _ (by omega), u8n _ (by omega)]
    have : Lib.decodeN (2 + suf.length) (192 + c / 64) (128 + c % 64) (suf.getD 0 0).toNat (suf.getD 1 0).toNat = (c, 2) := by
      unfold Lib.decodeN
      rw [if_neg (by omega), if_pos (by omega), if_pos (by omega)]
      exact Prod.ext (by show _ = c; omega) rfl
    rw [this, chrOf_wide c 2 (by omega), if_pos hcb]
  by_cases c3 : c < 65536
  · simp only [if_neg c1, if_neg c2, if_pos c3, List.cons_append, List.nil_append, List.getD_cons_zero, List.getD_cons_succ]
    rw [u8n _ (by omega), u8n _ (by omega), u8n _ (by omega)]
    have : Lib.decodeN (3 + suf.length) (224 + c / 4096) (128 + c / 64 % 64) (128 + c % 64) (suf.getD 0 0).toNat = (c, 3) := by
      unfold Lib.decodeN
      rw [if_neg (by omega), if_neg (by omega), if_pos (by omega), if_pos (by omega)]
      exact Prod.ext (by show _ = c; omega) rfl
    rw [this, chrOf_wide c 3 (by omega), if_pos hcb]
  · simp only [if_neg c1, if_neg c2, if_neg c3, List.cons_append, List.nil_append, List.getD_cons_zero, List.getD_cons_succ]
    rw [u8n _ (by omega), u8n _ (by omega), u8n _ (by omega), u8n _ (by omega)]
    have : Lib.decodeN (4 + suf.length) (240 + c / 262144) (128 + c / 4096 % 64) (128 + c / 64 % 64) (128 + c % 64) = (c, 4) := by
      unfold Lib.decodeN
      rw [if_neg (by omega), if_neg (by omega), if_neg (by omega), if_pos (by omega), if_pos (by omega)]
      exact Prod.ext (by show _ = c; omega) rfl
    rw [this, chrOf_wide c 4 (by omega), if_pos hcb]
theorem drop_getD (l : List UInt8) (i : Nat) (h : i < l.length) : l.drop i = l.getD i 0 :: l.drop (i + 1) := by
  rw [List.drop_eq_getElem_cons h, List.getD_eq_getElem?_getD, List.getElem?_eq_getElem h]
  rfl
theorem u8_eq (b : UInt8) (n : Nat) (h : b.toNat = n) : b = UInt8.ofNat n := by
  subst h; simp
/-- What is read at a place are a character's bytes. -/
theorem enc_chr (s : ByteArray) (i : Nat) (hi : i < s.size) (h : (chr s i).2 ≠ 0) : okC (chr s i).1 ∧ s.data.toList.drop i = enc (chr s i).1 ++ s.data.toList.drop (i + (chr s i).2) := by
  have hle := chr_le s i hi
  have hsz := Lib.size_eq s
  have hok : okC (chr s i).1 := by
    unfold chr at h ⊢
    split
    · rename_i g; rw [if_pos g] at h; exact absurd rfl h
    · rename_i g
      rw [if_neg g] at h
      split
      · assumption
      · rename_i g2; rw [if_neg g2] at h; exact absurd rfl h
  refine ⟨hok, ?_⟩
  have r := (okC_iff _).mp hok
  rw [enc_eq _ hok]
  have d0 := drop_getD s.data.toList i (by omega)
  rw [← get_list] at d0
  have hb0 := byte_lt s i
  have hb1 := byte_lt s (i + 1)
  have hb2 := byte_lt s (i + 2)
  have hb3 := byte_lt s (i + 3)
  have hch := chr_eq s i
  have e0 := fun n => u8_eq (s.get! i) n
  have e1 := fun n => u8_eq (s.get! (i + 1)) n
  have e2 := fun n => u8_eq (s.get! (i + 2)) n
  have e3 := fun n => u8_eq (s.get! (i + 3)) n
  have d1 := fun h => drop_getD s.data.toList (i + 1) h
  have d2 := fun h => drop_getD s.data.toList (i + 2) h
  have d3 := fun h => drop_getD s.data.toList (i + 3) h
  rw [← get_list] at d1 d2 d3
  generalize chr s i = p at *
  obtain ⟨c, w⟩ := p
  simp only at h hle r hch ⊢
  generalize hq0 : (s.get! i).toNat = b0 at *
  generalize hq1 : (s.get! (i + 1)).toNat = b1 at *
  generalize hq2 : (s.get! (i + 2)).toNat = b2 at *
  generalize hq3 : (s.get! (i + 3)).toNat = b3 at *
  have hbad : ∀ {d : Nat × Nat}, d = (65533, 1) → (c, w) = chrOf d → False := fun hd hc => by rw [hd] at hc; have := congrArg Prod.snd hc; simp [chrOf] at this; exact h this
  have hgood : ∀ {v u : Nat}, (c, w) = chrOf (v, u) → c = v ∧ w = u := by
    intro v u hc
    unfold chrOf at hc
    split at hc
    · simp at hc; exact absurd hc.2 h
    · split at hc
      · simpa using hc
      · simp at hc; exact absurd hc.2 h
  unfold Lib.decodeN at hch
  by_cases c1 : b0 < 128
  · rw [if_pos c1] at hch
    obtain ⟨rfl, rfl⟩ := hgood hch
    rw [if_pos c1, d0, e0 c rfl]
    rfl
  rw [if_neg c1] at hch
  by_cases c2 : b0 / 32 = 6 ∧ (1 < s.size - i ∧ b1 / 64 = 2)
  · rw [if_pos c2] at hch
    by_cases c3 : b0 % 32 * 64 + b1 % 64 ≥ 128
    · rw [if_pos c3] at hch
      obtain ⟨hcv, rfl⟩ := hgood hch
      rw [if_neg (by omega), if_pos (by omega), d0, d1 (by omega), e0 (192 + c / 64) (by omega), e1 (128 + c % 64) (by omega)]
      rfl
    · rw [if_neg c3] at hch; exact (hbad rfl hch).elim
  rw [if_neg c2] at hch
  by_cases c4 : b0 / 16 = 14 ∧ (1 < s.size - i ∧ b1 / 64 = 2) ∧ (2 < s.size - i ∧ b2 / 64 = 2)
  · rw [if_pos c4] at hch
    split at hch
    · rename_i g
      obtain ⟨hcv, rfl⟩ := hgood hch
      rw [if_neg (by omega), if_neg (by omega), if_pos (by omega), d0, d1 (by omega), d2 (by omega), e0 (224 + c / 4096) (by omega), e1 (128 + c / 64 % 64) (by omega), e2 (128 + c % 64) (by omega)]
      rfl
    · exact (hbad rfl hch).elim
  rw [if_neg c4] at hch
  by_cases c5 : b0 / 8 = 30 ∧ (1 < s.size - i ∧ b1 / 64 = 2) ∧ (2 < s.size - i ∧ b2 / 64 = 2) ∧ (3 < s.size - i ∧ b3 / 64 = 2)
  · rw [if_pos c5] at hch
    split at hch
    · rename_i g
      obtain ⟨hcv, rfl⟩ := hgood hch
      rw [if_neg (by omega), if_neg (by omega), if_neg (by omega), d0, d1 (by omega), d2 (by omega), d3 (by omega), e0 (240 + c / 262144) (by omega), e1 (128 + c / 4096 % 64) (by omega), e2 (128 + c / 64 % 64) (by omega), e3 (128 + c % 64) (by omega)]
      rfl
    · exact (hbad rfl hch).elim
  · rw [if_neg c5] at hch; exact (hbad rfl hch).elim
/-- The bytes of characters. -/
def encs (cs : List Nat) : List UInt8 := cs.flatMap enc
theorem encs_cons (c : Nat) (cs : List Nat) : encs (c :: cs) = enc c ++ encs cs := rfl
theorem encs_app (a b : List Nat) : encs (a ++ b) = encs a ++ encs b := by simp [encs]
theorem scan_chars (s : ByteArray) : ∀ (f i : Nat), i ≤ s.size → s.size - i ≤ f → scanT s f i = none → ∃ cs : List Nat, (∀ c ∈ cs, okC c) ∧ s.data.toList.drop i = encs cs := by
  have hsz := Lib.size_eq s
  intro f
  induction f with
  | zero => intro i h1 h2 _; exact ⟨[], by simp, by rw [List.drop_eq_nil_of_le (by omega)]; rfl⟩
  | succ f ih =>
    intro i h1 h2 h
    simp only [scanT] at h
    by_cases hi : i < s.size
    · rw [if_pos hi] at h
      by_cases e : (chr s i).2 = 0
      · rw [if_pos e] at h; exact absurd h (by simp)
      · rw [if_neg e] at h
        have hle := chr_le s i hi
        obtain ⟨cs, h3, h4⟩ := ih (i + (chr s i).2) (by omega) (by omega) h
        have hE := enc_chr s i hi e
        refine ⟨(chr s i).1 :: cs, ?_, ?_⟩
        · intro c hc
          rcases List.mem_cons.mp hc with rfl | hc
          · exact hE.1
          · exact h3 c hc
        · rw [hE.2, h4]; rfl
    · exact ⟨[], by simp, by rw [List.drop_eq_nil_of_le (by omega)]; rfl⟩
theorem chars_scan (s : ByteArray) : ∀ (cs : List Nat) (f : Nat) (pre : List UInt8), (∀ c ∈ cs, okC c) → s.data.toList = pre ++ encs cs → scanT s f pre.length = none := by
  intro cs
  have hsz := Lib.size_eq s
  induction cs with
  | nil =>
    intro f pre _ h
    cases f with
    | zero => rfl
    | succ f => simp only [scanT]; rw [if_neg (by rw [hsz, h]; simp [encs])]
  | cons c cs ih =>
    intro f pre hc h
    cases f with
    | zero => rfl
    | succ f =>
      have hok := hc c (by simp)
      have hp := enc_pos c hok
      have hch := chr_enc s pre (encs cs) c hok (by rw [h, encs_cons, List.append_assoc])
      simp only [scanT]
      rw [if_pos (by rw [hsz, h, encs_cons]; simp; omega), hch, if_neg (by simp only; omega)]
      have := ih f (pre ++ enc c) (fun x hx => hc x (by simp [hx])) (by rw [h, encs_cons, List.append_assoc])
      rw [List.length_append] at this
      dsimp only
      exact this
/-- A text can be just where it is short enough, and a list of characters. -/
theorem textR_iff (s : ByteArray) : (textR s).2 = 0 ↔ s.size ≤ 16384 ∧ ∃ cs : List Nat, (∀ c ∈ cs, okC c) ∧ s.data.toList = encs cs := by
  constructor
  · intro h
    have h1 := textR_ok h
    obtain ⟨cs, h2, h3⟩ := scan_chars s s.size 0 (by omega) (by omega) h1.2.1
    exact ⟨h1.1, cs, h2, by simpa using h3⟩
  · rintro ⟨h1, cs, h2, h3⟩
    have := chars_scan s cs s.size [] h2 (by simpa using h3)
    unfold textR
    rw [if_neg (by omega)]
    rw [List.length_nil] at this
    rw [this]
    rfl
theorem mkL (b : ByteArray) : (⟨b.data.toList.toArray⟩ : ByteArray) = b := by cases b; simp
theorem listMk (l : List UInt8) : (⟨l.toArray⟩ : ByteArray).data.toList = l := rfl
theorem sizeMk (l : List UInt8) : (⟨l.toArray⟩ : ByteArray).size = l.length := rfl
theorem encB (c : Nat) : (⟨(enc c).toArray⟩ : ByteArray) = Utf8.encode (c : Int) := by rw [enc.eq_1, mkL]
theorem enc_high (c : Nat) (h : okC c) (hc : 128 ≤ c) : ∀ b ∈ enc c, 128 ≤ b.toNat := by
  have r := (okC_iff c).mp h
  rw [enc_eq c h, if_neg (by omega)]
  intro b hb
  by_cases c2 : c < 2048
  · rw [if_pos c2] at hb
    simp only [List.mem_cons, List.mem_nil_iff, or_false] at hb
    rcases hb with rfl | rfl <;> rw [u8n _ (by omega)] <;> omega
  rw [if_neg c2] at hb
  by_cases c3 : c < 65536
  · rw [if_pos c3] at hb
    simp only [List.mem_cons, List.mem_nil_iff, or_false] at hb
    rcases hb with rfl | rfl | rfl <;> rw [u8n _ (by omega)] <;> omega
  · rw [if_neg c3] at hb
    simp only [List.mem_cons, List.mem_nil_iff, or_false] at hb
    rcases hb with rfl | rfl | rfl | rfl <;> rw [u8n _ (by omega)] <;> omega
theorem enc_low (c : Nat) (h : okC c) (hc : c < 128) : enc c = [UInt8.ofNat c] := by rw [enc_eq c h, if_pos hc]
end Go.Proofs.YtealmfcimoomlaaGreatDoor.PA
