/- The reference's Name, First, Blank, Len, Cut, Squeeze answer as chars does: in plain Lean. -/
import Derived.Test.YtdmeafhhdhojlaaDoorPRunes
import Derived.Test.YtdmeafhhdhojlaaDoorPSqueeze
import Derived.Test.YtdmeafhhdhojlaaDoorPB4
import Derived.Test.YtdmeafhhdhojlaaDoorPB5
import Derived.Test.YtdmeafhhdhojlaaDoorPB6
import Derived.Test.YtdmeafhhdhojlaaDoorPB2
namespace Go.Proofs.YtdmeafhhdhojlaaDoor.PB
open Go.RowKit Go.Proofs.YtdmeafhhdhojlaaDoorW.PrintWords Go.Proofs.YtdmeafhhdhojlaaDoorW.PrintLast Go.Proofs.YtdmeafhhdhojlaaDoorW.PrintMore
set_option linter.unusedVariables false
set_option linter.unusedSimpArgs false
theorem white_f : ∀ n : Fin 256, espalierref02_White.f (n.val : Int) = some (whiteB (UInt8.ofNat n.val)) := by decide +kernel
theorem white_of (b : UInt8) : espalierref02_White.f (b.toNat : Int) = some (whiteB b) := by
  have := white_f ⟨b.toNat, b.toNat_lt⟩
  simp only [UInt8.ofNat_toNat] at this
  exact this
theorem drop_get (s : ByteArray) (i : Nat) (h : i < s.size) : s.data.toList.drop i = s.get! i :: s.data.toList.drop (i + 1) := by
  rw [get_list]
  exact drop_getD _ _ (by rw [← Lib.size_eq]; exact h)
theorem rblank_loop (s : ByteArray) (hn : s.size ≤ 140737488355328) : ∀ (d k i : Nat), i ≤ s.size → s.size - i = d → d + 1 ≤ k → espalierref02_Blank.l0 k s i = some ((s.data.toList.drop i).all (blanksL.contains ·)) := by
  intro d
  induction d with
  | zero =>
    intro k i hi hd hk
    obtain ⟨k, rfl⟩ : ∃ m, k = m + 1 := ⟨k - 1, by omega⟩
    rw [espalierref02_Blank.l0.eq_2, if_neg (by omega), List.drop_eq_nil_of_le (by rw [← Lib.size_eq]; omega)]
    rfl
  | succ d ih =>
    intro k i hi hd hk
    obtain ⟨k, rfl⟩ : ∃ m, k = m + 1 := ⟨k - 1, by omega⟩
    have hlt : i < s.size := by omega
    have hw : wrap64 ((i : Int) + 1) = ((i + 1 : Nat) : Int) := by rw [wrap_in (by omega) (by omega)]; omega
    rw [espalierref02_Blank.l0.eq_2, if_pos (by omega), if_pos (by omega), bt_byte s i hlt, white_of, Option.bind_some, hw, ih k (i + 1) (by omega) (by omega) (by omega), drop_get s i hlt, List.all_cons]
    have hb : blanksL.contains (s.get! i) = whiteB (s.get! i) := rfl
    rw [hb]
    cases whiteB (s.get! i) <;> simp
theorem rBlank_eq (s : ByteArray) (hn : s.size ≤ 140737488355328) (k : Nat) (hk : s.size + 1 ≤ k) : espalierref02_Blank.f k s = some (s.data.toList.all (blanksL.contains ·)) := by
  unfold espalierref02_Blank.f
  have := rblank_loop s hn s.size k 0 (by omega) (by omega) (by omega)
  rw [List.drop_zero] at this
  exact this
theorem letter_begins (c : Int) : ∃ t, chars_letter.f c = some t ∧ espalierref02_Begins.f c = some t := by
  unfold chars_letter.f espalierref02_Begins.f
  repeat' split
  all_goals exact ⟨_, rfl, rfl⟩
theorem name_loop (s : ByteArray) : ∀ (k : Nat) (i : Int), chars_Name.l0 k s (s.size : Int) i = espalierref02_Name.l0 k s i
  | 0, i => by rw [chars_Name.l0.eq_1, espalierref02_Name.l0.eq_1]
  | k + 1, i => by
    have ih := name_loop s k (wrap64 (i + 1))
    rw [chars_Name.l0.eq_2, espalierref02_Name.l0.eq_2, ih]
    generalize espalierref02_Name.l0 k s (wrap64 (i + 1)) = A
    by_cases h1 : i < (s.size : Int)
    · simp only [if_pos h1]
      by_cases h2 : 0 ≤ i
      · simp only [if_pos h2]
        generalize bt s i = c
        obtain ⟨t, e1, e2⟩ := letter_begins c
        unfold espalierref02_In.f
        rw [e1, e2, Option.bind_some, Option.bind_some]
        cases t with
        | true => rfl
        | false =>
          rw [if_neg (show ¬ (false = true) by simp), if_neg (show ¬ (false = true) by simp)]
          by_cases c1 : c = 45
          · subst c1; simp
          by_cases c2 : c = 46
          · subst c2; simp
          by_cases c3 : c < 48
          · rw [if_pos c3, if_neg c1, if_neg c2, if_neg (by omega), if_neg c1, Option.bind_some, if_neg (by simpa using c2)]
          · rw [if_neg c3, if_pos (show c ≥ 48 by omega)]
            by_cases c4 : c > 57
            · rw [if_pos c4, if_neg c1, if_neg c2, if_neg (by omega), if_neg c1, Option.bind_some, if_neg (by simpa using c2)]
            · rw [if_neg c4, if_pos (show c ≤ 57 by omega), Option.bind_some, if_pos rfl]
      · simp only [if_neg h2]
    · simp only [if_neg h1]
theorem name_j0 (s : ByteArray) (b : Bool) : ∀ k : Nat, chars_Name.j0 k s b = espalierref02_Name.j0 k s b
  | 0 => by rw [chars_Name.j0.eq_1, espalierref02_Name.j0.eq_1]
  | k + 1 => by rw [chars_Name.j0.eq_2, espalierref02_Name.j0.eq_2, name_loop]
theorem Name_eq (s : ByteArray) (k : Nat) : chars_Name.f k s = espalierref02_Name.f k s := by
  unfold chars_Name.f espalierref02_Name.f
  have hz : s.toList = [] ↔ (s.size : Int) < 1 := by
    rw [Lib.toList_data, Lib.size_eq]
    constructor
    · intro h; rw [h]; simp
    · intro h; exact List.eq_nil_of_length_eq_zero (by omega)
  by_cases h : (s.size : Int) < 1
  · rw [if_pos (hz.mpr h), if_pos h, name_j0]
  · rw [if_neg (fun e => h (hz.mp e)), if_neg h]
    by_cases h2 : (s.size : Int) > 32
    · rw [if_pos h2, if_pos h2, name_j0]
    · rw [if_neg h2, if_neg h2]
      obtain ⟨t, e1, e2⟩ := letter_begins (bt s 0)
      rw [e1, e2, Option.bind_some, Option.bind_some, name_j0]
/-- A name's answer is always there, with rounds enough. -/
theorem name_ends (s : ByteArray) (hn : s.size ≤ 140737488355328) : ∀ (d k i : Nat), i ≤ s.size → s.size - i = d → d + 1 ≤ k → ∃ b, espalierref02_Name.l0 k s i = some b := by
  intro d
  induction d with
  | zero =>
    intro k i hi hd hk
    obtain ⟨k, rfl⟩ : ∃ m, k = m + 1 := ⟨k - 1, by omega⟩
    rw [espalierref02_Name.l0.eq_2, if_neg (by omega)]
    exact ⟨_, rfl⟩
  | succ d ih =>
    intro k i hi hd hk
    obtain ⟨k, rfl⟩ : ∃ m, k = m + 1 := ⟨k - 1, by omega⟩
    have hw : wrap64 ((i : Int) + 1) = ((i + 1 : Nat) : Int) := by rw [wrap_in (by omega) (by omega)]; omega
    obtain ⟨t, ht⟩ : ∃ t, espalierref02_In.f (bt s (i : Int)) = some t := by
      unfold espalierref02_In.f
      obtain ⟨t, _, e2⟩ := letter_begins (bt s (i : Int))
      rw [e2, Option.bind_some]
      repeat' split
      all_goals exact ⟨_, rfl⟩
    rw [espalierref02_Name.l0.eq_2, if_pos (by omega), if_pos (by omega), ht, Option.bind_some, hw]
    split
    · exact ih k (i + 1) (by omega) (by omega) (by omega)
    · exact ⟨_, rfl⟩
theorem Name_ends (s : ByteArray) (hn : s.size ≤ 140737488355328) (k : Nat) (hk : s.size + 2 ≤ k) : ∃ b, espalierref02_Name.f k s = some b := by
  obtain ⟨k, rfl⟩ : ∃ m, k = m + 1 := ⟨k - 1, by omega⟩
  have hj : ∀ b, ∃ r, espalierref02_Name.j0 (k + 1) s b = some r := by
    intro b
    rw [espalierref02_Name.j0.eq_2]
    split
    · exact ⟨_, rfl⟩
    · exact name_ends s hn s.size k 0 (by omega) (by omega) (by omega)
  unfold espalierref02_Name.f
  obtain ⟨t, _, e2⟩ := letter_begins (bt s 0)
  rw [e2, Option.bind_some]
  split
  · exact hj _
  · split
    · exact hj _
    · rw [if_pos (by omega)]
      exact hj _
theorem rFirst_eq (k : Nat) (s : ByteArray) (hn : s.size ≤ 140737488355328) : chars_First.f (k + 6) s = espalierref02_First.f (k + 6) s ∧ ∃ r, espalierref02_First.f (k + 6) s = some r := by
  unfold chars_First.f espalierref02_First.f
  by_cases h : s.size = 0
  · have hz : s.toList = [] := by rw [Lib.toList_data]; exact List.eq_nil_of_length_eq_zero (by rw [← Lib.size_eq]; exact h)
    rw [first_none _ s h, Option.bind_some, if_pos hz]
    exact ⟨rfl, _, rfl⟩
  · have hz : ¬ s.toList = [] := fun e => h (by rw [Lib.toList_data] at e; rw [Lib.size_eq, e]; rfl)
    have ha := ref_at k s 0 (by omega) hn
    have ha' : espalierref02_At.f (k + 6) s 0 = some (((chr s 0).1 : Int), ((chr s 0).2 : Int)) := ha
    rw [first_eq (k + 5) s (by omega), Option.bind_some, if_neg hz, ha', Option.bind_some]
    by_cases e : (chr s 0).2 = 0
    · rw [if_pos e, if_pos (by simp only; omega)]
      exact ⟨rfl, _, rfl⟩
    · rw [if_neg e, if_neg (by simp only; omega)]
      exact ⟨rfl, _, rfl⟩
theorem rchars_loop (s : ByteArray) (hn : s.size ≤ 16384) : ∀ (cs : List Nat) (k : Nat) (pre : List UInt8) (acc : List ByteArray), (∀ c ∈ cs, okC c) → s.data.toList = pre ++ encs cs → acc.length ≤ pre.length → cs.length + 7 ≤ k → espalierref02_Chars.l0 k s acc pre.length = some (acc ++ cs.map (fun c => (⟨(enc c).toArray⟩ : ByteArray))) := by
  have hsz := Lib.size_eq s
  intro cs
  induction cs with
  | nil =>
    intro k pre acc _ h _ hk
    obtain ⟨k, rfl⟩ : ∃ m, k = m + 1 := ⟨k - 1, by omega⟩
    have : ¬ pre.length < s.size := by rw [hsz, h]; simp [encs]
    rw [espalierref02_Chars.l0.eq_2, if_neg (by omega), List.map_nil, List.append_nil]
  | cons c cs ih =>
    intro k pre acc hc h ha hk
    rw [List.length_cons] at hk
    obtain ⟨k, rfl⟩ : ∃ m, k = m + 7 := ⟨k - 7, by omega⟩
    have hok := hc c (by simp)
    have hp := enc_pos c hok
    have hch := chr_enc s pre (encs cs) c hok (by rw [h, encs_cons, List.append_assoc])
    have hlen : s.size = pre.length + (enc c).length + (encs cs).length := by rw [hsz, h, encs_cons]; simp; omega
    have hat := ref_at k s pre.length (by omega) (by omega)
    rw [hch] at hat
    have hw : wrap64 ((pre.length : Int) + ((enc c).length : Int)) = ((pre.length + (enc c).length : Nat) : Int) := by rw [wrap_in (by omega) (by omega)]; omega
    have hX : s.extract pre.length (pre.length + (enc c).length) = ⟨(enc c).toArray⟩ := ByteArray.ext (Array.ext' (by rw [Lib.extract_data, h, encs_cons]; simp))
    have := ih (k + 6) (pre ++ enc c) (acc ++ [⟨(enc c).toArray⟩]) (fun z hz => hc z (by simp [hz])) (by rw [h, encs_cons, List.append_assoc]) (by simp; omega) (by omega)
    rw [List.length_append] at this
    rw [espalierref02_Chars.l0.eq_2, if_pos (by omega), hat, Option.bind_some, if_neg (by simp only; omega), if_pos (by omega)]
    simp only
    rw [hw, if_pos (by omega), if_pos (by omega), if_pos (by omega), Int.toNat_natCast, Int.toNat_natCast, hX, this, List.map_cons, List.append_assoc]
    rfl
theorem rChars_eq (s : ByteArray) (hn : s.size ≤ 16384) (cs : List Nat) (hc : ∀ c ∈ cs, okC c) (h : s.data.toList = encs cs) (k : Nat) (hk : cs.length + 7 ≤ k) : espalierref02_Chars.f k s = some (cs.map (fun c => (⟨(enc c).toArray⟩ : ByteArray))) := by
  unfold espalierref02_Chars.f
  have := rchars_loop s hn cs k [] [] hc (by simpa using h) (by simp) hk
  rw [List.length_nil, List.nil_append] at this
  exact this
theorem encs_long (cs : List Nat) (hc : ∀ c ∈ cs, okC c) : cs.length ≤ (encs cs).length := by
  induction cs with
  | nil => simp
  | cons c cs ih =>
    have := enc_pos c (hc c (by simp))
    have := ih (fun x hx => hc x (by simp [hx]))
    rw [encs_cons, List.length_append, List.length_cons]
    omega
theorem rLen_eq (k : Nat) (s : ByteArray) (hn : s.size ≤ 140737488355328) (hk : s.size + 8 ≤ k) : espalierref02_Len.f k s = some (if (textR s).2 = 0 then ((Lib.runeCount s : Int), 0) else (0, (textR s).2)) := by
  unfold espalierref02_Len.f
  rw [rtext_eq s hn k hk, Option.bind_some]
  by_cases ht : (textR s).2 = 0
  · obtain ⟨hs, cs, hc, h⟩ := (textR_iff s).mp ht
    have hl := encs_long cs hc
    rw [← h, ← Lib.size_eq] at hl
    rw [if_pos ht, if_pos ht, rChars_eq s hs cs hc h k (by omega), Option.bind_some, (count_of s cs hc h).1, List.length_map]
  · rw [if_neg ht, if_neg ht]
theorem rd_map (cs : List Nat) (i : Nat) (hi : i < cs.length) : rdOf ByteArray.empty (cs.map (fun c => (⟨(enc c).toArray⟩ : ByteArray))) (i : Int) = ⟨(enc cs[i]).toArray⟩ := by
  unfold rdOf
  rw [Int.toNat_natCast, List.getD_eq_getElem?_getD, List.getElem?_map, List.getElem?_eq_getElem hi]
  rfl
theorem rcut_loop (L : List ByteArray) (cs : List Nat) (hL : L.length = cs.length) (hget : ∀ (i : Nat) (hi : i < cs.length), rdOf ByteArray.empty L (i : Int) = ⟨(enc cs[i]).toArray⟩) (hl : cs.length ≤ 16384) (a : Nat) (b : Int) (hb0 : 0 ≤ b) : ∀ (d k i : Nat) (acc : List UInt8), a ≤ i → cs.length - i = d → d + 1 ≤ k → (acc ++ encs (cs.drop i)).length ≤ 16384 →
    espalierref02_Cut.l0 k (a : Int) b (numsL acc) L (i : Int) = some ((⟨(acc ++ encs ((cs.drop i).take (b.toNat - (i - a)))).toArray⟩ : ByteArray), 0) := by
  intro d
  induction d with
  | zero =>
    intro k i acc h1 h2 h3 h5
    obtain ⟨k, rfl⟩ : ∃ m, k = m + 1 := ⟨k - 1, by omega⟩
    have hi : ¬ (i : Int) < (L.length : Int) := by omega
    rw [espalierref02_Cut.l0.eq_2, if_neg hi, str_numsL, List.drop_eq_nil_of_le (by omega), List.take_nil, show encs [] = [] from rfl, List.append_nil]
  | succ d ih =>
    intro k i acc h1 h2 h3 h5
    obtain ⟨k, rfl⟩ : ∃ m, k = m + 1 := ⟨k - 1, by omega⟩
    have hi : i < cs.length := by omega
    have hi2 : (i : Int) < (L.length : Int) := by omega
    have hI := fun acc' => ih k (i + 1) acc' (by omega) (by omega) (by omega)
    have hn1 : ((i - a : Nat) : Int) < b → b.toNat - (i - a) = (b.toNat - (i + 1 - a)) + 1 := by intro h; omega
    have hn2 : ¬ ((i - a : Nat) : Int) < b → b.toNat - (i - a) = 0 := by intro h; omega
    have hw : wrap64 ((i : Int) - (a : Int)) = ((i - a : Nat) : Int) := by rw [wrap_in (by omega) (by omega)]; omega
    have hw2 : wrap64 ((i : Int) + 1) = ((i + 1 : Nat) : Int) := by rw [wrap_in (by omega) (by omega)]; omega
    have hd : cs.drop i = cs[i] :: cs.drop (i + 1) := List.drop_eq_getElem_cons hi
    have hr := hget i hi
    clear ih hget
    generalize cs[i] = c at hd hr
    rw [espalierref02_Cut.l0.eq_2, if_pos hi2, hw, hw2]
    by_cases hb : ((i - a : Nat) : Int) < b
    · have h6 : acc.length + (enc c).length ≤ 16384 := by
        have h7 := h5
        rw [hd, encs_cons, List.length_append, List.length_append] at h7
        exact Nat.le_trans (Nat.add_le_add_left (Nat.le_add_right _ _) _) h7
      have h8 : ((acc ++ enc c) ++ encs (cs.drop (i + 1))).length ≤ 16384 := by rw [List.append_assoc, ← encs_cons, ← hd]; exact h5
      rw [if_pos hb, if_pos (Int.natCast_nonneg i), hr, numsL_len, sizeMk, if_pos (Nat.lt_of_le_of_lt h6 (by decide)), bytesOf_eq, listMk, ← numsL_app, hI _ h8, hd, hn1 hb, List.take_succ_cons, encs_cons, List.append_assoc]
    · rw [if_neg hb, str_numsL, hn2 hb, List.take_zero, show encs [] = [] from rfl, List.append_nil]
theorem rCut_eq (k : Nat) (s : ByteArray) (a b : Int) (ha : a ≤ 9223372036854775807) (hb : b ≤ 9223372036854775807) (hn : s.size ≤ 140737488355328) (hk : s.size + 40 ≤ k) : espalierref02_Cut.f k s a b = chars_Cut.f k s a b ∧ ∃ r, chars_Cut.f k s a b = some r := by
  unfold espalierref02_Cut.f chars_Cut.f
  obtain ⟨k, rfl⟩ : ∃ m, k = m + 2 := ⟨k - 2, by omega⟩
  rw [rtext_eq s hn _ (by omega), text_eq s hn _ (by omega), Option.bind_some, Option.bind_some]
  by_cases ht : (textR s).2 = 0
  · obtain ⟨hs, cs, hc, h⟩ := (textR_iff s).mp ht
    have hl := encs_long cs hc
    rw [← h, ← Lib.size_eq] at hl
    rw [if_pos ht, if_pos ht, if_pos (show s.size ≤ 70368744177664 by omega)]
    by_cases h1 : a < 0
    · rw [if_pos h1, if_pos (.inl h1), espalierref02_Cut.j0.eq_2, if_pos rfl, espalierref02_Cut.j1.eq_2, if_neg (by decide)]
      exact ⟨rfl, _, rfl⟩
    · rw [if_neg h1]
      by_cases h2 : b < 0
      · rw [if_pos (.inr h2), espalierref02_Cut.j0.eq_2, if_pos (decide_eq_true h2), espalierref02_Cut.j1.eq_2, if_neg (by decide)]
        exact ⟨rfl, _, rfl⟩
      · obtain ⟨n, rfl⟩ := Int.eq_ofNat_of_zero_le (show 0 ≤ a by omega)
        have hloop := rcut_loop (cs.map (fun c => (⟨(enc c).toArray⟩ : ByteArray))) cs (by rw [List.length_map]) (rd_map cs) (by omega) n b (by omega) (cs.length - n) k n [] (Nat.le_refl _) rfl (by omega) (by
          have := encs_app (cs.take n) (cs.drop n)
          rw [List.take_append_drop] at this
          have h9 := congrArg List.length this
          rw [List.length_append, ← h, ← Lib.size_eq] at h9
          rw [List.nil_append]
          omega)
        have hc2 := cut_of s cs hc h (n : Int) b
        rw [Int.toNat_natCast] at hc2
        rw [if_neg (by omega), espalierref02_Cut.j0.eq_2, if_neg (by rw [decide_eq_true_iff]; exact h2), espalierref02_Cut.j1.eq_2, if_pos ht, rChars_eq s hs cs hc h k (by omega), Option.bind_some]
        rw [List.nil_append, Nat.sub_self, Nat.sub_zero, ← hc2, mkL] at hloop
        exact ⟨hloop, _, rfl⟩
  · rw [if_neg ht, if_neg ht, espalierref02_Cut.j0.eq_2, if_neg (by simp), espalierref02_Cut.j1.eq_2, if_neg ht]
    exact ⟨rfl, _, rfl⟩
end Go.Proofs.YtdmeafhhdhojlaaDoor.PB
