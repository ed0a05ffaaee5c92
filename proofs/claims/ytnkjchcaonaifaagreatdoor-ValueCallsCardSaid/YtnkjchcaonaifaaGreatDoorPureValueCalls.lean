/- The pure statement of the law ValueCalls: what value.Call answers, the reference answers. Written by wip/gen/calls14.py. -/
import Derived.Test.YtnkjchcaonaifaaGreatDoorPReadL14
import Derived.Test.YtnkjchcaonaifaaGreatDoorOpens
import Derived.Test.YtnkjchcaonaifaaGreatDoorPText
import Derived.Lib.RuneCount
import Derived.Lib.IndexMore
import Derived.Test.YtnkjchcaonaifaaGreatDoorPA5
import Derived.Test.YtnkjchcaonaifaaGreatDoorPA13
import Derived.Test.YtnkjchcaonaifaaGreatDoorPA14
import Derived.Test.YtnkjchcaonaifaaGreatDoorPA15
namespace Go.Proofs.YtnkjchcaonaifaaGreatDoor.Pure
open Go.RowKit Go.Proofs.YtnkjchcaonaifaaGreatDoor.PA Go.Proofs.YtnkjchcaonaifaaGreatDoorW.PrintWords Go.Proofs.YtnkjchcaonaifaaGreatDoorW.PrintLast
set_option linter.unusedVariables false
set_option linter.unusedSimpArgs false
abbrev Rec := S28
abbrev Att := S146
abbrev VR := Int × Bool × Int × Bool × ByteArray × List ByteArray
def V (x : Rec) : Val := ⟨x.f0, x.f1, x.f2, x.f3, x.f4, x.f5⟩
def full (r : VR) : Int × Bool × Int × Bool × ByteArray × List ByteArray × Int := (r.1, r.2.1, r.2.2.1, r.2.2.2.1, r.2.2.2.2.1, r.2.2.2.2.2, 0)
def truR (b : Bool) : VR := (1, b, 0, false, ⟨#[]⟩, [])
def saidR (s : ByteArray) : VR := (3, false, 0, false, s, [])
theorem numberV_nil (b : Bool) (n : Int) : (numberV b n).2.2.2.2.2 = [] := by cases b <;> rfl
theorem takes_both (k : Nat) (nm : ByteArray) : ∃ n : Int, value_takes.f (k + 5) nm = some n ∧ espalierref14_Takes.f (k + 5) nm = some n ∧ (n = 0 ∧ nm.toList ∈ [([116, 114, 117, 101] : List UInt8), ([102, 97, 108, 115, 101] : List UInt8), ([112, 111, 115, 105, 116, 105, 111, 110] : List UInt8), ([108, 97, 115, 116] : List UInt8), ([110, 97, 109, 101] : List UInt8)] ∨ n = 1 ∧ nm.toList ∈ [([110, 111, 116] : List UInt8), ([115, 116, 114, 105, 110, 103] : List UInt8), ([110, 117, 109, 98, 101, 114] : List UInt8), ([99, 111, 117, 110, 116] : List UInt8), ([115, 117, 109] : List UInt8), ([108, 101, 110, 103, 116, 104] : List UInt8)] ∨ n = 2 ∧ nm.toList ∈ [([99, 111, 110, 116, 97, 105, 110, 115] : List UInt8), ([115, 116, 97, 114, 116, 115] : List UInt8)] ∨ n = -1) := by
  unfold value_takes.f espalierref14_Takes.f
  simp only [value_takes.j0, value_takes.j1, espalierref14_Takes.j0, espalierref14_Takes.j1]
  generalize nm.toList = t
  by_cases h0 : t = ([116, 114, 117, 101] : List UInt8)
  · subst h0; exact ⟨0, by decide, by decide, by decide⟩
  by_cases h1 : t = ([102, 97, 108, 115, 101] : List UInt8)
  · subst h1; exact ⟨0, by decide, by decide, by decide⟩
  by_cases h2 : t = ([112, 111, 115, 105, 116, 105, 111, 110] : List UInt8)
  · subst h2; exact ⟨0, by decide, by decide, by decide⟩
  by_cases h3 : t = ([108, 97, 115, 116] : List UInt8)
  · subst h3; exact ⟨0, by decide, by decide, by decide⟩
  by_cases h4 : t = ([110, 97, 109, 101] : List UInt8)
  · subst h4; exact ⟨0, by decide, by decide, by decide⟩
  by_cases h5 : t = ([110, 111, 116] : List UInt8)
  · subst h5; exact ⟨1, by decide, by decide, by decide⟩
  by_cases h6 : t = ([115, 116, 114, 105, 110, 103] : List UInt8)
  · subst h6; exact ⟨1, by decide, by decide, by decide⟩
  by_cases h7 : t = ([110, 117, 109, 98, 101, 114] : List UInt8)
  · subst h7; exact ⟨1, by decide, by decide, by decide⟩
  by_cases h8 : t = ([99, 111, 117, 110, 116] : List UInt8)
  · subst h8; exact ⟨1, by decide, by decide, by decide⟩
  by_cases h9 : t = ([115, 117, 109] : List UInt8)
  · subst h9; exact ⟨1, by decide, by decide, by decide⟩
  by_cases h10 : t = ([108, 101, 110, 103, 116, 104] : List UInt8)
  · subst h10; exact ⟨1, by decide, by decide, by decide⟩
  by_cases h11 : t = ([99, 111, 110, 116, 97, 105, 110, 115] : List UInt8)
  · subst h11; exact ⟨2, by decide, by decide, by decide⟩
  by_cases h12 : t = ([115, 116, 97, 114, 116, 115] : List UInt8)
  · subst h12; exact ⟨2, by decide, by decide, by decide⟩
  refine ⟨-1, ?_, ?_, .inr (.inr (.inr rfl))⟩
  · simp [h0, h1, h2, h3, h4, h5, h6, h7, h8, h9, h10, h11, h12]
  · simp [h0, h1, h2, h3, h4, h5, h6, h7, h8, h9, h10, h11, h12]
/-! the reference's parts -/
theorem runes_chars (s : ByteArray) : ∀ (cs : List Nat) (f : Nat) (pre : List UInt8), (∀ c ∈ cs, okC c) → s.data.toList = pre ++ encs cs → s.size - pre.length ≤ f → Lib.runeCountFrom s f pre.length = cs.length := by
  intro cs
  have hsz := Lib.size_eq s
  induction cs with
  | nil =>
    intro f pre _ h _
    have : ¬ pre.length < s.size := by rw [hsz, h]; simp [PA.encs]
    cases f with
    | zero => rfl
    | succ f => rw [Lib.runeCountFrom, if_neg this]; rfl
  | cons c cs ih =>
    intro f pre hc h hf
    have hok := hc c (by simp)
    have hp := enc_pos c hok
    have hch := chr_enc s pre (encs cs) c hok (by rw [h, encs_cons, List.append_assoc])
    have hlt : pre.length < s.size := by rw [hsz, h, encs_cons]; simp; omega
    obtain ⟨f, rfl⟩ : ∃ g, f = g + 1 := ⟨f - 1, by omega⟩
    have hd : Utf8.decode s pre.length = (c, (enc c).length) := by rw [chr_decode (by rw [hch]; simp only; omega), hch]
    have := ih f (pre ++ enc c) (fun x hx => hc x (by simp [hx])) (by rw [h, encs_cons, List.append_assoc]) (by rw [List.length_append]; omega)
    rw [List.length_append] at this
    rw [Lib.runeCountFrom, if_pos hlt, hd]
    simp only
    rw [this]
    simp; omega
theorem runes_of (s : ByteArray) (cs : List Nat) (hc : ∀ c ∈ cs, okC c) (h : s.data.toList = encs cs) : Lib.runeCount s = cs.length := by
  have := runes_chars s cs s.size [] hc (by simpa using h) (by simp)
  rw [List.length_nil] at this
  exact this
theorem rchars_loop (s : ByteArray) (hn : s.size ≤ 16384) : ∀ (cs : List Nat) (k : Nat) (pre : List UInt8) (acc : List ByteArray), (∀ c ∈ cs, okC c) → s.data.toList = pre ++ encs cs → acc.length ≤ pre.length → cs.length + 7 ≤ k → espalierref02_Chars.l0 k s acc pre.length = some (acc ++ cs.map (fun c => (⟨(enc c).toArray⟩ : ByteArray))) := by
  have hsz := Lib.size_eq s
  intro cs
  induction cs with
  | nil =>
    intro k pre acc _ h _ hk
    obtain ⟨k, rfl⟩ : ∃ m, k = m + 1 := ⟨k - 1, by omega⟩
    have : ¬ pre.length < s.size := by rw [hsz, h]; simp [PA.encs]
    rw [espalierref02_Chars.l0.eq_2, if_neg (by omega), List.map_nil, List.append_nil]
  | cons c cs ih =>
    intro k pre acc hc h ha hk
    rw [List.length_cons] at hk
    obtain ⟨k, rfl⟩ : ∃ m, k = m + 7 := ⟨k - 7, by omega⟩
    have hok := hc c (by simp)
    have hp := enc_pos c hok
    have hch := chr_enc s pre (encs cs) c hok (by rw [h, encs_cons, List.append_assoc])
    have hlen : s.size = pre.length + (enc c).length + (encs cs).length := by rw [hsz, h, encs_cons]; simp; omega
    have hat := ref_at k s pre.length (by omega) (by omega)
    rw [hch] at hat
    have hw : wrap64 ((pre.length : Int) + ((enc c).length : Int)) = ((pre.length + (enc c).length : Nat) : Int) := by rw [wrap_in (by omega) (by omega)]; omega
    have hX : s.extract pre.length (pre.length + (enc c).length) = ⟨(enc c).toArray⟩ := ByteArray.ext (Array.ext' (by rw [Lib.extract_data, h, encs_cons]; simp))
    have := ih (k + 6) (pre ++ enc c) (acc ++ [⟨(enc c).toArray⟩]) (fun z hz => hc z (by simp [hz])) (by rw [h, encs_cons, List.append_assoc]) (by simp; omega) (by omega)
    rw [List.length_append] at this
    rw [espalierref02_Chars.l0.eq_2, if_pos (by omega), hat, Option.bind_some, if_neg (by simp only; omega), if_pos (by omega)]
    simp only
    rw [hw, if_pos (by omega), if_pos (by omega), if_pos (by omega), Int.toNat_natCast, Int.toNat_natCast, hX, this, List.map_cons, List.append_assoc]
    rfl
theorem encs_long (cs : List Nat) (hc : ∀ c ∈ cs, okC c) : cs.length ≤ (encs cs).length := by
  induction cs with
  | nil => simp
  | cons c cs ih =>
    have := enc_pos c (hc c (by simp))
    have := ih (fun x hx => hc x (by simp [hx]))
    rw [encs_cons, List.length_append, List.length_cons]
    omega
theorem chars_len (k : Nat) {s : ByteArray} (h : tOk s = true) (hk : 140737488351242 ≤ k) : ∃ l : List ByteArray, espalierref02_Chars.f k s = some l ∧ chars_Len.f k s = some ((l.length : Int), 0) := by
  have hs := tOk_size h
  obtain ⟨_, cs, hc, ex⟩ := (textR_iff s).mp (eq_of_beq h)
  have hl := encs_long cs hc
  have hsz := Lib.size_eq s
  rw [ex] at hsz
  refine ⟨cs.map (fun c => (⟨(enc c).toArray⟩ : ByteArray)), ?_, ?_⟩
  · unfold espalierref02_Chars.f
    have := rchars_loop s hs cs k [] [] hc (by simpa using ex) (by simp) (by omega)
    rw [List.length_nil, List.nil_append] at this
    exact this
  · unfold chars_Len.f utf8_RuneCountInString.f
    rw [text_eq s (by omega) k (by omega), Option.bind_some, if_pos (show s.size < 9223372036854775807 by omega), if_pos (eq_of_beq h), runes_of s cs hc ex, List.length_map]
    rfl
theorem Bool_eq14 (v : Val) : espalierref14_Bool.f v.k v.b v.n v.o v.s v.l = some (asBoolV v) := by
  unfold espalierref14_Bool.f asBoolV
  by_cases h1 : v.k = 1
  · rw [if_pos h1, if_pos h1]
  rw [if_neg h1, if_neg h1]
  by_cases h2 : v.k = 2
  · rw [if_pos h2, if_pos h2]; by_cases h : v.o = true <;> simp [h]
  rw [if_neg h2, if_neg h2]
  by_cases h3 : v.k = 3
  · rw [if_pos h3, if_pos h3]
  rw [if_neg h3, if_neg h3]
theorem occ_eq (l t : List UInt8) (i : Nat) : Lib.occAt l t i = ((l.drop i).take t.length == t) := by
  unfold Lib.occAt
  rw [Bool.eq_iff_iff, List.isPrefixOf_iff_prefix, beq_iff_eq, List.prefix_iff_eq_take]
  exact ⟨fun h => h.symm, fun h => h.symm⟩
theorem has_eq (s t : ByteArray) (i : Nat) (hs : s.size ≤ 16384) (ht : t.size ≤ 16384) (hi : i ≤ s.size) : espalierref14_has.f s t (i : Int) = some (Lib.occAt s.data.toList t.data.toList i) := by
  unfold espalierref14_has.f
  rw [show wrap64 ((i : Int) + (t.size : Int)) = ((i + t.size : Nat) : Int) from by unfold wrap64; omega, occ_eq, ← Lib.size_eq]
  by_cases h : i + t.size ≤ s.size
  · rw [if_pos (by omega), if_pos (by omega), if_pos (by omega), Int.toNat_natCast, Int.toNat_natCast, Lib.extract_toList, Lib.toList_data, Nat.add_sub_cancel_left]
  · rw [if_neg (by omega)]
    congr 1
    symm
    rw [beq_eq_false_iff_ne]
    intro e
    have := congrArg List.length e
    rw [List.length_take, List.length_drop, ← Lib.size_eq, ← Lib.size_eq] at this
    omega
theorem has_none (s t : ByteArray) (hs : s.size ≤ 16384) (ht : t.size ≤ 16384) (hn : ∀ j, j ≤ s.data.toList.length → Lib.occAt s.data.toList t.data.toList j = false) :
    ∀ (m k i : Nat), i ≤ s.size + 1 → s.size + 1 - i = m → m + 1 ≤ k → espalierref14_Call.l0 k s t (i : Int) = some (truR false) := by
  intro m
  induction m with
  | zero =>
    intro k i h1 h2 h3
    obtain ⟨k, rfl⟩ : ∃ j, k = j + 1 := ⟨k - 1, by omega⟩
    rw [espalierref14_Call.l0.eq_2, if_neg (by omega)]
    rfl
  | succ m ih =>
    intro k i h1 h2 h3
    obtain ⟨k, rfl⟩ : ∃ j, k = j + 1 := ⟨k - 1, by omega⟩
    rw [espalierref14_Call.l0.eq_2, if_pos (by omega), has_eq s t i hs ht (by omega), Option.bind_some, hn i (by rw [← Lib.size_eq]; omega), if_neg (by decide), show wrap64 ((i : Int) + 1) = ((i + 1 : Nat) : Int) from by unfold wrap64; omega]
    exact ih k (i + 1) (by omega) (by omega) (by omega)
theorem has_some (s t : ByteArray) (hs : s.size ≤ 16384) (ht : t.size ≤ 16384) (i0 : Nat) (h0 : i0 ≤ s.size) (ho : Lib.occAt s.data.toList t.data.toList i0 = true) :
    ∀ (m k i : Nat), i ≤ i0 → i0 - i = m → m + 1 ≤ k → espalierref14_Call.l0 k s t (i : Int) = some (truR true) := by
  intro m
  induction m with
  | zero =>
    intro k i h1 h2 h3
    obtain rfl : i = i0 := by omega
    obtain ⟨k, rfl⟩ : ∃ j, k = j + 1 := ⟨k - 1, by omega⟩
    rw [espalierref14_Call.l0.eq_2, if_pos (by omega), has_eq s t i hs ht (by omega), Option.bind_some, ho, if_pos rfl]
    rfl
  | succ m ih =>
    intro k i h1 h2 h3
    obtain ⟨k, rfl⟩ : ∃ j, k = j + 1 := ⟨k - 1, by omega⟩
    rw [espalierref14_Call.l0.eq_2, if_pos (by omega), has_eq s t i hs ht (by omega), Option.bind_some]
    by_cases hq : Lib.occAt s.data.toList t.data.toList i = true
    · rw [if_pos hq]; rfl
    · rw [if_neg hq, show wrap64 ((i : Int) + 1) = ((i + 1 : Nat) : Int) from by unfold wrap64; omega]
      exact ih k (i + 1) (by omega) (by omega) (by omega)
theorem has_all (k : Nat) (s t : ByteArray) (hs : s.size ≤ 16384) (ht : t.size ≤ 16384) (hk : 20000 ≤ k) : espalierref14_Call.l0 k s t 0 = some (truR (Lib.contains s.data.toList t.data.toList)) := by
  unfold Lib.contains
  rcases Lib.index_spec s.data.toList t.data.toList with ⟨e, h⟩ | ⟨i, e, h1, h2, _⟩
  · rw [e]; exact has_none s t hs ht h (s.size + 1) k 0 (by omega) (by omega) (by omega)
  · rw [e, decide_eq_true (show (0 : Int) ≤ (i : Int) by omega)]
    exact has_some s t hs ht i (by rw [Lib.size_eq]; exact h1) h2 i k 0 (by omega) (by omega) (by rw [← Lib.size_eq] at h1; omega)
theorem prefix_has (s t : ByteArray) (hs : s.size ≤ 16384) (ht : t.size ≤ 16384) : ∃ b : Bool, strings_HasPrefix.f s t = some b ∧ espalierref14_has.f s t 0 = some b := by
  unfold strings_HasPrefix.f stringslite_HasPrefix.f espalierref14_has.f
  rw [show wrap64 (0 + (t.size : Int)) = (t.size : Int) from by unfold wrap64; omega]
  by_cases h : t.size ≤ s.size
  · rw [if_pos (by omega), if_pos (by omega), if_pos (by omega), if_pos (by omega), if_pos (by omega), if_pos (by omega)]
    exact ⟨_, rfl, rfl⟩
  · rw [if_neg (by omega), if_neg (by omega)]
    exact ⟨_, rfl, rfl⟩
/-! name by name -/
theorem l0_end (k : Nat) (nm : ByteArray) (args : List Rec) (p q : Int) (s t : ByteArray) (at_ : List Att) : value_call.l0 (k + 1) nm args args (args.length : Int) (args.length : Int) p q s t at_ = if nm.toList = ([116, 114, 117, 101] : List UInt8) then value_call.j1 k nm args nm (nm.toList == ([116, 114, 117, 101] : List UInt8)) p q s t at_ else value_call.j1 k nm args nm (nm.toList == ([102, 97, 108, 115, 101] : List UInt8)) p q s t at_ := by
  rw [value_call.l0.eq_2, if_neg (by omega)]
structure Good (a : Rec) : Prop where
  i : (V a).In
  c : checkV (V a) = 0
  l : a.f5.length ≤ 8796093022200
theorem Good.text {a : Rec} (h : Good a) : value_asText.f a.f0 a.f1 a.f2 a.f3 a.f4 a.f5 = some (asTextV (V a)) := asText_eq (V a) h.i
theorem Good.rtext {a : Rec} (h : Good a) (k : Nat) (hk : 30 ≤ k) : espalierref14_Text.f k a.f0 a.f1 a.f2 a.f3 a.f4 a.f5 = some (asTextV (V a)) := Text_eq14 k (V a) h.i hk (check_kind h.c)
theorem Good.ok {a : Rec} (h : Good a) : tOk (asTextV (V a)) = true := asText_ok h.i h.c
theorem Good.size {a : Rec} (h : Good a) : (asTextV (V a)).size ≤ 16384 := tOk_size h.ok
theorem rd_self1 (a : Rec) : rd_T28 [a] 0 = a := rfl
theorem rd_two0 (a b : Rec) : rd_T28 [a, b] 0 = a := rfl
theorem rd_two1 (a b : Rec) : rd_T28 [a, b] 1 = b := rfl
theorem same_true (k : Nat) (nm : ByteArray) (p q : Int) (s t : ByteArray) (at_ : List Att) (hk : 800000000000000 ≤ k) (e : nm.toList = ([116, 114, 117, 101] : List UInt8)) :
    ∃ r : VR, value_call.l0 (k + 2) nm [] [] (([] : List Rec).length : Int) (([] : List Rec).length : Int) p q s t at_ = some (full r) ∧ espalierref14_Call.f (k + 1) nm p q s t at_ [] = some r ∧ r.2.2.2.2.2 = [] := by
  rw [l0_end (k + 1) nm []]
  unfold espalierref14_Call.f
  rw [e, if_pos rfl, if_pos rfl, value_call.j1.eq_2, espalierref14_Call.j0.eq_2, if_pos (by decide), if_pos (by decide), e]
  exact ⟨truR true, rfl, rfl, rfl⟩
theorem same_false (k : Nat) (nm : ByteArray) (p q : Int) (s t : ByteArray) (at_ : List Att) (hk : 800000000000000 ≤ k) (e : nm.toList = ([102, 97, 108, 115, 101] : List UInt8)) :
    ∃ r : VR, value_call.l0 (k + 2) nm [] [] (([] : List Rec).length : Int) (([] : List Rec).length : Int) p q s t at_ = some (full r) ∧ espalierref14_Call.f (k + 1) nm p q s t at_ [] = some r ∧ r.2.2.2.2.2 = [] := by
  rw [l0_end (k + 1) nm []]
  unfold espalierref14_Call.f
  rw [e, if_neg (by decide), if_neg (by decide), value_call.j1.eq_2, espalierref14_Call.j0.eq_2, if_pos (by decide), if_pos (by decide), e]
  exact ⟨truR false, rfl, rfl, rfl⟩
theorem same_position (k : Nat) (nm : ByteArray) (p q : Int) (s t : ByteArray) (at_ : List Att) (hk : 800000000000000 ≤ k) (e : nm.toList = ([112, 111, 115, 105, 116, 105, 111, 110] : List UInt8)) :
    ∃ r : VR, value_call.l0 (k + 2) nm [] [] (([] : List Rec).length : Int) (([] : List Rec).length : Int) p q s t at_ = some (full r) ∧ espalierref14_Call.f (k + 1) nm p q s t at_ [] = some r ∧ r.2.2.2.2.2 = [] := by
  rw [l0_end (k + 1) nm []]
  unfold espalierref14_Call.f
  rw [e, if_neg (by decide), if_neg (by decide)]
  refine ⟨numberV true p, ?_, ?_, numberV_nil _ _⟩
  · rw [value_call.j1.eq_2, if_neg (by decide), e, if_pos rfl]
    rw [numbered_eq]
    rfl
  · rw [espalierref14_Call.j0.eq_2, if_neg (by decide), e, if_pos rfl]
    rw [number_eq]
    rfl
theorem same_last (k : Nat) (nm : ByteArray) (p q : Int) (s t : ByteArray) (at_ : List Att) (hk : 800000000000000 ≤ k) (e : nm.toList = ([108, 97, 115, 116] : List UInt8)) :
    ∃ r : VR, value_call.l0 (k + 2) nm [] [] (([] : List Rec).length : Int) (([] : List Rec).length : Int) p q s t at_ = some (full r) ∧ espalierref14_Call.f (k + 1) nm p q s t at_ [] = some r ∧ r.2.2.2.2.2 = [] := by
  rw [l0_end (k + 1) nm []]
  unfold espalierref14_Call.f
  rw [e, if_neg (by decide), if_neg (by decide)]
  refine ⟨numberV true q, ?_, ?_, numberV_nil _ _⟩
  · rw [value_call.j1.eq_2, if_neg (by decide), e, if_neg (by decide), if_pos rfl]
    rw [numbered_eq]
    rfl
  · rw [espalierref14_Call.j0.eq_2, if_neg (by decide), e, if_neg (by decide), if_pos rfl]
    rw [number_eq]
    rfl
theorem same_name (k : Nat) (nm : ByteArray) (p q : Int) (s t : ByteArray) (at_ : List Att) (hk : 800000000000000 ≤ k) (e : nm.toList = ([110, 97, 109, 101] : List UInt8)) :
    ∃ r : VR, value_call.l0 (k + 2) nm [] [] (([] : List Rec).length : Int) (([] : List Rec).length : Int) p q s t at_ = some (full r) ∧ espalierref14_Call.f (k + 1) nm p q s t at_ [] = some r ∧ r.2.2.2.2.2 = [] := by
  rw [l0_end (k + 1) nm []]
  unfold espalierref14_Call.f
  rw [e, if_neg (by decide), if_neg (by decide)]
  refine ⟨saidR s, ?_, ?_, rfl⟩
  · rw [value_call.j1.eq_2, if_neg (by decide), e, if_neg (by decide), if_neg (by decide), if_pos rfl]
    rfl
  · rw [espalierref14_Call.j0.eq_2, if_neg (by decide), e, if_neg (by decide), if_neg (by decide), if_pos rfl]
    rfl
theorem same_not (k : Nat) (nm : ByteArray) (p q : Int) (s t : ByteArray) (at_ : List Att) (a : Rec) (ga : Good a) (hk : 800000000000000 ≤ k) (e : nm.toList = ([110, 111, 116] : List UInt8)) :
    ∃ r : VR, value_call.l0 (k + 2) nm [a] [a] (([a] : List Rec).length : Int) (([a] : List Rec).length : Int) p q s t at_ = some (full r) ∧ espalierref14_Call.f (k + 1) nm p q s t at_ [a] = some r ∧ r.2.2.2.2.2 = [] := by
  rw [l0_end (k + 1) nm [a]]
  unfold espalierref14_Call.f
  rw [e, if_neg (by decide), if_neg (by decide)]
  refine ⟨truR (!asBoolV (V a)), ?_, ?_, rfl⟩
  · rw [value_call.j1.eq_2, if_neg (by decide), e, if_neg (by decide), if_neg (by decide), if_neg (by decide), if_pos rfl]
    rw [if_pos (by show (0 : Int) < ((1 : Nat) : Int); decide), rd_self1, show value_asBool.f a.f0 a.f1 a.f2 a.f3 a.f4 a.f5 = some (asBoolV (V a)) from asBool_eq (V a)]
    rfl
  · rw [espalierref14_Call.j0.eq_2, if_neg (by decide), e, if_neg (by decide), if_neg (by decide), if_neg (by decide), if_pos rfl]
    rw [if_pos (by show (0 : Int) < ((1 : Nat) : Int); decide), rd_self1, show espalierref14_Bool.f a.f0 a.f1 a.f2 a.f3 a.f4 a.f5 = some (asBoolV (V a)) from Bool_eq14 (V a)]
    rfl
theorem same_string (k : Nat) (nm : ByteArray) (p q : Int) (s t : ByteArray) (at_ : List Att) (a : Rec) (ga : Good a) (hk : 800000000000000 ≤ k) (e : nm.toList = ([115, 116, 114, 105, 110, 103] : List UInt8)) :
    ∃ r : VR, value_call.l0 (k + 2) nm [a] [a] (([a] : List Rec).length : Int) (([a] : List Rec).length : Int) p q s t at_ = some (full r) ∧ espalierref14_Call.f (k + 1) nm p q s t at_ [a] = some r ∧ r.2.2.2.2.2 = [] := by
  rw [l0_end (k + 1) nm [a]]
  unfold espalierref14_Call.f
  rw [e, if_neg (by decide), if_neg (by decide)]
  refine ⟨saidR (asTextV (V a)), ?_, ?_, rfl⟩
  · rw [value_call.j1.eq_2, if_neg (by decide), e, if_neg (by decide), if_neg (by decide), if_neg (by decide), if_neg (by decide), if_pos rfl]
    rw [if_pos (by show (0 : Int) < ((1 : Nat) : Int); decide), rd_self1, ga.text]
    rfl
  · rw [espalierref14_Call.j0.eq_2, if_neg (by decide), e, if_neg (by decide), if_neg (by decide), if_neg (by decide), if_neg (by decide), if_neg (by decide), if_pos rfl]
    rw [if_pos (by show (0 : Int) < ((1 : Nat) : Int); decide), rd_self1, ga.rtext k (by omega)]
    rfl
theorem same_number (k : Nat) (nm : ByteArray) (p q : Int) (s t : ByteArray) (at_ : List Att) (a : Rec) (ga : Good a) (hk : 800000000000000 ≤ k) (e : nm.toList = ([110, 117, 109, 98, 101, 114] : List UInt8)) :
    ∃ r : VR, value_call.l0 (k + 2) nm [a] [a] (([a] : List Rec).length : Int) (([a] : List Rec).length : Int) p q s t at_ = some (full r) ∧ espalierref14_Call.f (k + 1) nm p q s t at_ [a] = some r ∧ r.2.2.2.2.2 = [] := by
  rw [l0_end (k + 1) nm [a]]
  unfold espalierref14_Call.f
  rw [e, if_neg (by decide), if_neg (by decide)]
  refine ⟨numberV (numV (V a)).2 (numV (V a)).1, ?_, ?_, numberV_nil _ _⟩
  · rw [value_call.j1.eq_2, if_neg (by decide), e, if_neg (by decide), if_neg (by decide), if_neg (by decide), if_neg (by decide), if_neg (by decide), if_pos rfl]
    rw [if_pos (by show (0 : Int) < ((1 : Nat) : Int); decide), rd_self1, show value_asNumber.f a.f0 a.f1 a.f2 a.f3 a.f4 a.f5 = some (numV (V a)) from asNumber_eq (V a) (check_okB ga.i ga.c), Option.bind_some, numbered_eq]
    rfl
  · rw [espalierref14_Call.j0.eq_2, if_neg (by decide), e, if_neg (by decide), if_neg (by decide), if_neg (by decide), if_neg (by decide), if_neg (by decide), if_neg (by decide), if_pos rfl]
    rw [if_pos (by show (0 : Int) < ((1 : Nat) : Int); decide), rd_self1, show espalierref14_Number.f k a.f0 a.f1 a.f2 a.f3 a.f4 a.f5 = some (swap2 (numV (V a))) from Number_eq k (V a) ga.i (by omega), Option.bind_some]
    show Option.bind (espalierref14_number.f (numV (V a)).2 (numV (V a)).1) _ = _
    rw [number_eq]
    rfl
theorem same_count (k : Nat) (nm : ByteArray) (p q : Int) (s t : ByteArray) (at_ : List Att) (a : Rec) (ga : Good a) (hk : 800000000000000 ≤ k) (e : nm.toList = ([99, 111, 117, 110, 116] : List UInt8)) :
    ∃ r : VR, value_call.l0 (k + 2) nm [a] [a] (([a] : List Rec).length : Int) (([a] : List Rec).length : Int) p q s t at_ = some (full r) ∧ espalierref14_Call.f (k + 1) nm p q s t at_ [a] = some r ∧ r.2.2.2.2.2 = [] := by
  rw [l0_end (k + 1) nm [a]]
  unfold espalierref14_Call.f
  rw [e, if_neg (by decide), if_neg (by decide)]
  refine ⟨numberV (a.f0 == 4) (a.f5.length : Int), ?_, ?_, numberV_nil _ _⟩
  · rw [value_call.j1.eq_2, if_neg (by decide), e, if_neg (by decide), if_neg (by decide), if_neg (by decide), if_neg (by decide), if_neg (by decide), if_neg (by decide), if_pos rfl]
    rw [if_pos (by show (0 : Int) < ((1 : Nat) : Int); decide), rd_self1, numbered_eq]
    rfl
  · rw [espalierref14_Call.j0.eq_2, if_neg (by decide), e, if_neg (by decide), if_neg (by decide), if_neg (by decide), if_neg (by decide), if_pos rfl]
    rw [if_pos (by show (0 : Int) < ((1 : Nat) : Int); decide), rd_self1, number_eq]
    rfl
theorem same_sum (k : Nat) (nm : ByteArray) (p q : Int) (s t : ByteArray) (at_ : List Att) (a : Rec) (ga : Good a) (hk : 800000000000000 ≤ k) (e : nm.toList = ([115, 117, 109] : List UInt8)) :
    ∃ r : VR, value_call.l0 (k + 2) nm [a] [a] (([a] : List Rec).length : Int) (([a] : List Rec).length : Int) p q s t at_ = some (full r) ∧ espalierref14_Call.f (k + 1) nm p q s t at_ [a] = some r ∧ r.2.2.2.2.2 = [] := by
  rw [l0_end (k + 1) nm [a]]
  unfold espalierref14_Call.f
  rw [e, if_neg (by decide), if_neg (by decide)]
  obtain ⟨y, y1, y2⟩ := sum_eq14 k (V a) ga.i (Nat.le_trans ga.l (by decide)) (by omega)
  replace y1 : espalierref14_sum.f k a.f0 a.f1 a.f2 a.f3 a.f4 a.f5 = some y := y1
  replace y2 : value_sum.f k a.f0 a.f1 a.f2 a.f3 a.f4 a.f5 = some (numberV y.1 y.2) := y2
  refine ⟨numberV y.1 y.2, ?_, ?_, numberV_nil _ _⟩
  · rw [value_call.j1.eq_2, if_neg (by decide), e, if_neg (by decide), if_neg (by decide), if_neg (by decide), if_neg (by decide), if_neg (by decide), if_neg (by decide), if_neg (by decide), if_pos rfl]
    rw [if_pos (by show (0 : Int) < ((1 : Nat) : Int); decide), rd_self1, y2]
    rfl
  · rw [espalierref14_Call.j0.eq_2, if_neg (by decide), e, if_neg (by decide), if_neg (by decide), if_neg (by decide), if_neg (by decide), if_neg (by decide), if_neg (by decide), if_neg (by decide), if_pos rfl]
    rw [if_pos (by show (0 : Int) < ((1 : Nat) : Int); decide), rd_self1, y1, Option.bind_some, number_eq]
    rfl
theorem same_length (k : Nat) (nm : ByteArray) (p q : Int) (s t : ByteArray) (at_ : List Att) (a : Rec) (ga : Good a) (hk : 800000000000000 ≤ k) (e : nm.toList = ([108, 101, 110, 103, 116, 104] : List UInt8)) :
    ∃ r : VR, value_call.l0 (k + 2) nm [a] [a] (([a] : List Rec).length : Int) (([a] : List Rec).length : Int) p q s t at_ = some (full r) ∧ espalierref14_Call.f (k + 1) nm p q s t at_ [a] = some r ∧ r.2.2.2.2.2 = [] := by
  rw [l0_end (k + 1) nm [a]]
  unfold espalierref14_Call.f
  rw [e, if_neg (by decide), if_neg (by decide)]
  obtain ⟨y, y1, y2⟩ := chars_len k ga.ok (by omega)
  refine ⟨numberV true (y.length : Int), ?_, ?_, numberV_nil _ _⟩
  · rw [value_call.j1.eq_2, if_neg (by decide), e, if_neg (by decide), if_neg (by decide), if_neg (by decide), if_neg (by decide), if_neg (by decide), if_neg (by decide), if_neg (by decide), if_neg (by decide), if_pos rfl]
    rw [if_pos (by show (0 : Int) < ((1 : Nat) : Int); decide), rd_self1, ga.text, Option.bind_some, y2, Option.bind_some]
    show Option.bind (value_numbered.f (y.length : Int) true) _ = _
    rw [numbered_eq]
    rfl
  · rw [espalierref14_Call.j0.eq_2, if_neg (by decide), e, if_neg (by decide), if_neg (by decide), if_neg (by decide), if_neg (by decide), if_neg (by decide), if_neg (by decide), if_neg (by decide), if_neg (by decide), if_pos rfl]
    rw [if_pos (by show (0 : Int) < ((1 : Nat) : Int); decide), rd_self1, ga.rtext k (by omega), Option.bind_some, y1, Option.bind_some, number_eq]
    rfl
theorem same_contains (k : Nat) (nm : ByteArray) (p q : Int) (s t : ByteArray) (at_ : List Att) (a b : Rec) (ga : Good a) (gb : Good b) (hk : 800000000000000 ≤ k) (e : nm.toList = ([99, 111, 110, 116, 97, 105, 110, 115] : List UInt8)) :
    ∃ r : VR, value_call.l0 (k + 2) nm [a, b] [a, b] (([a, b] : List Rec).length : Int) (([a, b] : List Rec).length : Int) p q s t at_ = some (full r) ∧ espalierref14_Call.f (k + 1) nm p q s t at_ [a, b] = some r ∧ r.2.2.2.2.2 = [] := by
  rw [l0_end (k + 1) nm [a, b]]
  unfold espalierref14_Call.f
  rw [e, if_neg (by decide), if_neg (by decide)]
  refine ⟨truR (Lib.contains (asTextV (V a)).data.toList (asTextV (V b)).data.toList), ?_, ?_, rfl⟩
  · rw [value_call.j1.eq_2, if_neg (by decide), e, if_neg (by decide), if_neg (by decide), if_neg (by decide), if_neg (by decide), if_neg (by decide), if_neg (by decide), if_neg (by decide), if_neg (by decide), if_neg (by decide), if_pos rfl]
    rw [if_pos (by show (0 : Int) < ((2 : Nat) : Int); decide), rd_two0, ga.text, Option.bind_some, if_pos (by show (1 : Int) < ((2 : Nat) : Int); decide), rd_two1, gb.text, Option.bind_some, show strings_Contains.f (asTextV (V a)) (asTextV (V b)) = some (Lib.contains (asTextV (V a)).data.toList (asTextV (V b)).data.toList) from by unfold strings_Contains.f; rw [if_pos (by have := ga.size; omega)]]
    rfl
  · rw [espalierref14_Call.j0.eq_2, if_neg (by decide), e, if_neg (by decide), if_neg (by decide), if_neg (by decide), if_neg (by decide), if_neg (by decide), if_neg (by decide), if_neg (by decide), if_neg (by decide), if_neg (by decide), if_neg (by decide)]
    rw [if_pos (by show (0 : Int) < ((2 : Nat) : Int); decide), rd_two0, ga.rtext k (by omega), Option.bind_some, if_pos (by show (1 : Int) < ((2 : Nat) : Int); decide), rd_two1, gb.rtext k (by omega), Option.bind_some]
    exact has_all k _ _ ga.size gb.size (by omega)
theorem same_starts (k : Nat) (nm : ByteArray) (p q : Int) (s t : ByteArray) (at_ : List Att) (a b : Rec) (ga : Good a) (gb : Good b) (hk : 800000000000000 ≤ k) (e : nm.toList = ([115, 116, 97, 114, 116, 115] : List UInt8)) :
    ∃ r : VR, value_call.l0 (k + 2) nm [a, b] [a, b] (([a, b] : List Rec).length : Int) (([a, b] : List Rec).length : Int) p q s t at_ = some (full r) ∧ espalierref14_Call.f (k + 1) nm p q s t at_ [a, b] = some r ∧ r.2.2.2.2.2 = [] := by
  rw [l0_end (k + 1) nm [a, b]]
  unfold espalierref14_Call.f
  rw [e, if_neg (by decide), if_neg (by decide)]
  obtain ⟨y, y1, y2⟩ := prefix_has (asTextV (V a)) (asTextV (V b)) ga.size gb.size
  refine ⟨truR y, ?_, ?_, rfl⟩
  · rw [value_call.j1.eq_2, if_neg (by decide), e, if_neg (by decide), if_neg (by decide), if_neg (by decide), if_neg (by decide), if_neg (by decide), if_neg (by decide), if_neg (by decide), if_neg (by decide), if_neg (by decide), if_neg (by decide)]
    rw [if_pos (by show (0 : Int) < ((2 : Nat) : Int); decide), rd_two0, ga.text, Option.bind_some, if_pos (by show (1 : Int) < ((2 : Nat) : Int); decide), rd_two1, gb.text, Option.bind_some, y1]
    rfl
  · rw [espalierref14_Call.j0.eq_2, if_neg (by decide), e, if_neg (by decide), if_neg (by decide), if_neg (by decide), if_neg (by decide), if_neg (by decide), if_neg (by decide), if_neg (by decide), if_neg (by decide), if_neg (by decide), if_pos rfl]
    rw [if_pos (by show (0 : Int) < ((2 : Nat) : Int); decide), rd_two0, ga.rtext k (by omega), Option.bind_some, if_pos (by show (1 : Int) < ((2 : Nat) : Int); decide), rd_two1, gb.rtext k (by omega), Option.bind_some, y2]
    rfl
theorem same_any (k : Nat) (nm : ByteArray) (p q : Int) (s t : ByteArray) (at_ : List Att) (args : List Rec) (hk : 800000000000000 ≤ k) (n : Int) (hn : n = (args.length : Int)) (hg : ∀ a ∈ args, Good a)
    (h : n = 0 ∧ nm.toList ∈ [([116, 114, 117, 101] : List UInt8), ([102, 97, 108, 115, 101] : List UInt8), ([112, 111, 115, 105, 116, 105, 111, 110] : List UInt8), ([108, 97, 115, 116] : List UInt8), ([110, 97, 109, 101] : List UInt8)] ∨ n = 1 ∧ nm.toList ∈ [([110, 111, 116] : List UInt8), ([115, 116, 114, 105, 110, 103] : List UInt8), ([110, 117, 109, 98, 101, 114] : List UInt8), ([99, 111, 117, 110, 116] : List UInt8), ([115, 117, 109] : List UInt8), ([108, 101, 110, 103, 116, 104] : List UInt8)] ∨ n = 2 ∧ nm.toList ∈ [([99, 111, 110, 116, 97, 105, 110, 115] : List UInt8), ([115, 116, 97, 114, 116, 115] : List UInt8)] ∨ n = -1) :
    ∃ r : VR, value_call.l0 (k + 2) nm args args (args.length : Int) (args.length : Int) p q s t at_ = some (full r) ∧ espalierref14_Call.f (k + 1) nm p q s t at_ args = some r ∧ r.2.2.2.2.2 = [] := by
  simp only [List.mem_cons, List.mem_nil_iff, or_false] at h
  rcases h with ⟨h1, h⟩ | ⟨h1, h⟩ | ⟨h1, h⟩ | h1
  · obtain rfl : args = [] := List.eq_nil_of_length_eq_zero (by omega)
    rcases h with e | e | e | e | e
    · exact same_true k nm p q s t at_ hk e
    · exact same_false k nm p q s t at_ hk e
    · exact same_position k nm p q s t at_ hk e
    · exact same_last k nm p q s t at_ hk e
    · exact same_name k nm p q s t at_ hk e
  · match args, hn, hg with
    | [], hn, _ => simp at hn; omega
    | _ :: _ :: _, hn, _ => simp at hn; omega
    | [a], _, hg =>
      have ga := hg a (by simp)
      rcases h with e | e | e | e | e | e
      · exact same_not k nm p q s t at_ a ga hk e
      · exact same_string k nm p q s t at_ a ga hk e
      · exact same_number k nm p q s t at_ a ga hk e
      · exact same_count k nm p q s t at_ a ga hk e
      · exact same_sum k nm p q s t at_ a ga hk e
      · exact same_length k nm p q s t at_ a ga hk e
  · match args, hn, hg with
    | [], hn, _ => simp at hn; omega
    | [_], hn, _ => simp at hn; omega
    | _ :: _ :: _ :: _, hn, _ => simp at hn; omega
    | [a, b], _, hg =>
      have ga := hg a (by simp)
      have gb := hg b (by simp)
      rcases h with e | e
      · exact same_contains k nm p q s t at_ a b ga gb hk e
      · exact same_starts k nm p q s t at_ a b ga gb hk e
  · omega
/-! the law -/
theorem rd_list (l : List Rec) (i : Nat) (h : i < l.length) : rd_T28 l (i : Int) = l[i] := by
  show l.getD (i : Int).toNat _ = _
  rw [Int.toNat_natCast, List.getD_eq_getElem?_getD, List.getElem?_eq_getElem h]
  rfl
theorem call_good (nm : ByteArray) (p q : Int) (s t : ByteArray) (at_ : List Att) (args : List Rec) (hl : args.length ≤ 1954687338268) (M : Nat) (hM : 140737488351242 ≤ M) (r : Int × Bool × Int × Bool × ByteArray × List ByteArray × Int) (hg : ∀ a ∈ args, Good a)
    (hR : ∀ k, M ≤ k → value_call.l0 k nm args args (args.length : Int) (args.length : Int) p q s t at_ = some r) :
    ∀ (m k i : Nat), i ≤ args.length → args.length - i = m → m + M ≤ k → value_call.l0 k nm args args (args.length : Int) (i : Int) p q s t at_ = some r := by
  intro m
  induction m with
  | zero =>
    intro k i h1 h2 h3
    obtain rfl : i = args.length := by omega
    exact hR k (by omega)
  | succ m ih =>
    intro k i h1 h2 h3
    obtain ⟨k, rfl⟩ : ∃ j, k = j + 1 := ⟨k - 1, by omega⟩
    have hi : i < args.length := by omega
    have ga := hg _ (List.getElem_mem hi)
    have hc : value_check.f k args[i].f0 args[i].f1 args[i].f2 args[i].f3 args[i].f4 args[i].f5 = some 0 := by rw [← ga.c]; exact check_eq k (V args[i]) ga.i (by omega)
    rw [value_call.l0.eq_2, if_pos (by omega), if_pos (by omega), if_pos (by omega), rd_list args i hi, hc, Option.bind_some, if_pos rfl, show wrap64 ((i : Int) + 1) = ((i + 1 : Nat) : Int) from by unfold wrap64; omega]
    exact ih k (i + 1) (by omega) (by omega) (by omega)
theorem call_bad (nm : ByteArray) (p q : Int) (s t : ByteArray) (at_ : List Att) (args : List Rec) (hl : args.length ≤ 1954687338268) (hin : ∀ a ∈ args, (V a).In) (hb : ∃ a ∈ args, checkV (V a) ≠ 0) :
    ∀ (m k i : Nat), i ≤ args.length → args.length - i = m → (∀ j, (h : j < args.length) → j < i → checkV (V args[j]) = 0) → m + 140737488351242 ≤ k → value_call.l0 k nm args args (args.length : Int) (i : Int) p q s t at_ = some (0, false, 0, false, ⟨#[]⟩, [], 141) := by
  intro m
  induction m with
  | zero =>
    intro k i h1 h2 h3 h4
    obtain ⟨a, ha, hc⟩ := hb
    obtain ⟨j, hj, e⟩ := List.mem_iff_getElem.mp ha
    have := h3 j hj (by omega)
    rw [e] at this
    exact absurd this hc
  | succ m ih =>
    intro k i h1 h2 h3 h4
    obtain ⟨k, rfl⟩ : ∃ j, k = j + 1 := ⟨k - 1, by omega⟩
    have hi : i < args.length := by omega
    have hc : value_check.f k args[i].f0 args[i].f1 args[i].f2 args[i].f3 args[i].f4 args[i].f5 = some (checkV (V args[i])) := check_eq k (V args[i]) (hin _ (List.getElem_mem hi)) (by omega)
    rw [value_call.l0.eq_2, if_pos (by omega), if_pos (by omega), if_pos (by omega), rd_list args i hi, hc, Option.bind_some]
    by_cases h0 : checkV (V args[i]) = 0
    · rw [if_pos h0, show wrap64 ((i : Int) + 1) = ((i + 1 : Nat) : Int) from by unfold wrap64; omega]
      refine ih k (i + 1) (by omega) (by omega) (fun j hj hlt => ?_) (by omega)
      by_cases e : j = i
      · subst e; exact h0
      · exact h3 j hj (by omega)
    · rw [if_neg h0, (check_or _).resolve_left h0]
theorem Call_id (k : Nat) (nm : ByteArray) (p q : Int) (s t : ByteArray) (at_ : List Att) (args : List Rec) : value_Call.f k nm p q s t at_ args = value_call.f k nm p q s t at_ args := by
  unfold value_Call.f
  cases value_call.f k nm p q s t at_ args <;> rfl
theorem zero_same (k : Nat) (hk : 2 ≤ k) : espalierref14_Same.f k 0 false 0 false ⟨#[]⟩ [] 0 false 0 false ⟨#[]⟩ [] = some true := Same_self k 0 false 0 false ⟨#[]⟩ [] (by decide) hk
def behind : Rec := ⟨0, false, 0, false, ⟨#[98, 101, 104, 105, 110, 100]⟩, []⟩
section
variable (nm : ByteArray) (p q : Int) (s t : ByteArray) (at_ : List Att) (args : List Rec) (hl : args.length ≤ 1954687338211) (hin : ∀ a ∈ args, (V a).In ∧ a.f5.length ≤ 8796093022200)
include hl hin
theorem own_loop (M : Nat) (hR : ∀ k, M ≤ k → espalierlaw14_ValueCalls.l0 k nm args args (args.length : Int) p q s t at_ = some true) :
    ∀ (m k i : Nat), i ≤ args.length → args.length - i = m → m + M ≤ k → espalierlaw14_ValueCalls.l0 k nm args (args.take i) (i : Int) p q s t at_ = some true := by
  intro m
  induction m with
  | zero =>
    intro k i h1 h2 h3
    obtain rfl : i = args.length := by omega
    rw [List.take_length]
    exact hR k (by omega)
  | succ m ih =>
    intro k i h1 h2 h3
    obtain ⟨k, rfl⟩ : ∃ j, k = j + 1 := ⟨k - 1, by omega⟩
    have hi : i < args.length := by omega
    have hlt : (args.take i).length = i := by rw [List.length_take]; omega
    have ho : espalierlaw14_own.f args[i].f0 args[i].f1 args[i].f2 args[i].f3 args[i].f4 args[i].f5 = some (args[i].f0, args[i].f1, args[i].f2, args[i].f3, args[i].f4, args[i].f5) := by
      unfold espalierlaw14_own.f
      rw [if_pos (hin _ (List.getElem_mem hi)).2]
    rw [espalierlaw14_ValueCalls.l0.eq_2, if_pos (by omega), if_pos (by omega), rd_list args i hi, ho, Option.bind_some, if_pos (by omega), show wrap64 ((i : Int) + 1) = ((i + 1 : Nat) : Int) from by unfold wrap64; omega]
    have := ih k (i + 1) (by omega) (by omega) (by omega)
    rw [List.take_succ_eq_append_getElem hi] at this
    exact this
theorem look_loop (e0 : Int) (v : VR) (M : Nat) (hM : 150000000000000 ≤ M)
    (hR : (∀ a ∈ args, Good a) → ∀ k, M ≤ k → espalierlaw14_ValueCalls.l1 k nm args (args ++ [behind]) e0 (args.length : Int) p q s t at_ v.1 v.2.1 v.2.2.1 v.2.2.2.1 v.2.2.2.2.1 v.2.2.2.2.2 = some true)
    (hB : (∃ a ∈ args, checkV (V a) ≠ 0) → e0 = 141 ∧ v = (0, false, 0, false, ⟨#[]⟩, [])) :
    ∀ (m k i : Nat), i ≤ args.length → args.length - i = m → (∀ j, (h : j < args.length) → j < i → checkV (V args[j]) = 0) → m + 9000000000000 + M ≤ k →
      espalierlaw14_ValueCalls.l1 k nm args (args ++ [behind]) e0 (i : Int) p q s t at_ v.1 v.2.1 v.2.2.1 v.2.2.2.1 v.2.2.2.2.1 v.2.2.2.2.2 = some true := by
  intro m
  induction m with
  | zero =>
    intro k i h1 h2 h3 h4
    obtain rfl : i = args.length := by omega
    refine hR (fun a ha => ?_) k (by omega)
    obtain ⟨j, hj, e⟩ := List.mem_iff_getElem.mp ha
    have := h3 j hj hj
    rw [e] at this
    exact ⟨(hin a ha).1, this, (hin a ha).2⟩
  | succ m ih =>
    intro k i h1 h2 h3 h4
    obtain ⟨k, rfl⟩ : ∃ j, k = j + 1 := ⟨k - 1, by omega⟩
    have hi : i < args.length := by omega
    obtain ⟨hv, hv5⟩ := hin _ (List.getElem_mem hi)
    have hrd : rd_T28 (args ++ [behind]) (i : Int) = args[i] := by
      rw [rd_list _ i (by rw [List.length_append]; omega), List.getElem_append_left hi]
    have hc : espalierref14_Can.f k args[i].f0 args[i].f1 args[i].f2 args[i].f3 args[i].f4 args[i].f5 = some (decide (checkV (V args[i]) = 0)) := Can_eq k (V args[i]) hv (by omega)
    rw [espalierlaw14_ValueCalls.l1.eq_2, if_pos (by omega), if_pos (by omega), if_pos (by rw [List.length_append]; omega), hrd, rd_list args i hi, Same_self k _ _ _ _ _ _ (by omega) (by omega), Option.bind_some, if_pos rfl, hc, Option.bind_some]
    by_cases h0 : checkV (V args[i]) = 0
    · rw [decide_eq_true h0, if_pos rfl, show wrap64 ((i : Int) + 1) = ((i + 1 : Nat) : Int) from by unfold wrap64; omega]
      refine ih k (i + 1) (by omega) (by omega) (fun j hj hlt => ?_) (by omega)
      by_cases e : j = i
      · subst e; exact h0
      · exact h3 j hj (by omega)
    · obtain ⟨rfl, rfl⟩ := hB ⟨args[i], List.getElem_mem hi, h0⟩
      rw [decide_eq_false h0, if_neg (by decide)]
      show Option.bind (espalierref14_Same.f k 0 false 0 false ⟨#[]⟩ [] 0 false 0 false ⟨#[]⟩ []) _ = _
      rw [zero_same k (by omega), Option.bind_some, if_pos rfl]
      rfl
theorem calls_end (k : Nat) (hk : 1000000000000000 ≤ k) : espalierlaw14_ValueCalls.l0 k nm args args (args.length : Int) p q s t at_ = some true := by
  obtain ⟨k, rfl⟩ : ∃ j, k = j + 10 := ⟨k - 10, by omega⟩
  obtain ⟨n, n1, n2, n3⟩ := takes_both (k + 4) nm
  have htk : (args ++ [behind]).take ((args.length : Int) : Int).toNat = args := by rw [Int.toNat_natCast, List.take_left']; rfl
  have hlb : ((args ++ [behind]).length : Int) = (args.length : Int) + 1 := by rw [List.length_append]; rfl
  rw [espalierlaw14_ValueCalls.l0.eq_2, if_neg (by omega), if_pos (by omega)]
  show Option.bind (some (args ++ [behind])) _ = _
  rw [Option.bind_some, if_pos (by omega), if_pos (by omega), htk, Call_id]
  unfold value_call.f
  rw [n1, n2, Option.bind_some]
  by_cases hn : n = (args.length : Int)
  · rw [if_pos hn]
    by_cases hb : ∃ a ∈ args, checkV (V a) ≠ 0
    · rw [show (0 : Int) = ((0 : Nat) : Int) from rfl, call_bad nm p q s t at_ args (by omega) (fun a ha => (hin a ha).1) hb args.length (k + 9) 0 (by omega) (by omega) (fun j _ h => absurd h (by omega)) (by omega), Option.bind_some, Option.bind_some, if_neg (by omega), espalierlaw14_ValueCalls.j1.eq_2, if_neg (by simp [hn])]
      refine look_loop nm p q s t at_ args hl hin 141 (0, false, 0, false, ⟨#[]⟩, []) 150000000000000 (by omega) (fun hg => ?_) (fun _ => ⟨rfl, rfl⟩) args.length (k + 8) 0 (by omega) (by omega) (fun j _ h => absurd h (by omega)) (by omega)
      obtain ⟨a, ha, hc⟩ := hb
      exact absurd (hg a ha).c hc
    · have hg : ∀ a ∈ args, Good a := fun a ha => ⟨(hin a ha).1, Classical.byContradiction fun h => hb ⟨a, ha, h⟩, (hin a ha).2⟩
      obtain ⟨r, r1, r2, hr5⟩ := same_any 800000000000000 nm p q s t at_ args (by omega) n hn hg n3
      have m1 : ∀ k', 800000000000002 ≤ k' → value_call.l0 k' nm args args (args.length : Int) (args.length : Int) p q s t at_ = some (full r) := fun k' hk' => at_rounds (g := fun k => value_call.l0 k nm args args (args.length : Int) (args.length : Int) p q s t at_) (fun k => (value_call.mono_l k).1 _ _ _ _ _ _ _ _ _ _) hk' r1
      have m2 : ∀ k', 800000000000001 ≤ k' → espalierref14_Call.f k' nm p q s t at_ args = some r := fun k' hk' => at_rounds (g := fun k => espalierref14_Call.f k nm p q s t at_ args) (fun k => espalierref14_Call.mono _ _ _ _ _ _ _ k) hk' r2
      rw [show (0 : Int) = ((0 : Nat) : Int) from rfl, call_good nm p q s t at_ args (by omega) 800000000000002 (by omega) (full r) hg m1 args.length (k + 9) 0 (by omega) (by omega) (by omega), Option.bind_some, Option.bind_some, if_neg (by omega), espalierlaw14_ValueCalls.j1.eq_2, if_neg (by simp [hn])]
      refine look_loop nm p q s t at_ args hl hin 0 r 850000000000000 (by omega) (fun _ k' hk' => ?_) (fun h => absurd h hb) args.length (k + 8) 0 (by omega) (by omega) (fun j _ h => absurd h (by omega)) (by omega)
      obtain ⟨k', rfl⟩ : ∃ j, k' = j + 1 := ⟨k' - 1, by omega⟩
      have hrd : rd_T28 (args ++ [behind]) (args.length : Int) = behind := by
        rw [rd_list _ args.length (by rw [List.length_append]; exact Nat.lt_succ_self _), List.getElem_append_right (Nat.le_refl _)]
        simp
      rw [espalierlaw14_ValueCalls.l1.eq_2, if_neg (by omega), if_pos rfl, if_pos (by omega), if_pos (by omega), hrd, if_pos (by decide +kernel), m2 k' (by omega), Option.bind_some]
      rw [Same_self k' _ _ _ _ _ _ (by rw [hr5]; decide) (by rw [hr5]; show 0 + 2 ≤ k'; omega)]
      rfl
  · rw [if_neg hn, Option.bind_some, Option.bind_some]
    have fin : espalierlaw14_ValueCalls.j1 (k + 9) nm args (args ++ [behind]) 140 true p q s t at_ 0 false 0 false ⟨#[]⟩ [] = some true := by
      rw [espalierlaw14_ValueCalls.j1.eq_2, if_pos rfl, zero_same (k + 8) (by omega), Option.bind_some, if_pos rfl]
      rfl
    by_cases h0 : n < 0
    · rw [if_pos h0]; exact fin
    · rw [if_neg h0, show (n != (args.length : Int)) = true from bne_iff_ne.mpr hn]; exact fin
end
theorem ValueCalls (nm : ByteArray) (x : S24) (args : List Rec) (hnm : nm.size ≤ 140737488351232) (hx : QHere x) (ha : (∀ v ∈ args, (Lit.int .i64 v.f0).wf = true ∧ True ∧ (Lit.int .i64 v.f2).wf = true ∧ True ∧ v.f4.size ≤ 140737488351232 ∧ (∀ s ∈ v.f5, s.size ≤ 140737488351232) ∧ v.f5.length * 16 ≤ 140737488351232) ∧ args.length * 72 ≤ 140737488351232) :
    ∃ k, espalierlaw14_ValueCalls.f k nm x.f0 x.f1 x.f2 x.f3 x.f4 args = some true := by
  refine ⟨1100000000000000, ?_⟩
  unfold espalierlaw14_ValueCalls.f
  have hin : ∀ a ∈ args, (V a).In ∧ a.f5.length ≤ 8796093022200 := fun a h => by
    have := ha.1 a h
    exact ⟨Val.In.of this, by have := this.2.2.2.2.2.2; omega⟩
  have := own_loop nm x.f0 x.f1 x.f2 x.f3 x.f4 args (by omega) hin 1000000000000000 (calls_end nm x.f0 x.f1 x.f2 x.f3 x.f4 args (by omega) hin) args.length 1100000000000000 0 (by omega) (by omega) (by omega)
  rw [List.take_zero] at this
  exact this
end Go.Proofs.YtnkjchcaonaifaaGreatDoor.Pure
