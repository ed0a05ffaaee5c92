/- The pure statement of the law ValueTexts: a text contains its parts, starts with its beginning, and is as long as both. -/
import Derived.Test.YtnkjchcaonaifaaDoorPValue
import Derived.Test.YtnkjchcaonaifaaDoorPText
import Derived.Test.YtnkjchcaonaifaaDoorUTexts
import Derived.Lib.RuneCount
import Derived.Lib.IndexMore
import Derived.Test.YtnkjchcaonaifaaDoorPA4
namespace Go.Proofs.YtnkjchcaonaifaaDoor.Pure
open Go.RowKit Go.Proofs.YtnkjchcaonaifaaDoor.PA Go.Proofs.YtnkjchcaonaifaaDoorW.PrintWords Go.Proofs.YtnkjchcaonaifaaDoorW.PrintLast
theorem runes_chars (s : ByteArray) : ∀ (cs : List Nat) (f : Nat) (pre : List UInt8), (∀ c ∈ cs, okC c) → s.data.toList = pre ++ encs cs → s.size - pre.length ≤ f → Lib.runeCountFrom s f pre.length = cs.length := by
  intro cs
  have hsz := Lib.size_eq s
  induction cs with
  | nil =>
    intro f pre _ h _
    have : ¬ pre.length < s.size := by rw [hsz, h]; simp [PA.encs]
    cases f with
    | zero => rfl
    | succ f => rw [Lib.runeCountFrom, if_neg this]; rfl
  | cons c cs ih =>
    intro f pre hc h hf
    have hok := hc c (by simp)
    have hp := enc_pos c hok
    have hch := chr_enc s pre (encs cs) c hok (by rw [h, encs_cons, List.append_assoc])
    have hlt : pre.length < s.size := by rw [hsz, h, encs_cons]; simp; omega
    obtain ⟨f, rfl⟩ : ∃ g, f = g + 1 := ⟨f - 1, by omega⟩
    have hd : Utf8.decode s pre.length = (c, (enc c).length) := by rw [chr_decode (by rw [hch]; simp only; omega), hch]
    have := ih f (pre ++ enc c) (fun x hx => hc x (by simp [hx])) (by rw [h, encs_cons, List.append_assoc]) (by rw [List.length_append]; omega)
    rw [List.length_append] at this
    rw [Lib.runeCountFrom, if_pos hlt, hd]
    simp only
    rw [this]
    simp; omega
theorem runes_of (s : ByteArray) (cs : List Nat) (hc : ∀ c ∈ cs, okC c) (h : s.data.toList = encs cs) : Lib.runeCount s = cs.length := by
  have := runes_chars s cs s.size [] hc (by simpa using h) (by simp)
  rw [List.length_nil] at this
  exact this
theorem encs_append (x y : List Nat) : encs (x ++ y) = encs x ++ encs y := by
  induction x with
  | nil => simp [PA.encs]
  | cons c x ih => rw [List.cons_append, encs_cons, encs_cons, ih, List.append_assoc]
theorem runes_append {a b : ByteArray} (ha : tOk a = true) (hb : tOk b = true) : Lib.runeCount (a ++ b) = Lib.runeCount a + Lib.runeCount b := by
  obtain ⟨_, x, hx, ex⟩ := (textR_iff a).mp (eq_of_beq ha)
  obtain ⟨_, y, hy, ey⟩ := (textR_iff b).mp (eq_of_beq hb)
  rw [runes_of a x hx ex, runes_of b y hy ey, runes_of (a ++ b) (x ++ y) (fun c hc => (List.mem_append.mp hc).elim (hx c) (hy c)) (by rw [ByteArray.data_append, Array.toList_append, ex, ey, encs_append]), List.length_append]
theorem Len_eq1 (k : Nat) {s : ByteArray} (h : tOk s = true) (hk : 140737488351242 ≤ k) : chars_Len.f k s = some ((Lib.runeCount s : Int), 0) := by
  have hs := tOk_size h
  unfold chars_Len.f utf8_RuneCountInString.f
  rw [text_eq s (by omega) k (by omega), Option.bind_some, if_pos (show s.size < 9223372036854775807 by omega), if_pos (eq_of_beq h)]
  rfl
theorem takes_of (k : Nat) (nm : ByteArray) (n : Int) (h : (nm.toList, n) ∈ [(([108, 101, 110, 103, 116, 104] : List UInt8), (1 : Int)), ([99, 111, 110, 116, 97, 105, 110, 115], 2), ([115, 116, 97, 114, 116, 115], 2)]) : value_takes.f (k + 5) nm = some n := by
  simp only [List.mem_cons, List.mem_nil_iff, or_false, Prod.mk.injEq] at h
  unfold value_takes.f
  rcases h with ⟨e, rfl⟩ | ⟨e, rfl⟩ | ⟨e, rfl⟩
  all_goals (rw [e]; simp [value_takes.j0, value_takes.j1, e])
theorem check_text (k : Nat) {s : ByteArray} (h : tOk s = true) (hk : 140737488351242 ≤ k) : value_check.f k 3 false 0 false s [] = some 0 := by
  have := check_eq k (textV s) (textV_in h) hk
  rw [textV_check h] at this
  exact this
theorem asText_text {s : ByteArray} (h : tOk s = true) : value_asText.f 3 false 0 false s [] = some s := asText_eq (textV s) (textV_in h)
theorem one_call (k : Nat) {s : ByteArray} (h : tOk s = true) (hk : 140737488351242 ≤ k) : value_Call.f (k + 9) ⟨#[108, 101, 110, 103, 116, 104]⟩ 0 0 ⟨#[]⟩ ⟨#[]⟩ [] [⟨3, false, 0, false, s, []⟩] = some (2, false, (Lib.runeCount s : Int), false, ⟨#[]⟩, [], 0) := by
  have e : (⟨#[108, 101, 110, 103, 116, 104]⟩ : ByteArray).toList = ([108, 101, 110, 103, 116, 104] : List UInt8) := by decide +kernel
  unfold value_Call.f value_call.f
  rw [takes_of (k + 4) _ 1 (by rw [e]; decide), Option.bind_some, if_pos (by show (1 : Int) = ((1 : Nat) : Int); rfl), value_call.l0.eq_2, if_pos (by show (0 : Int) < ((1 : Nat) : Int); decide), if_pos (by decide), if_pos (by show (0 : Int) < ((1 : Nat) : Int); decide)]
  show Option.bind ((value_check.f (k + 8) 3 false 0 false s []).bind _) _ = _
  rw [check_text (k + 8) h (by omega), Option.bind_some, if_pos rfl, show wrap64 (0 + 1) = 1 from by unfold wrap64; omega, value_call.l0.eq_2, if_neg (by show ¬ (1 : Int) < ((1 : Nat) : Int); decide), e, if_neg (by decide)]
  rw [value_call.j1.eq_2, if_neg (by decide), e, if_neg (by decide), if_neg (by decide), if_neg (by decide), if_neg (by decide), if_neg (by decide), if_neg (by decide), if_neg (by decide), if_neg (by decide), if_pos rfl, if_pos (by show (0 : Int) < ((1 : Nat) : Int); decide)]
  show Option.bind ((value_asText.f 3 false 0 false s []).bind _) _ = _
  rw [asText_text h, Option.bind_some]
  show Option.bind ((chars_Len.f (k + 6) s).bind _) _ = _
  rw [Len_eq1 (k + 6) h (by omega)]
  rfl
theorem two_call (k : Nat) (nm : ByteArray) {s u : ByteArray} (hs : tOk s = true) (hu : tOk u = true) (hk : 140737488351242 ≤ k) (h : nm.toList = ([99, 111, 110, 116, 97, 105, 110, 115] : List UInt8) ∧ strings_Contains.f s u = some true ∨ nm.toList = ([115, 116, 97, 114, 116, 115] : List UInt8) ∧ strings_HasPrefix.f s u = some true) :
    value_Call.f (k + 9) nm 0 0 ⟨#[]⟩ ⟨#[]⟩ [] [⟨3, false, 0, false, s, []⟩, ⟨3, false, 0, false, u, []⟩] = some (1, true, 0, false, ⟨#[]⟩, [], 0) := by
  unfold value_Call.f value_call.f
  rw [takes_of (k + 4) nm 2 (by rcases h with ⟨e, _⟩ | ⟨e, _⟩ <;> (rw [e]; decide)), Option.bind_some, if_pos (by show (2 : Int) = ((2 : Nat) : Int); rfl), value_call.l0.eq_2, if_pos (by show (0 : Int) < ((2 : Nat) : Int); decide), if_pos (by decide), if_pos (by show (0 : Int) < ((2 : Nat) : Int); decide)]
  show Option.bind ((value_check.f (k + 8) 3 false 0 false s []).bind _) _ = _
  rw [check_text (k + 8) hs (by omega), Option.bind_some, if_pos rfl, show wrap64 (0 + 1) = 1 from by unfold wrap64; omega, value_call.l0.eq_2, if_pos (by show (1 : Int) < ((2 : Nat) : Int); decide), if_pos (by decide), if_pos (by show (1 : Int) < ((2 : Nat) : Int); decide)]
  show Option.bind ((value_check.f (k + 7) 3 false 0 false u []).bind _) _ = _
  rw [check_text (k + 7) hu (by omega), Option.bind_some, if_pos rfl, show wrap64 (1 + 1) = 2 from by unfold wrap64; omega, value_call.l0.eq_2, if_neg (by show ¬ (2 : Int) < ((2 : Nat) : Int); decide)]
  rcases h with ⟨e, hq⟩ | ⟨e, hq⟩
  · rw [e, if_neg (by decide), value_call.j1.eq_2, if_neg (by decide), e, if_neg (by decide), if_neg (by decide), if_neg (by decide), if_neg (by decide), if_neg (by decide), if_neg (by decide), if_neg (by decide), if_neg (by decide), if_neg (by decide), if_pos rfl, if_pos (by show (0 : Int) < ((2 : Nat) : Int); decide)]
    show Option.bind ((value_asText.f 3 false 0 false s []).bind _) _ = _
    rw [asText_text hs, Option.bind_some, if_pos (by show (1 : Int) < ((2 : Nat) : Int); decide)]
    show Option.bind ((value_asText.f 3 false 0 false u []).bind _) _ = _
    rw [asText_text hu, Option.bind_some, hq]
    rfl
  · rw [e, if_neg (by decide), value_call.j1.eq_2, if_neg (by decide), e, if_neg (by decide), if_neg (by decide), if_neg (by decide), if_neg (by decide), if_neg (by decide), if_neg (by decide), if_neg (by decide), if_neg (by decide), if_neg (by decide), if_neg (by decide), if_pos (by show (0 : Int) < ((2 : Nat) : Int); decide)]
    show Option.bind ((value_asText.f 3 false 0 false s []).bind _) _ = _
    rw [asText_text hs, Option.bind_some, if_pos (by show (1 : Int) < ((2 : Nat) : Int); decide)]
    show Option.bind ((value_asText.f 3 false 0 false u []).bind _) _ = _
    rw [asText_text hu, Option.bind_some, hq]
    rfl
theorem prefix_self (l r : List UInt8) : l.isPrefixOf (l ++ r) = true := by rw [List.isPrefixOf_iff_prefix]; exact List.prefix_append l r
theorem contains_tail (l r : List UInt8) : Lib.contains (l ++ r) r = true := by
  unfold Lib.contains
  rcases Lib.index_spec (l ++ r) r with ⟨_, h⟩ | ⟨i, h, _⟩
  · have := h l.length (by simp)
    unfold Lib.occAt at this
    rw [List.drop_left] at this
    have h2 := prefix_self r []
    rw [List.append_nil] at h2
    rw [h2] at this
    exact absurd this (by decide)
  · rw [h]; exact decide_eq_true (by omega)
theorem Contains_tail {a b : ByteArray} (h : (a ++ b).size < 4294967281) : strings_Contains.f (a ++ b) b = some true := by
  unfold strings_Contains.f
  rw [if_pos h, ByteArray.data_append, Array.toList_append, contains_tail]
theorem encs_len (x : List Nat) (h : ∀ c ∈ x, okC c) : x.length ≤ (encs x).length := by
  induction x with
  | nil => simp
  | cons c x ih =>
    rw [encs_cons, List.length_append, List.length_cons]
    have h1 := enc_pos c (h c (by simp))
    have h2 := ih (fun y hy => h y (by simp [hy]))
    omega
theorem runes_le {s : ByteArray} (h : tOk s = true) : Lib.runeCount s ≤ 16384 := by
  obtain ⟨hs, x, hx, ex⟩ := (textR_iff s).mp (eq_of_beq h)
  rw [runes_of s x hx ex]
  have h1 := encs_len x hx
  have h2 := Lib.size_eq s
  rw [ex] at h2
  omega
theorem Prefix_self (a b : ByteArray) : strings_HasPrefix.f (a ++ b) a = some true := by
  have hsz : (a ++ b).size = a.size + b.size := ByteArray.size_append
  unfold strings_HasPrefix.f stringslite_HasPrefix.f
  rw [if_pos (by omega), if_pos (by omega), if_pos (by omega), ByteArray.extract_append_eq_left rfl, Option.bind_some]
  simp
theorem Contains_none {a : ByteArray} (h : a.size < 4294967281) : strings_Contains.f a ⟨#[]⟩ = some true := by
  unfold strings_Contains.f
  have := contains_tail a.data.toList []
  rw [List.append_nil] at this
  rw [if_pos h, show (⟨#[]⟩ : ByteArray).data.toList = [] from rfl, this]
theorem ValueTexts (a b : ByteArray) (ha : a.size ≤ 140737488351232) (hb : b.size ≤ 140737488351232) : true = true ∧ ∃ k ta tb tab na nb, TextsP k a b ta tb tab na nb := by
  have hsz : (a ++ b).size = a.size + b.size := ByteArray.size_append
  have main : ∀ k, 140737488351242 ≤ k → TextsP (k + 9) a b (textR a).2 (textR b).2 (textR (a ++ b)).2 (Lib.runeCount a) (Lib.runeCount b) := by
    intro k hk
    refine ⟨by omega, ⟨(textR a).1, ?_⟩, ⟨(textR b).1, ?_⟩, ⟨(textR (a ++ b)).1, ?_⟩, fun z1 z2 z3 => ?_⟩
    · unfold chars_Text.f
      rw [text_eq a (by omega) (k + 9) (by omega)]
      rfl
    · unfold chars_Text.f
      rw [text_eq b (by omega) (k + 9) (by omega)]
      rfl
    · have e : chars_text.f (k + 9) (a ++ b) = some (textR (a ++ b)) := by
        by_cases h : (a ++ b).size > 16384
        · unfold chars_text.f textR
          rw [if_pos (by omega), if_pos h]
        · exact text_eq _ (by omega) (k + 9) (by omega)
      unfold chars_Text.f
      rw [e]
      rfl
    have ta : tOk a = true := beq_iff_eq.mpr z1
    have tb : tOk b = true := beq_iff_eq.mpr z2
    have tab : tOk (a ++ b) = true := beq_iff_eq.mpr z3
    have t0 : tOk ⟨#[]⟩ = true := tOk_lit [] (by rfl) (by decide)
    have sab := tOk_size tab
    have sa := tOk_size ta
    have na := runes_le ta
    have nb := runes_le tb
    have hn : wrap64 ((Lib.runeCount a : Int) + (Lib.runeCount b : Int)) = (Lib.runeCount (a ++ b) : Int) := by
      rw [runes_append ta tb]
      unfold wrap64
      omega
    refine ⟨one_call k ta hk, one_call k tb hk, ?_, two_call k _ tab tb hk (.inl ⟨by decide +kernel, Contains_tail (by omega)⟩), two_call k _ tab ta hk (.inr ⟨by decide +kernel, Prefix_self a b⟩), two_call k _ ta t0 hk (.inl ⟨by decide +kernel, Contains_none (by omega)⟩)⟩
    rw [hn]
    exact one_call k tab hk
  exact ⟨rfl, _, _, _, _, _, _, main 140737488351242 (Nat.le_refl _)⟩
end Go.Proofs.YtnkjchcaonaifaaDoor.Pure
