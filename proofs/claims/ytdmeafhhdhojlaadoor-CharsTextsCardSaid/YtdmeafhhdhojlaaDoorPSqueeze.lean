/- Words: what strings.FieldsFunc and strings.Join make of a text, byte by byte: in plain Lean. -/
import Derived.Test.YtdmeafhhdhojlaaDoorPText
import Derived.Test.YtdmeafhhdhojlaaDoorUSqueeze
namespace Go.Proofs.YtdmeafhhdhojlaaDoor.PB
open Go.RowKit Go.Proofs.YtdmeafhhdhojlaaDoorW.PrintWords Go.Proofs.YtdmeafhhdhojlaaDoorW.PrintLast Go.Proofs.YtdmeafhhdhojlaaDoorW.PrintMore
set_option linter.unusedVariables false
set_option linter.unusedSimpArgs false
def whiteB (b : UInt8) : Bool := blanksL.contains b
theorem white_low : ∀ c : Fin 128, whiteB (UInt8.ofNat c.val) = isBlank c.val := by decide +kernel
theorem white_high (b : UInt8) (h : 128 ≤ b.toNat) : whiteB b = false := by
  have hn : ∀ c : UInt8, c.toNat < 128 → ¬ b = c := fun c hc e => by rw [e] at h; omega
  have h1 := hn 9 (by decide); have h2 := hn 10 (by decide); have h3 := hn 13 (by decide); have h4 := hn 32 (by decide)
  simp [whiteB, blanksL, h1, h2, h3, h4]
theorem blank_low (c : Nat) (h : isBlank c = true) : c < 128 := by
  unfold isBlank at h
  simp at h
  omega
theorem enc_white (c : Nat) (hc : okC c) (h : isBlank c = true) : ∃ b, enc c = [b] ∧ whiteB b = true := by
  have hl := blank_low c h
  exact ⟨_, enc_low c hc hl, by have := white_low ⟨c, hl⟩; simp only at this; rw [this]; exact h⟩
theorem enc_dark (c : Nat) (hc : okC c) (h : isBlank c = false) : ∀ b ∈ enc c, whiteB b = false := by
  intro b hb
  by_cases hl : c < 128
  · rw [enc_low c hc hl] at hb
    obtain rfl := List.mem_singleton.mp hb
    have := white_low ⟨c, hl⟩
    simp only at this
    rw [this]; exact h
  · exact white_high b (enc_high c hc (by omega) b hb)
def fieldsB : List UInt8 → Option (List UInt8) → List (List UInt8)
  | [], none => []
  | [], some w => [w]
  | b :: l, none => if whiteB b = true then fieldsB l none else fieldsB l (some [b])
  | b :: l, some w => if whiteB b = true then w :: fieldsB l none else fieldsB l (some (w ++ [b]))
def Dark (w : List UInt8) : Prop := w ≠ [] ∧ ∀ b ∈ w, whiteB b = false
theorem fieldsB_word : ∀ (w v l : List UInt8), (∀ b ∈ w, whiteB b = false) → fieldsB (w ++ l) (some v) = fieldsB l (some (v ++ w))
  | [], v, l, _ => by simp
  | b :: w, v, l, h => by
    have h1 := h b (by simp)
    have ih := fieldsB_word w (v ++ [b]) l (fun x hx => h x (by simp [hx]))
    rw [List.cons_append, fieldsB.eq_4, if_neg (by rw [h1]; simp), ih]
    simp
theorem fieldsB_start (w l : List UInt8) (h : Dark w) : fieldsB (w ++ l) none = fieldsB l (some w) := by
  obtain ⟨h0, h⟩ := h
  cases w with
  | nil => exact absurd rfl h0
  | cons b w =>
    have h1 := h b (by simp)
    rw [List.cons_append, fieldsB.eq_3, if_neg (by rw [h1]; simp), fieldsB_word w [b] l (fun x hx => h x (by simp [hx]))]
    rfl
theorem tail_cons (x : List UInt8) (r : List (List UInt8)) : Lib.joinTail [32] (x :: r) = 32 :: (x ++ Lib.joinTail [32] r) := by simp [Lib.joinTail]
theorem fieldsB_tail (l : List UInt8) (hl : ∀ x, fieldsB l (some x) = [x]) : ∀ (ws : List (List UInt8)) (w : List UInt8), (∀ x ∈ ws, Dark x) → fieldsB (Lib.joinTail [32] ws ++ l) (some w) = w :: ws
  | [], w, _ => by
    have : Lib.joinTail [32] [] = [] := rfl
    rw [this, List.nil_append, hl]
  | x :: ws, w, h => by
    have h32 : whiteB 32 = true := by decide
    rw [tail_cons, List.cons_append, fieldsB.eq_4, if_pos h32, List.append_assoc, fieldsB_start x _ (h x (by simp)), fieldsB_tail l hl ws x (fun y hy => h y (by simp [hy]))]
theorem fieldsB_join (l : List UInt8) (hl : ∀ x, fieldsB l (some x) = [x]) (hl0 : fieldsB l none = []) (ws : List (List UInt8)) (h : ∀ x ∈ ws, Dark x) : fieldsB (Lib.join ws [32] ++ l) none = ws := by
  cases ws with
  | nil => rw [Lib.join_nil, List.nil_append, hl0]
  | cons w ws => rw [Lib.join_cons, List.append_assoc, fieldsB_start w _ (h w (by simp)), fieldsB_tail l hl ws w (fun y hy => h y (by simp [hy]))]
theorem fieldsB_dark : ∀ (l : List UInt8) (st : Option (List UInt8)), (∀ w, st = some w → Dark w) → ∀ x ∈ fieldsB l st, Dark x
  | [], none, _, x, hx => by simp [fieldsB] at hx
  | [], some w, h, x, hx => by
    simp [fieldsB] at hx
    rw [hx]; exact h w rfl
  | b :: l, none, h, x, hx => by
    rw [fieldsB.eq_3] at hx
    by_cases hb : whiteB b = true
    · rw [if_pos hb] at hx; exact fieldsB_dark l none (fun w h => by cases h) x hx
    · rw [if_neg hb] at hx
      exact fieldsB_dark l (some [b]) (fun w h => by cases h; exact ⟨by simp, by simpa using hb⟩) x hx
  | b :: l, some w, h, x, hx => by
    rw [fieldsB.eq_4] at hx
    by_cases hb : whiteB b = true
    · rw [if_pos hb] at hx
      rcases List.mem_cons.mp hx with rfl | hx
      · exact h x rfl
      · exact fieldsB_dark l none (fun w h => by cases h) x hx
    · rw [if_neg hb] at hx
      refine fieldsB_dark l (some (w ++ [b])) (fun v hv => ?_) x hx
      cases hv
      have hw := h w rfl
      exact ⟨by simp, fun y hy => by
        rcases List.mem_append.mp hy with hy | hy
        · exact hw.2 y hy
        · rw [List.mem_singleton.mp hy]; simpa using hb⟩
theorem join_len (x : List UInt8) (r : List (List UInt8)) : (Lib.join (x :: r) [32]).length ≤ x.length + 1 + (Lib.join r [32]).length := by
  rw [Lib.join_cons, List.length_append]
  cases r with
  | nil => simp [Lib.joinTail, Lib.join_nil]
  | cons y r => rw [tail_cons, Lib.join_cons]; simp; omega
theorem fieldsB_len : ∀ (l : List UInt8), ((Lib.join (fieldsB l none) [32]).length ≤ l.length ∧ (fieldsB l none).length ≤ l.length) ∧ ∀ w, (Lib.join (fieldsB l (some w)) [32]).length ≤ w.length + l.length ∧ (fieldsB l (some w)).length ≤ l.length + 1
  | [] => ⟨⟨by simp [fieldsB, Lib.join_nil], by simp [fieldsB]⟩, fun w => ⟨by simp [fieldsB, Lib.join_one], by simp [fieldsB]⟩⟩
  | b :: l => by
    obtain ⟨⟨h1, h2⟩, h3⟩ := fieldsB_len l
    rw [fieldsB.eq_3]
    by_cases hb : whiteB b = true
    · rw [if_pos hb]
      refine ⟨⟨by simp; omega, by simp; omega⟩, fun w => ?_⟩
      rw [fieldsB.eq_4, if_pos hb]
      have := join_len w (fieldsB l none)
      exact ⟨by simp; omega, by simp; omega⟩
    · rw [if_neg hb]
      have h4 := h3 [b]
      refine ⟨⟨by simp at *; omega, by simp; omega⟩, fun w => ?_⟩
      rw [fieldsB.eq_4, if_neg hb]
      have := h3 (w ++ [b])
      exact ⟨by simp at *; omega, by simp; omega⟩
theorem encs_one (c : Nat) : encs [c] = enc c := by rw [encs_cons, show encs [] = [] from rfl, List.append_nil]
theorem fieldsB_chars : ∀ (cs : List Nat) (st : Option (List UInt8)), (∀ c ∈ cs, okC c) → (∀ w, st = some w → ∃ ds : List Nat, (∀ c ∈ ds, okC c) ∧ w = encs ds) → ∀ x ∈ fieldsB (encs cs) st, ∃ ds : List Nat, (∀ c ∈ ds, okC c) ∧ x = encs ds
  | [], none, _, _, x, hx => by simp [fieldsB, encs] at hx
  | [], some w, _, h, x, hx => by
    simp [fieldsB, encs] at hx
    rw [hx]; exact h w rfl
  | c :: cs, st, hc, h, x, hx => by
    have hok := hc c (by simp)
    have hcs : ∀ z ∈ cs, okC z := fun z hz => hc z (by simp [hz])
    rw [encs_cons] at hx
    cases hb : isBlank c with
    | true =>
      obtain ⟨b, he, hw⟩ := enc_white c hok hb
      rw [he] at hx
      cases st with
      | none =>
        rw [List.cons_append, fieldsB.eq_3, if_pos hw, List.nil_append] at hx
        exact fieldsB_chars cs none hcs (fun w h => by cases h) x hx
      | some v =>
        rw [List.cons_append, fieldsB.eq_4, if_pos hw, List.nil_append] at hx
        rcases List.mem_cons.mp hx with rfl | hx
        · exact h x rfl
        · exact fieldsB_chars cs none hcs (fun w h => by cases h) x hx
    | false =>
      have hd := enc_dark c hok hb
      have hp := enc_pos c hok
      cases st with
      | none =>
        rw [fieldsB_start _ _ ⟨fun e => by rw [e] at hp; simp at hp, hd⟩] at hx
        refine fieldsB_chars cs (some (enc c)) hcs (fun w hw => ?_) x hx
        have hw := Option.some.inj hw
        exact ⟨[c], fun z hz => by rw [List.mem_singleton.mp hz]; exact hok, by rw [encs_one, hw]⟩
      | some v =>
        rw [fieldsB_word _ _ _ hd] at hx
        refine fieldsB_chars cs (some (v ++ enc c)) hcs (fun w hw => ?_) x hx
        cases hw
        obtain ⟨ds, h1, h2⟩ := h v rfl
        exact ⟨ds ++ [c], fun z hz => (List.mem_append.mp hz).elim (h1 z) (fun hz => by rw [List.mem_singleton.mp hz]; exact hok), by rw [encs_app, h2, encs_one]⟩
theorem join_chars : ∀ (ws : List (List UInt8)), (∀ x ∈ ws, ∃ ds : List Nat, (∀ c ∈ ds, okC c) ∧ x = encs ds) → (∃ ds : List Nat, (∀ c ∈ ds, okC c) ∧ Lib.joinTail [32] ws = encs ds) ∧ ∃ ds : List Nat, (∀ c ∈ ds, okC c) ∧ Lib.join ws [32] = encs ds
  | [], _ => ⟨⟨[], by simp, rfl⟩, ⟨[], by simp, rfl⟩⟩
  | x :: ws, h => by
    obtain ⟨ds, h1, h2⟩ := h x (by simp)
    obtain ⟨⟨es, h3, h4⟩, _⟩ := join_chars ws (fun y hy => h y (by simp [hy]))
    have h5 : ∀ c ∈ ds ++ es, okC c := fun c hc => (List.mem_append.mp hc).elim (h1 c) (h3 c)
    have h32 : enc 32 = [32] := by decide +kernel
    refine ⟨⟨32 :: (ds ++ es), fun c hc => ?_, ?_⟩, ⟨ds ++ es, h5, ?_⟩⟩
    · rcases List.mem_cons.mp hc with rfl | hc
      · exact (okC_iff 32).mpr (by omega)
      · exact h5 c hc
    · rw [tail_cons, h2, h4, encs_cons, encs_app, h32]; rfl
    · rw [Lib.join_cons, h2, h4, encs_app]
/-- The words of a text: the library's fields are the words, byte by byte. -/
theorem spans_words (s : ByteArray) : ∀ (cs : List Nat) (f : Nat) (pre : List UInt8) (st : Option Nat) (acc : List (Nat × Nat)), (∀ c ∈ cs, okC c) → s.data.toList = pre ++ encs cs → s.size - pre.length ≤ f → (∀ a, st = some a → a ≤ pre.length) →
    (Lib.closeSpans s (Lib.spansFromP isBlank s f pre.length st acc)).map (fun x => (s.extract x.1 x.2).data.toList) = acc.map (fun x => (s.extract x.1 x.2).data.toList) ++ fieldsB (encs cs) (st.map fun a => pre.drop a) := by
  have hsz := Lib.size_eq s
  have hcut : ∀ (pre l : List UInt8) (a : Nat), s.data.toList = pre ++ l → a ≤ pre.length → (s.extract a pre.length).data.toList = pre.drop a := by
    intro pre l a h ha
    rw [Lib.extract_data, h, List.drop_append_of_le_length ha, List.take_append_of_le_length (by rw [List.length_drop]; omega), List.take_of_length_le (by rw [List.length_drop]; omega)]
  intro cs
  induction cs with
  | nil =>
    intro f pre st acc _ h _ hst
    have hp : ¬ pre.length < s.size := by rw [hsz, h]; simp [encs]
    rw [Lib.spansFromP_end isBlank s f pre.length st acc hp]
    have he : encs [] = [] := rfl
    rw [he] at h ⊢
    have hsl : s.size = pre.length := by rw [hsz, h]; simp
    cases st with
    | none => simp [Lib.closeSpans, fieldsB]
    | some a =>
      have := hcut pre [] a h (hst a rfl)
      show (acc ++ [(a, s.size)]).map _ = _
      rw [List.map_append, hsl]
      exact congrArg (acc.map (fun x => (s.extract x.1 x.2).data.toList) ++ [·]) this
  | cons c cs ih =>
    intro f pre st acc hc h hf hst
    have hok := hc c (by simp)
    have hp := enc_pos c hok
    have hch := chr_enc s pre (encs cs) c hok (by rw [h, encs_cons, List.append_assoc])
    have hlt : pre.length < s.size := by rw [hsz, h, encs_cons]; simp; omega
    obtain ⟨f, rfl⟩ : ∃ g, f = g + 1 := ⟨f - 1, by omega⟩
    have hd : Utf8.decode s pre.length = (c, (enc c).length) := by rw [chr_decode (by rw [hch]; simp only; omega), hch]
    have h' : s.data.toList = (pre ++ enc c) ++ encs cs := by rw [h, encs_cons, List.append_assoc]
    have IH := fun st' acc' hst' => ih f (pre ++ enc c) st' acc' (fun x hx => hc x (by simp [hx])) h' (by rw [List.length_append]; omega) hst'
    rw [List.length_append] at IH
    have hcutE := hcut pre (encs (c :: cs))
    rw [Lib.spansFromP.eq_def]
    simp only [if_pos hlt, hd]
    rw [encs_cons]
    cases hb : isBlank c with
    | true =>
      obtain ⟨b, he, hw⟩ := enc_white c hok hb
      cases st with
      | none =>
        dsimp only
        rw [if_pos rfl, IH none acc (fun a h => by cases h), he, List.cons_append, List.nil_append, Option.map_none, Option.map_none, fieldsB.eq_3, if_pos hw]
      | some a =>
        dsimp only
        rw [if_pos rfl, IH none (acc ++ [(a, pre.length)]) (fun a h => by cases h), he, List.cons_append, List.nil_append, Option.map_none, Option.map_some, fieldsB.eq_4, if_pos hw, List.map_append, List.append_assoc]
        have := hcutE a h (hst a rfl)
        exact congrArg (fun z => acc.map (fun x => (s.extract x.1 x.2).data.toList) ++ z :: fieldsB (encs cs) none) this
    | false =>
      have hdk := enc_dark c hok hb
      cases st with
      | none =>
        dsimp only
        rw [if_neg (by simp), IH (some pre.length) acc (fun a h => by cases h; omega), Option.map_none, Option.map_some, fieldsB_start _ _ ⟨fun e => by rw [e] at hp; simp at hp, hdk⟩, List.drop_left]
      | some a =>
        dsimp only
        rw [if_neg (by simp), IH (some a) acc (fun z h => by cases h; have := hst a rfl; omega), Option.map_some, Option.map_some, fieldsB_word _ _ _ hdk, List.drop_append_of_le_length (hst a rfl)]
theorem words_eq (s : ByteArray) (cs : List Nat) (hc : ∀ c ∈ cs, okC c) (h : s.data.toList = encs cs) : sqList s = fieldsB s.data.toList none := by
  have := spans_words s cs s.size [] none [] hc (by simpa using h) (by simp) (fun a h => by cases h)
  unfold sqList Lib.goFieldsP Lib.spansOfP
  rw [List.map_map, h]
  rw [List.length_nil, List.map_nil, List.nil_append, Option.map_none] at this
  exact this
def sqL (l : List UInt8) : List UInt8 := Lib.join (fieldsB l none) [32]
theorem sqR_eq (s : ByteArray) (cs : List Nat) (hc : ∀ c ∈ cs, okC c) (h : s.data.toList = encs cs) : sqR s = ⟨(sqL s.data.toList).toArray⟩ := by
  unfold sqR sqL
  rw [words_eq s cs hc h]
theorem sqL_len (l : List UInt8) : (sqL l).length ≤ l.length := (fieldsB_len l).1.1
theorem Squeeze_eq (k : Nat) (s : ByteArray) (hn : s.size ≤ 140737488355328) (hk : s.size + 2 ≤ k) : chars_Squeeze.f k s = some (if (textR s).2 = 0 then ((⟨(sqL s.data.toList).toArray⟩ : ByteArray), 0) else ((⟨#[]⟩ : ByteArray), (textR s).2)) := by
  unfold chars_Squeeze.f
  rw [text_eq s hn k hk, Option.bind_some]
  by_cases ht : (textR s).2 = 0
  · obtain ⟨hs, cs, hc, h⟩ := (textR_iff s).mp ht
    have hw := words_eq s cs hc h
    have hl := sqL_len s.data.toList
    have hl2 := (fieldsB_len s.data.toList).1.2
    have hg : (Lib.goFieldsP isBlank s).length = (sqList s).length := by unfold sqList; rw [List.length_map]
    rw [← Lib.size_eq] at hl hl2
    rw [if_pos ht, if_pos ht, if_pos ⟨by omega, by rw [hg, hw]; omega, by rw [hw]; exact Nat.le_trans hl (by omega)⟩, sqR_eq s cs hc h]
  · rw [if_neg ht, if_neg ht]
theorem sq_text (l : List UInt8) (cs : List Nat) (hc : ∀ c ∈ cs, okC c) (h : l = encs cs) : ∃ ds : List Nat, (∀ c ∈ ds, okC c) ∧ sqL l = encs ds := by
  unfold sqL
  exact (join_chars _ (fieldsB_chars cs none hc (fun w h => by cases h) |> fun H x hx => H x (by rw [← h]; exact hx))).2
theorem sq_good (l : List UInt8) : ∀ x ∈ fieldsB l none, Dark x := fieldsB_dark l none (fun w h => by cases h)
theorem sq_again (l : List UInt8) : sqL (sqL l) = sqL l := by
  unfold sqL
  have := fieldsB_join [] (fun x => rfl) rfl (fieldsB l none) (sq_good l)
  rw [List.append_nil] at this
  rw [this]
theorem sq_around (l : List UInt8) : sqL (32 :: (sqL l ++ [10])) = sqL l := by
  unfold sqL
  have h32 : whiteB 32 = true := by decide
  have := fieldsB_join [10] (fun x => rfl) rfl (fieldsB l none) (sq_good l)
  rw [fieldsB.eq_3, if_pos h32, this]
end Go.Proofs.YtdmeafhhdhojlaaDoor.PB
