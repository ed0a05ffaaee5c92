/- The words behind a command's word: the program's loop over the kinds against the reference's. In plain Lean. -/
import Derived.Test.YtggdffgoffmlpaaDoorPSh5
import Derived.Lib.FieldsP
namespace Go.Proofs.YtggdffgoffmlpaaDoor.PA
open Go.RowKit Go.Proofs.YtggdffgoffmlpaaDoorW.PrintWords Go.Proofs.YtggdffgoffmlpaaDoorW.PrintLast Go.Proofs.YtggdffgoffmlpaaDoorW.PrintMore
set_option linter.unusedVariables false
set_option linter.unusedSimpArgs false
theorem dec_at (s : ByteArray) (pos : Nat) (h : pos < s.size) : (s.get! pos = 32 ∧ isSp (Utf8.decode s pos).1 = true ∧ (Utf8.decode s pos).2 = 1) ∨
    (isSp (Utf8.decode s pos).1 = false ∧ 1 ≤ (Utf8.decode s pos).2 ∧ pos + (Utf8.decode s pos).2 ≤ s.size ∧ ∀ j, pos ≤ j → j < pos + (Utf8.decode s pos).2 → s.get! j ≠ 32) := by
  rw [Lib.decode_at]
  have n32 : ∀ j, 128 ≤ (s.get! j).toNat → s.get! j ≠ 32 := fun j h e => by rw [e] at h; exact absurd h (by decide)
  by_cases h0 : (s.get! pos).toNat < 128
  · have e : Lib.decodeN (s.size - pos) (s.get! pos).toNat (s.get! (pos + 1)).toNat (s.get! (pos + 2)).toNat (s.get! (pos + 3)).toNat = ((s.get! pos).toNat, 1) := by
      unfold Lib.decodeN
      rw [if_pos h0]
    rw [e]
    by_cases h32 : s.get! pos = 32
    · exact .inl ⟨h32, by rw [h32]; rfl, rfl⟩
    · refine .inr ⟨?_, by simp only; omega, by simp only; omega, fun j a b => ?_⟩
      · unfold isSp
        rw [beq_eq_false_iff_ne]
        exact fun e => h32 (UInt8.toNat_inj.mp e)
      · simp only at b
        obtain rfl : j = pos := by omega
        exact h32
  · have sp' : ∀ r : Nat, 128 ≤ r → isSp r = false := fun r hr => by unfold isSp; rw [beq_eq_false_iff_ne]; omega
    rcases Lib.decodeN_shape (s.size - pos) (s.get! pos).toNat (s.get! (pos + 1)).toNat (s.get! (pos + 2)).toNat (s.get! (pos + 3)).toNat with ⟨a, _⟩ | ⟨a, b, c, d, e⟩ | ⟨a, b, c, d, f, g, e⟩ | ⟨a, b, c, d, f, g, l, e⟩ | e
    · exact absurd a h0
    · rw [e]
      refine .inr ⟨sp' _ d, by simp only; omega, by simp only; omega, fun j x y => ?_⟩
      simp only at y
      rcases (show j = pos ∨ j = pos + 1 by omega) with rfl | rfl
      · exact n32 _ (by omega)
      · exact n32 _ (by omega)
    · rw [e]
      refine .inr ⟨sp' _ (by omega), by simp only; omega, by simp only; omega, fun j x y => ?_⟩
      simp only at y
      rcases (show j = pos ∨ j = pos + 1 ∨ j = pos + 2 by omega) with rfl | rfl | rfl
      · exact n32 _ (by omega)
      · exact n32 _ (by omega)
      · exact n32 _ (by omega)
    · rw [e]
      refine .inr ⟨sp' _ (by omega), by simp only; omega, by simp only; omega, fun j x y => ?_⟩
      simp only at y
      rcases (show j = pos ∨ j = pos + 1 ∨ j = pos + 2 ∨ j = pos + 3 by omega) with rfl | rfl | rfl | rfl
      · exact n32 _ (by omega)
      · exact n32 _ (by omega)
      · exact n32 _ (by omega)
      · exact n32 _ (by omega)
    · rw [e]
      refine .inr ⟨by decide, by simp only; omega, by simp only; omega, fun j x y => ?_⟩
      simp only at y
      obtain rfl : j = pos := by omega
      exact n32 _ (by omega)
theorem spans_fields (s : ByteArray) : ∀ (f pos : Nat) (st : Option Nat) (acc : List (Nat × Nat)), pos ≤ s.size → s.size - pos ≤ f → (∀ a, st = some a → a ≤ pos) →
    (Lib.closeSpans s (Lib.spansFromP isSp s f pos st acc)).map (fun x => Lb (s.extract x.1 x.2)) = acc.map (fun x => Lb (s.extract x.1 x.2)) ++ fieldsS ((Lb s).drop pos) (st.map fun a => ((Lb s).take pos).drop a) := by
  have hcut : ∀ a b : Nat, Lb (s.extract a b) = ((Lb s).take b).drop a := fun a b => by rw [ext_L, Lb_mk, List.drop_take]
  have hend : ∀ (pos : Nat) (st : Option Nat) (acc : List (Nat × Nat)), pos = s.size → (Lib.closeSpans s (acc, st)).map (fun x => Lb (s.extract x.1 x.2)) = acc.map (fun x => Lb (s.extract x.1 x.2)) ++ fieldsS ((Lb s).drop pos) (st.map fun a => ((Lb s).take pos).drop a) := by
    rintro pos st acc rfl
    rw [show (Lb s).drop s.size = [] from List.drop_of_length_le (by rw [← size_Lb]; exact Nat.le_refl _)]
    cases st with
    | none => simp [Lib.closeSpans, fieldsS]
    | some a =>
      simp only [Lib.closeSpans, List.map_append, List.map_cons, List.map_nil, Option.map_some, fieldsS]
      rw [hcut]
  intro f
  induction f with
  | zero =>
    intro pos st acc h1 h2 h3
    exact hend pos st acc (by omega)
  | succ f ih =>
    intro pos st acc h1 h2 h3
    by_cases hp : pos < s.size
    · unfold Lib.spansFromP
      rw [if_pos hp]
      rcases dec_at s pos hp with ⟨d1, d2, d3⟩ | ⟨d1, d2, d3, d4⟩
      · rw [if_pos d2, d3, drop_at s pos hp, d1]
        cases st with
        | none =>
          simp only
          rw [ih (pos + 1) none acc (by omega) (by omega) (fun a h => by cases h)]
          simp only [Option.map_none]
          rw [show fieldsS (32 :: (Lb s).drop (pos + 1)) none = fieldsS ((Lb s).drop (pos + 1)) none from by rw [fieldsS, if_pos rfl]]
        | some a =>
          simp only
          rw [ih (pos + 1) none (acc ++ [(a, pos)]) (by omega) (by omega) (fun a h => by cases h), List.map_append, List.append_assoc]
          simp only [Option.map_none, Option.map_some, List.map_cons, List.map_nil]
          rw [show fieldsS (32 :: (Lb s).drop (pos + 1)) (some (((Lb s).take pos).drop a)) = ((Lb s).take pos).drop a :: fieldsS ((Lb s).drop (pos + 1)) none from by rw [fieldsS, if_pos rfl], hcut]
          rfl
      · rw [if_neg (by rw [d1]; decide)]
        generalize (Utf8.decode s pos).2 = n at d2 d3 d4 ⊢
        have hW : (Lb s).drop pos = ((Lb s).drop pos).take n ++ (Lb s).drop (pos + n) := by
          rw [← List.drop_drop, List.take_append_drop]
        have hWn : ∀ b ∈ ((Lb s).drop pos).take n, b ≠ 32 := by
          intro b hb
          obtain ⟨j, hj, e⟩ := List.mem_iff_getElem.mp hb
          rw [List.length_take, List.length_drop, ← size_Lb] at hj
          rw [List.getElem_take, List.getElem_drop] at e
          rw [← e, ← get_at s (pos + j) (by omega)]
          exact d4 (pos + j) (by omega) (by omega)
        have hWe : ((Lb s).drop pos).take n ≠ [] := by
          intro e
          have := congrArg List.length e
          rw [List.length_take, List.length_drop, ← size_Lb, List.length_nil] at this
          omega
        have hTk : (Lb s).take (pos + n) = (Lb s).take pos ++ ((Lb s).drop pos).take n := by rw [List.take_add]
        have hLt : ((Lb s).take pos).length = pos := by rw [List.length_take, ← size_Lb]; omega
        cases st with
        | none =>
          simp only
          rw [ih (pos + n) (some pos) acc d3 (by omega) (fun a h => by cases h; omega)]
          simp only [Option.map_none, Option.map_some]
          rw [hTk, List.drop_left' hLt]
          rw [(congrArg (fun l => fieldsS l none) hW).trans (fields_start _ _ hWn hWe)]
        | some a =>
          simp only
          have ha := h3 a rfl
          rw [ih (pos + n) (some a) acc d3 (by omega) (fun x h => by cases h; omega)]
          simp only [Option.map_some]
          rw [hTk, List.drop_append_of_le_length (by rw [hLt]; exact ha)]
          rw [(congrArg (fun l => fieldsS l (some (((Lb s).take pos).drop a))) hW).trans (fields_word _ _ _ hWn)]
    · rw [Lib.spansFromP_end isSp s (f + 1) pos st acc hp]
      exact hend pos st acc (by omega)
theorem goFields_eq (s : ByteArray) : Lib.goFieldsP isSp s = (fieldsS (Lb s) none).map mkB := by
  have h := spans_fields s s.size 0 none [] (by omega) (by omega) (fun a h => by cases h)
  rw [List.drop_zero] at h
  simp only [Option.map_none, List.map_nil, List.nil_append] at h
  rw [← h]
  unfold Lib.goFieldsP Lib.spansOfP
  rw [List.map_map]
  apply List.map_congr_left
  intro x _
  show _ = mkB (Lb _)
  rw [mk_Lb]
theorem btK (K : List UInt8) (i : Nat) (h : i < K.length) : bt (mkB K) (i : Int) = (K[i].toNat : Int) := by
  have hs : i < (mkB K).size := by rw [size_Lb, Lb_mk]; exact h
  rw [bt_byte _ i hs, get_at _ i hs]
  rfl
theorem mkn (l : List UInt8) : (mkB l).toList = [] ↔ l = [] := by rw [toL, Lb_mk]
theorem loopW (p q : List UInt8) (hr : Rel p q) (hp : p.length ≤ 150000) (w : ByteArray) (k : Nat) (hk : 1000000 ≤ k) :
    ∃ (a : List ByteArray) (ok : Bool), shell_parsed.l0 k (mkB p) (mkB [87]) 1 0 0 w [] = some (0, w, a, ok) ∧ espalierref30_args.l0 k (mkB q) (mkB [43]) [] 0 = some (a, ok) := by
  obtain ⟨k, rfl⟩ : ∃ j, k = j + 2 := ⟨k - 2, by omega⟩
  have hz : (mkB p).size = p.length := by rw [size_Lb, Lb_mk]
  have hzq : (mkB q).size ≤ 150001 := by
    rw [size_Lb, Lb_mk]
    rcases hr with rfl | rfl
    · omega
    · simp only [List.length_cons]; omega
  have b87 : bt (mkB [87]) 0 = 87 := by decide +kernel
  have b43 : bt (mkB [43]) 0 = 43 := by decide +kernel
  have s1 : (mkB [87]).size = 1 := rfl
  have s2 : (mkB [43]).size = 1 := rfl
  refine ⟨(fieldsS p none).map mkB, decide ((((fieldsS p none).map mkB).length : Int) > 0), ?_, ?_⟩
  · rw [shell_parsed.l0.eq_2, if_pos (by decide), if_pos (by decide), if_pos (by rw [s1]; decide), b87, if_neg (by decide), shell_parsed.j2.eq_2, if_neg (by decide), if_pos rfl]
    unfold strings_FieldsFunc.f
    rw [if_pos (by omega), Option.bind_some, goFields_eq, Lb_mk]
  · rw [espalierref30_args.l0.eq_2, if_pos (by rw [s2]; decide), if_pos (by decide), b43, if_pos rfl]
    have hf := fields_len _ (Lb (mkB q)) (Nat.le_refl _)
    rw [args_l1 150001 (mkB q) [] (k + 1) hzq (by omega) (by simp only [List.length_nil]; omega) (by omega), Lb_mk, hr.fields, List.nil_append]
theorem loopB (K : List UInt8) (hK : (K.all fun b => [(72 : UInt8), 78, 68, 80, 65, 77, 86, 63].contains b) = true) (hl : K.length ≤ 3) (w : ByteArray) :
    ∀ (m i : Nat) (p q : List UInt8) (acc : List ByteArray) (k : Nat), i ≤ K.length → K.length - i = m → Rel p q → p.length ≤ 150000 → acc.length ≤ i → 1000000 + 2 * m ≤ k →
    ∃ (x0 : Int) (x1 : ByteArray) (a a' : List ByteArray) (ok : Bool), shell_parsed.l0 k (mkB p) (mkB K) (K.length : Int) (i : Int) 0 w acc = some (x0, x1, a, ok) ∧ espalierref30_args.l0 k (mkB q) (mkB K) acc (i : Int) = some (a', ok) ∧ (ok = true → x0 = 0 ∧ x1 = w ∧ a = a') := by
  have hzK : (mkB K).size = K.length := by rw [size_Lb, Lb_mk]
  intro m
  induction m with
  | zero =>
    intro i p q acc k h1 h2 h3 h4 h5 h6
    obtain ⟨k, rfl⟩ : ∃ j, k = j + 1 := ⟨k - 1, by omega⟩
    have hzp : (mkB p).size ≤ 150000 := by rw [size_Lb, Lb_mk]; exact h4
    have hzq : (mkB q).size ≤ 150001 := by
      rw [size_Lb, Lb_mk]
      rcases h3 with rfl | rfl
      · omega
      · simp only [List.length_cons]; omega
    refine ⟨0, w, acc, acc, (mkB (trm p)).toList == ([] : List UInt8), ?_, ?_, fun _ => ⟨rfl, rfl, rfl⟩⟩
    · rw [shell_parsed.l0.eq_2, if_neg (by omega), show (⟨#[32]⟩ : ByteArray) = mkB [32] from rfl, trim_at _ (by omega), Option.bind_some, Lb_mk]
    · rw [espalierref30_args.l0.eq_2, if_neg (by omega), trimmed_eq _ (by omega) k (by omega), Option.bind_some, Lb_mk, h3.trm]
  | succ m ih =>
    intro i p q acc k h1 h2 h3 h4 h5 h6
    obtain ⟨k, rfl⟩ : ∃ j, k = j + 2 := ⟨k - 2, by omega⟩
    have hi : i < K.length := by omega
    have hzp : (mkB p).size ≤ 150000 := by rw [size_Lb, Lb_mk]; exact h4
    have hzq : (mkB q).size ≤ 150001 := by
      rw [size_Lb, Lb_mk]
      rcases h3 with rfl | rfl
      · omega
      · simp only [List.length_cons]; omega
    have hb := btK K i hi
    have hmem := List.all_eq_true.mp hK K[i] (List.getElem_mem hi)
    generalize K[i] = c at hb hmem
    have flag : ∀ r : Bool, (∃ x : Bool, x = r) → ∃ (a : List ByteArray) (ok : Bool),
        shell_parsed.j2 (k + 1) (mkB p) (mkB K) (i : Int) (K.length : Int) (i : Int) (c.toNat : Int) true 0 w acc = some (0, w, a, ok) ∧ espalierref30_args.j2 (k + 1) (mkB q) (mkB K) acc (i : Int) true = some (a, ok) := by
      intro _ _
      rw [shell_parsed.j2.eq_2, if_pos rfl, espalierref30_args.j2.eq_2, if_pos rfl, show (⟨#[32]⟩ : ByteArray) = mkB [32] from rfl, trim_at _ (by omega), Option.bind_some, trimmed_eq _ (by omega) k (by omega), Option.bind_some, Lb_mk, Lb_mk, h3.trm]
      by_cases ht : trm p = []
      · rw [if_pos ((mkn _).mpr ht), if_pos ((mkn _).mpr ht), if_pos (by omega), if_pos (by omega), if_pos (by omega), if_pos (by omega)]
        exact ⟨_, _, rfl, rfl⟩
      · rw [if_neg (fun h => ht ((mkn _).mp h)), if_neg (fun h => ht ((mkn _).mp h)), if_pos (by omega), if_pos (by omega)]
        exact ⟨_, _, rfl, rfl⟩
    have plain : ((c.toNat : Int) = 72 ∨ (c.toNat : Int) = 78 ∨ (c.toNat : Int) = 68 ∨ (c.toNat : Int) = 80 ∨ (c.toNat : Int) = 65 ∨ (c.toNat : Int) = 77) → ∃ (x0 : Int) (x1 : ByteArray) (a a' : List ByteArray) (ok : Bool),
        shell_parsed.j2 (k + 1) (mkB p) (mkB K) (i : Int) (K.length : Int) (i : Int) (c.toNat : Int) false 0 w acc = some (x0, x1, a, ok) ∧ espalierref30_args.j2 (k + 1) (mkB q) (mkB K) acc (i : Int) false = some (a', ok) ∧ (ok = true → x0 = 0 ∧ x1 = w ∧ a = a') := by
      intro hc
      obtain ⟨p', e1, e2, e3⟩ := word_eq (mkB p) (by omega)
      rw [Lb_mk] at e1 e2
      have hzw : (mkB (wrd p)).size ≤ 200000 := by
        rw [size_Lb, Lb_mk]
        have h1 := congrArg List.length (wrd_rst p)
        rw [List.length_append] at h1
        have h2 := (List.dropWhile_sublist sp (l := p)).length_le
        omega
      obtain ⟨r, f1, f2, f3⟩ := fits_eq (mkB (wrd p)) hzw k (by omega) (c.toNat : Int) hc
      have E1 : shell_parsed.j2 (k + 1) (mkB p) (mkB K) (i : Int) (K.length : Int) (i : Int) (c.toNat : Int) false 0 w acc = if r = true then (if acc.length < 8796093022208 then shell_parsed.l0 k (mkB p') (mkB K) (K.length : Int) ((i + 1 : Nat) : Int) 0 w (acc ++ [mkB (wrd p)]) else none) else some (0, (⟨#[]⟩ : ByteArray), ([] : List ByteArray), false) := by
        rw [shell_parsed.j2.eq_2, if_neg (by decide), if_neg (by omega), e1, Option.bind_some, if_pos (by omega), if_pos (by omega), hb]
        simp only
        rw [f1, Option.bind_some, w64 i (by omega)]
      have E2 : espalierref30_args.j2 (k + 1) (mkB q) (mkB K) acc (i : Int) false = if wrd p = [] then some ([], false) else if r = true then (if acc.length < 8796093022208 then espalierref30_args.l0 k (mkB (rst p)) (mkB K) (acc ++ [mkB (wrd p)]) ((i + 1 : Nat) : Int) else none) else some ([], false) := by
        rw [espalierref30_args.j2.eq_2, if_neg (by decide), first_eq _ (by omega) k (by omega), Option.bind_some, Lb_mk, h3.wrd, h3.rst]
        by_cases hw : wrd p = []
        · rw [if_pos hw, if_pos ((mkn _).mpr hw)]
        · rw [if_neg hw, if_neg (fun h => hw ((mkn _).mp h)), if_pos (by omega), if_pos (by omega), hb]
          simp only
          rw [f2, Option.bind_some, w64 i (by omega)]
      rw [E1, E2]
      by_cases hw : wrd p = []
      · have hr := f3 (by rw [Lb_mk]; exact hw)
        subst hr
        rw [if_pos hw]
        exact ⟨_, _, _, _, false, rfl, rfl, fun h => by cases h⟩
      · rw [if_neg hw]
        cases r with
        | false => exact ⟨_, _, _, _, false, rfl, rfl, fun h => by cases h⟩
        | true =>
          rw [if_pos rfl, if_pos rfl, if_pos (by omega), if_pos (by omega)]
          exact ih (i + 1) p' (rst p) (acc ++ [mkB (wrd p)]) k (by omega) (by omega) e2 (by omega) (by rw [List.length_append]; simp only [List.length_cons, List.length_nil]; omega) (by omega)
    have D1 : shell_parsed.l0 (k + 2) (mkB p) (mkB K) (K.length : Int) (i : Int) 0 w acc = if (c.toNat : Int) = 86 then shell_parsed.j2 (k + 1) (mkB p) (mkB K) (i : Int) (K.length : Int) (i : Int) (c.toNat : Int) ((c.toNat : Int) == 86) 0 w acc else shell_parsed.j2 (k + 1) (mkB p) (mkB K) (i : Int) (K.length : Int) (i : Int) (c.toNat : Int) ((c.toNat : Int) == 63) 0 w acc := by
      rw [shell_parsed.l0.eq_2, if_pos (by omega), if_pos (by omega), if_pos (by omega), hb]
    have D2 : espalierref30_args.l0 (k + 2) (mkB q) (mkB K) acc (i : Int) = if (c.toNat : Int) = 43 then espalierref30_args.l1 (k + 1) (mkB q) acc else if (c.toNat : Int) = 86 then espalierref30_args.j2 (k + 1) (mkB q) (mkB K) acc (i : Int) ((c.toNat : Int) == 86) else espalierref30_args.j2 (k + 1) (mkB q) (mkB K) acc (i : Int) ((c.toNat : Int) == 63) := by
      rw [espalierref30_args.l0.eq_2, if_pos (by omega), if_pos (by omega), hb]
    rw [D1, D2]
    have hcs : c = 86 ∨ c = 63 ∨ c = 72 ∨ c = 78 ∨ c = 68 ∨ c = 80 ∨ c = 65 ∨ c = 77 := by
      simp only [List.contains_cons, List.contains_nil, Bool.or_false, Bool.or_eq_true, beq_iff_eq] at hmem
      rcases hmem with h | h | h | h | h | h | h | h
      all_goals subst h; simp
    rcases hcs with rfl | rfl | hc
    · obtain ⟨a, ok, g1, g2⟩ := flag true ⟨_, rfl⟩
      exact ⟨0, w, a, a, ok, g1, g2, fun _ => ⟨rfl, rfl, rfl⟩⟩
    · obtain ⟨a, ok, g1, g2⟩ := flag true ⟨_, rfl⟩
      exact ⟨0, w, a, a, ok, g1, g2, fun _ => ⟨rfl, rfl, rfl⟩⟩
    · have h1 : ¬ (c.toNat : Int) = 86 ∧ ¬ (c.toNat : Int) = 43 ∧ ((c.toNat : Int) == 63) = false ∧ ((c.toNat : Int) = 72 ∨ (c.toNat : Int) = 78 ∨ (c.toNat : Int) = 68 ∨ (c.toNat : Int) = 80 ∨ (c.toNat : Int) = 65 ∨ (c.toNat : Int) = 77) := by
        rcases hc with rfl | rfl | rfl | rfl | rfl | rfl <;> decide
      rw [if_neg h1.1, if_neg h1.2.1, if_neg h1.1, h1.2.2.1]
      exact plain h1.2.2.2
end Go.Proofs.YtggdffgoffmlpaaDoor.PA
