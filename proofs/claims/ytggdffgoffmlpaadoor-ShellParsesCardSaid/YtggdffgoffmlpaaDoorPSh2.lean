/- Trimmed texts, lines and fields, as shell.Parse and the reference cut them: in plain Lean. -/
import Derived.Test.YtggdffgoffmlpaaDoorPSh1
import Derived.Test.YtggdffgoffmlpaaDoorPA12
namespace Go.Proofs.YtggdffgoffmlpaaDoor.PA
open Go.RowKit Go.Proofs.YtggdffgoffmlpaaDoorW.PrintWords Go.Proofs.YtggdffgoffmlpaaDoorW.PrintLast Go.Proofs.YtggdffgoffmlpaaDoorW.PrintMore
set_option linter.unusedVariables false
set_option linter.unusedSimpArgs false
/-! trimmed -/
def trm (l : List UInt8) : List UInt8 := Lib.trimS l [32]
theorem trim_l1 (s : ByteArray) (hn : s.size ≤ 140737488355328) (f t : Nat) (hf : f ≤ t) (ht : t ≤ s.size) (hl : f < t → s.get! (t - 1) ≠ 32) :
    ∀ (m k i : Nat), t ≤ i → i ≤ s.size → i - t = m → (∀ j, t ≤ j → j < i → s.get! j = 32) → m + 1 ≤ k → espalierref30_trimmed.l1 k s (f : Int) (i : Int) = some (s.extract f t) := by
  intro m
  induction m with
  | zero =>
    intro k i h1 h2 h3 h4 h5
    obtain rfl : i = t := by omega
    obtain ⟨k, rfl⟩ : ∃ j, k = j + 1 := ⟨k - 1, by omega⟩
    rw [espalierref30_trimmed.l1.eq_2]
    by_cases hft : f < i
    · rw [if_pos (by omega), w64m i (by omega) (by omega), if_pos (by omega), if_pos (by omega), bt_byte s (i - 1) (by omega), if_neg (fun h => hl hft ((b32 _).mp h)), if_pos (by omega), if_pos (by omega), if_pos (by omega), Int.toNat_natCast, Int.toNat_natCast]
    · rw [if_neg (by omega), if_pos (by omega), if_pos (by omega), if_pos (by omega), Int.toNat_natCast, Int.toNat_natCast]
  | succ m ih =>
    intro k i h1 h2 h3 h4 h5
    obtain ⟨k, rfl⟩ : ∃ j, k = j + 1 := ⟨k - 1, by omega⟩
    rw [espalierref30_trimmed.l1.eq_2, if_pos (by omega), w64m i (by omega) (by omega), if_pos (by omega), if_pos (by omega), bt_byte s (i - 1) (by omega), if_pos ((b32 _).mpr (h4 (i - 1) (by omega) (by omega)))]
    exact ih k (i - 1) (by omega) (by omega) (by omega) (fun j a b => h4 j a (by omega)) (by omega)
theorem trim_l0 (s : ByteArray) (hn : s.size ≤ 140737488355328) (f : Nat) (hf : f ≤ s.size) (R : ByteArray) (M : Nat) (hR : ∀ k, M ≤ k → espalierref30_trimmed.j1 k s (f : Int) (s.size : Int) = some R) (hl : f < s.size → s.get! f ≠ 32) :
    ∀ (m k i : Nat), i ≤ f → f - i = m → (∀ j, i ≤ j → j < f → s.get! j = 32) → m + 1 + M ≤ k → espalierref30_trimmed.l0 k s (i : Int) (s.size : Int) = some R := by
  intro m
  induction m with
  | zero =>
    intro k i h1 h3 h4 h5
    obtain rfl : i = f := by omega
    obtain ⟨k, rfl⟩ : ∃ j, k = j + 1 := ⟨k - 1, by omega⟩
    rw [espalierref30_trimmed.l0.eq_2]
    by_cases hft : i < s.size
    · rw [if_pos (by omega), if_pos (by omega), if_pos (by omega), bt_byte s i hft, if_neg (fun h => hl hft ((b32 _).mp h))]
      exact hR k (by omega)
    · rw [if_neg (by omega)]
      exact hR k (by omega)
  | succ m ih =>
    intro k i h1 h3 h4 h5
    obtain ⟨k, rfl⟩ : ∃ j, k = j + 1 := ⟨k - 1, by omega⟩
    rw [espalierref30_trimmed.l0.eq_2, if_pos (by omega), if_pos (by omega), if_pos (by omega), bt_byte s i (by omega), if_pos ((b32 _).mpr (h4 i (by omega) (by omega))), w64 i (by omega)]
    exact ih k (i + 1) (by omega) (by omega) (fun j a b => h4 j (by omega) b) (by omega)
theorem first_not (p : Nat → Bool) : ∀ n : Nat, ∃ f, f ≤ n ∧ (∀ j, j < f → p j = true) ∧ (f < n → p f = false)
  | 0 => ⟨0, by omega, fun j h => absurd h (by omega), fun h => absurd h (by omega)⟩
  | n + 1 => by
    obtain ⟨f, h1, h2, h3⟩ := first_not p n
    by_cases hf : f < n
    · exact ⟨f, by omega, h2, fun _ => h3 hf⟩
    · obtain rfl : f = n := by omega
      by_cases hp : p f = true
      · refine ⟨f + 1, by omega, fun j hj => ?_, fun h => absurd h (by omega)⟩
        by_cases e : j = f
        · subst e; exact hp
        · exact h2 j (by omega)
      · exact ⟨f, by omega, h2, fun _ => (Bool.not_eq_true _).mp hp⟩
theorem last_not (p : Nat → Bool) (f : Nat) : ∀ d : Nat, ∃ t, f ≤ t ∧ t ≤ f + d ∧ (∀ j, t ≤ j → j < f + d → p j = true) ∧ (f < t → p (t - 1) = false)
  | 0 => ⟨f, by omega, by omega, fun j h h' => absurd h' (by omega), fun h => absurd h (by omega)⟩
  | d + 1 => by
    by_cases hp : p (f + d) = true
    · obtain ⟨t, h1, h2, h3, h4⟩ := last_not p f d
      refine ⟨t, h1, by omega, fun j a b => ?_, h4⟩
      by_cases e : j = f + d
      · subst e; exact hp
      · exact h3 j a (by omega)
    · exact ⟨f + (d + 1), by omega, by omega, fun j a b => absurd b (by omega), fun _ => (Bool.not_eq_true _).mp hp⟩
theorem get_opt (s : ByteArray) (j : Nat) (b : UInt8) (h : (Lb s)[j]? = some b) : s.get! j = b ∧ j < s.size := by
  obtain ⟨hj, e⟩ := List.getElem?_eq_some_iff.mp h
  have hj' : j < s.size := by rw [size_Lb]; exact hj
  exact ⟨by rw [get_at s j hj', e], hj'⟩
theorem trimS_all1 (l : List UInt8) (h : ∀ b ∈ l, b = 32) : trm l = [] := by
  have da : ∀ l : List UInt8, (∀ b ∈ l, b = 32) → l.dropWhile ([(32 : UInt8)].contains ·) = [] := by
    intro l
    induction l with
    | nil => intro _; rfl
    | cons b l ih =>
      intro h
      rw [List.dropWhile_cons, if_pos (by rw [h b (by simp)]; decide)]
      exact ih (fun x hx => h x (by simp [hx]))
  unfold trm Lib.trimS Lib.trimLeftS Lib.trimRightS
  rw [da l.reverse (fun b hb => h b (List.mem_reverse.mp hb))]
  rfl
theorem trimmed_eq (s : ByteArray) (hn : s.size ≤ 140737488355328) (k : Nat) (hk : 2 * s.size + 6 ≤ k) : espalierref30_trimmed.f k s = some (mkB (trm (Lb s))) := by
  unfold espalierref30_trimmed.f
  have tb : ∀ j, (s.get! j == 32) = true ↔ s.get! j = 32 := fun j => beq_iff_eq
  obtain ⟨f, f1, f2, f3⟩ := first_not (fun j => s.get! j == 32) s.size
  obtain ⟨t, t1, t2, t3, t4⟩ := last_not (fun j => s.get! j == 32) f (s.size - f)
  rw [show f + (s.size - f) = s.size by omega] at t2 t3
  have hT : mkB (trm (Lb s)) = s.extract f t := by
    rw [ext_L]
    congr 1
    have hlen : (Lb s).length = s.size := (size_Lb s).symm
    by_cases hft : f < t
    · unfold trm Lib.trimS
      rw [Lib.trimRightS_take (Lb s) [32] t (by omega) (fun j b hj hb => by
        obtain ⟨e, hlt⟩ := get_opt s j b hb
        rw [Lib.contains_one, ← e]; exact t3 j hj hlt) (fun b _ hb => by
        obtain ⟨e, hlt⟩ := get_opt s (t - 1) b hb
        rw [Lib.contains_one, ← e]; exact t4 hft)]
      have hat : ∀ (j : Nat) (b : UInt8), ((Lb s).take t)[j]? = some b → (Lb s)[j]? = some b ∧ j < t := by
        intro j b hb
        rw [List.getElem?_take] at hb
        by_cases hj : j < t
        · rw [if_pos hj] at hb; exact ⟨hb, hj⟩
        · rw [if_neg hj] at hb; cases hb
      rw [Lib.trimLeftS_drop ((Lb s).take t) [32] f (by rw [List.length_take]; omega) (fun j b hj hb => by
        obtain ⟨e, hlt⟩ := get_opt s j b (hat j b hb).1
        rw [Lib.contains_one, ← e]; exact f2 j hj) (fun b hb => by
        obtain ⟨e, hlt⟩ := get_opt s f b (hat f b hb).1
        rw [Lib.contains_one, ← e]; exact f3 (by omega)), List.drop_take]
    · have hall : f = s.size := by
        by_cases h : f < s.size
        · have h1 := t3 f (by omega) h
          rw [f3 h] at h1; cases h1
        · omega
      rw [show t - f = 0 by omega, List.take_zero]
      refine trimS_all1 _ (fun b hb => ?_)
      obtain ⟨j, hj, e⟩ := List.mem_iff_getElem.mp hb
      obtain ⟨e2, hlt⟩ := get_opt s j b (List.getElem?_eq_some_iff.mpr ⟨hj, e⟩)
      rw [← e2]; exact (tb j).mp (f2 j (by omega))
  rw [hT]
  refine trim_l0 s hn f f1 _ (s.size + 3) (fun k hk => ?_) (fun h e => by have := f3 h; rw [e] at this; exact absurd this (by decide)) f k 0 (by omega) (by omega) (fun j _ h => (tb j).mp (f2 j h)) (by omega)
  obtain ⟨k, rfl⟩ : ∃ j, k = j + 1 := ⟨k - 1, by omega⟩
  rw [espalierref30_trimmed.j1.eq_2]
  exact trim_l1 s hn f t t1 t2 (fun h e => by have := t4 h; rw [e] at this; exact absurd this (by decide)) (s.size - t) k s.size t2 (by omega) rfl (fun j a b => (tb j).mp (t3 j a b)) (by omega)
/-! fields -/
def fieldsS : List UInt8 → Option (List UInt8) → List (List UInt8)
  | [], none => []
  | [], some w => [w]
  | b :: l, none => if b = 32 then fieldsS l none else fieldsS l (some [b])
  | b :: l, some w => if b = 32 then w :: fieldsS l none else fieldsS l (some (w ++ [b]))
theorem fields_word : ∀ (w v l : List UInt8), (∀ b ∈ w, b ≠ 32) → fieldsS (w ++ l) (some v) = fieldsS l (some (v ++ w))
  | [], v, l, _ => by rw [List.append_nil]; rfl
  | b :: w, v, l, h => by
    rw [List.cons_append, fieldsS, if_neg (h b (by simp)), fields_word w (v ++ [b]) l (fun x hx => h x (by simp [hx])), List.append_assoc]
    rfl
theorem fields_start (w l : List UInt8) (h : ∀ b ∈ w, b ≠ 32) (hne : w ≠ []) : fieldsS (w ++ l) none = fieldsS l (some w) := by
  cases w with
  | nil => exact absurd rfl hne
  | cons b w =>
    rw [List.cons_append, fieldsS, if_neg (h b (by simp)), fields_word w [b] l (fun x hx => h x (by simp [hx]))]
    rfl
theorem fields_drop : ∀ l : List UInt8, fieldsS (l.dropWhile sp) none = fieldsS l none
  | [] => rfl
  | b :: l => by
    rw [List.dropWhile_cons]
    by_cases h : b = 32
    · subst h
      rw [if_pos (by decide), fieldsS, if_pos rfl]
      exact fields_drop l
    · rw [if_neg (by unfold sp; rw [beq_eq_false_iff_ne.mpr h]; decide)]
theorem fields_end (w : List UInt8) : ∀ r : List UInt8, (r = [] ∨ ∃ q, r = 32 :: q) → fieldsS r (some w) = w :: fieldsS r none := by
  rintro r (rfl | ⟨q, rfl⟩)
  · rfl
  · rw [fieldsS, if_pos rfl, fieldsS, if_pos rfl]
theorem rst_ends (l : List UInt8) : rst l = [] ∨ ∃ q, rst l = 32 :: q := by
  rw [rst_shape]
  cases (l.dropWhile sp).contains 32 with
  | true => exact .inr ⟨_, by rw [if_pos rfl]⟩
  | false => exact .inl (by rw [if_neg (by decide)])
theorem wrd_rst (l : List UInt8) : wrd l ++ rst l = l.dropWhile sp := List.takeWhile_append_dropWhile
theorem wrd_ns (l : List UInt8) : ∀ b ∈ wrd l, b ≠ 32 := by
  have key : ∀ q : List UInt8, ∀ b ∈ q.takeWhile ns, b ≠ 32 := by
    intro q
    induction q with
    | nil => intro b hb; cases hb
    | cons c q ih =>
      intro b hb
      rw [List.takeWhile_cons] at hb
      by_cases hc : ns c = true
      · rw [if_pos hc] at hb
        rcases List.mem_cons.mp hb with e | e
        · subst e
          intro e; subst e; exact absurd hc (by decide)
        · exact ih b e
      · rw [if_neg hc] at hb; cases hb
  exact key _
theorem wrd_ne (l : List UInt8) (h : l.dropWhile sp ≠ []) : wrd l ≠ [] := by
  unfold wrd
  have hd : ∀ q : List UInt8, ∀ c r, q.dropWhile sp = c :: r → c ≠ 32 := by
    intro q
    induction q with
    | nil => intro c r e; cases e
    | cons b q ih =>
      intro c r e
      rw [List.dropWhile_cons] at e
      by_cases hb : sp b = true
      · rw [if_pos hb] at e; exact ih c r e
      · rw [if_neg hb] at e
        injection e with e1 e2
        subst e1
        intro e; subst e; exact hb (by decide)
  cases e : l.dropWhile sp with
  | nil => exact absurd e h
  | cons c r =>
    have hc := hd l c r e
    rw [List.takeWhile_cons, if_pos (by unfold ns; rw [beq_eq_false_iff_ne.mpr hc]; rfl)]
    exact List.cons_ne_nil _ _
theorem fields_cons (l : List UInt8) (h : l.dropWhile sp ≠ []) : fieldsS l none = wrd l :: fieldsS (rst l) none := by
  rw [← fields_drop, ← wrd_rst, fields_start _ _ (wrd_ns l) (wrd_ne l h), fields_end _ _ (rst_ends l)]
theorem fields_nil (l : List UInt8) (h : l.dropWhile sp = []) : fieldsS l none = [] := by rw [← fields_drop, h]; rfl
theorem trm_nil (l : List UInt8) : trm l = [] ↔ l.dropWhile sp = [] := by
  have all : ∀ l : List UInt8, l.dropWhile sp = [] → ∀ b ∈ l, b = 32 := by
    intro l
    induction l with
    | nil => intro _ b hb; cases hb
    | cons c l ih =>
      intro h b hb
      rw [List.dropWhile_cons] at h
      by_cases hc : sp c = true
      · rw [if_pos hc] at h
        rcases List.mem_cons.mp hb with e | e
        · subst e; exact beq_iff_eq.mp hc
        · exact ih h b e
      · rw [if_neg hc] at h; cases h
  constructor
  · intro h
    by_cases hd : l.dropWhile sp = []
    · exact hd
    · exfalso
      have mem_drop : ∀ (l : List UInt8) (b : UInt8), b ∈ l → b ≠ 32 → b ∈ l.dropWhile ([(32 : UInt8)].contains ·) := by
        intro l b
        induction l with
        | nil => intro h; cases h
        | cons a l ih =>
          intro h hb
          rw [List.dropWhile_cons]
          by_cases ha : [(32 : UInt8)].contains a = true
          · rw [if_pos ha]
            rw [Lib.contains_one, beq_iff_eq] at ha
            rcases List.mem_cons.mp h with e | e
            · subst e; exact absurd ha hb
            · exact ih e hb
          · rw [if_neg ha]; exact h
      have hw := wrd_ne l hd
      have hns := wrd_ns l
      have hm : ∀ b ∈ wrd l, b ∈ l := fun b hb => (List.dropWhile_sublist sp).subset (by rw [← wrd_rst]; exact List.mem_append_left _ hb)
      cases e : wrd l with
      | nil => exact hw e
      | cons b r =>
        rw [e] at hns hm
        have hb := hns b (by simp)
        have h1 := mem_drop l.reverse b (List.mem_reverse.mpr (hm b (by simp))) hb
        have h2 := mem_drop _ b (List.mem_reverse.mpr h1) hb
        unfold trm Lib.trimS Lib.trimLeftS Lib.trimRightS at h
        rw [h] at h2
        cases h2
  · intro h
    exact trimS_all1 l (all l h)
theorem trm_drop (l : List UInt8) : trm (32 :: l) = trm l := by
  unfold trm Lib.trimS Lib.trimLeftS Lib.trimRightS
  have key : ∀ r : List UInt8, ((r ++ [32]).dropWhile ([(32 : UInt8)].contains ·)).reverse.dropWhile ([(32 : UInt8)].contains ·) = (r.dropWhile ([(32 : UInt8)].contains ·)).reverse.dropWhile ([(32 : UInt8)].contains ·) := by
    intro r
    induction r with
    | nil => decide
    | cons b r ih =>
      rw [List.cons_append, List.dropWhile_cons, List.dropWhile_cons]
      by_cases hb : [(32 : UInt8)].contains b = true
      · rw [if_pos hb, if_pos hb]; exact ih
      · rw [if_neg hb, if_neg hb, ← List.cons_append, List.reverse_append]
        show (32 :: _).dropWhile _ = _
        rw [List.dropWhile_cons, if_pos (by decide)]
        rfl
  rw [List.reverse_cons]
  exact key l.reverse
theorem Rel.trm {p q : List UInt8} (h : Rel p q) : trm q = trm p := by
  rcases h with rfl | rfl
  · rfl
  · exact trm_drop p
theorem Rel.fields {p q : List UInt8} (h : Rel p q) : fieldsS q none = fieldsS p none := by
  rcases h with rfl | rfl
  · rfl
  · rw [fieldsS, if_pos rfl]
theorem rst_lt (l : List UInt8) (h : l.dropWhile sp ≠ []) : (rst l).length < l.length := by
  have h1 := congrArg List.length (wrd_rst l)
  rw [List.length_append] at h1
  have h2 := (List.dropWhile_sublist sp (l := l)).length_le
  have h3 := wrd_ne l h
  have : 0 < (wrd l).length := by cases e : wrd l with
    | nil => exact absurd e h3
    | cons b r => simp
  omega
theorem fields_len : ∀ (n : Nat) (l : List UInt8), l.length ≤ n → (fieldsS l none).length ≤ l.length := by
  intro n
  induction n with
  | zero =>
    intro l hl
    obtain rfl : l = [] := List.eq_nil_of_length_eq_zero (by omega)
    exact Nat.le_refl _
  | succ n ih =>
    intro l hl
    by_cases h : l.dropWhile sp = []
    · rw [fields_nil l h]; exact Nat.zero_le _
    · have hlt := rst_lt l h
      rw [fields_cons l h, List.length_cons]
      have := ih (rst l) (by omega)
      omega
theorem args_l1 : ∀ (n : Nat) (s : ByteArray) (acc : List ByteArray) (k : Nat), s.size ≤ n → n ≤ 140737488355328 → acc.length + n ≤ 8000000000000 → 3 * n + 10 ≤ k →
    espalierref30_args.l1 k s acc = some (acc ++ (fieldsS (Lb s) none).map mkB, decide (((acc ++ (fieldsS (Lb s) none).map mkB).length : Int) > 0)) := by
  intro n
  induction n with
  | zero =>
    intro s acc k h1 h2 h3 h4
    obtain ⟨k, rfl⟩ : ∃ j, k = j + 1 := ⟨k - 1, by omega⟩
    have h0 : Lb s = [] := List.eq_nil_of_length_eq_zero (by rw [← size_Lb]; omega)
    rw [espalierref30_args.l1.eq_2, trimmed_eq s (by omega) k (by omega), Option.bind_some, h0, if_pos (by decide +kernel)]
    simp [fieldsS]
  | succ n ih =>
    intro s acc k h1 h2 h3 h4
    obtain ⟨k, rfl⟩ : ∃ j, k = j + 1 := ⟨k - 1, by omega⟩
    rw [espalierref30_args.l1.eq_2, trimmed_eq s (by omega) k (by omega), Option.bind_some]
    by_cases hd : (Lb s).dropWhile sp = []
    · rw [if_pos (by rw [toL, Lb_mk]; exact (trm_nil _).mpr hd), fields_nil _ hd]
      simp
    · rw [if_neg (by rw [toL, Lb_mk]; exact fun h => hd ((trm_nil _).mp h)), first_eq s (by omega) k (by omega), Option.bind_some, if_pos (by omega)]
      have hlt := rst_lt _ hd
      rw [← size_Lb] at hlt
      have hsz : (mkB (rst (Lb s))).size = (rst (Lb s)).length := by rw [size_Lb, Lb_mk]
      simp only
      rw [ih (mkB (rst (Lb s))) (acc ++ [mkB (wrd (Lb s))]) k (by omega) (by omega) (by rw [List.length_append]; simp only [List.length_cons, List.length_nil]; omega) (by omega), Lb_mk, fields_cons _ hd, List.map_cons, List.append_assoc]
      rfl
end Go.Proofs.YtggdffgoffmlpaaDoor.PA
