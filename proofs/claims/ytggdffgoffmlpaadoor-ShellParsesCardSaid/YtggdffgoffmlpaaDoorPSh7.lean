/- A line read as a command, and a text's lines: the program against the reference. In plain Lean. -/
import Derived.Test.YtggdffgoffmlpaaDoorPSh6
namespace Go.Proofs.YtggdffgoffmlpaaDoor.PA
open Go.RowKit Go.Proofs.YtggdffgoffmlpaaDoorW.PrintWords Go.Proofs.YtggdffgoffmlpaaDoorW.PrintLast Go.Proofs.YtggdffgoffmlpaaDoorW.PrintMore
set_option linter.unusedVariables false
set_option linter.unusedSimpArgs false
theorem args_bang (q : List UInt8) (hq : q.length ≤ 150000) (k : Nat) (hk : 1000000 ≤ k) : ∃ (a : List ByteArray) (ok : Bool), espalierref30_args.l0 k (mkB q) (mkB [33]) [] 0 = some (a, ok) := by
  obtain ⟨k, rfl⟩ : ∃ j, k = j + 2 := ⟨k - 2, by omega⟩
  have hz : (mkB q).size ≤ 150000 := by rw [size_Lb, Lb_mk]; exact hq
  have b33 : bt (mkB [33]) 0 = 33 := by decide +kernel
  have s1 : (mkB [33]).size = 1 := rfl
  rw [espalierref30_args.l0.eq_2, if_pos (by rw [s1]; decide), if_pos (by decide), b33, if_neg (by decide), if_neg (by decide), espalierref30_args.j2.eq_2, if_neg (by decide), first_eq _ (by omega) k (by omega), Option.bind_some, Lb_mk]
  by_cases hw : wrd q = []
  · rw [if_pos ((mkn _).mpr hw)]; exact ⟨_, _, rfl⟩
  · obtain ⟨r, hr⟩ := fits_none (mkB (wrd q)) k (by omega)
    rw [if_neg (fun h => hw ((mkn _).mp h)), if_pos (by decide), if_pos (by rw [s1]; decide), b33, hr, Option.bind_some]
    cases r with
    | false => exact ⟨_, _, rfl⟩
    | true =>
      obtain ⟨k, rfl⟩ : ∃ j, k = j + 1 := ⟨k - 1, by omega⟩
      have hr2 : (mkB (rst q)).size ≤ 150000 := by
        rw [size_Lb, Lb_mk]
        have h1 := congrArg List.length (wrd_rst q)
        rw [List.length_append] at h1
        have h2 := (List.dropWhile_sublist sp (l := q)).length_le
        omega
      rw [if_pos rfl, if_pos (by simp only [List.length_nil]; omega), show wrap64 (0 + 1) = 1 from by unfold wrap64; omega, espalierref30_args.l0.eq_2, if_neg (by rw [s1]; decide), trimmed_eq (mkB (rst q)) (by omega) k (by omega), Option.bind_some]
      exact ⟨_, _, rfl⟩
theorem line_eq (s : ByteArray) (hs : s.size ≤ 140000) :
    ((wrd (Lb s) = [] ∨ (wrd (Lb s)).head? = some 35) ∧ ∀ k, 1000100 ≤ k → shell_parsed.f k s = some (0, ⟨#[]⟩, [], true)) ∨
    (¬ (wrd (Lb s) = [] ∨ (wrd (Lb s)).head? = some 35) ∧ ∃ (x0 : Int) (x1 : ByteArray) (a a' : List ByteArray) (ok ok' : Bool) (fK : List UInt8),
      (∀ k, 1000100 ≤ k → shell_parsed.f k s = some (x0, x1, a, ok)) ∧ (∀ k, 1000100 ≤ k → espalierref30_form.f k (mkB (wrd (Lb s))) = some (mkB fK)) ∧
      (∀ k, 1000100 ≤ k → espalierref30_args.f k (mkB (rst (Lb s))) (mkB fK) = some (a', ok')) ∧ ok = (!(fK == [33]) && ok') ∧ (ok = true → x0 = 0 ∧ x1 = mkB (wrd (Lb s)) ∧ a = a')) := by
  obtain ⟨p, e1, e2, e3⟩ := word_eq s (by omega)
  have up : ∀ {r}, shell_parsed.f 1000100 s = some r → ∀ k, 1000100 ≤ k → shell_parsed.f k s = some r := fun h k hk => at_rounds (g := fun k => shell_parsed.f k s) (fun k => shell_parsed.mono _ k) hk h
  have hd0 : ∀ c r, wrd (Lb s) = c :: r → bt (mkB (wrd (Lb s))) 0 = (c.toNat : Int) := fun c r h => by
    have := btK (wrd (Lb s)) 0 (by rw [h]; simp)
    rw [show ((0 : Nat) : Int) = 0 from rfl] at this
    rw [this]
    simp [h]
  cases hw : wrd (Lb s) with
  | nil =>
    refine .inl ⟨.inl rfl, up ?_⟩
    unfold shell_parsed.f
    rw [e1, Option.bind_some, if_pos ((mkn _).mpr hw), shell_parsed.j0.eq_2, if_pos rfl]
  | cons c r =>
    have hne : ¬ (mkB (wrd (Lb s))).toList = [] := fun h => by rw [(mkn _).mp h] at hw; cases hw
    have hsz : 0 < (mkB (wrd (Lb s))).size := by rw [size_Lb, Lb_mk, hw]; simp
    by_cases h35 : c = 35
    · subst h35
      refine .inl ⟨.inr rfl, up ?_⟩
      unfold shell_parsed.f
      rw [e1, Option.bind_some]
      simp only
      rw [if_neg hne, if_pos (by omega), hd0 _ _ hw, shell_parsed.j0.eq_2, if_pos (by decide)]
    · refine .inr ⟨fun h => ?_, ?_⟩
      · rcases h with h | h
        · cases h
        · simp only [List.head?_cons, Option.some.injEq] at h; exact h35 h
      rw [← hw]
      have hb : (((c.toNat : Int)) == 35) = false := by
        rw [beq_eq_false_iff_ne]
        exact fun e => h35 (UInt8.toNat_inj.mp (by show c.toNat = 35; omega))
      obtain ⟨K, K', okS, f1, f2, f3⟩ := shape_form (mkB (wrd (Lb s))) 1000089
      have upF : ∀ k, 1000100 ≤ k → espalierref30_form.f k (mkB (wrd (Lb s))) = some (mkB K') := fun k hk => at_rounds (g := fun k => espalierref30_form.f k (mkB (wrd (Lb s)))) (fun k => espalierref30_form.mono _ k) (show 1000089 + 10 ≤ k by omega) f2
      have upA : ∀ {a' : List ByteArray} {ok' : Bool}, espalierref30_args.l0 1000099 (mkB (rst (Lb s))) (mkB K') [] 0 = some (a', ok') → ∀ k, 1000100 ≤ k → espalierref30_args.f k (mkB (rst (Lb s))) (mkB K') = some (a', ok') := fun h k hk =>
        at_rounds (g := fun k => espalierref30_args.f k (mkB (rst (Lb s))) (mkB K')) (fun k => espalierref30_args.mono _ _ k) (show 1000099 ≤ k by omega) h
      have hp : shell_parsed.f 1000100 s = if okS = true then shell_parsed.l0 1000099 (mkB p) (mkB K) ((mkB K).size : Int) 0 0 (mkB (wrd (Lb s))) [] else some (0, ⟨#[]⟩, [], false) := by
        unfold shell_parsed.f
        rw [e1, Option.bind_some]
        simp only
        rw [if_neg hne, if_pos (by omega), hd0 _ _ hw, shell_parsed.j0.eq_2, hb, if_neg (by decide), f1, Option.bind_some]
      have hpl : p.length ≤ 150000 := by omega
      have hzK : (mkB K).size = K.length := by rw [size_Lb, Lb_mk]
      rcases f3 with ⟨rfl, hk, rfl⟩ | ⟨rfl, rfl⟩
      · rw [if_pos rfl, hzK] at hp
        by_cases h87 : K = [87]
        · subst h87
          obtain ⟨a, ok, g1, g2⟩ := loopW p (rst (Lb s)) e2 hpl (mkB (wrd (Lb s))) 1000099 (by omega)
          rw [show (([87] : List UInt8).length : Int) = 1 from rfl, g1] at hp
          have hrk : refK [87] = [43] := by decide
          rw [hrk] at upF upA
          exact ⟨_, _, _, _, ok, ok, _, up hp, upF, upA g2, by simp, fun _ => ⟨rfl, rfl, rfl⟩⟩
        · have hk2 : (decide (K.length ≤ 3) && K.all fun b => [(72 : UInt8), 78, 68, 80, 65, 77, 86, 63].contains b) = true := by
            unfold kinds at hk
            rw [Bool.or_eq_true] at hk
            exact hk.resolve_left (fun h => h87 (eq_of_beq h))
          rw [Bool.and_eq_true, decide_eq_true_eq] at hk2
          have hrk : refK K = K := by unfold refK; rw [if_neg h87]
          rw [hrk] at upF upA
          obtain ⟨x0, x1, a, a', ok, g1, g2, g3⟩ := loopB K hk2.2 hk2.1 (mkB (wrd (Lb s))) K.length 0 p (rst (Lb s)) [] 1000099 (by omega) (by omega) e2 hpl (by simp) (by omega)
          rw [show ((0 : Nat) : Int) = 0 from rfl] at g1 g2
          rw [g1] at hp
          have h33 : (K == [33]) = false := by
            rw [beq_eq_false_iff_ne]
            rintro rfl
            exact absurd hk2.2 (by decide)
          exact ⟨_, _, _, _, ok, ok, _, up hp, upF, upA g2, by rw [h33]; rfl, g3⟩
      · rw [if_neg (by decide)] at hp
        obtain ⟨a', ok', g⟩ := args_bang (rst (Lb s)) (by
          have h1 := congrArg List.length (wrd_rst (Lb s))
          rw [List.length_append] at h1
          have h2 := (List.dropWhile_sublist sp (l := Lb s)).length_le
          rw [← size_Lb] at h2
          omega) 1000099 (by omega)
        exact ⟨_, _, _, _, false, ok', _, up hp, upF, upA g, by simp, fun h => by cases h⟩
/-! lines -/
def linesF : Nat → List UInt8 → List (List UInt8)
  | 0, _ => []
  | f + 1, l => if l = [] then [] else pre 10 l :: linesF f (aft 10 l)
theorem aft_lt (l : List UInt8) (h : l ≠ []) : (aft 10 l).length < l.length := by
  unfold aft
  rw [List.length_drop]
  have := (List.dropWhile_sublist (fun b => !(b == 10)) (l := l)).length_le
  have : 0 < l.length := by cases l with
    | nil => exact absurd rfl h
    | cons b r => simp
  omega
theorem lines_l1 (s : ByteArray) (hn : s.size ≤ 140737488355328) (acc R : List ByteArray) (hacc : acc.length ≤ 1000000) (t : Nat) (ht : t ≤ s.size) (hl : t < s.size → s.get! t = 10) (M : Nat)
    (hR : if t = s.size then R = acc ++ [s.extract 0 t] else ∀ k, M ≤ k → espalierref30_Lines.l0 k (s.extract (t + 1) s.size) (acc ++ [s.extract 0 t]) = some R) :
    ∀ (m k i : Nat), i ≤ t → t - i = m → (∀ j, i ≤ j → j < t → s.get! j ≠ 10) → m + 1 + M ≤ k → espalierref30_Lines.l1 k s acc (i : Int) = some R := by
  intro m
  induction m with
  | zero =>
    intro k i h1 h3 h4 h5
    obtain rfl : i = t := by omega
    obtain ⟨k, rfl⟩ : ∃ j, k = j + 1 := ⟨k - 1, by omega⟩
    rw [espalierref30_Lines.l1.eq_2]
    by_cases hft : i < s.size
    · rw [if_neg (show ¬ i = s.size by omega)] at hR
      rw [if_pos (by omega), if_pos (by omega), bt_byte s i hft, if_pos ((b10 _).mpr (hl hft)), if_pos (by omega), if_pos (by omega), Option.bind_some, if_neg (by omega), w64 i (by omega), if_pos (by omega), if_pos (by omega), Int.toNat_natCast, Int.toNat_natCast]
      exact hR k (by omega)
    · rw [if_pos (show i = s.size by omega)] at hR
      rw [if_neg (by omega), if_pos (by omega), if_pos (by omega), if_pos (by omega), Option.bind_some, if_pos (by omega), Int.toNat_natCast, hR]
  | succ m ih =>
    intro k i h1 h3 h4 h5
    obtain ⟨k, rfl⟩ : ∃ j, k = j + 1 := ⟨k - 1, by omega⟩
    rw [espalierref30_Lines.l1.eq_2, if_pos (by omega), if_pos (by omega), bt_byte s i (by omega), if_neg (fun h => h4 i (by omega) (by omega) ((b10 _).mp h)), w64 i (by omega)]
    exact ih k (i + 1) (by omega) (by omega) (fun j a b => h4 j (by omega) b) (by omega)
theorem lines_l0 : ∀ (f : Nat) (s : ByteArray) (acc : List ByteArray) (k : Nat), s.size ≤ f → f ≤ 200000 → acc.length + f ≤ 900000 → 3 * s.size + 5 ≤ k → espalierref30_Lines.l0 k s acc = some (acc ++ (linesF (f + 1) (Lb s)).map mkB) := by
  intro f
  induction f with
  | zero =>
    intro s acc k h1 h2 h3 h4
    obtain ⟨k, rfl⟩ : ∃ j, k = j + 1 := ⟨k - 1, by omega⟩
    have h0 : Lb s = [] := List.eq_nil_of_length_eq_zero (by rw [← size_Lb]; omega)
    rw [espalierref30_Lines.l0.eq_2, if_neg (by omega), h0, linesF, if_pos rfl, List.map_nil, List.append_nil]
  | succ f ih =>
    intro s acc k h1 h2 h3 h4
    obtain ⟨k, rfl⟩ : ∃ j, k = j + 1 := ⟨k - 1, by omega⟩
    by_cases h0 : s.size = 0
    · have hL : Lb s = [] := List.eq_nil_of_length_eq_zero (by rw [← size_Lb]; omega)
      rw [espalierref30_Lines.l0.eq_2, if_neg (by omega), hL, linesF, if_pos rfl, List.map_nil, List.append_nil]
    · have hne : Lb s ≠ [] := fun h => h0 (by rw [size_Lb, h]; rfl)
      obtain ⟨t, t1, t2, t3⟩ := first_not (fun j => !(s.get! j == 10)) s.size
      have t2' : ∀ j, j < t → s.get! j ≠ 10 := fun j hj e => by have := t2 j hj; rw [e] at this; exact absurd this (by decide)
      have t3' : t < s.size → s.get! t = 10 := fun h => by
        have := t3 h
        cases e : (s.get! t == 10) with
        | true => exact beq_iff_eq.mp e
        | false => rw [e] at this; exact absurd this (by decide)
      have tf := take_first 10 (Lb s) t (by rw [← size_Lb]; exact t1) (fun j h hj => by rw [← get_at s j (by rw [size_Lb]; exact h)]; exact t2' j hj) (fun h => by rw [← get_at s t (by rw [size_Lb]; exact h)]; exact t3' (by rw [size_Lb]; exact h))
      have epre : s.extract 0 t = mkB (pre 10 (Lb s)) := by
        rw [ext_L, List.drop_zero, Nat.sub_zero]
        unfold pre
        rw [tf.1]
      have eaft : aft 10 (Lb s) = (Lb s).drop (t + 1) := by
        unfold aft
        rw [tf.2, List.drop_drop]
      rw [espalierref30_Lines.l0.eq_2, if_pos (by omega), linesF, if_neg hne, List.map_cons]
      refine lines_l1 s (by omega) acc _ (by omega) t t1 t3' (3 * (s.size - (t + 1)) + 5) ?_ t k 0 (by omega) (by omega) (fun j _ h => t2' j h) (by omega)
      by_cases hts : t = s.size
      · rw [if_pos hts, epre, eaft, List.drop_of_length_le (by rw [← size_Lb]; omega)]
        cases f with
        | zero => rfl
        | succ f => rw [linesF, if_pos rfl]; rfl
      · rw [if_neg hts]
        intro k hk
        rw [epre, ext_end]
        have hsz : (mkB ((Lb s).drop (t + 1))).size = s.size - (t + 1) := by rw [size_Lb, Lb_mk, List.length_drop, ← size_Lb]
        rw [ih (mkB ((Lb s).drop (t + 1))) (acc ++ [mkB (pre 10 (Lb s))]) k (by omega) (by omega) (by rw [List.length_append]; simp only [List.length_cons, List.length_nil]; omega) (by omega), Lb_mk, eaft, List.append_assoc]
        rfl
end Go.Proofs.YtggdffgoffmlpaaDoor.PA
