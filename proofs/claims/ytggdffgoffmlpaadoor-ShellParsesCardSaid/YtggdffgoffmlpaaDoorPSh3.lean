/- What a word may be (handle, name, number, place, axis, mode): shell.fits and the reference's fits answer the same. In plain Lean. -/
import Derived.Test.YtggdffgoffmlpaaDoorPSh2
import Derived.Test.YtggdffgoffmlpaaDoorUDecimal
import Derived.Test.YtggdffgoffmlpaaDoorUNumber
import Derived.Test.YtggdffgoffmlpaaDoorPA4
import Derived.Test.YtggdffgoffmlpaaDoorPA3
import Derived.Test.YtggdffgoffmlpaaDoorPA11
import Derived.Test.YtggdffgoffmlpaaDoorPA10
namespace Go.Proofs.YtggdffgoffmlpaaDoor.PA
open Go.RowKit Go.Proofs.YtggdffgoffmlpaaDoorW.PrintWords Go.Proofs.YtggdffgoffmlpaaDoorW.PrintLast Go.Proofs.YtggdffgoffmlpaaDoorW.PrintMore
set_option linter.unusedVariables false
set_option linter.unusedSimpArgs false
theorem wrap_in {n : Int} (h0 : -9223372036854775808 ≤ n) (h1 : n ≤ 9223372036854775807) : wrap64 n = n := by unfold wrap64; omega
theorem letter_begins (c : Int) : ∃ t, chars_letter.f c = some t ∧ espalierref02_Begins.f c = some t := by
  unfold chars_letter.f espalierref02_Begins.f
  repeat' split
  all_goals exact ⟨_, rfl, rfl⟩
theorem name_loop (s : ByteArray) : ∀ (k : Nat) (i : Int), chars_Name.l0 k s (s.size : Int) i = espalierref02_Name.l0 k s i
  | 0, i => by rw [chars_Name.l0.eq_1, espalierref02_Name.l0.eq_1]
  | k + 1, i => by
    have ih := name_loop s k (wrap64 (i + 1))
    rw [chars_Name.l0.eq_2, espalierref02_Name.l0.eq_2, ih]
    generalize espalierref02_Name.l0 k s (wrap64 (i + 1)) = A
    by_cases h1 : i < (s.size : Int)
    · simp only [if_pos h1]
      by_cases h2 : 0 ≤ i
      · simp only [if_pos h2]
        generalize bt s i = c
        obtain ⟨t, e1, e2⟩ := letter_begins c
        unfold espalierref02_In.f
        rw [e1, e2, Option.bind_some, Option.bind_some]
        cases t with
        | true => rfl
        | false =>
          rw [if_neg (show ¬ (false = true) by simp), if_neg (show ¬ (false = true) by simp)]
          by_cases c1 : c = 45
          · subst c1; simp
          by_cases c2 : c = 46
          · subst c2; simp
          by_cases c3 : c < 48
          · rw [if_pos c3, if_neg c1, if_neg c2, if_neg (by omega), if_neg c1, Option.bind_some, if_neg (by simpa using c2)]
          · rw [if_neg c3, if_pos (show c ≥ 48 by omega)]
            by_cases c4 : c > 57
            · rw [if_pos c4, if_neg c1, if_neg c2, if_neg (by omega), if_neg c1, Option.bind_some, if_neg (by simpa using c2)]
            · rw [if_neg c4, if_pos (show c ≤ 57 by omega), Option.bind_some, if_pos rfl]
      · simp only [if_neg h2]
    · simp only [if_neg h1]
theorem name_j0 (s : ByteArray) (b : Bool) : ∀ k : Nat, chars_Name.j0 k s b = espalierref02_Name.j0 k s b
  | 0 => by rw [chars_Name.j0.eq_1, espalierref02_Name.j0.eq_1]
  | k + 1 => by rw [chars_Name.j0.eq_2, espalierref02_Name.j0.eq_2, name_loop]
theorem Name_eq (s : ByteArray) (k : Nat) : chars_Name.f k s = espalierref02_Name.f k s := by
  unfold chars_Name.f espalierref02_Name.f
  have hz : s.toList = [] ↔ (s.size : Int) < 1 := by
    rw [Lib.toList_data, Lib.size_eq]
    constructor
    · intro h; rw [h]; simp
    · intro h; exact List.eq_nil_of_length_eq_zero (by omega)
  by_cases h : (s.size : Int) < 1
  · rw [if_pos (hz.mpr h), if_pos h, name_j0]
  · rw [if_neg (fun e => h (hz.mp e)), if_neg h]
    by_cases h2 : (s.size : Int) > 32
    · rw [if_pos h2, if_pos h2, name_j0]
    · rw [if_neg h2, if_neg h2]
      obtain ⟨t, e1, e2⟩ := letter_begins (bt s 0)
      rw [e1, e2, Option.bind_some, Option.bind_some, name_j0]
/-- A name's answer is always there, with rounds enough. -/
theorem name_ends (s : ByteArray) (hn : s.size ≤ 140737488355328) : ∀ (d k i : Nat), i ≤ s.size → s.size - i = d → d + 1 ≤ k → ∃ b, espalierref02_Name.l0 k s i = some b := by
  intro d
  induction d with
  | zero =>
    intro k i hi hd hk
    obtain ⟨k, rfl⟩ : ∃ m, k = m + 1 := ⟨k - 1, by omega⟩
    rw [espalierref02_Name.l0.eq_2, if_neg (by omega)]
    exact ⟨_, rfl⟩
  | succ d ih =>
    intro k i hi hd hk
    obtain ⟨k, rfl⟩ : ∃ m, k = m + 1 := ⟨k - 1, by omega⟩
    have hw : wrap64 ((i : Int) + 1) = ((i + 1 : Nat) : Int) := by rw [wrap_in (by omega) (by omega)]; omega
    obtain ⟨t, ht⟩ : ∃ t, espalierref02_In.f (bt s (i : Int)) = some t := by
      unfold espalierref02_In.f
      obtain ⟨t, _, e2⟩ := letter_begins (bt s (i : Int))
      rw [e2, Option.bind_some]
      repeat' split
      all_goals exact ⟨_, rfl⟩
    rw [espalierref02_Name.l0.eq_2, if_pos (by omega), if_pos (by omega), ht, Option.bind_some, hw]
    split
    · exact ih k (i + 1) (by omega) (by omega) (by omega)
    · exact ⟨_, rfl⟩
theorem Name_ends (s : ByteArray) (hn : s.size ≤ 140737488355328) (k : Nat) (hk : s.size + 2 ≤ k) : ∃ b, espalierref02_Name.f k s = some b := by
  obtain ⟨k, rfl⟩ : ∃ m, k = m + 1 := ⟨k - 1, by omega⟩
  have hj : ∀ b, ∃ r, espalierref02_Name.j0 (k + 1) s b = some r := by
    intro b
    rw [espalierref02_Name.j0.eq_2]
    split
    · exact ⟨_, rfl⟩
    · exact name_ends s hn s.size k 0 (by omega) (by omega) (by omega)
  unfold espalierref02_Name.f
  obtain ⟨t, _, e2⟩ := letter_begins (bt s 0)
  rw [e2, Option.bind_some]
  split
  · exact hj _
  · split
    · exact hj _
    · rw [if_pos (by omega)]
      exact hj _
/-! a word among some -/
theorem rd_list (l : List ByteArray) (i : Nat) (h : i < l.length) : rdOf ByteArray.empty l (i : Int) = l[i] := by
  show l.getD (i : Int).toNat _ = _
  rw [Int.toNat_natCast, List.getD_eq_getElem?_getD, List.getElem?_eq_getElem h]
  rfl
theorem which_find (w : ByteArray) (l : List ByteArray) (hl : l.length ≤ 1000) : ∀ (m k i : Nat), i ≤ l.length → l.length - i = m → m + 1 ≤ k →
    ∃ r q : Int, shell_which.l0 k w l (l.length : Int) (i : Int) = some r ∧ espalierref30_find.l0 k l w (i : Int) = some q ∧ decide (r > 0) = decide (q ≥ 0) ∧ ((∀ x ∈ l, x.toList ≠ w.toList) → decide (r > 0) = false) := by
  intro m
  induction m with
  | zero =>
    intro k i h1 h2 h3
    obtain ⟨k, rfl⟩ : ∃ j, k = j + 1 := ⟨k - 1, by omega⟩
    exact ⟨0, -1, by rw [shell_which.l0.eq_2, if_neg (by omega)], by rw [espalierref30_find.l0.eq_2, if_neg (by omega)], by decide, fun _ => by decide⟩
  | succ m ih =>
    intro k i h1 h2 h3
    obtain ⟨k, rfl⟩ : ∃ j, k = j + 1 := ⟨k - 1, by omega⟩
    have hi : i < l.length := by omega
    have e1 : shell_which.l0 (k + 1) w l (l.length : Int) (i : Int) = if l[i].toList = w.toList then some ((i + 1 : Nat) : Int) else shell_which.l0 k w l (l.length : Int) ((i + 1 : Nat) : Int) := by
      rw [shell_which.l0.eq_2, if_pos (by omega), if_pos (by omega), if_pos (by omega), rd_list l i hi, w64 i (by omega)]
    have e2 : espalierref30_find.l0 (k + 1) l w (i : Int) = if l[i].toList = w.toList then some (i : Int) else espalierref30_find.l0 k l w ((i + 1 : Nat) : Int) := by
      rw [espalierref30_find.l0.eq_2, if_pos (by omega), if_pos (by omega), rd_list l i hi, w64 i (by omega)]
    rw [e1, e2]
    by_cases h : l[i].toList = w.toList
    · rw [if_pos h, if_pos h]
      exact ⟨_, _, rfl, rfl, by rw [decide_eq_true (by omega), decide_eq_true (by omega)], fun hx => absurd h (hx _ (List.getElem_mem hi))⟩
    · rw [if_neg h, if_neg h]
      exact ih k (i + 1) (by omega) (by omega) (by omega)
theorem which_eq (w : ByteArray) (l : List ByteArray) (hl : l.length ≤ 1000) (k : Nat) (hk : 1010 ≤ k) :
    ∃ r q : Int, shell_which.f k w l = some r ∧ espalierref30_find.f k l w = some q ∧ decide (r > 0) = decide (q ≥ 0) ∧ ((∀ x ∈ l, x.toList ≠ w.toList) → decide (r > 0) = false) := by
  unfold shell_which.f espalierref30_find.f
  exact which_find w l hl l.length k 0 (by omega) (by omega) (by omega)
/-! digits -/
def dg (c : UInt8) : Bool := decide (48 ≤ c.toNat ∧ c.toNat ≤ 57)
def nv (l : List UInt8) : Nat := l.foldl (fun n c => 10 * n + (c.toNat - 48)) 0
theorem nv_snoc (l : List UInt8) (c : UInt8) : nv (l ++ [c]) = 10 * nv l + (c.toNat - 48) := by unfold nv; rw [List.foldl_append]; rfl
theorem nv_lt : ∀ (n : Nat) (l : List UInt8), l.length = n → l.all dg = true → nv l < 10 ^ n := by
  intro n
  induction n with
  | zero => intro l h _; obtain rfl : l = [] := List.eq_nil_of_length_eq_zero h; decide
  | succ n ih =>
    intro l h hd
    have hne : l ≠ [] := by intro e; subst e; simp at h
    have e := List.dropLast_concat_getLast hne
    generalize l.getLast hne = c at e
    have hl : l.dropLast.length = n := by rw [List.length_dropLast]; omega
    generalize l.dropLast = q at e hl
    subst e
    rw [List.all_append, Bool.and_eq_true] at hd
    have hc : dg c = true := by simpa using hd.2
    unfold dg at hc
    have hc := of_decide_eq_true hc
    have := ih q hl hd.1
    rw [nv_snoc, Nat.pow_succ]
    omega
theorem digits_loop (s : ByteArray) (most : Nat) (hm : most ≤ 10) (hn : s.size ≤ 140737488355328) : ∀ (m k i : Nat), i ≤ s.size → i ≤ most + 1 → most + 1 - i = m → ((Lb s).take i).all dg = true → 2 * m + 4 ≤ k →
    ∃ y : Int, espalierref30_digits.l0 k s (most : Int) ((nv ((Lb s).take i) : Nat) : Int) (i : Int) = some (y, decide (1 ≤ s.size ∧ s.size ≤ most) && (Lb s).all dg) ∧ ((decide (1 ≤ s.size ∧ s.size ≤ most) && (Lb s).all dg) = true → y = (nv (Lb s) : Int)) := by
  intro m
  induction m with
  | zero =>
    intro k i h1 h2 h3 h4 h5
    obtain ⟨k, rfl⟩ : ∃ j, k = j + 2 := ⟨k - 2, by omega⟩
    obtain rfl : i = most + 1 := by omega
    have e : decide (1 ≤ s.size ∧ s.size ≤ most) = false := decide_eq_false (by omega)
    rw [e, Bool.false_and, espalierref30_digits.l0.eq_2]
    by_cases hi : most + 1 < s.size
    · rw [if_pos (by omega), decide_eq_false (by omega), espalierref30_digits.j1.eq_2, if_neg (by decide), if_pos (by omega), decide_eq_false (by omega)]
      exact ⟨_, rfl, fun h => by cases h⟩
    · rw [if_neg (by omega), espalierref30_digits.j1.eq_2, if_neg (by decide), if_pos (by omega), decide_eq_false (by omega)]
      exact ⟨_, rfl, fun h => by cases h⟩
  | succ m ih =>
    intro k i h1 h2 h3 h4 h5
    obtain ⟨k, rfl⟩ : ∃ j, k = j + 2 := ⟨k - 2, by omega⟩
    rw [espalierref30_digits.l0.eq_2]
    by_cases hi : i < s.size
    · have hL : (Lb s)[i]'(by rw [← size_Lb]; exact hi) = s.get! i := (get_at s i hi).symm
      have htk : (Lb s).take (i + 1) = (Lb s).take i ++ [s.get! i] := by
        rw [List.take_succ_eq_append_getElem (by rw [← size_Lb]; exact hi), hL]
      rw [if_pos (by omega), decide_eq_true (by omega), espalierref30_digits.j1.eq_2, if_pos rfl, if_pos (by omega), if_pos (by omega), bt_byte s i hi, w64 i (by omega)]
      have h256 := (s.get! i).toNat_lt
      by_cases hd : dg (s.get! i) = true
      · have hd' := of_decide_eq_true (show decide (48 ≤ (s.get! i).toNat ∧ (s.get! i).toNat ≤ 57) = true from hd)
        have hall : ((Lb s).take (i + 1)).all dg = true := by rw [htk, List.all_append, h4]; simpa using hd
        have hlt := nv_lt i ((Lb s).take i) (by rw [List.length_take, ← size_Lb]; omega) h4
        have hp : (10 : Nat) ^ i ≤ 10 ^ 10 := Nat.pow_le_pow_right (by decide) (by omega)
        have hp2 : (10 : Nat) ^ 10 = 10000000000 := by decide
        have e1 : wrap64 ((wrap64 (10 * ((nv ((Lb s).take i) : Nat) : Int))) + (((s.get! i).toNat : Int) - 48) % 256) = ((nv ((Lb s).take (i + 1)) : Nat) : Int) := by
          rw [htk, nv_snoc]
          generalize nv ((Lb s).take i) = v at hlt ⊢
          rw [wrap_in (n := 10 * (v : Int)) (by omega) (by omega), wrap_in (by omega) (by omega)]
          omega
        rw [if_neg (by omega), if_neg (by omega), e1]
        exact ih k (i + 1) (by omega) (by omega) (by omega) hall (by omega)
      · have hbad : (Lb s).all dg = false := by
          rw [Bool.eq_false_iff]
          intro h
          exact hd (by rw [← hL]; exact List.all_eq_true.mp h _ (List.getElem_mem _))
        have hd' : ¬ (48 ≤ (s.get! i).toNat ∧ (s.get! i).toNat ≤ 57) := fun h => hd (decide_eq_true h)
        rw [hbad, Bool.and_false]
        by_cases h48 : ((s.get! i).toNat : Int) < 48
        · rw [if_pos h48]; exact ⟨_, rfl, fun h => by cases h⟩
        · rw [if_neg h48, if_pos (by omega)]; exact ⟨_, rfl, fun h => by cases h⟩
    · obtain rfl : i = s.size := by omega
      have hall : (Lb s).take s.size = Lb s := List.take_of_length_le (by rw [← size_Lb]; exact Nat.le_refl _)
      rw [hall] at h4 ⊢
      rw [if_neg (by omega), espalierref30_digits.j1.eq_2, if_neg (by decide), h4, Bool.and_true]
      by_cases h0 : 1 ≤ s.size
      · rw [if_pos (by omega)]
        exact ⟨_, by congr 2; exact decide_eq_decide.mpr (by omega), fun _ => rfl⟩
      · rw [if_neg (by omega), decide_eq_false (by omega)]
        exact ⟨_, rfl, fun _ => rfl⟩
theorem digits_eq (s : ByteArray) (most : Nat) (hm : most ≤ 10) (hn : s.size ≤ 140737488355328) (k : Nat) (hk : 40 ≤ k) :
    ∃ y : Int, espalierref30_digits.f k s (most : Int) = some (y, decide (1 ≤ s.size ∧ s.size ≤ most) && (Lb s).all dg) ∧ ((decide (1 ≤ s.size ∧ s.size ≤ most) && (Lb s).all dg) = true → y = (nv (Lb s) : Int)) := by
  unfold espalierref30_digits.f
  exact digits_loop s most hm hn (most + 1) k 0 (by omega) (by omega) (by omega) (by simp) (by omega)
theorem dig_in (b : UInt8) : digSet.contains b = dg b := by
  have : ∀ c : Fin 256, digSet.contains (UInt8.ofNat c.val) = decide (48 ≤ c.val ∧ c.val ≤ 57) := by decide +kernel
  have e := this ⟨b.toNat, b.toNat_lt⟩
  simp only [UInt8.ofNat_toNat] at e
  exact e
theorem trim_digits (l : List UInt8) : (Lib.trimS l digSet).isEmpty = l.all dg := by
  have drop_all : ∀ l : List UInt8, (∀ b ∈ l, digSet.contains b = true) → l.dropWhile (digSet.contains ·) = [] := by
    intro l
    induction l with
    | nil => intro _; rfl
    | cons a l ih => intro h; rw [List.dropWhile_cons, if_pos (h a (by simp))]; exact ih (fun b hb => h b (by simp [hb]))
  have mem_drop : ∀ (l : List UInt8) (b : UInt8), b ∈ l → digSet.contains b = false → b ∈ l.dropWhile (digSet.contains ·) := by
    intro l b
    induction l with
    | nil => intro h; cases h
    | cons a l ih =>
      intro h hb
      rw [List.dropWhile_cons]
      by_cases ha : digSet.contains a = true
      · rw [if_pos ha]
        rcases List.mem_cons.mp h with e | e
        · subst e; rw [hb] at ha; cases ha
        · exact ih e hb
      · rw [if_neg ha]; exact h
  unfold Lib.trimS Lib.trimLeftS Lib.trimRightS
  cases h : l.all dg with
  | true =>
    rw [drop_all l.reverse (fun b hb => by rw [dig_in]; exact List.all_eq_true.mp h b (List.mem_reverse.mp hb))]
    rfl
  | false =>
    have : ∃ b ∈ l, dg b = false := by
      have h2 : ¬ l.all dg = true := by rw [h]; decide
      rw [List.all_eq_true] at h2
      exact Classical.byContradiction fun hn => h2 (fun b hb => Classical.byContradiction fun hb2 => hn ⟨b, hb, (Bool.not_eq_true _).mp hb2⟩)
    obtain ⟨b, hb, hd⟩ := this
    have h1 := mem_drop l.reverse b (List.mem_reverse.mpr hb) (by rw [dig_in]; exact hd)
    have h2 := mem_drop _ b (List.mem_reverse.mpr h1) (by rw [dig_in]; exact hd)
    generalize ((l.reverse.dropWhile (digSet.contains ·)).reverse.dropWhile (digSet.contains ·)) = z at h2 ⊢
    cases z with
    | nil => cases h2
    | cons x z => rfl
theorem atoi_some (l : List UInt8) (h : l ≠ []) (hd : l.all dg = true) : ∃ n, Lib.atoi l = some n := by
  have key : ∀ (l : List UInt8) (acc : Nat), l.all dg = true → ∃ n, Lib.decFrom acc l = some n := by
    intro l
    induction l with
    | nil => intro acc _; exact ⟨acc, rfl⟩
    | cons b r ih =>
      intro acc hd
      rw [List.all_cons, Bool.and_eq_true] at hd
      have hb := of_decide_eq_true (show decide (48 ≤ b.toNat ∧ b.toNat ≤ 57) = true from hd.1)
      rw [Lib.decFrom, show Lib.digitVal b = some (b.toNat - 48) from by unfold Lib.digitVal; rw [if_pos hb]]
      exact ih _ hd.2
  cases l with
  | nil => exact absurd rfl h
  | cons b r =>
    obtain ⟨n, hn⟩ := key (b :: r) 0 hd
    rw [List.all_cons, Bool.and_eq_true] at hd
    have hb := of_decide_eq_true (show decide (48 ≤ b.toNat ∧ b.toNat ≤ 57) = true from hd.1)
    have n45 : (b == 45) = false := beq_eq_false_iff_ne.mpr (fun e => by subst e; exact absurd hb (by decide))
    have n43 : (b == 43) = false := beq_eq_false_iff_ne.mpr (fun e => by subst e; exact absurd hb (by decide))
    refine ⟨(n : Int), ?_⟩
    rw [Lib.atoi, n45, n43]
    simp only [Bool.false_eq_true, if_false]
    unfold Lib.decNat
    rw [if_neg (by simp), hn]
    rfl
theorem number_digits (w : ByteArray) (hs : w.size ≤ 4294967296) (k : Nat) (hk : 40 ≤ k) : ∃ x y : Int, ∃ b : Bool, shell_number.f w = some (x, b) ∧ espalierref30_digits.f k w 4 = some (y, b) ∧ (Lb w = [] → b = false) := by
  obtain ⟨y, hy, _⟩ := digits_eq w 4 (by omega) (by omega) k hk
  have e : numOk w = (decide (1 ≤ w.size ∧ w.size ≤ 4) && (Lb w).all dg) := by
    change (!w.toList.isEmpty && (decide (w.size ≤ 4) && (Lib.trimS (Lb w) digSet).isEmpty)) = _
    rw [trim_digits, toL, size_Lb]
    cases h : Lb w with
    | nil => rfl
    | cons b r =>
      rw [show (!(b :: r).isEmpty) = true from rfl, Bool.true_and]
      congr 1
      exact decide_eq_decide.mpr ⟨fun h => ⟨by simp, h⟩, fun h => h.2⟩
  refine ⟨(Lib.atoi (Lb w)).getD 0 * (if numOk w = true then 1 else 0), y, _, ?_, hy, fun h0 => ?_⟩
  · unfold shell_number.f
    rw [if_pos (by omega), ← e]
    by_cases hq : numOk w = true
    · rw [if_pos hq, if_pos hq, hq]
      rw [hq] at e
      have e2 := e.symm
      rw [Bool.and_eq_true, decide_eq_true_eq] at e2
      obtain ⟨n, hn⟩ := atoi_some (Lb w) (fun h => by rw [size_Lb, h] at e2; exact absurd e2.1.1 (by decide)) e2.2
      rw [show Lib.atoi w.data.toList = some n from hn]
      simp
    · rw [if_neg hq, if_neg hq, (Bool.not_eq_true _).mp hq]
      simp
  · rw [decide_eq_false (by rw [size_Lb, h0]; simp), Bool.false_and]
end Go.Proofs.YtggdffgoffmlpaaDoor.PA
