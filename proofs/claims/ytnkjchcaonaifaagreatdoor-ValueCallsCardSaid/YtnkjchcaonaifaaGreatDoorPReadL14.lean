/- The reference's loops over a text's bytes: read, Number, sum. -/
import Derived.Test.YtnkjchcaonaifaaGreatDoorPRead14
import Derived.Test.YtnkjchcaonaifaaGreatDoorPA12
namespace Go.Proofs.YtnkjchcaonaifaaGreatDoor.PA
open Go.RowKit Go.Proofs.YtnkjchcaonaifaaGreatDoorW.PrintWords Go.Proofs.YtnkjchcaonaifaaGreatDoorW.PrintLast Go.Proofs.YtnkjchcaonaifaaGreatDoorW.PrintMore Go.PlainAid
set_option linter.unusedVariables false
set_option linter.unusedSimpArgs false
theorem drop_at (s : ByteArray) (i : Nat) (h : i < s.size) : s.data.toList.drop i = s.get! i :: s.data.toList.drop (i + 1) := by
  rw [get_list]
  exact drop_getD _ _ (by rw [← Lib.size_eq]; exact h)
theorem l2_loop (s : ByteArray) (hn : s.size ≤ 140737488355328) (minus : Bool) (tt : Nat) (hto : tt ≤ s.size) :
    ∀ (m k i acc : Nat), i ≤ tt → tt - i = m → acc ≤ 9223372036854775808 → 2 * m + 2 ≤ k → espalierref14_read.l2 k s (tt : Int) minus (acc : Int) (i : Int) = some (finD minus (refD acc ((s.data.toList.drop i).take m))) := by
  intro m
  induction m with
  | zero =>
    intro k i acc h1 h2 h3 h4
    obtain ⟨k, rfl⟩ : ∃ j, k = j + 1 := ⟨k - 1, by omega⟩
    rw [espalierref14_read.l2.eq_2, if_neg (by omega), List.take_zero, refD, finD]
    by_cases hm : minus = true
    · rw [if_pos hm, if_pos hm]
      by_cases ha : (acc : Int) = 9223372036854775808
      · rw [if_pos ha, ha]
      · rw [if_neg ha, show wrap64 (-(wrap64 (acc : Int))) = -(acc : Int) from by unfold wrap64; omega]
    · rw [if_neg hm, if_neg hm]
      by_cases ha : acc < 9223372036854775808
      · rw [if_pos ha, Int.tmod_eq_emod_of_nonneg (by omega), show wrap64 ((acc : Int) % 9223372036854775808) = (acc : Int) from by unfold wrap64; omega, decide_eq_true (show (acc : Int) < 9223372036854775808 by omega)]
      · rw [if_neg ha, Int.tmod_eq_emod_of_nonneg (by omega), show wrap64 ((acc : Int) % 9223372036854775808) = 0 from by unfold wrap64; omega, decide_eq_false (show ¬ (acc : Int) < 9223372036854775808 by omega)]
  | succ m ih =>
    intro k i acc h1 h2 h3 h4
    obtain ⟨k, rfl⟩ : ∃ j, k = j + 2 := ⟨k - 2, by omega⟩
    have hi : i < s.size := by omega
    rw [drop_at s i hi, List.take_succ_cons, refD, espalierref14_read.l2.eq_2, if_pos (by omega), if_pos (by omega), if_pos (by omega), bt_byte s i hi]
    generalize hb : s.get! i = b
    have hr : ∀ q : Bool, espalierref14_read.j7 (k + 1) s (tt : Int) minus (acc : Int) (i : Int) q = if q = true then some (false, 0) else if (acc : Int) > ((9223372036854775808 - (((b.toNat : Int) - 48) % 256)) / 10) then some (false, 0) else espalierref14_read.l2 k s (tt : Int) minus (IntKind.u64.wrap ((IntKind.u64.wrap (10 * (acc : Int))) + (((b.toNat : Int) - 48) % 256))) (wrap64 ((i : Int) + 1)) := by
      intro q
      rw [espalierref14_read.j7.eq_2]
      cases q with
      | true => rw [if_pos rfl, if_pos rfl]
      | false =>
        simp only [Bool.false_eq_true, if_false]
        rw [if_pos (by omega), if_pos (by omega), bt_byte s i hi, hb]
    have h256 := b.toNat_lt
    by_cases hd : digN b
    · rw [if_pos hd]
      obtain ⟨h48, h57⟩ := hd
      rw [if_neg (by omega), hr, decide_eq_false (show ¬ (b.toNat : Int) > 57 by omega), if_neg (by decide)]
      by_cases hov : acc * 10 + (b.toNat - 48) ≤ 9223372036854775808
      · rw [if_pos hov, if_neg (by omega), u64_nonneg (n := 10 * (acc : Int)) (by omega) (by omega), u64_nonneg (by omega) (by omega), show (10 * (acc : Int) + ((b.toNat : Int) - 48) % 256) = ((acc * 10 + (b.toNat - 48) : Nat) : Int) from by omega, show wrap64 ((i : Int) + 1) = ((i + 1 : Nat) : Int) from by unfold wrap64; omega]
        exact ih k (i + 1) _ (by omega) (by omega) hov (by omega)
      · rw [if_neg hov, if_pos (by omega)]
        rfl
    · rw [if_neg hd]
      unfold digN at hd
      by_cases h48 : (b.toNat : Int) < 48
      · rw [if_pos h48, hr, if_pos rfl]; rfl
      · rw [if_neg h48, hr, if_pos (decide_eq_true (by omega))]; rfl
def blB (b : UInt8) : Bool := blanksR.contains b
theorem white_fin : ∀ n : Fin 256, espalierref02_White.f (n.val : Int) = some (blB (UInt8.ofNat n.val)) := by decide +kernel
theorem white_bl (b : UInt8) : espalierref02_White.f (b.toNat : Int) = some (blB b) := by
  have := white_fin ⟨b.toNat, b.toNat_lt⟩
  simp only [UInt8.ofNat_toNat] at this
  exact this
theorem l1_loop (s : ByteArray) (hn : s.size ≤ 140737488355328) (f t : Nat) (hf : f ≤ t) (ht : t ≤ s.size) (R : Bool × Int) (M : Nat) (hR : ∀ k, M ≤ k → espalierref14_read.j3 k s (f : Int) (t : Int) = some R) (hl : f < t → blB (s.get! (t - 1)) = false) :
    ∀ (m k i : Nat), t ≤ i → i ≤ s.size → i - t = m → (∀ j, t ≤ j → j < i → blB (s.get! j) = true) → m + 1 + M ≤ k → espalierref14_read.l1 k s (f : Int) (i : Int) = some R := by
  intro m
  induction m with
  | zero =>
    intro k i h1 h2 h3 h4 h5
    obtain rfl : i = t := by omega
    obtain ⟨k, rfl⟩ : ∃ j, k = j + 1 := ⟨k - 1, by omega⟩
    rw [espalierref14_read.l1.eq_2]
    by_cases hft : f < i
    · have hw : wrap64 ((i : Int) - 1) = ((i - 1 : Nat) : Int) := by unfold wrap64; omega
      rw [if_pos (by omega), hw, if_pos (by omega), if_pos (by omega), bt_byte s (i - 1) (by omega), white_bl, Option.bind_some, hl hft, if_neg (by decide)]
      exact hR k (by omega)
    · rw [if_neg (by omega)]
      exact hR k (by omega)
  | succ m ih =>
    intro k i h1 h2 h3 h4 h5
    obtain ⟨k, rfl⟩ : ∃ j, k = j + 1 := ⟨k - 1, by omega⟩
    have hw : wrap64 ((i : Int) - 1) = ((i - 1 : Nat) : Int) := by unfold wrap64; omega
    rw [espalierref14_read.l1.eq_2, if_pos (by omega), hw, if_pos (by omega), if_pos (by omega), bt_byte s (i - 1) (by omega), white_bl, Option.bind_some, h4 (i - 1) (by omega) (by omega), if_pos rfl]
    exact ih k (i - 1) (by omega) (by omega) (by omega) (fun j a b => h4 j a (by omega)) (by omega)
theorem l0_loop (s : ByteArray) (hn : s.size ≤ 140737488355328) (f : Nat) (hf : f ≤ s.size) (R : Bool × Int) (M : Nat) (hR : ∀ k, M ≤ k → espalierref14_read.j1 k s (f : Int) (s.size : Int) = some R) (hl : f < s.size → blB (s.get! f) = false) :
    ∀ (m k i : Nat), i ≤ f → f - i = m → (∀ j, i ≤ j → j < f → blB (s.get! j) = true) → m + 1 + M ≤ k → espalierref14_read.l0 k s (i : Int) (s.size : Int) = some R := by
  intro m
  induction m with
  | zero =>
    intro k i h1 h3 h4 h5
    obtain rfl : i = f := by omega
    obtain ⟨k, rfl⟩ : ∃ j, k = j + 1 := ⟨k - 1, by omega⟩
    rw [espalierref14_read.l0.eq_2]
    by_cases hft : i < s.size
    · rw [if_pos (by omega), if_pos (by omega), if_pos (by omega), bt_byte s i hft, white_bl, Option.bind_some, hl hft, if_neg (by decide)]
      exact hR k (by omega)
    · rw [if_neg (by omega)]
      exact hR k (by omega)
  | succ m ih =>
    intro k i h1 h3 h4 h5
    obtain ⟨k, rfl⟩ : ∃ j, k = j + 1 := ⟨k - 1, by omega⟩
    rw [espalierref14_read.l0.eq_2, if_pos (by omega), if_pos (by omega), if_pos (by omega), bt_byte s i (by omega), white_bl, Option.bind_some, h4 i (by omega) (by omega), if_pos rfl, show wrap64 ((i : Int) + 1) = ((i + 1 : Nat) : Int) from by unfold wrap64; omega]
    exact ih k (i + 1) (by omega) (by omega) (fun j a b => h4 j (by omega) b) (by omega)
theorem first_not (p : Nat → Bool) : ∀ n : Nat, ∃ f, f ≤ n ∧ (∀ j, j < f → p j = true) ∧ (f < n → p f = false)
  | 0 => ⟨0, by omega, fun j h => absurd h (by omega), fun h => absurd h (by omega)⟩
  | n + 1 => by
    obtain ⟨f, h1, h2, h3⟩ := first_not p n
    by_cases hf : f < n
    · exact ⟨f, by omega, h2, fun _ => h3 hf⟩
    · obtain rfl : f = n := by omega
      by_cases hp : p f = true
      · refine ⟨f + 1, by omega, fun j hj => ?_, fun h => absurd h (by omega)⟩
        by_cases e : j = f
        · subst e; exact hp
        · exact h2 j (by omega)
      · exact ⟨f, by omega, h2, fun _ => (Bool.not_eq_true _).mp hp⟩
theorem last_not (p : Nat → Bool) (f : Nat) : ∀ d : Nat, ∃ t, f ≤ t ∧ t ≤ f + d ∧ (∀ j, t ≤ j → j < f + d → p j = true) ∧ (f < t → p (t - 1) = false)
  | 0 => ⟨f, by omega, by omega, fun j h h' => absurd h' (by omega), fun h => absurd h (by omega)⟩
  | d + 1 => by
    by_cases hp : p (f + d) = true
    · obtain ⟨t, h1, h2, h3, h4⟩ := last_not p f d
      refine ⟨t, h1, by omega, fun j a b => ?_, h4⟩
      by_cases e : j = f + d
      · subst e; exact hp
      · exact h3 j a (by omega)
    · exact ⟨f + (d + 1), by omega, by omega, fun j a b => absurd b (by omega), fun _ => (Bool.not_eq_true _).mp hp⟩
theorem get_opt (s : ByteArray) (j : Nat) (b : UInt8) (h : s.data.toList[j]? = some b) : s.get! j = b ∧ j < s.size := by
  obtain ⟨hj, e⟩ := List.getElem?_eq_some_iff.mp h
  have hj' : j < s.size := by rw [Lib.size_eq]; exact hj
  have := drop_at s j hj'
  rw [List.drop_eq_getElem_cons hj] at this
  injection this with h1 _
  exact ⟨by rw [← h1, e], hj'⟩
theorem read_eq (s : ByteArray) (hn : s.size ≤ 140737488355328) (k : Nat) (hk : 4 * s.size + 20 ≤ k) : espalierref14_read.f k s = some (swap2 (readR s)) := by
  unfold espalierref14_read.f readR
  rw [readL_ref]
  obtain ⟨f, f1, f2, f3⟩ := first_not (fun j => blB (s.get! j)) s.size
  obtain ⟨t, t1, t2, t3, t4⟩ := last_not (fun j => blB (s.get! j)) f (s.size - f)
  rw [show f + (s.size - f) = s.size by omega] at t2 t3
  have hT : Lib.trimS s.data.toList blanksR = (s.data.toList.drop f).take (t - f) := by
    have hlen : s.data.toList.length = s.size := (Lib.size_eq s).symm
    by_cases hft : f < t
    · unfold Lib.trimS
      rw [Lib.trimRightS_take s.data.toList blanksR t (by omega) (fun j b hj hb => by
        obtain ⟨e, hlt⟩ := get_opt s j b hb
        rw [← e]; exact t3 j hj hlt) (fun b _ hb => by
        obtain ⟨e, hlt⟩ := get_opt s (t - 1) b hb
        rw [← e]; exact t4 hft)]
      have hat : ∀ (j : Nat) (b : UInt8), (s.data.toList.take t)[j]? = some b → s.data.toList[j]? = some b ∧ j < t := by
        intro j b hb
        rw [List.getElem?_take] at hb
        by_cases hj : j < t
        · rw [if_pos hj] at hb; exact ⟨hb, hj⟩
        · rw [if_neg hj] at hb; cases hb
      rw [Lib.trimLeftS_drop (s.data.toList.take t) blanksR f (by rw [List.length_take]; omega) (fun j b hj hb => by
        obtain ⟨e, hlt⟩ := get_opt s j b (hat j b hb).1
        rw [← e]; exact f2 j hj) (fun b hb => by
        obtain ⟨e, hlt⟩ := get_opt s f b (hat f b hb).1
        rw [← e]; exact f3 (by omega)), List.drop_take]
    · have hall : f = s.size := by
        by_cases h : f < s.size
        · have h1 := t3 f (by omega) h
          rw [f3 h] at h1; cases h1
        · omega
      rw [show t - f = 0 by omega, List.take_zero]
      refine trimS_all _ _ (fun b hb => ?_)
      obtain ⟨j, hj, e⟩ := List.mem_iff_getElem.mp hb
      obtain ⟨e2, hlt⟩ := get_opt s j b (List.getElem?_eq_some_iff.mpr ⟨hj, e⟩)
      rw [← e2]; exact f2 j (by omega)
  rw [hT]
  refine l0_loop s hn f f1 _ (3 * s.size + 18) (fun k hk => ?_) f3 f k 0 (by omega) (by omega) (fun j _ h => f2 j h) (by omega)
  obtain ⟨k, rfl⟩ : ∃ j, k = j + 1 := ⟨k - 1, by omega⟩
  rw [espalierref14_read.j1.eq_2]
  refine l1_loop s hn f t t1 t2 _ (2 * s.size + 10) (fun k hk => ?_) t4 (s.size - t) k s.size t2 (by omega) rfl (fun j a b => t3 j a b) (by omega)
  obtain ⟨k, rfl⟩ : ∃ j, k = j + 3 := ⟨k - 3, by omega⟩
  rw [espalierref14_read.j3.eq_2]
  by_cases hft : f < t
  · have hfs : f < s.size := by omega
    rw [if_pos (by omega), if_pos (by omega), if_pos (by omega), espalierref14_read.j4.eq_2, bt_byte s f hfs]
    obtain ⟨m, hm⟩ : ∃ m, t - f = m + 1 := ⟨t - f - 1, by omega⟩
    rw [hm, drop_at s f hfs, List.take_succ_cons, refL]
    generalize hb : s.get! f = b
    by_cases h45 : b = 45
    · subst h45
      rw [if_pos (by decide), if_pos rfl, show wrap64 ((f : Int) + 1) = ((f + 1 : Nat) : Int) from by unfold wrap64; omega, espalierref14_read.j5.eq_2]
      by_cases he : f + 1 = t
      · rw [if_pos (by omega), show m = 0 by omega, List.take_zero, if_pos rfl]
      · rw [if_neg (by omega), if_neg (by
          intro e
          have := congrArg List.length e
          rw [List.length_take, List.length_drop, ← Lib.size_eq, List.length_nil] at this
          omega)]
        exact l2_loop s hn true t t2 m k (f + 1) 0 (by omega) (by omega) (by omega) (by omega)
    · have hq : ((b.toNat : Int) == 45) = false := by
        rw [beq_eq_false_iff_ne]
        intro e
        exact h45 ((u45 b).mp (by omega))
      rw [hq, if_neg (by decide), if_neg h45, espalierref14_read.j5.eq_2, if_neg (by omega)]
      have := l2_loop s hn false t t2 (m + 1) k f 0 (by omega) (by omega) (by omega) (by omega)
      rw [drop_at s f hfs, List.take_succ_cons, hb] at this
      exact this
  · obtain rfl : f = t := by omega
    rw [if_neg (by omega), espalierref14_read.j4.eq_2, if_neg (by decide), espalierref14_read.j5.eq_2, if_pos rfl, Nat.sub_self, List.take_zero]
    rfl
theorem Number_eq (k : Nat) (v : Val) (h : v.In) (hk : 600000000000000 ≤ k) : espalierref14_Number.f k v.k v.b v.n v.o v.s v.l = some (swap2 (numV v)) := by
  unfold espalierref14_Number.f numV
  by_cases h1 : v.k = 1
  · rw [if_pos h1, if_pos h1]
    cases v.b <;> rfl
  rw [if_neg h1, if_neg h1]
  by_cases h2 : v.k = 2
  · rw [if_pos h2, if_pos h2]
    cases v.o <;> rfl
  rw [if_neg h2, if_neg h2]
  by_cases h3 : v.k = 3
  · have := h.s
    rw [if_pos h3, if_pos h3, read_eq v.s (by omega) k (by omega)]; rfl
  rw [if_neg h3, if_neg h3]
  unfold espalierref14_first.f firstV
  by_cases hl : v.l.length = 0
  · rw [if_pos (by omega), if_pos hl, show readR ⟨#[]⟩ = (0, false) from by decide +kernel]; rfl
  · rw [if_neg (by omega), if_neg hl, if_pos (by omega), Option.bind_some]
    have hm : rdOf ByteArray.empty v.l 0 ∈ v.l := by
      have := rd_at v.l 0 (by omega)
      rw [show ((0 : Nat) : Int) = 0 from rfl] at this
      rw [this]; exact List.getElem_mem _
    have := h.l _ hm
    simp only
    rw [if_pos trivial, read_eq _ (by omega) k (by omega)]; rfl
/-! sum -/
def sumR : Int → List ByteArray → Bool × Int
  | n, [] => (true, n)
  | n, s :: l => if (readR s).2 = true then (if -9223372036854775808 ≤ n + (readR s).1 ∧ n + (readR s).1 ≤ 9223372036854775807 then sumR (n + (readR s).1) l else (false, 0)) else (false, 0)
def numberV (b : Bool) (n : Int) : Int × Bool × Int × Bool × ByteArray × List ByteArray := if b = true then (2, false, n, false, ⟨#[]⟩, []) else (2, false, 0, true, ⟨#[]⟩, [])
theorem number_eq (b : Bool) (n : Int) : espalierref14_number.f b n = some (numberV b n) := by cases b <;> rfl
theorem numbered_eq (b : Bool) (n : Int) : value_numbered.f n b = some (numberV b n) := by cases b <;> rfl
theorem readR_in (s : ByteArray) : -9223372036854775808 ≤ (readR s).1 ∧ (readR s).1 ≤ 9223372036854775807 := by
  have h := readL_ref (Lib.trimS s.data.toList blanksR)
  unfold readR
  generalize Lib.trimS s.data.toList blanksR = T at h ⊢
  have hf : ∀ (q : Bool) (D : List UInt8), -9223372036854775808 ≤ (finD q (refD 0 D)).2 ∧ (finD q (refD 0 D)).2 ≤ 9223372036854775807 := by
    intro q D
    cases e : refD 0 D with
    | none => exact ⟨by show _ ≤ (0 : Int); omega, by show (0 : Int) ≤ _; omega⟩
    | some u =>
      have hu := refD_le D 0 u (by omega) e
      cases q with
      | true => exact ⟨by show _ ≤ -(u : Int); omega, by show -(u : Int) ≤ _; omega⟩
      | false =>
        rw [finD_plus]
        by_cases h63 : u < 9223372036854775808
        · rw [if_pos h63]; exact ⟨by show _ ≤ (u : Int); omega, by show (u : Int) ≤ _; omega⟩
        · rw [if_neg h63]; exact ⟨by show _ ≤ (0 : Int); omega, by show (0 : Int) ≤ _; omega⟩
  have e1 : (readL T).1 = (refL T).2 := by rw [← h]; rfl
  rw [e1]
  cases T with
  | nil => exact ⟨by show _ ≤ (0 : Int); omega, by show (0 : Int) ≤ _; omega⟩
  | cons c r =>
    rw [refL_cons]
    by_cases hc : c = 45
    · rw [if_pos hc]
      by_cases hr : r = []
      · rw [if_pos hr]; exact ⟨by show _ ≤ (0 : Int); omega, by show (0 : Int) ≤ _; omega⟩
      · rw [if_neg hr]; exact hf true r
    · rw [if_neg hc]; exact hf false (c :: r)
theorem refsum_loop (l : List ByteArray) (hl : l.length ≤ 8796093022208) (hs : ∀ x ∈ l, x.size ≤ 140737488351232) (a : Int) (b : Bool) (c : Int) (d : Bool) (e : ByteArray) :
    ∀ (m k i : Nat) (n : Int), i ≤ l.length → l.length - i = m → -9223372036854775808 ≤ n → n ≤ 9223372036854775807 → m + 600000000000000 ≤ k → espalierref14_sum.l0 k (i : Int) a b c d e l true n = some (sumR n (l.drop i)) := by
  intro m
  induction m with
  | zero =>
    intro k i n h1 h2 h3 h4 h5
    obtain ⟨k, rfl⟩ : ∃ j, k = j + 1 := ⟨k - 1, by omega⟩
    rw [espalierref14_sum.l0.eq_2, if_neg (by omega), List.drop_of_length_le (by omega)]
    rfl
  | succ m ih =>
    intro k i n h1 h2 h3 h4 h5
    obtain ⟨k, rfl⟩ : ∃ j, k = j + 1 := ⟨k - 1, by omega⟩
    have hi : i < l.length := by omega
    have hx := hs _ (List.getElem_mem hi)
    rw [espalierref14_sum.l0.eq_2, if_pos (by omega), if_pos (by omega), rd_at l i hi, read_eq _ (by omega) k (by omega), Option.bind_some, List.drop_eq_getElem_cons hi, sumR, show wrap64 ((i : Int) + 1) = ((i + 1 : Nat) : Int) from by unfold wrap64; omega]
    have hin := readR_in l[i]
    unfold swap2
    generalize readR l[i] = q at hin ⊢
    obtain ⟨x, ok⟩ := q
    simp only at hin ⊢
    cases ok with
    | false => rw [if_neg (by decide), if_neg (by decide)]
    | true =>
      rw [if_pos rfl, if_pos rfl]
      have hrec : -9223372036854775808 ≤ n + x → n + x ≤ 9223372036854775807 → espalierref14_sum.l0 k ((i + 1 : Nat) : Int) a b c d e l true (wrap64 (n + x)) = some (sumR (n + x) (l.drop (i + 1))) := by
        intro q1 q2
        rw [show wrap64 (n + x) = n + x from by unfold wrap64; omega]
        exact ih k (i + 1) _ (by omega) (by omega) q1 q2 (by omega)
      by_cases hp : x > 0
      · rw [if_pos hp, show wrap64 (9223372036854775807 - x) = 9223372036854775807 - x from by unfold wrap64; omega]
        by_cases ho : n > 9223372036854775807 - x
        · rw [if_pos ho, if_neg (by omega)]
        · rw [if_neg ho, if_neg (by omega), if_pos (by omega)]
          exact hrec (by omega) (by omega)
      · rw [if_neg hp]
        by_cases hq : x < 0
        · rw [if_pos hq, show wrap64 ((-9223372036854775808) - x) = -9223372036854775808 - x from by unfold wrap64; omega]
          by_cases ho : n < -9223372036854775808 - x
          · rw [if_pos ho, if_neg (by omega)]
          · rw [if_neg ho, if_pos (by omega)]
            exact hrec (by omega) (by omega)
        · rw [if_neg hq, if_pos (by omega)]
          exact hrec (by omega) (by omega)
theorem sum_loop (l : List ByteArray) (hl : l.length ≤ 8796093022208) (hs : ∀ x ∈ l, x.size ≤ 140737488351232) :
    ∀ (m k i : Nat) (n : Int), i ≤ l.length → l.length - i = m → -9223372036854775808 ≤ n → n ≤ 9223372036854775807 → m + 1 ≤ k → value_sum.l0 k n l (l.length : Int) (i : Int) = some (numberV (sumR n (l.drop i)).1 (sumR n (l.drop i)).2) := by
  intro m
  induction m with
  | zero =>
    intro k i n h1 h2 h3 h4 h5
    obtain ⟨k, rfl⟩ : ∃ j, k = j + 1 := ⟨k - 1, by omega⟩
    rw [value_sum.l0.eq_2, if_neg (by omega), numbered_eq, Option.bind_some, List.drop_of_length_le (by omega)]
    rfl
  | succ m ih =>
    intro k i n h1 h2 h3 h4 h5
    obtain ⟨k, rfl⟩ : ∃ j, k = j + 1 := ⟨k - 1, by omega⟩
    have hi : i < l.length := by omega
    have hx := hs _ (List.getElem_mem hi)
    have hf : value_read.f l[i] = some (readR l[i]) := by
      unfold value_read.f
      rw [if_pos (by omega)]
    rw [value_sum.l0.eq_2, if_pos (by omega), if_pos (by omega), if_pos (by omega), rd_at l i hi, hf, Option.bind_some, List.drop_eq_getElem_cons hi, sumR, show wrap64 ((i : Int) + 1) = ((i + 1 : Nat) : Int) from by unfold wrap64; omega]
    have hin := readR_in l[i]
    generalize readR l[i] = q at hin ⊢
    obtain ⟨x, ok⟩ := q
    simp only at hin ⊢
    cases ok with
    | false => rw [if_neg (by decide), if_neg (by decide), numbered_eq]; rfl
    | true =>
      rw [if_pos rfl, if_pos rfl]
      by_cases hr : -9223372036854775808 ≤ n + x ∧ n + x ≤ 9223372036854775807
      · rw [if_pos hr, show wrap64 (n + x) = n + x from by unfold wrap64; omega, if_neg (by
          by_cases hp : x > 0
          · rw [decide_eq_true hp, decide_eq_true (by omega)]; decide
          · rw [decide_eq_false hp, decide_eq_false (by omega)]; decide)]
        exact ih k (i + 1) _ (by omega) (by omega) hr.1 hr.2 (by omega)
      · rw [if_neg hr, if_pos (by
          by_cases hp : x > 0
          · rw [decide_eq_true hp, decide_eq_false (by unfold wrap64; omega)]; decide
          · rw [decide_eq_false hp, decide_eq_true (by unfold wrap64; omega)]; decide), numbered_eq]
        rfl
theorem sum_eq14 (k : Nat) (v : Val) (h : v.In) (hl : v.l.length ≤ 8796093022208) (hk : 700000000000000 ≤ k) : ∃ q : Bool × Int, espalierref14_sum.f k v.k v.b v.n v.o v.s v.l = some q ∧ value_sum.f k v.k v.b v.n v.o v.s v.l = some (numberV q.1 q.2) := by
  unfold espalierref14_sum.f value_sum.f
  by_cases h4 : v.k = 4
  · rw [if_pos h4, if_pos h4]
    have e1 := refsum_loop v.l hl h.l v.k v.b v.n v.o v.s v.l.length k 0 0 (by omega) (by omega) (by omega) (by omega) (by omega)
    have e2 := sum_loop v.l hl h.l v.l.length k 0 0 (by omega) (by omega) (by omega) (by omega) (by omega)
    exact ⟨_, e1, e2⟩
  · rw [if_neg h4, if_neg h4, numbered_eq]
    exact ⟨_, rfl, rfl⟩
end Go.Proofs.YtnkjchcaonaifaaGreatDoor.PA
