/- The reference's answers for values, in plain Lean: Can, Same, digits, Text. -/
import Derived.Test.YtnkjchcaonaifaaGreatDoorPValZ
import Derived.Test.YtnkjchcaonaifaaGreatDoorPCharsR
import Derived.Test.YtnkjchcaonaifaaGreatDoorPA6
import Derived.Test.YtnkjchcaonaifaaGreatDoorPA9
import Derived.Test.YtnkjchcaonaifaaGreatDoorPA10
import Derived.PlainAid
namespace Go.Proofs.YtnkjchcaonaifaaGreatDoor.PA
open Go.RowKit Go.Proofs.YtnkjchcaonaifaaGreatDoorW.PrintWords Go.Proofs.YtnkjchcaonaifaaGreatDoorW.PrintLast Go.Proofs.YtnkjchcaonaifaaGreatDoorW.PrintMore Go.PlainAid
set_option linter.unusedVariables false
set_option linter.unusedSimpArgs false
theorem rtext14 (k : Nat) (s : ByteArray) (hs : s.size ≤ 140737488351232) (hk : 140737488351242 ≤ k) : espalierref14_text.f k s = some (tOk s) := by
  unfold espalierref14_text.f
  rw [rtext_eq s (by omega) k (by omega)]
  rfl
theorem rd_at (l : List ByteArray) (i : Nat) (h : i < l.length) : rdOf ByteArray.empty l (i : Int) = l[i] := by
  show l.getD (i : Int).toNat _ = _
  rw [Int.toNat_natCast, List.getD_eq_getElem?_getD, List.getElem?_eq_getElem h]
  rfl
theorem can_loop (l : List ByteArray) (hl : l.length ≤ 4096) (hs : ∀ x ∈ l, x.size ≤ 140737488351232) (a : Int) (b : Bool) (c : Int) (d : Bool) (e : ByteArray) :
    ∀ (m k i : Nat), i ≤ l.length → l.length - i = m → m + 140737488351243 ≤ k → espalierref14_Can.l0 k (i : Int) a b c d e l = some ((l.drop i).all tOk) := by
  intro m
  induction m with
  | zero =>
    intro k i h1 h2 h3
    obtain ⟨k, rfl⟩ : ∃ j, k = j + 1 := ⟨k - 1, by omega⟩
    rw [espalierref14_Can.l0.eq_2, if_neg (by omega), List.drop_of_length_le (by omega)]
    rfl
  | succ m ih =>
    intro k i h1 h2 h3
    obtain ⟨k, rfl⟩ : ∃ j, k = j + 1 := ⟨k - 1, by omega⟩
    have hi : i < l.length := by omega
    rw [espalierref14_Can.l0.eq_2, if_pos (by omega), if_pos (by omega), rd_at l i hi, rtext14 k _ (hs _ (List.getElem_mem _)) (by omega), Option.bind_some, List.drop_eq_getElem_cons hi, List.all_cons]
    by_cases ht : tOk l[i] = true
    · rw [if_pos ht, ht, Bool.true_and, show wrap64 ((i : Int) + 1) = ((i + 1 : Nat) : Int) from by unfold wrap64; omega]
      exact ih k (i + 1) (by omega) (by omega) (by omega)
    · rw [if_neg ht, (Bool.not_eq_true _).mp ht, Bool.false_and]
theorem Can_eq (k : Nat) (v : Val) (h : v.In) (hk : 140737488360000 ≤ k) : espalierref14_Can.f k v.k v.b v.n v.o v.s v.l = some (decide (checkV v = 0)) := by
  obtain ⟨k, rfl⟩ : ∃ j, k = j + 2 := ⟨k - 2, by omega⟩
  unfold espalierref14_Can.f checkV
  by_cases h1 : v.k = 1
  · rw [if_pos h1, espalierref14_Can.j0.eq_2, if_pos (by rw [h1]; rfl), h1]; rfl
  rw [if_neg h1, espalierref14_Can.j0.eq_2]
  by_cases h2 : v.k = 2
  · rw [if_pos (by rw [h2]; rfl), h2]; rfl
  rw [if_neg (show ¬ (v.k == 2) = true by simpa using h2)]
  by_cases h3 : v.k = 3
  · rw [if_pos h3, if_pos h3, rtext14 _ _ h.s (by omega), Option.bind_some]
    cases tOk v.s <;> rfl
  rw [if_neg h3, if_neg h3]
  by_cases h4 : v.k = 4
  · rw [if_pos h4, if_pos h4]
    by_cases hl : v.l.length ≤ 4096
    · rw [if_neg (by omega), if_pos hl]
      refine (can_loop v.l hl h.l v.k v.b v.n v.o v.s v.l.length (k + 1) 0 (by omega) (by omega) (by omega)).trans ?_
      rw [List.drop_zero]
      cases v.l.all tOk <;> rfl
    · rw [if_pos (by omega), if_neg hl]; rfl
  rw [if_neg h4, if_neg h4, if_neg (by omega)]
  rfl
theorem same_loop (l : List ByteArray) (hl : l.length ≤ 8796093022208) (a : Int) (b : Bool) (c : Int) (d : Bool) (e : ByteArray) :
    ∀ (m k i : Nat), i ≤ l.length → l.length - i = m → m + 1 ≤ k → espalierref14_Same.l0 k (i : Int) a b c d e l a b c d e l = some true := by
  intro m
  induction m with
  | zero =>
    intro k i h1 h2 h3
    obtain ⟨k, rfl⟩ : ∃ j, k = j + 1 := ⟨k - 1, by omega⟩
    rw [espalierref14_Same.l0.eq_2, if_neg (by omega)]
  | succ m ih =>
    intro k i h1 h2 h3
    obtain ⟨k, rfl⟩ : ∃ j, k = j + 1 := ⟨k - 1, by omega⟩
    rw [espalierref14_Same.l0.eq_2, if_pos (by omega), if_pos (by omega), if_pos (by omega), if_pos rfl, show wrap64 ((i : Int) + 1) = ((i + 1 : Nat) : Int) from by unfold wrap64; omega]
    exact ih k (i + 1) (by omega) (by omega) (by omega)
theorem Same_self (k : Nat) (a : Int) (b : Bool) (c : Int) (d : Bool) (e : ByteArray) (l : List ByteArray) (hl : l.length ≤ 8796093022208) (hk : l.length + 2 ≤ k) : espalierref14_Same.f k a b c d e l a b c d e l = some true := by
  obtain ⟨k, rfl⟩ : ∃ j, k = j + 1 := ⟨k - 1, by omega⟩
  unfold espalierref14_Same.f
  rw [if_pos rfl, if_neg (by cases b <;> decide), if_pos rfl, if_neg (by cases d <;> decide), if_pos rfl, espalierref14_Same.j0.eq_2, if_neg (by simp)]
  exact same_loop l hl a b c d e l.length k 0 (by omega) (by omega) (by omega)
/-! digits -/
def signed (n : Int) (s : ByteArray) : ByteArray := if n < 0 then (⟨#[45]⟩ : ByteArray) ++ s else s
theorem digit_str (d : Nat) (hd : d < 10) (u : Nat) (hu : u % 10 = d) : strOfNums [(IntKind.u64.wrap (48 + Int.tmod (u : Int) 10)) % 256] = ⟨#[UInt8.ofNat (48 + d)]⟩ := by
  have e : (IntKind.u64.wrap (48 + Int.tmod (u : Int) 10)) % 256 = ((48 + d : Nat) : Int) := by
    rw [Int.tmod_eq_emod_of_nonneg (by omega), u64_nonneg (by omega) (by omega)]
    omega
  rw [e]
  simp only [strOfNums, List.map_cons, List.map_nil]
  congr 1
theorem dec_step (u : Nat) (h : ¬ u < 10) : Lib.decDigits u = Lib.decDigits (u / 10) ++ [UInt8.ofNat (48 + u % 10)] := by
  rw [Lib.decDigits, dif_neg h]
theorem digits_end (n : Int) (s : ByteArray) (k : Nat) (hs : s.toList ≠ []) (hz : s.size ≤ 100) : espalierref14_digits.l0 (k + 1) n 0 s = some (signed n s) := by
  rw [espalierref14_digits.l0.eq_2, if_neg (by omega), if_neg hs]
  unfold signed
  by_cases hn : n < 0
  · rw [if_pos hn, if_pos hn, if_pos (by omega)]
  · rw [if_neg hn, if_neg hn]
theorem cons_str (b : UInt8) (s : ByteArray) : (⟨#[b]⟩ : ByteArray) ++ s = ⟨(b :: s.data.toList).toArray⟩ := by
  apply ByteArray.ext
  rw [ByteArray.data_append]
  apply Array.toList_inj.mp
  simp
theorem app_str (l : List UInt8) (b : UInt8) (s : ByteArray) : (⟨(l ++ [b]).toArray⟩ : ByteArray) ++ s = (⟨l.toArray⟩ : ByteArray) ++ ((⟨#[b]⟩ : ByteArray) ++ s) := by
  apply ByteArray.ext
  simp only [ByteArray.data_append]
  apply Array.toList_inj.mp
  simp
theorem digits_loop (n : Int) : ∀ (f u k : Nat) (s : ByteArray), 0 < u → u < 10 ^ f → u ≤ 18446744073709551615 → s.size + f ≤ 60 → f + 1 ≤ k →
    espalierref14_digits.l0 k n (u : Int) s = some (signed n ((⟨(Lib.decDigits u).toArray⟩ : ByteArray) ++ s)) := by
  intro f
  induction f with
  | zero => intro u k s h0 h1; omega
  | succ f ih =>
    intro u k s h0 h1 h2 h3 h4
    obtain ⟨k, rfl⟩ : ∃ j, k = j + 1 := ⟨k - 1, by omega⟩
    have hd := digit_str (u % 10) (by omega) u rfl
    have hq : IntKind.u64.wrap (Int.tdiv (u : Int) 10) = ((u / 10 : Nat) : Int) := by
      rw [Int.tdiv_eq_ediv_of_nonneg (by omega), u64_nonneg (by omega) (by omega)]; omega
    have hsz : ∀ b : UInt8, ((⟨#[b]⟩ : ByteArray) ++ s).size = 1 + s.size := fun b => by rw [ByteArray.size_append]; rfl
    rw [espalierref14_digits.l0.eq_2, if_pos (by omega)]
    simp only [Option.bind_some]
    rw [hd, hq, if_pos (by show (⟨#[UInt8.ofNat (48 + u % 10)]⟩ : ByteArray).size + s.size ≤ _; rw [show (⟨#[UInt8.ofNat (48 + u % 10)]⟩ : ByteArray).size = 1 from rfl]; omega)]
    by_cases hu : u < 10
    · obtain ⟨k, rfl⟩ : ∃ j, k = j + 1 := ⟨k - 1, by omega⟩
      rw [show u / 10 = 0 by omega, Lib.decDigits_one hu, show u % 10 = u by omega]
      refine (digits_end n _ k ?_ ?_).trans rfl
      · rw [cons_str]; simp
      · rw [hsz]; omega
    · rw [dec_step u hu, app_str]
      have h10 : u / 10 < 10 ^ f := by rw [Nat.pow_succ] at h1; omega
      exact ih (u / 10) k _ (by omega) h10 (by omega) (by rw [hsz]; omega) (by omega)
theorem append_nil (s : ByteArray) : s ++ (⟨#[]⟩ : ByteArray) = s := by
  apply ByteArray.ext
  rw [ByteArray.data_append]
  simp
theorem digits_u (n : Int) (u k : Nat) (hu : u ≤ 18446744073709551615) (hk : 22 ≤ k) : espalierref14_digits.l0 k n (u : Int) ⟨#[]⟩ = some (signed n ⟨(Lib.decDigits u).toArray⟩) := by
  by_cases h0 : 0 < u
  · have := digits_loop n 20 u k ⟨#[]⟩ h0 (by have : (10 : Nat) ^ 20 = 100000000000000000000 := by decide
                                              omega) hu (by decide) (by omega)
    rw [append_nil] at this
    exact this
  · obtain rfl : u = 0 := by omega
    obtain ⟨k, rfl⟩ : ∃ j, k = j + 2 := ⟨k - 2, by omega⟩
    rw [espalierref14_digits.l0.eq_2, if_neg (by decide), if_pos (by decide +kernel)]
    simp only [Option.bind_some]
    have hd := digit_str 0 (by omega) 0 rfl
    rw [hd, if_pos (by decide), show IntKind.u64.wrap (Int.tdiv ((0 : Nat) : Int) 10) = 0 from by decide, append_nil]
    refine (digits_end n _ k (by decide +kernel) (by decide)).trans ?_
    rw [Lib.decDigits_one (by omega)]
theorem digits_eq (k : Nat) (n : Int) (h0 : -9223372036854775808 ≤ n) (h1 : n ≤ 9223372036854775807) (hk : 30 ≤ k) : espalierref14_digits.f k n = some ⟨(Lib.itoa n).toArray⟩ := by
  obtain ⟨k, rfl⟩ : ∃ j, k = j + 1 := ⟨k - 1, by omega⟩
  unfold espalierref14_digits.f Lib.itoa
  by_cases hn : n < 0
  · rw [if_pos hn, if_pos hn, u64_neg hn (by omega), espalierref14_digits.j0.eq_2, show IntKind.u64.wrap (-(n + 18446744073709551616)) = (n.natAbs : Int) from by rw [u64_neg (by omega) (by omega)]; omega]
    rw [digits_u n n.natAbs k (by omega) (by omega)]
    unfold signed
    rw [if_pos hn, cons_str]
  · rw [if_neg hn, if_neg hn, u64_nonneg (by omega) (by omega), espalierref14_digits.j0.eq_2]
    rw [show n = ((n.toNat : Nat) : Int) from by omega, digits_u _ n.toNat k (by omega) (by omega)]
    unfold signed
    rw [if_neg (by omega), Int.toNat_natCast]
theorem Text_eq14 (k : Nat) (v : Val) (h : v.In) (hk : 30 ≤ k) (hc : 1 ≤ v.k ∧ v.k ≤ 4) : espalierref14_Text.f k v.k v.b v.n v.o v.s v.l = some (asTextV v) := by
  unfold espalierref14_Text.f asTextV
  by_cases h1 : v.k = 1
  · rw [if_pos h1, if_pos h1]
    cases v.b <;> rfl
  rw [if_neg h1, if_neg h1]
  by_cases h2 : v.k = 2
  · rw [if_pos h2, if_pos h2]
    by_cases ho : v.o = true
    · rw [if_pos ho, if_pos ho]
    · rw [if_neg ho, if_neg ho, digits_eq k v.n h.n0 h.n1 hk, Option.bind_some]
  rw [if_neg h2, if_neg h2]
  by_cases h3 : v.k = 3
  · rw [if_pos h3, if_pos h3]
  rw [if_neg h3, if_neg h3]
  unfold espalierref14_first.f firstV
  by_cases hl : v.l.length = 0
  · rw [if_pos (by omega), if_pos hl]; rfl
  · rw [if_neg (by omega), if_neg hl, if_pos (by omega)]; rfl
end Go.Proofs.YtnkjchcaonaifaaGreatDoor.PA
