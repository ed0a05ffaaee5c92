/- References by numbers in plain Lean: chars.numbered and the reference's number. -/
import Derived.Test.YtdmeafhhdhojlaaDoorPChars
import Derived.Test.YtdmeafhhdhojlaaDoorUParseInt
import Derived.Test.YtdmeafhhdhojlaaDoorPA4
import Derived.Test.YtdmeafhhdhojlaaDoorPA6
import Derived.Test.YtdmeafhhdhojlaaDoorPA2
namespace Go.Proofs.YtdmeafhhdhojlaaDoor.PA
open Go.RowKit Go.Proofs.YtdmeafhhdhojlaaDoorW.PrintWords Go.Proofs.YtdmeafhhdhojlaaDoorW.PrintLast Go.Proofs.YtdmeafhhdhojlaaDoorW.PrintMore
set_option linter.unusedVariables false
set_option linter.unusedSimpArgs false
theorem canB_range {r : Int} (h : canB r = true) : 9 ≤ r ∧ r ≤ 1114111 := by
  simp only [canB, decide_eq_true_eq] at h
  omega
theorem Bytes_eq (r : Int) (h : canB r = true) : espalierref02_Bytes.f r = some (Utf8.encode r) := by
  have h0 := canB_range h
  have hv : Utf8.valid r = true := by
    simp only [canB, decide_eq_true_eq] at h
    simp [Utf8.valid]
    omega
  have td : ∀ z : Int, 0 < z → Int.tdiv r z = r / z := fun z hz => Int.tdiv_eq_ediv_of_nonneg (by omega)
  have tm : ∀ x z : Int, 0 ≤ x → Int.tmod x z = x % z := fun x z hx => Int.tmod_eq_emod_of_nonneg hx
  unfold espalierref02_Bytes.f Utf8.encode
  simp only [hv, if_true]
  rw [td 64 (by omega), td 4096 (by omega), td 262144 (by omega)]
  rw [wrap_in (n := r / 64) (by omega) (by omega), wrap_in (n := r / 4096) (by omega) (by omega), wrap_in (n := r / 262144) (by omega) (by omega)]
  rw [tm r 64 (by omega), tm (r / 64) 64 (by omega), tm (r / 4096) 64 (by omega)]
  have w1 : ∀ x : Int, 0 ≤ x → x ≤ 2000000 → wrap64 x = x := fun x a b => wrap_in (by omega) (by omega)
  obtain ⟨n, rfl⟩ := Int.eq_ofNat_of_zero_le (show 0 ≤ r by omega)
  simp only [Int.toNat_natCast]
  have e1 : ∀ (x : Int) (m : Nat), x.toNat % 256 = m % 256 → UInt8.ofNat x.toNat = UInt8.ofNat m := fun x m hx => by
    apply UInt8.toNat_inj.mp
    simpa using hx
  by_cases c1 : n < 128
  · rw [if_pos (by omega), if_pos c1]
    refine congrArg some (ByteArray.ext ?_)
    simp only [strOfNums, List.map_cons, List.map_nil]
    rw [e1 _ n (by omega)]
  rw [if_neg (by omega), if_neg c1]
  by_cases c2 : n < 2048
  · rw [if_pos (by omega), if_pos c2]
    refine congrArg some (ByteArray.ext ?_)
    simp only [strOfNums, List.map_cons, List.map_nil]
    rw [w1 _ (by omega) (by omega), w1 _ (by omega) (by omega), e1 _ (192 + n / 64) (by omega), e1 _ (128 + n % 64) (by omega)]
  rw [if_neg (by omega), if_neg c2]
  by_cases c3 : n < 65536
  · rw [if_pos (by omega), if_pos c3]
    refine congrArg some (ByteArray.ext ?_)
    simp only [strOfNums, List.map_cons, List.map_nil]
    rw [w1 _ (by omega) (by omega), w1 _ (by omega) (by omega), w1 _ (by omega) (by omega), e1 _ (224 + n / 4096) (by omega), e1 _ (128 + n / 64 % 64) (by omega), e1 _ (128 + n % 64) (by omega)]
  rw [if_neg (by omega), if_neg c3]
  refine congrArg some (ByteArray.ext ?_)
  simp only [strOfNums, List.map_cons, List.map_nil]
  rw [w1 _ (by omega) (by omega), w1 _ (by omega) (by omega), w1 _ (by omega) (by omega), w1 _ (by omega) (by omega), e1 _ (240 + n / 262144) (by omega), e1 _ (128 + n / 4096 % 64) (by omega), e1 _ (128 + n / 64 % 64) (by omega), e1 _ (128 + n % 64) (by omega)]
/-- Where a run of digits ends that begins at a place, and is at most so long. -/
def runD (s : ByteArray) (b : Nat) : Nat → Nat → Nat
  | 0, i => i
  | f + 1, i => if i < s.size ∧ digOk b (s.get! i) = true then runD s b f (i + 1) else i
theorem digit_key10 : ∀ n : Fin 256, chars_digit.f ((n.val : Nat) : Int) 10 = some (decide ((48 ≤ n.val ∧ n.val ≤ 57) ∨ (10 = 16 ∧ ((97 ≤ n.val ∧ n.val ≤ 102) ∨ (65 ≤ n.val ∧ n.val ≤ 70))))) := by decide +kernel
theorem digit_key16 : ∀ n : Fin 256, chars_digit.f ((n.val : Nat) : Int) 16 = some (decide ((48 ≤ n.val ∧ n.val ≤ 57) ∨ (16 = 16 ∧ ((97 ≤ n.val ∧ n.val ≤ 102) ∨ (65 ≤ n.val ∧ n.val ≤ 70))))) := by decide +kernel
theorem digit_eq (b : Nat) (hb : b = 10 ∨ b = 16) (c : UInt8) : chars_digit.f (c.toNat : Int) (b : Int) = some (digOk b c) := by
  rcases hb with rfl | rfl
  · exact digit_key10 ⟨c.toNat, c.toNat_lt⟩
  · exact digit_key16 ⟨c.toNat, c.toNat_lt⟩
def dvN (n : Nat) : Nat := if n ≤ 57 then n - 48 else if 97 ≤ n then n - 87 else n - 55
theorem rdigit_key10 : ∀ n : Fin 256, espalierref02_digit.f 3 ((n.val : Nat) : Int) 10 = some (if ((48 ≤ n.val ∧ n.val ≤ 57) ∨ (10 = 16 ∧ ((97 ≤ n.val ∧ n.val ≤ 102) ∨ (65 ≤ n.val ∧ n.val ≤ 70)))) then (dvN n.val : Int) else -1) := by decide +kernel
theorem rdigit_key16 : ∀ n : Fin 256, espalierref02_digit.f 3 ((n.val : Nat) : Int) 16 = some (if ((48 ≤ n.val ∧ n.val ≤ 57) ∨ (16 = 16 ∧ ((97 ≤ n.val ∧ n.val ≤ 102) ∨ (65 ≤ n.val ∧ n.val ≤ 70)))) then (dvN n.val : Int) else -1) := by decide +kernel
theorem rdigit_eq (k : Nat) (hk : 3 ≤ k) (b : Nat) (hb : b = 10 ∨ b = 16) (c : UInt8) : espalierref02_digit.f k (c.toNat : Int) (b : Int) = some (if digOk b c = true then (digVal c : Int) else -1) := by
  refine at_rounds (g := fun k => espalierref02_digit.f k (c.toNat : Int) (b : Int)) (fun k => espalierref02_digit.mono _ _ k) hk ?_
  have hd : digVal c = dvN c.toNat := rfl
  simp only [digOk, decide_eq_true_eq, hd]
  rcases hb with rfl | rfl
  · exact rdigit_key10 ⟨c.toNat, c.toNat_lt⟩
  · exact rdigit_key16 ⟨c.toNat, c.toNat_lt⟩
theorem digVal_lt16 (b : Nat) (hb : b = 10 ∨ b = 16) (c : UInt8) (h : digOk b c = true) : digVal c < 16 := by
  have := digVal_lt b hb c h
  omega
/-- The bytes from a place to another one. -/
def seg (s : ByteArray) (a c : Nat) : List UInt8 := (s.extract a c).data.toList
theorem seg_eq (s : ByteArray) (a c : Nat) : seg s a c = (s.data.toList.drop a).take (c - a) := Lib.extract_data s a c
theorem seg_snoc (s : ByteArray) (a c : Nat) (h : a ≤ c) (hc : c < s.size) : seg s a (c + 1) = seg s a c ++ [s.get! c] := by
  rw [seg_eq, seg_eq, show c + 1 - a = (c - a) + 1 from by omega, List.take_succ_eq_append_getElem (by simp; omega)]
  congr 2
  rw [Utf8W.get!_of_lt s c hc]
  simp only [List.getElem_drop]
  have : a + (c - a) = c := by omega
  simp only [this]
  rfl
theorem seg_nil (s : ByteArray) (a : Nat) : seg s a a = [] := by rw [seg_eq]; simp
theorem seg_len (s : ByteArray) (a c : Nat) (h : a ≤ c) (hc : c ≤ s.size) : (seg s a c).length = c - a := by
  rw [seg_eq]; simp; omega
theorem runD_le (s : ByteArray) (b : Nat) : ∀ f i, i ≤ s.size → i ≤ runD s b f i ∧ runD s b f i ≤ s.size ∧ runD s b f i ≤ i + f := by
  intro f
  induction f with
  | zero => intro i h; simp only [runD]; omega
  | succ f ih =>
    intro i h
    simp only [runD]
    split
    · rename_i g
      have := ih (i + 1) (by omega)
      omega
    · omega
theorem runD_ok (s : ByteArray) (b : Nat) (a : Nat) : ∀ f i, a ≤ i → i ≤ s.size → (∀ c ∈ seg s a i, digOk b c = true) → ∀ c ∈ seg s a (runD s b f i), digOk b c = true := by
  intro f
  induction f with
  | zero => intro i _ _ h; exact h
  | succ f ih =>
    intro i h1 h2 h
    simp only [runD]
    split
    · rename_i g
      refine ih (i + 1) (by omega) (by omega) ?_
      rw [seg_snoc s a i h1 g.1]
      intro c hc
      rcases List.mem_append.mp hc with hc | hc
      · exact h c hc
      · rw [List.mem_singleton.mp hc]; exact g.2
    · exact h
/-- What is told of a reference by number: its number, its bytes, what is wrong. -/
def numRes (s : ByteArray) (b a m : Nat) : Int × Int × Int :=
  if m = s.size then (0, 0, 4) else if m = a ∨ s.get! m ≠ 59 then (0, 0, 20) else if canB (numVal b (seg s a m) : Int) = true then ((numVal b (seg s a m) : Int), ((m + 1 : Nat) : Int), 0) else (0, 0, 7)
def encR (x : Int × Int × Int) : ByteArray × Int × Int := if x.2.2 = 0 then (Utf8.encode x.1, x.2.1, 0) else (⟨#[]⟩, 0, x.2.2)
theorem byte59 (c : UInt8) : (c.toNat : Int) = 59 ↔ c = 59 := ⟨fun h => UInt8.toNat_inj.mp (by have : (59 : UInt8).toNat = 59 := rfl; omega), fun h => by rw [h]; rfl⟩
theorem num_end (k : Nat) (hk : 2 ≤ k) (s : ByteArray) (b a m : Nat) (hb : b = 10 ∨ b = 16) (ham : a ≤ m) (hm : m ≤ s.size) (hn : s.size ≤ 140737488355328) (h12 : m - a ≤ 12) (hd : ∀ c ∈ seg s a m, digOk b c = true) :
    chars_numbered.j1 k s a b m = some (encR (numRes s b a m)) := by
  obtain ⟨k, rfl⟩ : ∃ j, k = j + 2 := ⟨k - 2, by omega⟩
  simp only [chars_numbered.j1]
  unfold numRes
  by_cases e0 : m = s.size
  · rw [if_pos (by omega), if_pos e0]; rfl
  rw [if_neg (by omega), if_neg e0, if_pos (by omega), if_pos (by omega), bt_byte s m (by omega)]
  by_cases e1 : s.get! m = 59
  · rw [if_pos ((byte59 _).mpr e1)]
    by_cases e2 : m = a
    · rw [if_pos (by omega), if_pos (show m = a ∨ s.get! m ≠ 59 from .inl e2)]; rfl
    rw [if_neg (by omega), if_neg (show ¬ (m = a ∨ s.get! m ≠ 59) from fun h => h.elim e2 (fun h => h e1)), if_pos (by omega), if_pos (by omega), if_pos (by omega)]
    have hseg : (s.extract ((a : Int)).toNat ((m : Int)).toNat).data.toList = seg s a m := rfl
    have hsz : (s.extract ((a : Int)).toNat ((m : Int)).toNat).size = m - a := by rw [Lib.size_eq, hseg, seg_len s a m ham hm]
    have hP : strconv_ParseInt.f (s.extract ((a : Int)).toNat ((m : Int)).toNat) b 64 = some ((numVal b (seg s a m) : Int), none) := by
      unfold strconv_ParseInt.f
      rw [if_pos ⟨rfl, by omega, by omega, by omega, by rw [hseg]; exact hd⟩, hseg]
      rfl
    have hv := numVal_bound b hb (seg s a m) hd (by rw [seg_len s a m ham hm]; exact h12)
    rw [hP, Option.bind_some, canB_can, Option.bind_some]
    by_cases hc : canB (numVal b (seg s a m) : Int) = true
    · rw [if_pos hc, if_pos hc]
      have hr := canB_range hc
      have hw : wrap32 (numVal b (seg s a m) : Int) = (numVal b (seg s a m) : Int) := by unfold wrap32; omega
      rw [hw, wrap_in (by omega) (by omega)]
      rfl
    · rw [if_neg hc, if_neg hc]; rfl
  · rw [if_neg (fun h => e1 ((byte59 _).mp h)), if_pos (show m = a ∨ s.get! m ≠ 59 from .inr e1)]; rfl
theorem num_loop (s : ByteArray) (b a most : Nat) (hb : b = 10 ∨ b = 16) (hn : s.size ≤ 140737488355328) (h12 : most ≤ 12) : ∀ (f k i : Nat), a ≤ i → i ≤ s.size → i + f = a + most → f + 3 ≤ k → (∀ c ∈ seg s a i, digOk b c = true) →
    chars_numbered.l0 k s a b most i = some (encR (numRes s b a (runD s b f i))) := by
  intro f
  induction f with
  | zero =>
    intro k i h1 h2 h3 h4 h5
    obtain ⟨k, rfl⟩ : ∃ j, k = j + 1 := ⟨k - 1, by omega⟩
    have hE := num_end k (by omega) s b a i hb h1 h2 hn (by omega) h5
    simp only [chars_numbered.l0, runD]
    by_cases hi : i < s.size
    · rw [if_pos (by omega), wrap_in (by omega) (by omega), if_neg (by omega)]; exact hE
    · rw [if_neg (by omega)]; exact hE
  | succ f ih =>
    intro k i h1 h2 h3 h4 h5
    obtain ⟨k, rfl⟩ : ∃ j, k = j + 1 := ⟨k - 1, by omega⟩
    have hE := num_end k (by omega) s b a i hb h1 h2 hn (by omega) h5
    simp only [chars_numbered.l0, runD]
    by_cases hi : i < s.size
    · rw [if_pos (by omega), wrap_in (by omega) (by omega), if_pos (by omega), if_pos (by omega), bt_byte s i hi, digit_eq b hb, Option.bind_some]
      by_cases hd : digOk b (s.get! i) = true
      · rw [if_pos hd, if_pos ⟨hi, hd⟩, wrap_in (n := (i : Int) + 1) (by omega) (by omega)]
        refine ih k (i + 1) (by omega) (by omega) (by omega) (by omega) ?_
        rw [seg_snoc s a i h1 hi]
        intro c hc
        rcases List.mem_append.mp hc with hc | hc
        · exact h5 c hc
        · rw [List.mem_singleton.mp hc]; exact hd
      · rw [if_neg hd, if_neg (fun h => hd h.2)]; exact hE
    · rw [if_neg (by omega), if_neg (fun h => hi h.1)]; exact hE
theorem numbered_eq (s : ByteArray) (b a most : Nat) (hb : b = 10 ∨ b = 16) (hn : s.size ≤ 140737488355328) (h12 : most ≤ 12) (ha : a ≤ s.size) (k : Nat) (hk : most + 3 ≤ k) :
    chars_numbered.f k s a b most = some (encR (numRes s b a (runD s b most a))) := by
  unfold chars_numbered.f
  exact num_loop s b a most hb hn h12 most k a (by omega) ha (by omega) hk (by rw [seg_nil]; intro c hc; cases hc)
theorem rnum_end (k : Nat) (hk : 2 ≤ k) (s : ByteArray) (b a m : Nat) (ham : a ≤ m) (hm : m ≤ s.size) (hn : s.size ≤ 140737488355328) :
    espalierref02_number.j3 k s m a (numVal b (seg s a m)) = some (numRes s b a m) := by
  obtain ⟨k, rfl⟩ : ∃ j, k = j + 2 := ⟨k - 2, by omega⟩
  simp only [espalierref02_number.j3, espalierref02_number.j4]
  unfold numRes
  by_cases e0 : m = s.size
  · rw [if_pos (by omega), if_pos e0]
  rw [if_neg (by omega), if_neg e0]
  by_cases e2 : m = a
  · rw [if_pos (by omega), if_pos trivial, if_pos (show m = a ∨ s.get! m ≠ 59 from .inl e2)]
  rw [if_neg (by omega), if_pos (by omega), if_pos (by omega), bt_byte s m (by omega)]
  by_cases e1 : s.get! m = 59
  · rw [if_neg (by simp [(byte59 _).mpr e1]), if_neg (show ¬ (m = a ∨ s.get! m ≠ 59) from fun h => h.elim e2 (fun h => h e1)), canB_Char, Option.bind_some]
    by_cases hc : canB (numVal b (seg s a m) : Int) = true
    · rw [if_pos hc, if_pos hc, wrap_in (by omega) (by omega)]; rfl
    · rw [if_neg hc, if_neg hc]
  · rw [if_pos (by have := fun h => e1 ((byte59 _).mp h); simpa using this), if_pos (show m = a ∨ s.get! m ≠ 59 from .inr e1)]
theorem rnum_loop (s : ByteArray) (b a most : Nat) (hb : b = 10 ∨ b = 16) (hn : s.size ≤ 140737488355328) (h12 : most ≤ 12) : ∀ (f k i : Nat), a ≤ i → i ≤ s.size → i + f = a + most → f + 5 ≤ k → (∀ c ∈ seg s a i, digOk b c = true) →
    espalierref02_number.l0 k s i b most a (numVal b (seg s a i)) = some (numRes s b a (runD s b f i)) := by
  intro f
  induction f with
  | zero =>
    intro k i h1 h2 h3 h4 h5
    obtain ⟨k, rfl⟩ : ∃ j, k = j + 1 := ⟨k - 1, by omega⟩
    have hE := rnum_end k (by omega) s b a i h1 h2 hn
    simp only [espalierref02_number.l0, runD]
    by_cases hi : i < s.size
    · rw [if_pos (by omega), wrap_in (by omega) (by omega), if_neg (by omega)]; exact hE
    · rw [if_neg (by omega)]; exact hE
  | succ f ih =>
    intro k i h1 h2 h3 h4 h5
    obtain ⟨k, rfl⟩ : ∃ j, k = j + 1 := ⟨k - 1, by omega⟩
    have hE := rnum_end k (by omega) s b a i h1 h2 hn
    simp only [espalierref02_number.l0, runD]
    by_cases hi : i < s.size
    · rw [if_pos (by omega), wrap_in (n := (i : Int) - a) (by omega) (by omega), if_pos (by omega), if_pos (by omega), bt_byte s i hi, rdigit_eq k (by omega) b hb, Option.bind_some]
      by_cases hd : digOk b (s.get! i) = true
      · have hv := numVal_bound b hb (seg s a i) h5 (by rw [seg_len s a i h1 h2]; omega)
        have hdv := digVal_lt16 b hb _ hd
        rw [if_pos hd, if_pos (by omega), Option.bind_some, if_pos ⟨hi, hd⟩, wrap_in (n := (i : Int) + 1) (by omega) (by omega)]
        have hok : ∀ c ∈ seg s a (i + 1), digOk b c = true := by
          rw [seg_snoc s a i h1 hi]
          intro c hc
          rcases List.mem_append.mp hc with hc | hc
          · exact h5 c hc
          · rw [List.mem_singleton.mp hc]; exact hd
        have := ih k (i + 1) (by omega) (by omega) (by omega) (by omega) hok
        rw [seg_snoc s a i h1 hi, numVal_snoc] at this
        have e : wrap64 (wrap64 ((b : Int) * (numVal b (seg s a i) : Int)) + (digVal (s.get! i) : Int)) = ((b * numVal b (seg s a i) + digVal (s.get! i) : Nat) : Int) := by
          rcases hb with rfl | rfl
          · rw [wrap_in (n := ((10 : Nat) : Int) * _) (by omega) (by omega), wrap_in (by omega) (by omega)]; omega
          · rw [wrap_in (n := ((16 : Nat) : Int) * _) (by omega) (by omega), wrap_in (by omega) (by omega)]; omega
        rw [e]
        exact this
      · rw [if_neg hd, if_neg (by omega), if_neg (fun h => hd h.2)]; exact hE
    · rw [if_neg (by omega), if_neg (fun h => hi h.1)]; exact hE
/-- The two kinds of references by number. -/
def numOf (s : ByteArray) : Int × Int × Int := if 2 < s.size ∧ s.get! 2 = 120 then numRes s 16 3 (runD s 16 6 3) else numRes s 10 2 (runD s 10 7 2)
theorem byte120 (c : UInt8) : (c.toNat : Int) = 120 ↔ c = 120 := ⟨fun h => UInt8.toNat_inj.mp (by have : (120 : UInt8).toNat = 120 := rfl; omega), fun h => by rw [h]; rfl⟩
theorem rnumber_eq (s : ByteArray) (h2 : 2 ≤ s.size) (hn : s.size ≤ 140737488355328) (k : Nat) (hk : 16 ≤ k) : espalierref02_number.f k s = some (numOf s) := by
  obtain ⟨k, rfl⟩ : ∃ j, k = j + 16 := ⟨k - 16, by omega⟩
  have l16 := fun (h : 3 ≤ s.size) => rnum_loop s 16 3 6 (.inr rfl) hn (by omega) 6 (k + 14) 3 (by omega) h (by omega) (by omega) (by rw [seg_nil]; intro c hc; cases hc)
  have l10 := rnum_loop s 10 2 7 (.inl rfl) hn (by omega) 7 (k + 14) 2 (by omega) h2 (by omega) (by omega) (by rw [seg_nil]; intro c hc; cases hc)
  rw [seg_nil] at l16 l10
  unfold espalierref02_number.f numOf
  simp only [espalierref02_number.j0, espalierref02_number.j1]
  by_cases e : s.size > 2
  · have hb : bt s 2 = ((s.get! 2).toNat : Int) := bt_byte s 2 e
    rw [if_pos (by omega), if_pos (by omega), hb]
    by_cases e2 : s.get! 2 = 120
    · rw [if_pos (by simp [(byte120 _).mpr e2]), if_pos ⟨e, e2⟩]; exact l16 (by omega)
    · rw [if_neg (by have := fun h => e2 ((byte120 _).mp h); simpa using this), if_neg (fun h => e2 h.2)]; exact l10
  · rw [if_neg (by omega), if_neg (by simp), if_neg (fun h => e h.1)]; exact l10
end Go.Proofs.YtdmeafhhdhojlaaDoor.PA
