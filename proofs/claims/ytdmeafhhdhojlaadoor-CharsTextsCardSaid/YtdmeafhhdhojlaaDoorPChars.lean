/- Characters in plain Lean: what stands at a place of a text, by Go's decoder and by the reference; which texts can be. -/
import Derived.Test.YtdmeafhhdhojlaaDoorPB3
import Derived.Test.YtdmeafhhdhojlaaDoorPB3
import Derived.Lib.DecodeNEq
import Derived.Lib.LazyBuf
import Derived.Lib.RuneCountTail
namespace Go.Proofs.YtdmeafhhdhojlaaDoor.PB
open Go.RowKit Go.Proofs.YtdmeafhhdhojlaaDoorW.PrintWords Go.Proofs.YtdmeafhhdhojlaaDoorW.PrintLast Go.Proofs.YtdmeafhhdhojlaaDoorW.PrintMore
set_option linter.unusedVariables false
set_option linter.unusedSimpArgs false
/-- Whether a character can be. -/
def canB (r : Int) : Bool := decide (r = 9 ∨ r = 10 ∨ r = 13 ∨ (32 ≤ r ∧ r ≤ 55295) ∨ (57344 ≤ r ∧ r ≤ 65533) ∨ (65536 ≤ r ∧ r ≤ 1114111))
/-- The character that begins at a place, and its bytes; (0, 0): none that can be. -/
def chr (s : ByteArray) (i : Nat) : Nat × Nat :=
  if (Utf8.decode s i).1 = 65533 ∧ (Utf8.decode s i).2 = 1 then (0, 0) else if canB ((Utf8.decode s i).1 : Int) = true then Utf8.decode s i else (0, 0)
theorem wrap_in {n : Int} (h0 : -9223372036854775808 ≤ n) (h1 : n ≤ 9223372036854775807) : wrap64 n = n := by unfold wrap64; omega
theorem canB_can (k : Nat) (r : Int) : chars_can.f (k + 1) r = some (canB r) := by
  unfold chars_can.f canB
  simp only [chars_can.j0]
  by_cases h9 : r = 9
  · subst h9; simp
  by_cases h10 : r = 10
  · subst h10; simp
  by_cases h13 : r = 13
  · subst h13; simp
  simp only [h9, h10, h13, if_false, beq_iff_eq, false_or]
  repeat' split
  all_goals (simp only [Option.some.injEq]; first | (symm; rw [decide_eq_true_iff]; omega) | (symm; rw [decide_eq_false_iff_not]; omega) | (rw [decide_eq_decide]; omega))
theorem canB_Char (r : Int) : espalierref02_Char.f r = some (canB r) := by
  unfold espalierref02_Char.f canB
  repeat' split
  all_goals (simp only [Option.some.injEq]; first | (symm; rw [decide_eq_true_iff]; omega) | (symm; rw [decide_eq_false_iff_not]; omega) | (rw [decide_eq_decide]; omega))
theorem bt_byte (s : ByteArray) (i : Nat) (h : i < s.size) : bt s (i : Int) = ((s.get! i).toNat : Int) := by
  rw [Utf8W.get!_of_lt s i h]
  unfold bt
  rw [dif_pos (by simpa using h)]
  simp
theorem byte_lt (s : ByteArray) (i : Nat) : (s.get! i).toNat < 256 := (s.get! i).toNat_lt
theorem size_f (k : Nat) (c : Int) (h0 : 0 ≤ c) (h1 : c ≤ 255) : espalierref02_size.f (k + 2) c =
    some (if c < 128 then (1, c) else if c < 192 then (0, 0) else if c < 224 then (2, c - 192) else if c < 240 then (3, c - 224) else if c < 248 then (4, c - 240) else (0, 0)) := by
  have w0 : wrap64 c = c := wrap_in (by omega) (by omega)
  have w1 : ∀ z : Int, 0 ≤ z → z ≤ 300 → wrap64 (c - z) = c - z := fun z _ _ => wrap_in (by omega) (by omega)
  unfold espalierref02_size.f
  simp only [espalierref02_size.j0, espalierref02_size.j1, w0, w1 192 (by omega) (by omega), w1 224 (by omega) (by omega), w1 240 (by omega) (by omega)]
  simp only [decide_eq_true_eq, if_false, Bool.false_eq_true]
  repeat' split
  all_goals first | rfl | omega
theorem Bytes_size (r : Int) (h0 : 0 ≤ r) : ∃ b, espalierref02_Bytes.f r = some b ∧ (b.size : Int) = if r < 128 then 1 else if r < 2048 then 2 else if r < 65536 then 3 else 4 := by
  unfold espalierref02_Bytes.f
  repeat' split
  all_goals exact ⟨_, rfl, by rw [strOfNums_size]; simp⟩
/-- What the reference says at the end of a character's bytes. -/
theorem At_end (k : Nat) (s : ByteArray) (x1 n r j : Int) (hr : 0 ≤ r) (hj : ¬ j < n) : espalierref02_At.l0 (k + 1) s x1 n r j =
    some (if canB r = true ∧ (if r < 128 then 1 else if r < 2048 then 2 else if r < 65536 then 3 else 4) = n then (r, n) else (0, 0)) := by
  obtain ⟨b, hb, hs⟩ := Bytes_size r hr
  simp only [espalierref02_At.l0]
  rw [if_neg hj, canB_Char, hb]
  simp only [Option.bind_some, hs]
  cases canB r
  · simp
  · simp only [true_and, if_true]
    by_cases e : (if r < 128 then (1 : Int) else if r < 2048 then 2 else if r < 65536 then 3 else 4) = n
    · rw [if_pos e, if_pos e]
    · rw [if_neg e, if_neg e]
theorem At_step (k : Nat) (s : ByteArray) (i : Nat) (n r : Int) (j : Nat) (hj : (j : Int) < n) (hi : i + j < s.size) (hn : s.size ≤ 140737488355328) (hr : 0 ≤ r) (hr2 : r ≤ 16777216) :
    espalierref02_At.l0 (k + 1) s i n r j = if (s.get! (i + j)).toNat < 128 ∨ 192 ≤ (s.get! (i + j)).toNat then some (0, 0) else espalierref02_At.l0 k s i n (64 * r + (s.get! (i + j)).toNat - 128) ((j + 1 : Nat) : Int) := by
  have hb := byte_lt s (i + j)
  have w0 : wrap64 ((i : Int) + j) = ((i + j : Nat) : Int) := by rw [wrap_in (by omega) (by omega)]; omega
  simp only [espalierref02_At.l0]
  rw [if_pos hj, w0, if_pos (by omega), if_pos (by omega), bt_byte s (i + j) hi]
  generalize (s.get! (i + j)).toNat = b at *
  rw [wrap_in (n := 64 * r) (by omega) (by omega), wrap_in (n := (b : Int)) (by omega) (by omega), wrap_in (n := 64 * r + (b : Int)) (by omega) (by omega), wrap_in (n := 64 * r + (b : Int) - 128) (by omega) (by omega), wrap_in (n := (j : Int) + 1) (by omega) (by omega)]
  by_cases h1 : (b : Int) < 128
  · rw [if_pos h1, if_pos (by omega)]
  · by_cases h2 : (b : Int) ≥ 192
    · rw [if_neg h1, if_pos h2, if_pos (by omega)]
    · rw [if_neg h1, if_neg h2, if_neg (by omega)]; rfl
/-- A character in the form of the two numbers. -/
def chrOf (d : Nat × Nat) : Nat × Nat := if d.1 = 65533 ∧ d.2 = 1 then (0, 0) else if canB (d.1 : Int) = true then d else (0, 0)
theorem chr_eq (s : ByteArray) (i : Nat) : chr s i = chrOf (Lib.decodeN (s.size - i) (s.get! i).toNat (s.get! (i + 1)).toNat (s.get! (i + 2)).toNat (s.get! (i + 3)).toNat) := by
  unfold chr
  rw [Lib.decode_at]
  rfl
def sizeR (r : Int) : Int := if r < 128 then 1 else if r < 2048 then 2 else if r < 65536 then 3 else 4
theorem chrOf_wide (v w : Nat) (hw : 2 ≤ w) : chrOf (v, w) = if canB (v : Int) = true then (v, w) else (0, 0) := by
  unfold chrOf
  rw [if_neg (fun h => by have h2 : w = 1 := h.2; omega)]
theorem fin_ (v w : Nat) (c : Prop) [Decidable c] (h1 : c → sizeR v = w) (h2 : ¬ c → ¬ (canB (v : Int) = true ∧ sizeR v = w)) (hw : 2 ≤ w) :
    (if canB (v : Int) = true ∧ sizeR v = (w : Int) then some ((v : Int), (w : Int)) else some (0, 0)) = some (((chrOf (if c then (v, w) else (65533, 1))).1 : Int), ((chrOf (if c then (v, w) else (65533, 1))).2 : Int)) := by
  by_cases hc : c
  · rw [if_pos hc, chrOf_wide v w hw]
    have e := h1 hc
    by_cases hb : canB (v : Int) = true
    · rw [if_pos ⟨hb, e⟩, if_pos hb]
    · rw [if_neg (fun h => hb h.1), if_neg hb]; rfl
  · rw [if_neg hc, if_neg (h2 hc)]; rfl
theorem At_open (k : Nat) (s : ByteArray) (i : Nat) (hi : i < s.size) (hn : s.size ≤ 140737488355328) (n r : Int) (hs : espalierref02_size.f (k + 1) (bt s i) = some (n, r)) (h0 : 0 ≤ n) (h4 : n ≤ 4) :
    espalierref02_At.f (k + 1) s i = if n = 0 ∨ (s.size : Int) < i + n then some (0, 0) else espalierref02_At.l0 k s i n r 1 := by
  unfold espalierref02_At.f
  rw [if_pos (by omega), if_pos (by omega), hs]
  simp only [Option.bind_some, espalierref02_At.j0]
  rw [wrap_in (n := (i : Int) + n) (by omega) (by omega)]
  by_cases e0 : n = 0
  · simp [e0]
  · by_cases e1 : (s.size : Int) < i + n
    · have : (i : Int) + n > s.size := e1
      simp [e0, e1]
    · have : ¬ (i : Int) + n > s.size := e1
      simp [e0, e1]
theorem At_end' (K : Nat) (s : ByteArray) (x1 : Int) (n : Int) (w v : Nat) (r j : Int) (hK : 0 < K) (hn : n = (w : Int)) (hr : r = (v : Int)) (hj : ¬ j < (w : Int)) : espalierref02_At.l0 K s x1 n r j =
    if canB (v : Int) = true ∧ sizeR v = (w : Int) then some ((v : Int), (w : Int)) else some (0, 0) := by
  subst hr hn
  obtain ⟨k, rfl⟩ : ∃ k, K = k + 1 := ⟨K - 1, by omega⟩
  rw [At_end k s x1 w v j (by omega) hj]
  exact apply_ite some _ _ _
theorem At_step' (K k : Nat) (s : ByteArray) (i : Nat) (n r : Int) (j j1 : Int) (jn : Nat) (hK : K = k + 1) (hj0 : j = (jn : Int)) (hj1 : j1 = ((jn + 1 : Nat) : Int)) (hj : (jn : Int) < n) (hi : i + jn < s.size) (hn : s.size ≤ 140737488355328) (hr : 0 ≤ r) (hr2 : r ≤ 16777216) :
    espalierref02_At.l0 K s i n r j = if (s.get! (i + jn)).toNat < 128 ∨ 192 ≤ (s.get! (i + jn)).toNat then some (0, 0) else espalierref02_At.l0 k s i n (64 * r + (s.get! (i + jn)).toNat - 128) j1 := by
  subst hK hj0 hj1
  exact At_step k s i n r jn hj hi hn hr hr2
set_option maxHeartbeats 2000000 in
/-- THE REFERENCE's At. -/
theorem ref_at (k : Nat) (s : ByteArray) (i : Nat) (hi : i < s.size) (hn : s.size ≤ 140737488355328) :
    espalierref02_At.f (k + 6) s i = some (((chr s i).1 : Int), ((chr s i).2 : Int)) := by
  rw [chr_eq]
  have hb0 := byte_lt s i
  have hb1 := byte_lt s (i + 1)
  have hb2 := byte_lt s (i + 2)
  have hb3 := byte_lt s (i + 3)
  have op := fun n r => At_open (k + 5) s i hi hn n r
  rw [bt_byte s i hi, size_f (k + 4) _ (by omega) (by omega)] at op
  have step1 := fun n r => At_step' (k + 5) (k + 4) s i n r 1 2 1 rfl rfl rfl
  have step2 := fun n r => At_step' (k + 4) (k + 3) s i n r 2 3 2 rfl rfl rfl
  have step3 := fun n r => At_step' (k + 3) (k + 2) s i n r 3 4 3 rfl rfl rfl
  generalize (s.get! i).toNat = b0 at *
  generalize (s.get! (i + 1)).toNat = b1 at *
  generalize (s.get! (i + 2)).toNat = b2 at *
  generalize (s.get! (i + 3)).toNat = b3 at *
  by_cases c1 : b0 < 128
  · rw [op 1 b0 (by rw [if_pos (by omega)]) (by omega) (by omega), if_neg (by omega), At_end' _ s i 1 1 b0 b0 _ (by omega) rfl rfl (by omega)]
    have hd : Lib.decodeN (s.size - i) b0 b1 b2 b3 = (b0, 1) := by unfold Lib.decodeN; rw [if_pos c1]
    have hs : sizeR (b0 : Int) = ((1 : Nat) : Int) := by unfold sizeR; rw [if_pos (by omega)]; rfl
    rw [hd]
    unfold chrOf
    simp only [hs, and_true]
    rw [if_neg (c := b0 = 65533) (by omega)]
    by_cases hb : canB (b0 : Int) = true
    · rw [if_pos hb, if_pos hb]
    · rw [if_neg hb, if_neg hb]; rfl
  by_cases c2 : b0 < 192
  · rw [op 0 0 (by rw [if_neg (by omega), if_pos (by omega)]) (by omega) (by omega), if_pos (by omega)]
    have hd : Lib.decodeN (s.size - i) b0 b1 b2 b3 = (65533, 1) := by unfold Lib.decodeN; rw [if_neg c1, if_neg (by omega), if_neg (by omega), if_neg (by omega)]
    rw [hd]; rfl
  by_cases c3 : b0 < 224
  · rw [op 2 (b0 - 192) (by rw [if_neg (by omega), if_neg (by omega), if_pos (by omega)]) (by omega) (by omega)]
    by_cases g : s.size < i + 2
    · rw [if_pos (by omega)]
      have hd : Lib.decodeN (s.size - i) b0 b1 b2 b3 = (65533, 1) := by unfold Lib.decodeN; rw [if_neg c1, if_neg (by omega), if_neg (by omega), if_neg (by omega)]
      rw [hd]; rfl
    rw [if_neg (by omega), step1 2 (b0 - 192) (by omega) (by omega) hn (by omega) (by omega)]
    by_cases g1 : b1 < 128 ∨ 192 ≤ b1
    · rw [if_pos g1]
      have hd : Lib.decodeN (s.size - i) b0 b1 b2 b3 = (65533, 1) := by unfold Lib.decodeN; rw [if_neg c1, if_neg (by omega), if_neg (by omega), if_neg (by omega)]
      rw [hd]; rfl
    rw [if_neg g1, At_end' _ s i 2 2 (b0 % 32 * 64 + b1 % 64) _ _ (by omega) rfl (by omega) (by omega)]
    have hd : Lib.decodeN (s.size - i) b0 b1 b2 b3 = if b0 % 32 * 64 + b1 % 64 ≥ 128 then (b0 % 32 * 64 + b1 % 64, 2) else (65533, 1) := by unfold Lib.decodeN; rw [if_neg c1, if_pos (by omega)]
    rw [hd]
    refine fin_ _ 2 _ (fun h => ?_) (fun h => ?_) (by omega)
    · unfold sizeR; rw [if_neg (by omega), if_pos (by omega)]; rfl
    · rintro ⟨_, h2⟩; unfold sizeR at h2; rw [if_pos (by omega)] at h2; omega
  by_cases c4 : b0 < 240
  · rw [op 3 (b0 - 224) (by rw [if_neg (by omega), if_neg (by omega), if_neg (by omega), if_pos (by omega)]) (by omega) (by omega)]
    by_cases g : s.size < i + 3
    · rw [if_pos (by omega)]
      have hd : Lib.decodeN (s.size - i) b0 b1 b2 b3 = (65533, 1) := by unfold Lib.decodeN; rw [if_neg c1, if_neg (by omega), if_neg (by omega), if_neg (by omega)]
      rw [hd]; rfl
    rw [if_neg (by omega), step1 3 (b0 - 224) (by omega) (by omega) hn (by omega) (by omega)]
    by_cases g1 : b1 < 128 ∨ 192 ≤ b1
    · rw [if_pos g1]
      have hd : Lib.decodeN (s.size - i) b0 b1 b2 b3 = (65533, 1) := by unfold Lib.decodeN; rw [if_neg c1, if_neg (by omega), if_neg (by omega), if_neg (by omega)]
      rw [hd]; rfl
    rw [if_neg g1, step2 3 _ (by omega) (by omega) hn (by omega) (by omega)]
    by_cases g2 : b2 < 128 ∨ 192 ≤ b2
    · rw [if_pos g2]
      have hd : Lib.decodeN (s.size - i) b0 b1 b2 b3 = (65533, 1) := by unfold Lib.decodeN; rw [if_neg c1, if_neg (by omega), if_neg (by omega), if_neg (by omega)]
      rw [hd]; rfl
    rw [if_neg g2, At_end' _ s i 3 3 (b0 % 16 * 4096 + b1 % 64 * 64 + b2 % 64) _ _ (by omega) rfl (by omega) (by omega)]
    have hd : Lib.decodeN (s.size - i) b0 b1 b2 b3 = if b0 % 16 * 4096 + b1 % 64 * 64 + b2 % 64 ≥ 2048 ∧ (b0 % 16 * 4096 + b1 % 64 * 64 + b2 % 64 < 55296 ∨ (57344 ≤ b0 % 16 * 4096 + b1 % 64 * 64 + b2 % 64 ∧ b0 % 16 * 4096 + b1 % 64 * 64 + b2 % 64 ≤ 1114111)) then (b0 % 16 * 4096 + b1 % 64 * 64 + b2 % 64, 3) else (65533, 1) := by unfold Lib.decodeN; rw [if_neg c1, if_neg (by omega), if_pos (by omega)]
    rw [hd]
    refine fin_ _ 3 _ (fun h => ?_) (fun h => ?_) (by omega)
    · unfold sizeR; rw [if_neg (by omega), if_neg (by omega), if_pos (by omega)]; rfl
    · rintro ⟨h1, h2⟩
      unfold sizeR at h2
      simp only [canB, decide_eq_true_eq] at h1
      generalize b0 % 16 * 4096 + b1 % 64 * 64 + b2 % 64 = v at *
      by_cases q1 : (v : Int) < 128
      · rw [if_pos q1] at h2; omega
      by_cases q2 : (v : Int) < 2048
      · rw [if_neg q1, if_pos q2] at h2; omega
      · omega
  by_cases c5 : b0 < 248
  · rw [op 4 (b0 - 240) (by rw [if_neg (by omega), if_neg (by omega), if_neg (by omega), if_neg (by omega), if_pos (by omega)]) (by omega) (by omega)]
    by_cases g : s.size < i + 4
    · rw [if_pos (by omega)]
      have hd : Lib.decodeN (s.size - i) b0 b1 b2 b3 = (65533, 1) := by unfold Lib.decodeN; rw [if_neg c1, if_neg (by omega), if_neg (by omega), if_neg (by omega)]
      rw [hd]; rfl
    rw [if_neg (by omega), step1 4 (b0 - 240) (by omega) (by omega) hn (by omega) (by omega)]
    by_cases g1 : b1 < 128 ∨ 192 ≤ b1
    · rw [if_pos g1]
      have hd : Lib.decodeN (s.size - i) b0 b1 b2 b3 = (65533, 1) := by unfold Lib.decodeN; rw [if_neg c1, if_neg (by omega), if_neg (by omega), if_neg (by omega)]
      rw [hd]; rfl
    rw [if_neg g1, step2 4 _ (by omega) (by omega) hn (by omega) (by omega)]
    by_cases g2 : b2 < 128 ∨ 192 ≤ b2
    · rw [if_pos g2]
      have hd : Lib.decodeN (s.size - i) b0 b1 b2 b3 = (65533, 1) := by unfold Lib.decodeN; rw [if_neg c1, if_neg (by omega), if_neg (by omega), if_neg (by omega)]
      rw [hd]; rfl
    rw [if_neg g2, step3 4 _ (by omega) (by omega) hn (by omega) (by omega)]
    by_cases g3 : b3 < 128 ∨ 192 ≤ b3
    · rw [if_pos g3]
      have hd : Lib.decodeN (s.size - i) b0 b1 b2 b3 = (65533, 1) := by unfold Lib.decodeN; rw [if_neg c1, if_neg (by omega), if_neg (by omega), if_neg (by omega)]
      rw [hd]; rfl
    rw [if_neg g3, At_end' _ s i 4 4 (b0 % 8 * 262144 + b1 % 64 * 4096 + b2 % 64 * 64 + b3 % 64) _ _ (by omega) rfl (by omega) (by omega)]
    have hd : Lib.decodeN (s.size - i) b0 b1 b2 b3 = if b0 % 8 * 262144 + b1 % 64 * 4096 + b2 % 64 * 64 + b3 % 64 ≥ 65536 ∧ (b0 % 8 * 262144 + b1 % 64 * 4096 + b2 % 64 * 64 + b3 % 64 < 55296 ∨ (57344 ≤ b0 % 8 * 262144 + b1 % 64 * 4096 + b2 % 64 * 64 + b3 % 64 ∧ b0 % 8 * 262144 + b1 % 64 * 4096 + b2 % 64 * 64 + b3 % 64 ≤ 1114111)) then (b0 % 8 * 262144 + b1 % 64 * 4096 + b2 % 64 * 64 + b3 % 64, 4) else (65533, 1) := by unfold Lib.decodeN; rw [if_neg c1, if_neg (by omega), if_neg (by omega), if_pos (by omega)]
    rw [hd]
    refine fin_ _ 4 _ (fun h => ?_) (fun h => ?_) (by omega)
    · unfold sizeR; rw [if_neg (by omega), if_neg (by omega), if_neg (by omega)]; rfl
    · rintro ⟨h1, h2⟩
      unfold sizeR at h2
      simp only [canB, decide_eq_true_eq] at h1
      generalize b0 % 8 * 262144 + b1 % 64 * 4096 + b2 % 64 * 64 + b3 % 64 = v at *
      by_cases q1 : (v : Int) < 128
      · rw [if_pos q1] at h2; omega
      by_cases q2 : (v : Int) < 2048
      · rw [if_neg q1, if_pos q2] at h2; omega
      by_cases q3 : (v : Int) < 65536
      · rw [if_neg q1, if_neg q2, if_pos q3] at h2; omega
      · omega
  · rw [op 0 0 (by rw [if_neg (by omega), if_neg (by omega), if_neg (by omega), if_neg (by omega), if_neg (by omega)]) (by omega) (by omega), if_pos (by omega)]
    have hd : Lib.decodeN (s.size - i) b0 b1 b2 b3 = (65533, 1) := by unfold Lib.decodeN; rw [if_neg c1, if_neg (by omega), if_neg (by omega), if_neg (by omega)]
    rw [hd]; rfl
/-- Its bytes lie in the text. -/
theorem chr_le (s : ByteArray) (i : Nat) (h : i < s.size) : i + (chr s i).2 ≤ s.size ∧ (chr s i).2 ≤ 4 := by
  rw [chr_eq]
  generalize (s.get! i).toNat = b0
  generalize (s.get! (i + 1)).toNat = b1
  generalize (s.get! (i + 2)).toNat = b2
  generalize (s.get! (i + 3)).toNat = b3
  have hw : (Lib.decodeN (s.size - i) b0 b1 b2 b3).2 ≤ s.size - i ∧ (Lib.decodeN (s.size - i) b0 b1 b2 b3).2 ≤ 4 := by
    unfold Lib.decodeN
    repeat' split
    all_goals (simp only; omega)
  unfold chrOf
  repeat' split
  all_goals first | omega | (simp only; omega)
theorem decode_pos (s : ByteArray) (i : Nat) : (Utf8.decode s i).2 ≠ 0 := by
  rw [Lib.decode_at]
  unfold Lib.decodeN
  repeat' split
  all_goals (simp only; omega)
theorem decode_big (s : ByteArray) (i : Nat) : (Utf8.decode s i).1 ≤ 1114111 := by
  rw [Lib.decode_at]
  have := byte_lt s i
  unfold Lib.decodeN
  repeat' split
  all_goals (simp only; omega)
/-- chars.first: the character with which a text begins. -/
theorem first_eq (k : Nat) (s : ByteArray) (h : 0 < s.size) : chars_first.f (k + 1) s = some (if (chr s 0).2 = 0 then (0, 0, 7) else (((chr s 0).1 : Int), ((chr s 0).2 : Int), 0)) := by
  have hp := decode_pos s 0
  have hbg := decode_big s 0
  have hd : Lib.decodeGo s = Utf8.decode s 0 := by unfold Lib.decodeGo; rw [if_neg (by omega)]
  unfold chars_first.f utf8_DecodeRuneInString.f
  rw [hd]
  unfold chr
  generalize Utf8.decode s 0 = d at *
  obtain ⟨r, n⟩ := d
  simp only [Option.bind_some] at *
  rw [wrap_in (n := (r : Int)) (by omega) (by omega), canB_can]
  simp only [Option.bind_some]
  rw [if_neg (show ¬ (n : Int) = 0 by omega)]
  by_cases hb : canB (r : Int) = true
  · by_cases e : r = 65533
    · subst e
      by_cases e2 : n = 1
      · subst e2; simp
      · have : ¬ (n : Int) = 1 := by omega
        simp [this, e2, (show canB 65533 = true by decide), hp]
    · have : ¬ (r : Int) = 65533 := by omega
      simp [this, e, hb, hp]
  · by_cases e : r = 65533
    · subst e
      exact absurd (by decide) hb
    · have : ¬ (r : Int) = 65533 := by omega
      simp [this, e, hb]
theorem first_none (k : Nat) (s : ByteArray) (h : s.size = 0) : chars_first.f k s = some (0, 0, 4) := by
  unfold chars_first.f utf8_DecodeRuneInString.f Lib.decodeGo
  rw [if_pos h]
  rfl
theorem get_extract (s : ByteArray) (i j : Nat) : (s.extract i s.size).get! j = s.get! (i + j) := Lib.tail_get! s i j
theorem chr_extract (s : ByteArray) (i : Nat) (h : i ≤ s.size) : chr (s.extract i s.size) 0 = chr s i := by
  rw [chr_eq, chr_eq, get_extract, get_extract, get_extract, get_extract]
  congr 2
  simp
/-- The first place at which no character that can be begins. -/
def scanT (s : ByteArray) : Nat → Nat → Option Nat
  | 0, _ => none
  | f + 1, i => if i < s.size then (if (chr s i).2 = 0 then some i else scanT s f (i + (chr s i).2)) else none
def scanR : Option Nat → Int × Int
  | none => (0, 0)
  | some j => ((j : Int), 7)
/-- Whether a text can be; else the place, and the error. -/
def textR (s : ByteArray) : Int × Int := if s.size > 16384 then (0, 2) else scanR (scanT s s.size 0)
theorem text_loop (s : ByteArray) (hn : s.size ≤ 140737488355328) : ∀ (f k i : Nat), i ≤ s.size → s.size - i ≤ f → f + 2 ≤ k → chars_text.l0 k s i = some (scanR (scanT s f i)) := by
  intro f
  induction f with
  | zero =>
    intro k i h1 h2 h3
    obtain ⟨k, rfl⟩ : ∃ m, k = m + 1 := ⟨k - 1, by omega⟩
    simp only [chars_text.l0]
    rw [if_neg (by omega)]
    rfl
  | succ f ih =>
    intro k i h1 h2 h3
    obtain ⟨k, rfl⟩ : ∃ m, k = m + 2 := ⟨k - 2, by omega⟩
    simp only [chars_text.l0, scanT]
    by_cases hi : i < s.size
    · have hle := chr_le s i hi
      rw [if_pos (show (i : Int) < s.size by omega), if_pos (by omega), if_pos (by omega), if_pos hi]
      rw [show ((i : Int)).toNat = i from by omega, first_eq k _ (by simp; omega), chr_extract s i h1]
      by_cases e : (chr s i).2 = 0
      · rw [if_pos e, if_pos e]
        simp only [Option.bind_some]
        rw [if_neg (by omega)]
        rfl
      · rw [if_neg e, if_neg e, Option.bind_some, if_pos rfl]
        exact (congrArg (chars_text.l0 (k + 1) s) (show wrap64 ((i : Int) + ((chr s i).2 : Int)) = ((i + (chr s i).2 : Nat) : Int) by rw [wrap_in (by omega) (by omega)]; omega)).trans (ih (k + 1) (i + (chr s i).2) (by omega) (by omega) (by omega))
    · rw [if_neg (show ¬ (i : Int) < s.size by omega), if_neg hi]
      rfl
theorem bad_loop (s : ByteArray) (hn : s.size ≤ 140737488355328) : ∀ (f k i : Nat), i ≤ s.size → s.size - i ≤ f → f + 8 ≤ k → espalierref02_Bad.l0 k s i = some (scanR (scanT s f i)) := by
  intro f
  induction f with
  | zero =>
    intro k i h1 h2 h3
    obtain ⟨k, rfl⟩ : ∃ m, k = m + 1 := ⟨k - 1, by omega⟩
    simp only [espalierref02_Bad.l0]
    rw [if_neg (by omega)]
    rfl
  | succ f ih =>
    intro k i h1 h2 h3
    obtain ⟨k, rfl⟩ : ∃ m, k = m + 7 := ⟨k - 7, by omega⟩
    simp only [espalierref02_Bad.l0, scanT]
    by_cases hi : i < s.size
    · have hle := chr_le s i hi
      rw [if_pos (show (i : Int) < s.size by omega), ref_at k s i hi hn, if_pos hi]
      by_cases e : (chr s i).2 = 0
      · simp [e, scanR]
      · simp only [e, if_false, Option.bind_some]
        rw [if_neg (by omega), wrap_in (n := (i : Int) + _) (by omega) (by omega)]
        have := ih (k + 6) (i + (chr s i).2) (by omega) (by omega) (by omega)
        rw [show (((i + (chr s i).2 : Nat)) : Int) = (i : Int) + ((chr s i).2 : Int) from by omega] at this
        exact this
    · rw [if_neg (show ¬ (i : Int) < s.size by omega), if_neg hi]
      rfl
/-- chars.text, and the reference's Text. -/
theorem text_eq (s : ByteArray) (hn : s.size ≤ 140737488355328) (k : Nat) (hk : s.size + 2 ≤ k) : chars_text.f k s = some (textR s) := by
  unfold chars_text.f textR
  by_cases h : s.size > 16384
  · rw [if_pos (by omega), if_pos h]
  · rw [if_neg (by omega), if_neg h]
    exact text_loop s hn s.size k 0 (by omega) (by omega) hk
theorem rtext_eq (s : ByteArray) (hn : s.size ≤ 140737488355328) (k : Nat) (hk : s.size + 8 ≤ k) : espalierref02_Text.f k s = some (textR s) := by
  unfold espalierref02_Text.f textR
  by_cases h : s.size > 16384
  · rw [if_pos (by omega), if_pos h]
  · rw [if_neg (by omega), if_neg h]
    have := bad_loop s hn s.size k 0 (by omega) (by omega) hk
    unfold espalierref02_Bad.f
    rw [show ((0 : Nat) : Int) = 0 from rfl] at this
    rw [this]
    rfl
theorem textR_ok {s : ByteArray} (h : (textR s).2 = 0) : s.size ≤ 16384 ∧ scanT s s.size 0 = none ∧ (textR s).1 = 0 := by
  unfold textR at h ⊢
  by_cases g : s.size > 16384
  · rw [if_pos g] at h; simp at h
  · rw [if_neg g] at h ⊢
    refine ⟨by omega, ?_⟩
    cases e : scanT s s.size 0 with
    | none => exact ⟨rfl, rfl⟩
    | some j => rw [e] at h; simp [scanR] at h
theorem get_list (s : ByteArray) (i : Nat) : s.get! i = s.data.toList.getD i 0 := by
  by_cases h : i < s.size
  · rw [Utf8W.get!_of_lt s i h, List.getD_eq_getElem?_getD, List.getElem?_eq_getElem (by rw [← Lib.size_eq]; exact h)]
    rfl
  · have g : s.get! i = 0 := by
      show s.data[i]! = 0
      exact (getElem!_neg s.data i (show ¬ i < s.data.size from h)).trans rfl
    rw [g, List.getD_eq_getElem?_getD, List.getElem?_eq_none (by rw [← Lib.size_eq]; omega)]
    rfl
theorem toList_mk (l : List UInt8) : (⟨l.toArray⟩ : ByteArray).toList = l := by rw [Lib.toList_data]
def numsL (l : List UInt8) : List Int := l.map fun b => (b.toNat : Int)
theorem bytesOf_eq (s : ByteArray) : bytesOf s = numsL s.data.toList := rfl
theorem numsL_app (a b : List UInt8) : numsL (a ++ b) = numsL a ++ numsL b := by simp [numsL]
theorem numsL_len (a : List UInt8) : (numsL a).length = a.length := by simp [numsL]
theorem str_numsL (l : List UInt8) : strOfNums (numsL l) = ⟨l.toArray⟩ := Lib.Lz.strOfNums_map l
end Go.Proofs.YtdmeafhhdhojlaaDoor.PB
