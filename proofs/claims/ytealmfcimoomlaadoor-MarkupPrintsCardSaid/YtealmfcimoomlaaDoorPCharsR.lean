/- Characters in plain Lean: what the reference answers at a place of a text. -/
import Derived.Test.YtealmfcimoomlaaDoorPA7
import Derived.Test.YtealmfcimoomlaaDoorPName
namespace Go.Proofs.YtealmfcimoomlaaDoor.PA
open Go.RowKit Go.Proofs.YtealmfcimoomlaaDoorW.PrintWords Go.Proofs.YtealmfcimoomlaaDoorW.PrintLast Go.Proofs.YtealmfcimoomlaaDoorW.PrintMore
set_option linter.unusedVariables false
set_option linter.unusedSimpArgs false
theorem canB_Char (r : Int) : espalierref02_Char.f r = some (canB r) := by
  unfold espalierref02_Char.f canB
  repeat' split
  all_goals (simp only [Option.some.injEq]; first | (symm; rw [decide_eq_true_iff]; omega) | (symm; rw [decide_eq_false_iff_not]; omega) | (rw [decide_eq_decide]; omega))
theorem size_f (k : Nat) (c : Int) (h0 : 0 ≤ c) (h1 : c ≤ 255) : espalierref02_size.f (k + 2) c =
    some (if c < 128 then (1, c) else if c < 192 then (0, 0) else if c < 224 then (2, c - 192) else if c < 240 then (3, c - 224) else if c < 248 then (4, c - 240) else (0, 0)) := by
  have w0 : wrap64 c = c := wrap_in (by omega) (by omega)
  have w1 : ∀ z : Int, 0 ≤ z → z ≤ 300 → wrap64 (c - z) = c - z := fun z _ _ => wrap_in (by omega) (by omega)
  unfold espalierref02_size.f
  simp only [espalierref02_size.j0, espalierref02_size.j1, w0, w1 192 (by omega) (by omega), w1 224 (by omega) (by omega), w1 240 (by omega) (by omega)]
  simp only [decide_eq_true_eq, if_false, Bool.false_eq_true]
  repeat' split
  all_goals first | rfl | omega
theorem Bytes_size (r : Int) (h0 : 0 ≤ r) : ∃ b, espalierref02_Bytes.f r = some b ∧ (b.size : Int) = if r < 128 then 1 else if r < 2048 then 2 else if r < 65536 then 3 else 4 := by
  unfold espalierref02_Bytes.f
  repeat' split
  all_goals exact ⟨_, rfl, by rw [strOfNums_size]; simp⟩
/-- What the reference says at the end of a character's bytes. -/
theorem At_end (k : Nat) (s : ByteArray) (x1 n r j : Int) (hr : 0 ≤ r) (hj : ¬ j < n) : espalierref02_At.l0 (k + 1) s x1 n r j =
    some (if canB r = true ∧ (if r < 128 then 1 else if r < 2048 then 2 else if r < 65536 then 3 else 4) = n then (r, n) else (0, 0)) := by
  obtain ⟨b, hb, hs⟩ := Bytes_size r hr
  simp only [espalierref02_At.l0]
  rw [if_neg hj, canB_Char, hb]
  simp only [Option.bind_some, hs]
  cases canB r
  · simp
  · simp only [true_and, if_true]
    by_cases e : (if r < 128 then (1 : Int) else if r < 2048 then 2 else if r < 65536 then 3 else 4) = n
    · rw [if_pos e, if_pos e]
    · rw [if_neg e, if_neg e]
theorem At_step (k : Nat) (s : ByteArray) (i : Nat) (n r : Int) (j : Nat) (hj : (j : Int) < n) (hi : i + j < s.size) (hn : s.size ≤ 140737488355328) (hr : 0 ≤ r) (hr2 : r ≤ 16777216) :
    espalierref02_At.l0 (k + 1) s i n r j = if (s.get! (i + j)).toNat < 128 ∨ 192 ≤ (s.get! (i + j)).toNat then some (0, 0) else espalierref02_At.l0 k s i n (64 * r + (s.get! (i + j)).toNat - 128) ((j + 1 : Nat) : Int) := by
  have hb := byte_lt s (i + j)
  have w0 : wrap64 ((i : Int) + j) = ((i + j : Nat) : Int) := by rw [wrap_in (by omega) (by omega)]; omega
  simp only [espalierref02_At.l0]
  rw [if_pos hj, w0, if_pos (by omega), if_pos (by omega), bt_byte s (i + j) hi]
  generalize (s.get! (i + j)).toNat = b at *
  rw [wrap_in (n := 64 * r) (by omega) (by omega), wrap_in (n := (b : Int)) (by omega) (by omega), wrap_in (n := 64 * r + (b : Int)) (by omega) (by omega), wrap_in (n := 64 * r + (b : Int) - 128) (by omega) (by omega), wrap_in (n := (j : Int) + 1) (by omega) (by omega)]
  by_cases h1 : (b : Int) < 128
  · rw [if_pos h1, if_pos (by omega)]
  · by_cases h2 : (b : Int) ≥ 192
    · rw [if_neg h1, if_pos h2, if_pos (by omega)]
    · rw [if_neg h1, if_neg h2, if_neg (by omega)]; rfl
theorem At_open (k : Nat) (s : ByteArray) (i : Nat) (hi : i < s.size) (hn : s.size ≤ 140737488355328) (n r : Int) (hs : espalierref02_size.f (k + 1) (bt s i) = some (n, r)) (h0 : 0 ≤ n) (h4 : n ≤ 4) :
    espalierref02_At.f (k + 1) s i = if n = 0 ∨ (s.size : Int) < i + n then some (0, 0) else espalierref02_At.l0 k s i n r 1 := by
  unfold espalierref02_At.f
  rw [if_pos (by omega), if_pos (by omega), hs]
  simp only [Option.bind_some, espalierref02_At.j0]
  rw [wrap_in (n := (i : Int) + n) (by omega) (by omega)]
  by_cases e0 : n = 0
  · simp [e0]
  · by_cases e1 : (s.size : Int) < i + n
    · have : (i : Int) + n > s.size := e1
      simp [e0, e1]
    · have : ¬ (i : Int) + n > s.size := e1
      simp [e0, e1]
theorem At_end' (K : Nat) (s : ByteArray) (x1 : Int) (n : Int) (w v : Nat) (r j : Int) (hK : 0 < K) (hn : n = (w : Int)) (hr : r = (v : Int)) (hj : ¬ j < (w : Int)) : espalierref02_At.l0 K s x1 n r j =
    if canB (v : Int) = true ∧ sizeR v = (w : Int) then some ((v : Int), (w : Int)) else some (0, 0) := by
  subst hr hn
  obtain ⟨k, rfl⟩ : ∃ k, K = k + 1 := ⟨K - 1, by omega⟩
  rw [At_end k s x1 w v j (by omega) hj]
  exact apply_ite some _ _ _
theorem At_step' (K k : Nat) (s : ByteArray) (i : Nat) (n r : Int) (j j1 : Int) (jn : Nat) (hK : K = k + 1) (hj0 : j = (jn : Int)) (hj1 : j1 = ((jn + 1 : Nat) : Int)) (hj : (jn : Int) < n) (hi : i + jn < s.size) (hn : s.size ≤ 140737488355328) (hr : 0 ≤ r) (hr2 : r ≤ 16777216) :
    espalierref02_At.l0 K s i n r j = if (s.get! (i + jn)).toNat < 128 ∨ 192 ≤ (s.get! (i + jn)).toNat then some (0, 0) else espalierref02_At.l0 k s i n (64 * r + (s.get! (i + jn)).toNat - 128) j1 := by
  subst hK hj0 hj1
  exact At_step k s i n r jn hj hi hn hr hr2
set_option maxHeartbeats 2000000 in
/-- THE REFERENCE's At. -/
theorem ref_at (k : Nat) (s : ByteArray) (i : Nat) (hi : i < s.size) (hn : s.size ≤ 140737488355328) :
    espalierref02_At.f (k + 6) s i = some (((chr s i).1 : Int), ((chr s i).2 : Int)) := by
  rw [chr_eq]
  have hb0 := byte_lt s i
  have hb1 := byte_lt s (i + 1)
  have hb2 := byte_lt s (i + 2)
  have hb3 := byte_lt s (i + 3)
  have op := fun n r => At_open (k + 5) s i hi hn n r
  rw [bt_byte s i hi, size_f (k + 4) _ (by omega) (by omega)] at op
  have step1 := fun n r => At_step' (k + 5) (k + 4) s i n r 1 2 1 rfl rfl rfl
  have step2 := fun n r => At_step' (k + 4) (k + 3) s i n r 2 3 2 rfl rfl rfl
  have step3 := fun n r => At_step' (k + 3) (k + 2) s i n r 3 4 3 rfl rfl rfl
  generalize (s.get! i).toNat = b0 at *
  generalize (s.get! (i + 1)).toNat = b1 at *
  generalize (s.get! (i + 2)).toNat = b2 at *
  generalize (s.get! (i + 3)).toNat = b3 at *
  by_cases c1 : b0 < 128
  · rw [op 1 b0 (by rw [if_pos (by omega)]) (by omega) (by omega), if_neg (by omega), At_end' _ s i 1 1 b0 b0 _ (by omega) rfl rfl (by omega)]
    have hd : Lib.decodeN (s.size - i) b0 b1 b2 b3 = (b0, 1) := by unfold Lib.decodeN; rw [if_pos c1]
    have hs : sizeR (b0 : Int) = ((1 : Nat) : Int) := by unfold sizeR; rw [if_pos (by omega)]; rfl
    rw [hd]
    unfold chrOf
    simp only [hs, and_true]
    rw [if_neg (c := b0 = 65533) (by omega)]
    by_cases hb : canB (b0 : Int) = true
    · rw [if_pos hb, if_pos hb]
    · rw [if_neg hb, if_neg hb]; rfl
  by_cases c2 : b0 < 192
  · rw [op 0 0 (by rw [if_neg (by omega), if_pos (by omega)]) (by omega) (by omega), if_pos (by omega)]
    have hd : Lib.decodeN (s.size - i) b0 b1 b2 b3 = (65533, 1) := by unfold Lib.decodeN; rw [if_neg c1, if_neg (by omega), if_neg (by omega), if_neg (by omega)]
    rw [hd]; rfl
  by_cases c3 : b0 < 224
  · rw [op 2 (b0 - 192) (by rw [if_neg (by omega), if_neg (by omega), if_pos (by omega)]) (by omega) (by omega)]
    by_cases g : s.size < i + 2
    · rw [if_pos (by omega)]
      have hd : Lib.decodeN (s.size - i) b0 b1 b2 b3 = (65533, 1) := by unfold Lib.decodeN; rw [if_neg c1, if_neg (by omega), if_neg (by omega), if_neg (by omega)]
      rw [hd]; rfl
    rw [if_neg (by omega), step1 2 (b0 - 192) (by omega) (by omega) hn (by omega) (by omega)]
    by_cases g1 : b1 < 128 ∨ 192 ≤ b1
    · rw [if_pos g1]
      have hd : Lib.decodeN (s.size - i) b0 b1 b2 b3 = (65533, 1) := by unfold Lib.decodeN; rw [if_neg c1, if_neg (by omega), if_neg (by omega), if_neg (by omega)]
      rw [hd]; rfl
    rw [if_neg g1, At_end' _ s i 2 2 (b0 % 32 * 64 + b1 % 64) _ _ (by omega) rfl (by omega) (by omega)]
    have hd : Lib.decodeN (s.size - i) b0 b1 b2 b3 = if b0 % 32 * 64 + b1 % 64 ≥ 128 then (b0 % 32 * 64 + b1 % 64, 2) else (65533, 1) := by unfold Lib.decodeN; rw [if_neg c1, if_pos (by omega)]
    rw [hd]
    refine fin_ _ 2 _ (fun h => ?_) (fun h => ?_) (by omega)
    · unfold sizeR; rw [if_neg (by omega), if_pos (by omega)]; rfl
    · rintro ⟨_, h2⟩; unfold sizeR at h2; rw [if_pos (by omega)] at h2; omega
  by_cases c4 : b0 < 240
  · rw [op 3 (b0 - 224) (by rw [if_neg (by omega), if_neg (by omega), if_neg (by omega), if_pos (by omega)]) (by omega) (by omega)]
    by_cases g : s.size < i + 3
    · rw [if_pos (by omega)]
      have hd : Lib.decodeN (s.size - i) b0 b1 b2 b3 = (65533, 1) := by unfold Lib.decodeN; rw [if_neg c1, if_neg (by omega), if_neg (by omega), if_neg (by omega)]
      rw [hd]; rfl
    rw [if_neg (by omega), step1 3 (b0 - 224) (by omega) (by omega) hn (by omega) (by omega)]
    by_cases g1 : b1 < 128 ∨ 192 ≤ b1
    · rw [if_pos g1]
      have hd : Lib.decodeN (s.size - i) b0 b1 b2 b3 = (65533, 1) := by unfold Lib.decodeN; rw [if_neg c1, if_neg (by omega), if_neg (by omega), if_neg (by omega)]
      rw [hd]; rfl
    rw [if_neg g1, step2 3 _ (by omega) (by omega) hn (by omega) (by omega)]
    by_cases g2 : b2 < 128 ∨ 192 ≤ b2
    · rw [if_pos g2]
      have hd : Lib.decodeN (s.size - i) b0 b1 b2 b3 = (65533, 1) := by unfold Lib.decodeN; rw [if_neg c1, if_neg (by omega), if_neg (by omega), if_neg (by omega)]
      rw [hd]; rfl
    rw [if_neg g2, At_end' _ s i 3 3 (b0 % 16 * 4096 + b1 % 64 * 64 + b2 % 64) _ _ (by omega) rfl (by omega) (by omega)]
    have hd : Lib.decodeN (s.size - i) b0 b1 b2 b3 = if b0 % 16 * 4096 + b1 % 64 * 64 + b2 % 64 ≥ 2048 ∧ (b0 % 16 * 4096 + b1 % 64 * 64 + b2 % 64 < 55296 ∨ (57344 ≤ b0 % 16 * 4096 + b1 % 64 * 64 + b2 % 64 ∧ b0 % 16 * 4096 + b1 % 64 * 64 + b2 % 64 ≤ 1114111)) then (b0 % 16 * 4096 + b1 % 64 * 64 + b2 % 64, 3) else (65533, 1) := by unfold Lib.decodeN; rw [if_neg c1, if_neg (by omega), if_pos (by omega)]
    rw [hd]
    refine fin_ _ 3 _ (fun h => ?_) (fun h => ?_) (by omega)
    · unfold sizeR; rw [if_neg (by omega), if_neg (by omega), if_pos (by omega)]; rfl
    · rintro ⟨h1, h2⟩
      unfold sizeR at h2
      simp only [canB, decide_eq_true_eq] at h1
      generalize b0 % 16 * 4096 + b1 % 64 * 64 + b2 % 64 = v at *
      by_cases q1 : (v : Int) < 128
      · rw [if_pos q1] at h2; omega
      by_cases q2 : (v : Int) < 2048
      · rw [if_neg q1, if_pos q2] at h2; omega
      · omega
  by_cases c5 : b0 < 248
  · rw [op 4 (b0 - 240) (by rw [if_neg (by omega), if_neg (by omega), if_neg (by omega), if_neg (by omega), if_pos (by omega)]) (by omega) (by omega)]
    by_cases g : s.size < i + 4
    · rw [if_pos (by omega)]
      have hd : Lib.decodeN (s.size - i) b0 b1 b2 b3 = (65533, 1) := by unfold Lib.decodeN; rw [if_neg c1, if_neg (by omega), if_neg (by omega), if_neg (by omega)]
      rw [hd]; rfl
    rw [if_neg (by omega), step1 4 (b0 - 240) (by omega) (by omega) hn (by omega) (by omega)]
    by_cases g1 : b1 < 128 ∨ 192 ≤ b1
    · rw [if_pos g1]
      have hd : Lib.decodeN (s.size - i) b0 b1 b2 b3 = (65533, 1) := by unfold Lib.decodeN; rw [if_neg c1, if_neg (by omega), if_neg (by omega), if_neg (by omega)]
      rw [hd]; rfl
    rw [if_neg g1, step2 4 _ (by omega) (by omega) hn (by omega) (by omega)]
    by_cases g2 : b2 < 128 ∨ 192 ≤ b2
    · rw [if_pos g2]
      have hd : Lib.decodeN (s.size - i) b0 b1 b2 b3 = (65533, 1) := by unfold Lib.decodeN; rw [if_neg c1, if_neg (by omega), if_neg (by omega), if_neg (by omega)]
      rw [hd]; rfl
    rw [if_neg g2, step3 4 _ (by omega) (by omega) hn (by omega) (by omega)]
    by_cases g3 : b3 < 128 ∨ 192 ≤ b3
    · rw [if_pos g3]
      have hd : Lib.decodeN (s.size - i) b0 b1 b2 b3 = (65533, 1) := by unfold Lib.decodeN; rw [if_neg c1, if_neg (by omega), if_neg (by omega), if_neg (by omega)]
      rw [hd]; rfl
    rw [if_neg g3, At_end' _ s i 4 4 (b0 % 8 * 262144 + b1 % 64 * 4096 + b2 % 64 * 64 + b3 % 64) _ _ (by omega) rfl (by omega) (by omega)]
    have hd : Lib.decodeN (s.size - i) b0 b1 b2 b3 = if b0 % 8 * 262144 + b1 % 64 * 4096 + b2 % 64 * 64 + b3 % 64 ≥ 65536 ∧ (b0 % 8 * 262144 + b1 % 64 * 4096 + b2 % 64 * 64 + b3 % 64 < 55296 ∨ (57344 ≤ b0 % 8 * 262144 + b1 % 64 * 4096 + b2 % 64 * 64 + b3 % 64 ∧ b0 % 8 * 262144 + b1 % 64 * 4096 + b2 % 64 * 64 + b3 % 64 ≤ 1114111)) then (b0 % 8 * 262144 + b1 % 64 * 4096 + b2 % 64 * 64 + b3 % 64, 4) else (65533, 1) := by unfold Lib.decodeN; rw [if_neg c1, if_neg (by omega), if_neg (by omega), if_pos (by omega)]
    rw [hd]
    refine fin_ _ 4 _ (fun h => ?_) (fun h => ?_) (by omega)
    · unfold sizeR; rw [if_neg (by omega), if_neg (by omega), if_neg (by omega)]; rfl
    · rintro ⟨h1, h2⟩
      unfold sizeR at h2
      simp only [canB, decide_eq_true_eq] at h1
      generalize b0 % 8 * 262144 + b1 % 64 * 4096 + b2 % 64 * 64 + b3 % 64 = v at *
      by_cases q1 : (v : Int) < 128
      · rw [if_pos q1] at h2; omega
      by_cases q2 : (v : Int) < 2048
      · rw [if_neg q1, if_pos q2] at h2; omega
      by_cases q3 : (v : Int) < 65536
      · rw [if_neg q1, if_neg q2, if_pos q3] at h2; omega
      · omega
  · rw [op 0 0 (by rw [if_neg (by omega), if_neg (by omega), if_neg (by omega), if_neg (by omega), if_neg (by omega)]) (by omega) (by omega), if_pos (by omega)]
    have hd : Lib.decodeN (s.size - i) b0 b1 b2 b3 = (65533, 1) := by unfold Lib.decodeN; rw [if_neg c1, if_neg (by omega), if_neg (by omega), if_neg (by omega)]
    rw [hd]; rfl
theorem bad_loop (s : ByteArray) (hn : s.size ≤ 140737488355328) : ∀ (f k i : Nat), i ≤ s.size → s.size - i ≤ f → f + 8 ≤ k → espalierref02_Bad.l0 k s i = some (scanR (scanT s f i)) := by
  intro f
  induction f with
  | zero =>
    intro k i h1 h2 h3
    obtain ⟨k, rfl⟩ : ∃ m, k = m + 1 := ⟨k - 1, by omega⟩
    simp only [espalierref02_Bad.l0]
    rw [if_neg (by omega)]
    rfl
  | succ f ih =>
    intro k i h1 h2 h3
    obtain ⟨k, rfl⟩ : ∃ m, k = m + 7 := ⟨k - 7, by omega⟩
    simp only [espalierref02_Bad.l0, scanT]
    by_cases hi : i < s.size
    · have hle := chr_le s i hi
      rw [if_pos (show (i : Int) < s.size by omega), ref_at k s i hi hn, if_pos hi]
      by_cases e : (chr s i).2 = 0
      · simp [e, scanR]
      · simp only [e, if_false, Option.bind_some]
        rw [if_neg (by omega), wrap_in (n := (i : Int) + _) (by omega) (by omega)]
        have := ih (k + 6) (i + (chr s i).2) (by omega) (by omega) (by omega)
        rw [show (((i + (chr s i).2 : Nat)) : Int) = (i : Int) + ((chr s i).2 : Int) from by omega] at this
        exact this
    · rw [if_neg (show ¬ (i : Int) < s.size by omega), if_neg hi]
      rfl
theorem rtext_eq (s : ByteArray) (hn : s.size ≤ 140737488355328) (k : Nat) (hk : s.size + 8 ≤ k) : espalierref02_Text.f k s = some (textR s) := by
  unfold espalierref02_Text.f textR
  by_cases h : s.size > 16384
  · rw [if_pos (by omega), if_pos h]
  · rw [if_neg (by omega), if_neg h]
    have := bad_loop s hn s.size k 0 (by omega) (by omega) hk
    unfold espalierref02_Bad.f
    rw [show ((0 : Nat) : Int) = 0 from rfl] at this
    rw [this]
    rfl
end Go.Proofs.YtealmfcimoomlaaDoor.PA
