/- The reference's Squeeze answers as chars does: in plain Lean. -/
import Derived.Test.YtdmeafhhdhojlaaDoorPTexts
namespace Go.Proofs.YtdmeafhhdhojlaaDoor.PB
open Go.RowKit Go.Proofs.YtdmeafhhdhojlaaDoorW.PrintWords Go.Proofs.YtdmeafhhdhojlaaDoorW.PrintLast Go.Proofs.YtdmeafhhdhojlaaDoorW.PrintMore
set_option linter.unusedVariables false
set_option linter.unusedSimpArgs false
theorem join_snoc (W : List (List UInt8)) (w : List UInt8) : Lib.join (W ++ [w]) [32] = if W = [] then w else Lib.join W [32] ++ 32 :: w := by
  cases W with
  | nil => rw [if_pos rfl, List.nil_append, Lib.join_one]
  | cons x r =>
    rw [if_neg (by simp), List.cons_append, Lib.join_cons, Lib.join_cons]
    simp [Lib.joinTail]
theorem join_grow (W : List (List UInt8)) (w x : List UInt8) : Lib.join (W ++ [w ++ x]) [32] = Lib.join (W ++ [w]) [32] ++ x := by
  rw [join_snoc, join_snoc]
  split
  · rfl
  · simp
theorem join_pos (W : List (List UInt8)) (h : ∀ x ∈ W, Dark x) : 0 < (Lib.join W [32]).length ↔ W ≠ [] := by
  cases W with
  | nil => simp [Lib.join_nil]
  | cons x r =>
    have := (h x (by simp)).1
    have hp : 0 < x.length := List.length_pos_iff.mpr this
    rw [Lib.join_cons, List.length_append]
    exact ⟨fun _ => by simp, fun _ => by omega⟩
def accOf (W : List (List UInt8)) : Option (List UInt8) → List UInt8
  | none => Lib.join W [32]
  | some w => Lib.join (W ++ [w]) [32]
def gapOf (W : List (List UInt8)) : Option (List UInt8) → Bool
  | none => decide (W ≠ [])
  | some _ => false
theorem acc_none (W : List (List UInt8)) : accOf W none = Lib.join W [32] := rfl
theorem acc_some (W : List (List UInt8)) (w : List UInt8) : accOf W (some w) = Lib.join (W ++ [w]) [32] := rfl
theorem rsq_loop (s : ByteArray) (hn : s.size ≤ 16384) : ∀ (d k i : Nat) (W : List (List UInt8)) (st : Option (List UInt8)), i ≤ s.size → s.size - i = d → d + 1 ≤ k → (∀ x ∈ W, Dark x) → (∀ w, st = some w → Dark w) → (accOf W st).length ≤ 2 * i →
    espalierref02_Squeeze.l0 k s (numsL (accOf W st)) (gapOf W st) (i : Int) = some ((⟨(Lib.join (W ++ fieldsB (s.data.toList.drop i) st) [32]).toArray⟩ : ByteArray), 0) := by
  intro d
  induction d with
  | zero =>
    intro k i W st hi hd hk hW hst hl
    obtain ⟨k, rfl⟩ : ∃ m, k = m + 1 := ⟨k - 1, by omega⟩
    rw [espalierref02_Squeeze.l0.eq_2, if_neg (by omega), str_numsL, List.drop_eq_nil_of_le (by rw [← Lib.size_eq]; omega)]
    cases st with
    | none => rw [fieldsB.eq_1, List.append_nil]; rfl
    | some w => rw [fieldsB.eq_2]; rfl
  | succ d ih =>
    intro k i W st hi hd hk hW hst hl
    obtain ⟨k, rfl⟩ : ∃ m, k = m + 1 := ⟨k - 1, by omega⟩
    have hlt : i < s.size := by omega
    have hI := fun W' st' => ih k (i + 1) W' st' (by omega) (by omega) (by omega)
    have hw : wrap64 ((i : Int) + 1) = ((i + 1 : Nat) : Int) := by rw [wrap_in (by omega) (by omega)]; omega
    rw [espalierref02_Squeeze.l0.eq_2, if_pos (by omega), if_pos (by omega), bt_byte s i hlt, white_of, Option.bind_some, hw, drop_get s i hlt]
    generalize s.get! i = b
    cases hb : whiteB b with
    | true =>
      rw [if_pos rfl, numsL_len]
      cases st with
      | none =>
        have hg : decide (((accOf W none).length : Int) > 0) = gapOf W none := by
          show decide (((Lib.join W [32]).length : Int) > 0) = decide (W ≠ [])
          exact decide_eq_decide.mpr (by rw [← join_pos W hW]; omega)
        rw [hg, hI W none hW (fun w h => by cases h) (by omega), fieldsB.eq_3, if_pos hb]
      | some w =>
        have hW' : ∀ x ∈ W ++ [w], Dark x := fun x hx => (List.mem_append.mp hx).elim (hW x) (fun h => by rw [List.mem_singleton.mp h]; exact hst w rfl)
        have hg : decide (((accOf W (some w)).length : Int) > 0) = gapOf (W ++ [w]) none := by
          show decide (((Lib.join (W ++ [w]) [32]).length : Int) > 0) = decide (W ++ [w] ≠ [])
          exact decide_eq_decide.mpr (by rw [← join_pos _ hW']; omega)
        have := hI (W ++ [w]) none hW' (fun w h => by cases h) (by show (accOf W (some w)).length ≤ _; omega)
        rw [hg, fieldsB.eq_4, if_pos hb]
        rw [List.append_assoc] at this
        exact this
    | false =>
      rw [if_neg (by simp)]
      have hd1 : Dark [b] := ⟨by simp, fun x hx => by rw [List.mem_singleton.mp hx]; exact hb⟩
      have hb1 : numsL [b] = [(b.toNat : Int)] := rfl
      have h32 : numsL [32] = [32] := rfl
      cases st with
      | none =>
        rw [fieldsB.eq_3, if_neg (show ¬ whiteB b = true by rw [hb]; simp)]
        by_cases hE : W = []
        · subst hE
          have := hI [] (some [b]) hW (fun w h => by cases h; exact hd1) (by simp [accOf, Lib.join_one]; omega)
          rw [if_neg (show ¬ gapOf [] none = true by simp [gapOf]), if_pos (by rw [numsL_len]; omega)]
          exact this
        · have hacc : numsL (accOf W (some [b])) = numsL (accOf W none) ++ [32] ++ [(b.toNat : Int)] := by
            rw [acc_some, acc_none, join_snoc, if_neg hE, ← hb1, ← h32, ← numsL_app, ← numsL_app, List.append_assoc]
            rfl
          have hlen : (accOf W (some [b])).length = (accOf W none).length + 2 := by
            rw [acc_some, acc_none, join_snoc, if_neg hE]; simp
          have := hI W (some [b]) hW (fun w h => by cases h; exact hd1) (by omega)
          rw [if_pos (show gapOf W none = true by simp [gapOf, hE]), if_pos (by rw [numsL_len]; omega), Option.bind_some, if_pos (by rw [List.length_append, numsL_len]; simp; omega), ← hacc]
          exact this
      | some w =>
        have hacc : numsL (accOf W (some (w ++ [b]))) = numsL (accOf W (some w)) ++ [(b.toNat : Int)] := by
          rw [acc_some, acc_some, join_grow, ← hb1, ← numsL_app]
        have hlen : (accOf W (some (w ++ [b]))).length = (accOf W (some w)).length + 1 := by
          rw [acc_some, acc_some, join_grow]; simp
        have hdw := hst w rfl
        have := hI W (some (w ++ [b])) hW (fun v h => by cases h; exact ⟨by simp, fun x hx => (List.mem_append.mp hx).elim (hdw.2 x) (fun h => by rw [List.mem_singleton.mp h]; exact hb)⟩) (by omega)
        rw [fieldsB.eq_4, if_neg (show ¬ whiteB b = true by rw [hb]; simp), if_neg (show ¬ gapOf W (some w) = true by simp [gapOf]), if_pos (by rw [numsL_len]; omega), ← hacc]
        exact this
theorem rSqueeze_eq (k : Nat) (s : ByteArray) (hn : s.size ≤ 140737488355328) (hk : s.size + 8 ≤ k) : espalierref02_Squeeze.f k s = some (if (textR s).2 = 0 then ((⟨(sqL s.data.toList).toArray⟩ : ByteArray), 0) else ((⟨#[]⟩ : ByteArray), (textR s).2)) := by
  unfold espalierref02_Squeeze.f
  rw [rtext_eq s hn k hk, Option.bind_some]
  by_cases ht : (textR s).2 = 0
  · have hs := (textR_ok ht).1
    have := rsq_loop s hs s.size k 0 [] none (by omega) (by omega) (by omega) (fun x hx => by cases hx) (fun w h => by cases h) (by simp [accOf, Lib.join_nil])
    rw [if_pos ht, if_pos ht]
    rw [List.drop_zero, List.nil_append] at this
    exact this
  · rw [if_neg ht, if_neg ht]
theorem Blank_eq2 (s : ByteArray) (hn : s.size ≤ 140737488355328) : chars_Blank.f s = some (s.data.toList.all (blanksL.contains ·)) := by
  unfold chars_Blank.f
  rw [if_pos (by omega)]
end Go.Proofs.YtdmeafhhdhojlaaDoor.PB
