/- The pure statement of the law CharsForm: a text is its characters, one by one. -/
import Derived.Test.YtdmeafhhdhojlaaDoorPRunes
import Derived.Test.YtdmeafhhdhojlaaDoorPLives
import Derived.Test.YtdmeafhhdhojlaaDoorPA11
namespace Go.Proofs.YtdmeafhhdhojlaaDoor.Pure
open Go.RowKit Go.Proofs.YtdmeafhhdhojlaaDoor.PA Go.Proofs.YtdmeafhhdhojlaaDoorW.PrintWords Go.Proofs.YtdmeafhhdhojlaaDoorW.PrintLast
theorem form_loop (s : ByteArray) (hn : s.size ≤ 16384) : ∀ (f k i m : Nat), i ≤ s.size → s.size - i ≤ f → s.size + f + 4 ≤ k → m ≤ i → textR s = scanR (scanT s f i) → ((textR s).2 = 0 → Lib.runeCount s = m + Lib.runeCountFrom s f i) →
    espalierlaw02_CharsForm.l0 k s (textR s).1 (textR s).2 i m = some true := by
  have hdone : ∀ (f k i m : Nat), ¬ i < s.size → s.size + 4 ≤ k → textR s = scanR (scanT s f i) → ((textR s).2 = 0 → Lib.runeCount s = m + Lib.runeCountFrom s f i) → espalierlaw02_CharsForm.l0 k s (textR s).1 (textR s).2 i m = some true := by
    intro f k i m hi hk ht hc
    obtain ⟨k, rfl⟩ : ∃ z, k = z + 1 := ⟨k - 1, by omega⟩
    have hs : scanT s f i = none := by
      cases f with
      | zero => rfl
      | succ f => rw [scanT, if_neg hi]
    have h0 : textR s = (0, 0) := by rw [ht, hs]; rfl
    have hcc := hc (by rw [h0])
    rw [Lib.runeCountFrom_end s f i hi] at hcc
    have e2 : (textR s).2 = 0 := by rw [h0]
    have e1 : (textR s).1 = 0 := by rw [h0]
    have hL := Len_eq k s (by omega) (by omega)
    rw [if_pos e2] at hL
    rw [e1, e2]
    rw [espalierlaw02_CharsForm.l0.eq_2, if_neg (by omega), hL, Option.bind_some, if_pos rfl, if_pos rfl, if_pos rfl, hcc]
    simp
  intro f
  induction f with
  | zero => intro k i m h1 h2 h3 h4 h5 h6; exact hdone 0 k i m (by omega) (by omega) h5 h6
  | succ f ih =>
    intro k i m h1 h2 h3 h4 h5 h6
    by_cases hi : i < s.size
    case neg => exact hdone (f + 1) k i m hi (by omega) h5 h6
    obtain ⟨k, rfl⟩ : ∃ z, k = z + 2 := ⟨k - 2, by omega⟩
    have hF := First_eq k s i hi
    have hle := chr_le s i hi
    rw [scanT, if_pos hi] at h5
    by_cases e : (chr s i).2 = 0
    · rw [if_pos e] at h5 hF
      have e2 : (textR s).2 = 7 := by rw [h5]; rfl
      have e1 : (textR s).1 = (i : Int) := by rw [h5]; rfl
      rw [e1, e2, espalierlaw02_CharsForm.l0.eq_2, if_pos (by omega), if_pos (by omega), if_pos (by omega), Int.toNat_natCast, hF, Option.bind_some, if_neg (by decide), if_pos rfl, if_pos rfl]
      simp
    · rw [if_neg e] at h5 hF
      have hE := enc_chr s i hi e
      have hd := chr_decode e
      have hw : wrap64 ((i : Int) + ((chr s i).2 : Int)) = ((i + (chr s i).2 : Nat) : Int) := by rw [wrap_in (by omega) (by omega)]; omega
      have hw2 : wrap64 ((m : Int) + 1) = ((m + 1 : Nat) : Int) := by rw [wrap_in (by omega) (by omega)]; omega
      have hr := (okC_iff _).mp hE.1
      have hw3 : wrap32 ((chr s i).1 : Int) = ((chr s i).1 : Int) := by unfold wrap32; omega
      have hI := ih (k + 1) (i + (chr s i).2) (m + 1) (by omega) (by omega) (by omega) (by omega) h5 (fun h => by
        have := h6 h
        rw [Lib.runeCountFrom, if_pos hi, hd] at this
        omega)
      have hlen : (enc (chr s i).1).length = (chr s i).2 := by
        have := congrArg List.length hE.2
        have hsz := Lib.size_eq s
        rw [List.length_append, List.length_drop, List.length_drop, ← hsz] at this
        omega
      have hB : (Utf8.encode ((chr s i).1 : Int)).toList = (s.extract i (i + (chr s i).2)).toList := by
        rw [Lib.toList_data, Lib.toList_data, Lib.extract_data, ← enc.eq_1, hE.2]
        rw [Nat.add_sub_cancel_left, ← hlen]
        simp
      rw [espalierlaw02_CharsForm.l0.eq_2, if_pos (by omega), if_pos (by omega), if_pos (by omega), Int.toNat_natCast, hF, Option.bind_some, if_pos rfl, can_true k _ hE.1, Option.bind_some, if_pos rfl, if_neg (by simp only; omega), hw, hw2, if_neg (by omega), if_pos (by omega), if_pos (by omega), hw3, Int.toNat_natCast, if_pos hB]
      exact hI
theorem CharsForm : espalierlaw02_CharsForm.Pure := by
  intro s hn
  refine ⟨2 * s.size + 200, ?_⟩
  unfold espalierlaw02_CharsForm.f
  rw [lives_ok _ (by omega), Option.bind_some, if_pos rfl, Text_eq _ s (by omega) (by omega), Option.bind_some]
  by_cases hs : s.size > 16384
  · have ht : textR s = (0, 2) := by unfold textR; rw [if_pos hs]
    rw [ht, if_pos rfl, if_pos (by omega)]
    rfl
  · have ht : textR s = scanR (scanT s s.size 0) := by unfold textR; rw [if_neg hs]
    have h2 : (textR s).2 ≠ 2 := by
      rw [ht]
      cases scanT s s.size 0 with
      | none => decide
      | some j => show ¬ (7 : Int) = 2; decide
    rw [if_neg h2]
    exact form_loop s (by omega) s.size _ 0 0 (by omega) (by omega) (by omega) (by omega) ht (fun _ => by unfold Lib.runeCount; omega)
end Go.Proofs.YtdmeafhhdhojlaaDoor.Pure
