/- The pure statement of the law CharsTexts: chars and the reference answer alike. -/
import Derived.Test.YtdmeafhhdhojlaaDoorPTexts2
import Derived.Test.YtdmeafhhdhojlaaDoorPB7
namespace Go.Proofs.YtdmeafhhdhojlaaDoor.Pure
open Go.RowKit Go.Proofs.YtdmeafhhdhojlaaDoor.PB Go.Proofs.YtdmeafhhdhojlaaDoorW.PrintWords Go.Proofs.YtdmeafhhdhojlaaDoorW.PrintLast
theorem texts_j1 (k : Nat) (s : ByteArray) (a b : Int) (hn : s.size ≤ 140737488351232) (ha : a ≤ 9223372036854775807) (hb : b ≤ 9223372036854775807) (hk : s.size + 40 ≤ k) : espalierlaw02_CharsTexts.j1 (k + 1) s a b false = some true := by
  obtain ⟨e, r, hr⟩ := rCut_eq k s a b ha hb (by omega) hk
  rw [espalierlaw02_CharsTexts.j1.eq_2, if_neg (by simp), Len_eq k s (by omega) (by omega), Option.bind_some, rLen_eq k s (by omega) (by omega), Option.bind_some, hr, Option.bind_some, e, hr, Option.bind_some, Squeeze_eq k s (by omega) (by omega), Option.bind_some, rSqueeze_eq k s (by omega) (by omega), Option.bind_some, if_pos rfl, if_pos rfl, if_pos rfl, if_pos rfl, if_pos rfl]
  simp
theorem texts_j0 (k : Nat) (s : ByteArray) (a b : Int) (hn : s.size ≤ 140737488351232) (ha : a ≤ 9223372036854775807) (hb : b ≤ 9223372036854775807) (hk : s.size + 40 ≤ k) : espalierlaw02_CharsTexts.j0 (k + 2) s a b false = some true := by
  obtain ⟨t, ht⟩ := Name_ends s (by omega) (k + 1) (by omega)
  rw [espalierlaw02_CharsTexts.j0.eq_2, if_neg (by simp), Name_eq, ht, Option.bind_some, Option.bind_some, show (t != t) = false from by simp, if_neg (by simp), Blank_eq2 s (by omega), Option.bind_some, rBlank_eq s (by omega) (k + 1) (by omega), Option.bind_some, show ((s.data.toList.all (blanksL.contains ·)) != (s.data.toList.all (blanksL.contains ·))) = false from by simp]
  exact texts_j1 k s a b hn ha hb hk
theorem CharsTexts : espalierlaw02_CharsTexts.Pure := by
  intro s c a b hn hc ha hb
  have hm : IntKind.i64.max = 9223372036854775807 := rfl
  simp only [Lit.wf, Bool.and_eq_true, decide_eq_true_eq] at ha hb
  refine ⟨s.size + 100 + 6, ?_⟩
  obtain ⟨e, r, hr⟩ := rFirst_eq (s.size + 100) s (by omega)
  unfold espalierlaw02_CharsTexts.f
  rw [e, hr, Option.bind_some, Option.bind_some, Text_eq _ s (by omega) (by omega), Option.bind_some, rtext_eq s (by omega) _ (by omega), Option.bind_some]
  unfold chars_Char.f
  rw [canB_can (s.size + 105) c, Option.bind_some, Option.bind_some, canB_Char, Option.bind_some, show (canB c != canB c) = false from by simp, if_neg (by simp), if_pos rfl, if_pos rfl, if_pos rfl, if_pos rfl, show ((textR s).2 != (textR s).2) = false from by simp]
  exact texts_j0 (s.size + 104) s a b hn (by omega) (by omega) (by omega)
end Go.Proofs.YtdmeafhhdhojlaaDoor.Pure
