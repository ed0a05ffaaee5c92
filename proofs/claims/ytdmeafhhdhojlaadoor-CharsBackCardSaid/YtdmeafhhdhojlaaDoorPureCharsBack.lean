/- The pure statement of the law CharsBack: what is escaped reads as it was. -/
import Derived.Test.YtdmeafhhdhojlaaDoorPBack
import Derived.Test.YtdmeafhhdhojlaaDoorPLives
import Derived.Test.YtdmeafhhdhojlaaDoorPA10
namespace Go.Proofs.YtdmeafhhdhojlaaDoor.Pure
open Go.RowKit Go.Proofs.YtdmeafhhdhojlaaDoor.PA Go.Proofs.YtdmeafhhdhojlaaDoorW.PrintWords Go.Proofs.YtdmeafhhdhojlaaDoorW.PrintLast
theorem back_loop (q : Bool) (x : ByteArray) (hn : x.size ≤ 140737488355328) (hx : ∀ b ∈ x.data.toList, b ≠ 60 ∧ b ≠ 62 ∧ b ≠ 13 ∧ (q = true → b ≠ 34 ∧ b ≠ 9 ∧ b ≠ 10)) : ∀ (d k i : Nat), i ≤ x.size → x.size - i = d → d + 1 ≤ k → espalierlaw02_CharsBack.l0 k q x i = some true := by
  intro d
  induction d with
  | zero =>
    intro k i h1 h2 h3
    obtain ⟨k, rfl⟩ : ∃ m, k = m + 1 := ⟨k - 1, by omega⟩
    simp only [espalierlaw02_CharsBack.l0]
    rw [if_neg (by omega)]
  | succ d ih =>
    intro k i h1 h2 h3
    obtain ⟨k, rfl⟩ : ∃ m, k = m + 1 := ⟨k - 1, by omega⟩
    have hi : i < x.size := by omega
    have hb := hx (x.get! i) (by rw [get_list, List.getD_eq_getElem?_getD, List.getElem?_eq_getElem (by rw [← Lib.size_eq]; exact hi)]; exact List.getElem_mem _)
    have ne : ∀ (c : UInt8) (z : Int), (c.toNat : Int) = z → x.get! i ≠ c → ¬ ((x.get! i).toNat : Int) = z := fun c z hz h e => h (UInt8.toNat_inj.mp (by omega))
    have hw : wrap64 ((i : Int) + 1) = ((i + 1 : Nat) : Int) := by rw [wrap_in (by omega) (by omega)]; omega
    have hI := ih k (i + 1) (by omega) (by omega) (by omega)
    simp only [espalierlaw02_CharsBack.l0]
    rw [if_pos (by omega), if_pos (by omega), bt_byte x i hi, if_neg (ne 60 60 rfl hb.1), if_neg (ne 62 62 rfl hb.2.1), if_neg (ne 13 13 rfl hb.2.2.1), hw, hI]
    by_cases hq : q = true
    · have h4 := hb.2.2.2 hq
      rw [if_pos hq, if_neg (ne 34 34 rfl h4.1), if_neg (ne 9 9 rfl h4.2.1), if_neg (ne 10 10 rfl h4.2.2)]
    · rw [if_neg hq]
theorem CharsBack : espalierlaw02_CharsBack.Pure := by
  intro s q hn
  refine ⟨12 * s.size + 200000, ?_⟩
  unfold espalierlaw02_CharsBack.f chars_Text.f
  rw [lives_ok _ (by omega), Option.bind_some, if_pos rfl, escape_eq s q (by omega) _ (by omega), Option.bind_some, text_eq s (by omega) _ (by omega), Option.bind_some, Option.bind_some]
  by_cases h : (textR s).2 = 0
  · obtain ⟨hs, cs, hok, hcs⟩ := (textR_iff s).mp h
    have hE : escR q s = (⟨(escAll q s.data.toList).toArray⟩, 0, 0) := by unfold escR; rw [if_pos h]
    obtain ⟨x, hx⟩ : ∃ x : ByteArray, x = ⟨(escAll q s.data.toList).toArray⟩ := ⟨_, rfl⟩
    have hxl : x.data.toList = escAll q s.data.toList := by rw [hx]
    have hxs : x.size ≤ 98304 := by
      rw [Lib.size_eq, hxl]
      have := escAll_len q s.data.toList
      rw [← Lib.size_eq] at this
      omega
    have hu : unAll x x.size [] 0 = (s, 0, 0) := by
      have := unAll_esc x q cs x.size [] [] hok (by rw [hxl, hcs, escAll_encs]; rfl) (by simp) (by simp only [List.nil_append]; rw [← hcs, ← Lib.size_eq]; exact hs)
      rw [List.length_nil, List.nil_append, ← hcs] at this
      exact this
    rw [hE, ← hx]
    dsimp only
    rw [if_pos rfl, unescape_eq x (by omega) _ (by omega), Option.bind_some, hu]
    dsimp only
    rw [if_pos h, if_pos rfl, if_pos rfl]
    obtain ⟨k, hk⟩ : ∃ k, 12 * s.size + 200000 = k + 1 := ⟨12 * s.size + 199999, by omega⟩
    rw [hk]
    simp only [espalierlaw02_CharsBack.j0]
    rw [if_neg (by simp)]
    exact back_loop q x (by omega) (by rw [hxl]; exact escAll_free q _) x.size k 0 (by omega) (by omega) (by omega)
  · have hE : escR q s = (⟨#[]⟩, (textR s).1, (textR s).2) := by unfold escR; rw [if_neg h]
    rw [hE]
    dsimp only
    rw [if_neg h, if_pos rfl, show (⟨#[]⟩ : ByteArray).toList = [] from toList_mk []]
    rfl
end Go.Proofs.YtdmeafhhdhojlaaDoor.Pure
