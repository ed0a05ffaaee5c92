/- The pure statement of the law CharsParts: of two texts and of what is made of them by putting them together. -/
import Derived.Test.YtdmeafhhdhojlaaDoorPRunes
import Derived.Test.YtdmeafhhdhojlaaDoorPLives
import Derived.Test.YtdmeafhhdhojlaaDoorPEscape
import Derived.Test.YtdmeafhhdhojlaaDoorPA11
namespace Go.Proofs.YtdmeafhhdhojlaaDoor.Pure
open Go.RowKit Go.Proofs.YtdmeafhhdhojlaaDoor.PA Go.Proofs.YtdmeafhhdhojlaaDoorW.PrintWords Go.Proofs.YtdmeafhhdhojlaaDoorW.PrintLast
theorem encs_long (cs : List Nat) (hc : ∀ c ∈ cs, okC c) : cs.length ≤ (encs cs).length := by
  induction cs with
  | nil => simp
  | cons c cs ih =>
    have := enc_pos c (hc c (by simp))
    have := ih (fun x hx => hc x (by simp [hx]))
    rw [encs_cons, List.length_append, List.length_cons]
    omega
theorem Cut_eq (k : Nat) (s : ByteArray) (a b : Int) (ht : (textR s).2 = 0) (ha : 0 ≤ a) (hb : 0 ≤ b) (hk : s.size + 2 ≤ k) : chars_Cut.f k s a b = some (cutR s a b, 0) := by
  have hs := (textR_ok ht).1
  unfold chars_Cut.f
  rw [text_eq s (by omega) k hk, Option.bind_some, if_pos ht, if_pos (show s.size ≤ 70368744177664 by omega), if_neg (by omega)]
theorem j0_true (k : Nat) (a0 a1 : ByteArray) (a2 : Bool) (a3 : Int) : espalierlaw02_CharsParts.j0 (k + 1) a0 a1 a2 a3 true = some true := by
  rw [espalierlaw02_CharsParts.j0.eq_2, if_pos rfl]
theorem parts_j0 (k : Nat) (x y : ByteArray) (q : Bool) (n : Int) (hn0 : 0 ≤ n) (hn1 : n ≤ 65535) (hx : (textR x).2 = 0) (hy : (textR y).2 = 0) (hk : x.size + y.size + 10 ≤ k) : espalierlaw02_CharsParts.j0 (k + 1) x y q n false = some true := by
  obtain ⟨hxs, cs, hcs, hxl⟩ := (textR_iff x).mp hx
  obtain ⟨hys, ds, hds, hyl⟩ := (textR_iff y).mp hy
  have hSz : (x ++ y).size = x.size + y.size := ByteArray.size_append
  have hSl : (x ++ y).data.toList = encs (cs ++ ds) := by rw [ByteArray.data_append, Array.toList_append, hxl, hyl, encs_app]
  have hok : ∀ c ∈ cs ++ ds, okC c := fun c h => (List.mem_append.mp h).elim (hcs c) (hds c)
  have hw : wrap64 ((x.size : Int) + (y.size : Int)) = ((x.size + y.size : Nat) : Int) := by rw [wrap_in (by omega) (by omega)]; omega
  rw [espalierlaw02_CharsParts.j0.eq_2, if_neg (by decide), if_pos (by omega), Text_eq k (x ++ y) (by omega) (by omega), Option.bind_some, hw]
  by_cases hb : x.size + y.size > 16384
  · have ht : textR (x ++ y) = (0, 2) := by unfold textR; rw [if_pos (by omega)]
    rw [if_pos (by omega), ht]
    rfl
  have hS : (textR (x ++ y)).2 = 0 := (textR_iff _).mpr ⟨by omega, cs ++ ds, hok, hSl⟩
  have hE : ∀ z : ByteArray, (textR z).2 = 0 → escR q z = (⟨(escAll q z.data.toList).toArray⟩, 0, 0) := fun z h => by unfold escR; rw [if_pos h]
  have hL : ∀ z : ByteArray, z.size ≤ x.size + y.size → (textR z).2 = 0 → chars_Len.f k z = some ((Lib.runeCount z : Int), 0) := fun z h1 h2 => by rw [Len_eq k z (by omega) (by omega), if_pos h2]
  have hn : wrap64 n = n := wrap_in (by omega) (by omega)
  have c1 := (count_of x cs hcs hxl).1
  have c2 := (count_of y ds hds hyl).1
  have c3 := (count_of (x ++ y) (cs ++ ds) hok hSl).1
  have l1 := encs_long (cs ++ ds) hok
  have lA : (cs ++ ds).length = cs.length + ds.length := List.length_append
  have hSs := Lib.size_eq (x ++ y)
  rw [← hSl, ← hSs] at l1
  rw [if_neg (by omega), escape_eq x q (by omega) k (by omega), Option.bind_some, escape_eq y q (by omega) k (by omega), Option.bind_some, escape_eq (x ++ y) q (by omega) k (by omega), Option.bind_some, hL x (by omega) hx, Option.bind_some, hL y (by omega) hy, Option.bind_some, hL (x ++ y) (by omega) hS, Option.bind_some, hn,
    Cut_eq k (x ++ y) 0 n hS (by omega) hn0 (by omega), Option.bind_some, Cut_eq k (x ++ y) n 16384 hS hn0 (by omega) (by omega), Option.bind_some, Cut_eq k (x ++ y) _ _ hS (Int.natCast_nonneg _) (Int.natCast_nonneg _) (by omega), Option.bind_some, hE x hx, hE y hy, hE (x ++ y) hS]
  have k1 := cut_of (x ++ y) (cs ++ ds) hok hSl 0 n
  have k2 := cut_of (x ++ y) (cs ++ ds) hok hSl n 16384
  have k3 := cut_of (x ++ y) (cs ++ ds) hok hSl (Lib.runeCount x : Int) (Lib.runeCount y : Int)
  rw [show (0 : Int).toNat = 0 from rfl, List.drop_zero] at k1
  rw [show (16384 : Int).toNat = 16384 from rfl, List.take_of_length_le (by rw [List.length_drop]; omega)] at k2
  rw [Int.toNat_natCast, Int.toNat_natCast, c1, c2, List.drop_left, List.take_length, ← hyl] at k3
  have hcat : (cutR (x ++ y) 0 n).data.toList ++ (cutR (x ++ y) n 16384).data.toList = (x ++ y).data.toList := by rw [k1, k2, ← encs_app, List.take_append_drop, hSl]
  have hsum : (cutR (x ++ y) 0 n).size + (cutR (x ++ y) n 16384).size = (x ++ y).size := by
    have := congrArg List.length hcat
    rw [List.length_append, ← Lib.size_eq, ← Lib.size_eq, ← Lib.size_eq] at this
    exact this
  have e1 := escAll_len q x.data.toList
  have e2 := escAll_len q y.data.toList
  rw [← Lib.size_eq] at e1 e2
  rw [if_pos hS, if_pos (show (0 : Int) = 0 from rfl), if_pos (by simp only [sizeMk]; omega)]
  rw [if_pos (by
    rw [Lib.toList_data, Lib.toList_data, ByteArray.data_append, Array.toList_append, ByteArray.data_append, Array.toList_append]
    simp only [escAll, List.flatMap_append])]
  have hw2 : wrap64 ((Lib.runeCount x : Int) + (Lib.runeCount y : Int)) = (Lib.runeCount (x ++ y) : Int) := by rw [wrap_in (by omega) (by omega), c1, c2, c3]; simp
  rw [if_pos hw2.symm, if_pos (show (cutR (x ++ y) 0 n).size + (cutR (x ++ y) n 16384).size ≤ 9223372036854775807 by omega), if_pos (by rw [Lib.toList_data, Lib.toList_data, ByteArray.data_append, Array.toList_append]; exact hcat)]
  rw [Lib.toList_data, Lib.toList_data, c1, c2]
  show some ((cutR (x ++ y) (cs.length : Int) (ds.length : Int)).data.toList == y.data.toList) = some true
  rw [k3]
  simp
theorem CharsParts : espalierlaw02_CharsParts.Pure := by
  intro x y q n hx hy hn
  have hn2 : 0 ≤ n ∧ n ≤ 65535 := by
    simp only [Lit.wf, Bool.and_eq_true, decide_eq_true_eq] at hn
    have h1 : IntKind.u16.min = 0 := rfl
    have h2 : IntKind.u16.max = 65535 := rfl
    omega
  refine ⟨x.size + y.size + 200, ?_⟩
  unfold espalierlaw02_CharsParts.f
  rw [lives_ok _ (by omega), Option.bind_some, if_pos rfl, Text_eq _ x (by omega) (by omega), Option.bind_some, Text_eq _ y (by omega) (by omega), Option.bind_some]
  obtain ⟨k, hk⟩ : ∃ k, x.size + y.size + 200 = k + 1 := ⟨x.size + y.size + 199, by omega⟩
  rw [hk]
  by_cases h1 : (textR x).2 = 0
  · rw [if_pos h1]
    by_cases h2 : (textR y).2 = 0
    · rw [show ((textR y).2 != 0) = false from bne_eq_false_iff_eq.mpr h2]
      exact parts_j0 k x y q n hn2.1 hn2.2 h1 h2 (by omega)
    · rw [show ((textR y).2 != 0) = true from bne_iff_ne.mpr h2]
      exact j0_true k x y q n
  · rw [if_neg h1]
    exact j0_true k x y q n
end Go.Proofs.YtdmeafhhdhojlaaDoor.Pure
