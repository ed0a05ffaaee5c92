/- The pure statement of the law CharsSqueezed: what is squeezed is squeezed, and blank texts leave nothing. -/
import Derived.Test.YtdmeafhhdhojlaaDoorPSqueeze
import Derived.Test.YtdmeafhhdhojlaaDoorPLives
import Derived.Test.YtdmeafhhdhojlaaDoorPA12
namespace Go.Proofs.YtdmeafhhdhojlaaDoor.Pure
open Go.RowKit Go.Proofs.YtdmeafhhdhojlaaDoor.PA Go.Proofs.YtdmeafhhdhojlaaDoorW.PrintWords Go.Proofs.YtdmeafhhdhojlaaDoorW.PrintLast
theorem dark_ne {b : UInt8} (h : whiteB b = false) : b ≠ 9 ∧ b ≠ 10 ∧ b ≠ 13 ∧ b ≠ 32 := by
  refine ⟨?_, ?_, ?_, ?_⟩ <;> (rintro rfl; exact absurd h (by decide))
def NF (l : List UInt8) : Prop := (∀ i, i < l.length → l.getD i 0 = 32 → i + 1 < l.length ∧ l.getD (i + 1) 0 ≠ 32) ∧ ∀ b ∈ l, b ≠ 9 ∧ b ≠ 10 ∧ b ≠ 13
theorem nf_app (m : List UInt8) (hm : NF m) : ∀ w : List UInt8, (∀ b ∈ w, whiteB b = false) → NF (w ++ m)
  | [], _ => hm
  | b :: w, h => by
    have ih := nf_app m hm w (fun x hx => h x (by simp [hx]))
    have hb := dark_ne (h b (by simp))
    refine ⟨fun i hi e => ?_, fun x hx => ?_⟩
    · cases i with
      | zero => exact absurd e hb.2.2.2
      | succ i =>
        have := ih.1 i (by simpa using hi) (by simpa using e)
        exact ⟨by simpa using this.1, by simpa using this.2⟩
    · rcases List.mem_cons.mp hx with rfl | hx
      · exact ⟨hb.1, hb.2.1, hb.2.2.1⟩
      · exact ih.2 x hx
theorem nf_tail : ∀ ws : List (List UInt8), (∀ x ∈ ws, Dark x) → NF (Lib.joinTail [32] ws)
  | [], _ => ⟨fun i hi => absurd hi (by simp [Lib.joinTail]), fun b hb => absurd hb (by simp [Lib.joinTail])⟩
  | x :: ws, h => by
    have hx := h x (by simp)
    have ih := nf_app _ (nf_tail ws (fun y hy => h y (by simp [hy]))) x hx.2
    rw [tail_cons]
    refine ⟨fun i hi e => ?_, fun b hb => ?_⟩
    · cases i with
      | zero =>
        obtain ⟨h0, hd⟩ := hx
        cases x with
        | nil => exact absurd rfl h0
        | cons b x => exact ⟨by simp, by simpa using (dark_ne (hd b (by simp))).2.2.2⟩
      | succ i =>
        have := ih.1 i (by simpa using hi) (by simpa using e)
        exact ⟨by simpa using this.1, by simpa using this.2⟩
    · rcases List.mem_cons.mp hb with rfl | hb
      · decide
      · exact ih.2 b hb
theorem nf_join (ws : List (List UInt8)) (h : ∀ x ∈ ws, Dark x) : NF (Lib.join ws [32]) ∧ (Lib.join ws [32]).getD 0 0 ≠ 32 ∧ (Lib.join ws [32] = [] ↔ ws = []) := by
  cases ws with
  | nil => exact ⟨⟨fun i hi => absurd hi (by simp [Lib.join_nil]), fun b hb => absurd hb (by simp [Lib.join_nil])⟩, by decide, by simp [Lib.join_nil]⟩
  | cons x ws =>
    have hx := h x (by simp)
    rw [Lib.join_cons]
    refine ⟨nf_app _ (nf_tail ws (fun y hy => h y (by simp [hy]))) x hx.2, ?_⟩
    obtain ⟨h0, hd⟩ := hx
    cases x with
    | nil => exact absurd rfl h0
    | cons b x => exact ⟨by simpa using (dark_ne (hd b (by simp))).2.2.2, by simp⟩
theorem fieldsB_some : ∀ (l : List UInt8) (w : List UInt8), fieldsB l (some w) ≠ []
  | [], w => by simp [fieldsB]
  | b :: l, w => by
    rw [fieldsB.eq_4]
    split
    · simp
    · exact fieldsB_some l _
theorem fieldsB_nil : ∀ l : List UInt8, fieldsB l none = [] ↔ l.all (blanksL.contains ·) = true
  | [] => by simp [fieldsB]
  | b :: l => by
    rw [fieldsB.eq_3, List.all_cons, Bool.and_eq_true]
    by_cases h : whiteB b = true
    · rw [if_pos h, fieldsB_nil l]
      exact ⟨fun e => ⟨h, e⟩, fun e => e.2⟩
    · rw [if_neg h]
      exact ⟨fun e => absurd e (fieldsB_some l _), fun e => absurd e.1 h⟩
theorem Blank_eq (s : ByteArray) (hn : s.size ≤ 140737488355328) : chars_Blank.f s = some (s.data.toList.all (blanksL.contains ·)) := by
  unfold chars_Blank.f
  rw [if_pos (by omega)]
theorem sq_loop (s x : ByteArray) (hn : s.size ≤ 140737488355328) (hx : x.size ≤ 16384) (h1 : NF x.data.toList) (h2 : x.data.toList.getD 0 0 ≠ 32) (h3 : (s.data.toList.all (blanksL.contains ·) == (x.toList == ([] : List UInt8))) = true) : ∀ (d k i : Nat), i ≤ x.size → x.size - i = d → d + 2 ≤ k → espalierlaw02_CharsSqueezed.l0 k s x i = some true := by
  have hsz := Lib.size_eq x
  intro d
  induction d with
  | zero =>
    intro k i hi hd hk
    obtain ⟨k, rfl⟩ : ∃ m, k = m + 1 := ⟨k - 1, by omega⟩
    rw [espalierlaw02_CharsSqueezed.l0.eq_2, if_neg (by omega), Blank_eq s hn, Option.bind_some, h3]
  | succ d ih =>
    intro k i hi hd hk
    obtain ⟨k, rfl⟩ : ∃ m, k = m + 1 := ⟨k - 1, by omega⟩
    have hlt : i < x.size := by omega
    have hg := get_list x i
    have hmem : x.get! i ∈ x.data.toList := by rw [hg, List.getD_eq_getElem?_getD, List.getElem?_eq_getElem (by rw [← hsz]; exact hlt)]; exact List.getElem_mem _
    have hb := h1.2 _ hmem
    have ne : ∀ (j : Nat) (c : UInt8) (z : Int), (c.toNat : Int) = z → x.get! j ≠ c → ¬ ((x.get! j).toNat : Int) = z := fun j c z hz h e => h (UInt8.toNat_inj.mp (by omega))
    have hw : wrap64 ((i : Int) + 1) = ((i + 1 : Nat) : Int) := by rw [wrap_in (by omega) (by omega)]; omega
    have hw2 : wrap64 ((x.size : Int) - 1) = ((x.size - 1 : Nat) : Int) := by rw [wrap_in (by omega) (by omega)]; omega
    have hI := ih k (i + 1) (by omega) (by omega) (by omega)
    rw [espalierlaw02_CharsSqueezed.l0.eq_2, if_pos (by omega), if_pos (by omega), bt_byte x i hlt, if_neg (ne i 9 9 rfl hb.1), if_neg (ne i 10 10 rfl hb.2.1), if_neg (ne i 13 13 rfl hb.2.2), hw]
    by_cases e : x.get! i = 32
    · have he : ((x.get! i).toNat : Int) = 32 := by rw [e]; rfl
      have hi0 : i ≠ 0 := fun z => h2 (by rw [z] at hg; rw [← hg, ← z]; exact e)
      have hnf := h1.1 i (by rw [← hsz]; exact hlt) (by rw [← hg]; exact e)
      rw [← hsz, ← get_list] at hnf
      rw [if_pos he, if_neg (by omega), hw2, if_neg (by omega), if_pos (by omega), if_pos (by omega), bt_byte x (i + 1) hnf.1, if_neg (ne (i + 1) 32 32 rfl hnf.2)]
      exact hI
    · rw [if_neg (ne i 32 32 rfl e)]
      exact hI
theorem sq_j0 (k : Nat) (s x : ByteArray) (h : espalierlaw02_CharsSqueezed.l0 k s x 0 = some true) : espalierlaw02_CharsSqueezed.j0 (k + 1) s x false = some true := by
  rw [espalierlaw02_CharsSqueezed.j0.eq_2, if_neg (by simp)]
  exact h
theorem CharsSqueezed : espalierlaw02_CharsSqueezed.Pure := by
  intro s hn
  refine ⟨s.size + 40000, ?_⟩
  unfold espalierlaw02_CharsSqueezed.f
  rw [lives_ok _ (by omega), Option.bind_some, if_pos rfl, Squeeze_eq _ s (by omega) (by omega), Option.bind_some]
  by_cases ht : (textR s).2 = 0
  · rw [if_pos ht]
    obtain ⟨hs, cs, hc, hcs⟩ := (textR_iff s).mp ht
    obtain ⟨x, hx⟩ : ∃ x : ByteArray, x = ⟨(sqL s.data.toList).toArray⟩ := ⟨_, rfl⟩
    have hxl : x.data.toList = sqL s.data.toList := by rw [hx]
    have hlen := sqL_len s.data.toList
    rw [← hxl, ← Lib.size_eq, ← Lib.size_eq] at hlen
    obtain ⟨ds, hds, hxe⟩ := sq_text s.data.toList cs hc hcs
    rw [← hxl] at hxe
    have htx : (textR x).2 = 0 := (textR_iff x).mpr ⟨by omega, ds, hds, hxe⟩
    have hback : ∀ y : ByteArray, sqL y.data.toList = x.data.toList → (⟨(sqL y.data.toList).toArray⟩ : ByteArray) = x := fun y h => by rw [h, mkL]
    have hxx : sqL x.data.toList = x.data.toList := by rw [hxl, sq_again]
    obtain ⟨y, hy⟩ : ∃ y : ByteArray, y = ((⟨#[32]⟩ : ByteArray) ++ x) ++ (⟨#[10]⟩ : ByteArray) := ⟨_, rfl⟩
    have hyl : y.data.toList = 32 :: (x.data.toList ++ [10]) := by rw [hy, ByteArray.data_append, Array.toList_append, ByteArray.data_append, Array.toList_append]; rfl
    have hys : y.size = x.size + 2 := by rw [Lib.size_eq, hyl, Lib.size_eq x]; simp
    have hyy : sqL y.data.toList = x.data.toList := by rw [hyl, hxl, sq_around]
    have hye : y.data.toList = encs (32 :: (ds ++ [10])) := by
      have h32 : enc 32 = [32] := by decide +kernel
      have h10 : enc 10 = [10] := by decide +kernel
      rw [hyl, encs_cons, encs_app, encs_one, h32, h10, hxe]; rfl
    have hyo : ∀ c ∈ 32 :: (ds ++ [10]), okC c := fun c hc => by
      rcases List.mem_cons.mp hc with rfl | hc
      · exact (okC_iff 32).mpr (by omega)
      · rcases List.mem_append.mp hc with hc | hc
        · exact hds c hc
        · rw [List.mem_singleton.mp hc]; exact (okC_iff 10).mpr (by omega)
    have hnf := nf_join (fieldsB s.data.toList none) (sq_good _)
    have hj : Lib.join (fieldsB s.data.toList none) [32] = x.data.toList := hxl.symm
    rw [hj] at hnf
    have hB : (s.data.toList.all (blanksL.contains ·) == (x.toList == ([] : List UInt8))) = true := by
      rw [Lib.toList_data, beq_iff_eq, Bool.eq_iff_iff, beq_iff_eq, hnf.2.2, fieldsB_nil]
    obtain ⟨k, hk⟩ : ∃ k, s.size + 40000 = k + 1 := ⟨s.size + 39999, by omega⟩
    have hloop := sq_loop s x (by omega) (by omega) hnf.1 hnf.2.1 hB x.size k 0 (by omega) (by omega) (by omega)
    have hj0 := sq_j0 k s x hloop
    rw [← hx, if_pos rfl, Squeeze_eq _ x (by omega) (by omega), Option.bind_some, if_pos htx, hback x hxx]
    have h1s : ((⟨#[32]⟩ : ByteArray) ++ x).size = x.size + 1 := by rw [ByteArray.size_append]; have : (⟨#[32]⟩ : ByteArray).size = 1 := rfl; omega
    rw [show ((x, (0 : Int)) : ByteArray × Int).1 = x from rfl, if_pos (by omega), if_pos (by omega), ← hy, Squeeze_eq _ y (by omega) (by omega), Option.bind_some, if_pos rfl, if_pos rfl]
    have hw : wrap64 ((x.size : Int) + 2) = ((x.size + 2 : Nat) : Int) := by rw [wrap_in (by omega) (by omega)]; omega
    rw [hw, hk]
    by_cases hb : x.size + 2 ≤ 16384
    · have hty : (textR y).2 = 0 := (textR_iff y).mpr ⟨by omega, _, hyo, hye⟩
      rw [if_pos hty, if_pos (by omega), if_pos rfl, hback y hyy, show (x.toList != x.toList) = false from by simp]
      exact hj0
    · rw [if_neg (by omega)]
      exact hj0
  · rw [if_neg ht, if_neg ht, show (⟨#[]⟩ : ByteArray).toList = [] from toList_mk []]
    rfl
end Go.Proofs.YtdmeafhhdhojlaaDoor.Pure
