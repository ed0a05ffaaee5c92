/- Texts of this claim, one behind the other: PM6, UWhere04. Conditions: those of each theorem. -/
import Derived.Test.YtealmfcimoomlaaGreatDoorPText
import Derived.Test.YtealmfcimoomlaaGreatDoorUSame
import Derived.Test.YtealmfcimoomlaaGreatDoorUMarkLib
/- 'alike' of one and the same; Where. -/
namespace Go.Proofs.YtealmfcimoomlaaGreatDoor.PA
open Go.RowKit Go.Proofs.YtealmfcimoomlaaGreatDoorW.PrintWords Go.Proofs.YtealmfcimoomlaaGreatDoorW.PrintLast Go.Proofs.YtealmfcimoomlaaGreatDoorW.PrintMore
set_option linter.unusedVariables false
set_option linter.unusedSimpArgs false
def lineN (s : ByteArray) : Nat → Nat
  | 0 => 1
  | j + 1 => if s.get! j = 10 then lineN s j + 1 else lineN s j
def colN (s : ByteArray) : Nat → Nat
  | 0 => 1
  | j + 1 => if s.get! j = 10 then 1 else colN s j + 1
theorem lineN_le (s : ByteArray) : ∀ j, lineN s j ≤ j + 1
  | 0 => Nat.le_refl _
  | j + 1 => by rw [lineN]; have := lineN_le s j; split <;> omega
theorem colN_le (s : ByteArray) : ∀ j, colN s j ≤ j + 1
  | 0 => Nat.le_refl _
  | j + 1 => by rw [colN]; have := colN_le s j; split <;> omega
theorem count_take (s : ByteArray) : ∀ i, i ≤ s.size → lineN s i = Lib.countByte (s.data.toList.take i) 10 + 1
  | 0, _ => by rw [lineN, List.take_zero]; rfl
  | i + 1, h => by
    have hi : i < s.data.toList.length := by rw [data_length]; omega
    rw [lineN, count_take s i (by omega), List.take_succ_eq_append_getElem hi]
    unfold Lib.countByte
    rw [List.count_append]
    have hg : s.get! i = s.data.toList[i] := by rw [get_list, List.getD_eq_getElem?_getD, List.getElem?_eq_getElem hi]; rfl
    rw [hg]
    by_cases hc : s.data.toList[i] = 10
    · rw [if_pos hc, hc]; rfl
    · rw [if_neg hc, List.count_cons_of_ne hc]
      simp
theorem col_last (s t : ByteArray) : ∀ i, i ≤ s.size → (∀ j, j < i → t.data[j]! = s.get! j) → (colN s i : Int) = (i : Int) - Lib.lastIdx t 10 i
  | 0, _, _ => by rw [colN]; rfl
  | i + 1, h, ht => by
    have ih := col_last s t i (by omega) (fun j hj => ht j (by omega))
    rw [colN]
    unfold Lib.lastIdx
    rw [ht i (by omega)]
    by_cases hc : s.get! i = 10
    · rw [if_pos hc, hc]
      simp
      omega
    · have : ¬ ((s.get! i).toNat : Int) = 10 := by
        intro e
        exact hc (UInt8.toNat_inj.mp (by simpa using (by omega : (s.get! i).toNat = 10)))
      rw [if_neg hc]
      simp only [this, if_false, beq_iff_eq]
      omega
def whereE (s : ByteArray) (a : Int) : Int × Int × Int := if a < 0 ∨ (s.size : Int) < a then (0, 0, 1) else ((lineN s a.toNat : Int), (colN s a.toNat : Int), 0)
theorem where_evP (s : ByteArray) (hs : s.size ≤ 140737488351232) (a : Int) : Ev (fun k => markup_Where.f k s a) (whereE s a) := by
  unfold markup_Where.f whereE
  have stop : Ev (fun k => markup_Where.j0 k s a true) (0, 0, 1) := Ev.step (f := fun _ => some (0, 0, 1)) (fun k => by rw [markup_Where.j0.eq_2, if_pos rfl]) (Ev.now _)
  by_cases h1 : a < 0
  · simp only [if_pos h1, if_pos (show a < 0 ∨ (s.size : Int) < a from .inl h1)]; exact stop
  · simp only [if_neg h1]
    by_cases h2 : (s.size : Int) < a
    · simp only [decide_eq_true (show a > (s.size : Int) from h2), if_pos (show a < 0 ∨ (s.size : Int) < a from .inr h2)]; exact stop
    · simp only [decide_eq_false (show ¬ a > (s.size : Int) from h2), if_neg (show ¬ (a < 0 ∨ (s.size : Int) < a) from fun h => h.elim h1 h2)]
      obtain ⟨i, rfl⟩ : ∃ i : Nat, a = (i : Int) := ⟨a.toNat, by omega⟩
      have hi : i ≤ s.size := by omega
      have hd : (s.extract 0 i).data.toList = s.data.toList.take i := by simp [ByteArray.data_extract]
      have hz : (s.extract 0 i).size = i := by simp [ByteArray.size_extract]; omega
      have c1 := count_take s i hi
      have c2 := col_last s (s.extract 0 i) i hi (fun j hj => by
        have hjs : j < s.data.size := by have : s.data.size = s.size := rfl; omega
        have hje : j < (s.extract 0 i).data.size := by have : (s.extract 0 i).data.size = (s.extract 0 i).size := rfl; omega
        rw [getElem!_pos (s.extract 0 i).data j hje]
        have : s.get! j = s.data[j] := by rw [get_list, List.getD_eq_getElem?_getD, Array.getElem?_toList, Array.getElem?_eq_getElem hjs]; rfl
        rw [this]
        simp [ByteArray.data_extract])
      have h3 := lineN_le s i
      have h4 := colN_le s i
      have hw1 := Aside0.mk (show wrap64 (((Lib.countByte (s.data.toList.take i) 10 : Nat) : Int) + 1) = (lineN s i : Int) by rw [c1]; unfold wrap64; omega)
      have hw2 := Aside0.mk (show wrap64 ((i : Int) - Lib.lastIdx (s.extract 0 i) 10 i) = (colN s i : Int) by rw [← c2]; unfold wrap64; omega)
      refine Ev.step (f := fun _ => some ((lineN s i : Int), (colN s i : Int), 0)) (fun k => ?_) (by rw [Int.toNat_natCast]; exact Ev.now _)
      rw [markup_Where.j0.eq_2, if_neg (by decide), if_pos (by omega), if_pos (by omega), Int.toNat_natCast]
      unfold strings_Count.f strings_LastIndexByte.f
      rw [if_pos rfl, Option.bind_some, if_pos (by omega), Option.bind_some, hd]
      unfold Lib.lastIndexByte
      rw [hz, hw1.out, hw2.out]
end Go.Proofs.YtealmfcimoomlaaGreatDoor.PA

/- espalierlaw04.MarkupWhere: the walk; lines and columns are whereE's. -/
namespace Go.Proofs.YtealmfcimoomlaaGreatDoor.PA
open Go.RowKit Go.Proofs.YtealmfcimoomlaaGreatDoorW.PrintWords Go.Proofs.YtealmfcimoomlaaGreatDoorW.PrintLast Go.Proofs.YtealmfcimoomlaaGreatDoorW.PrintMore
set_option linter.unusedVariables false
set_option linter.unusedSimpArgs false
theorem lineN_pos (s : ByteArray) : ∀ j, 1 ≤ lineN s j
  | 0 => Nat.le_refl _
  | j + 1 => by rw [lineN]; have := lineN_pos s j; split <;> omega
theorem colN_pos (s : ByteArray) : ∀ j, 1 ≤ colN s j
  | 0 => Nat.le_refl _
  | j + 1 => by rw [colN]; split <;> omega
theorem line_col (s : ByteArray) : ∀ j, lineN s j + colN s j ≤ j + 2
  | 0 => Nat.le_refl _
  | j + 1 => by
    rw [lineN, colN]
    have := line_col s j
    have := colN_pos s j
    split <;> omega
structure WhereAsks (k : Nat) (text : ByteArray) (a : Int) (r : Bool) : Prop where
  yes : r = true
  small : text.size ≤ 140737488351232
  here : markup_Where.f k text a = some (whereE text a)
  next : markup_Where.f k text (a + 1) = some (whereE text (a + 1))
theorem env_of {w : World} (hG : Glob w) (hG2 : Glob2 w) (hG3 : Glob3 w) : Env w.heap.size w := ⟨w, rfl, hG, hG2, hG3, Below.refl _ _⟩
set_option maxHeartbeats 16000000 in
set_option maxRecDepth 100000 in
theorem espalierlaw04_MarkupWhere.calls (k : Nat) (text : ByteArray) (a : Int) (r : Bool) (w : World) (h : WhereAsks k text a r) (hG : Glob w := by first | exact Glob.step HG.out (by repeat (first | (with_reducible first | exact HB.out | apply below_alloc | apply pw_below_drewN | apply below_drew1) | exact HB.out | (refine below_set ?_ (Aside0.out (by assumption))))) | exact HG.out | assumption) (hG2 : Glob2 w := by first | exact Glob2.step HG2.out (by repeat (first | (with_reducible first | exact HB.out | apply below_alloc | apply pw_below_drewN | apply below_drew1) | exact HB.out | (refine below_set ?_ (Aside0.out (by assumption))))) | exact HG2.out | assumption) (hG3 : Glob3 w := by first | exact Glob3.step HG3.out (by repeat (first | (with_reducible first | exact HB.out | apply below_alloc | apply pw_below_drewN | apply below_drew1) | exact HB.out | (refine below_set ?_ (Aside0.out (by assumption))))) | exact HG3.out | assumption) :
    Calls Tryz.prog 6 #[.string text, .int .i64 a] w fun e w' => e = .returned (.bool r) ∧ Below w.heap.size w w' := by
  obtain ⟨rfl, hsz, hh, hn⟩ := h
  have CL := Aside0.mk (lives_calls w (env_of hG hG2 hG3))
  have HH := Aside0.mk hh
  have HN := Aside0.mk hn
  have HS := Aside0.mk hsz
  clear hh hn hG hG2 hG3 hsz
  by_cases ho : a < 0 ∨ (text.size : Int) < a
  · have hw : whereE text a = (0, 0, 1) := if_pos ho
    rw [hw] at HH
    have C1 := Aside0.mk (fun w1 => markup_Where.calls k text a 0 0 1 w1 HH.out)
    have HO := Aside0.mk ho
    clear ho hw
    by_cases h0 : a < 0
    · have d0 : decide (a < 0) = true := decide_eq_true h0
      clear h0
      go_enter Tryz.func6, Tryz.ntmps6
      go_wp2_with (first
        | (go_at_call 13; refine CL.out.mono ?_; rintro x w1 ⟨rfl, hB1⟩; have HB1 := Aside0.mk hB1; clear hB1 CL)
        | (go_at_call 20; refine (C1.out _).mono ?_; rintro x w2 ⟨rfl, hB2⟩; have HB2 := Aside0.mk hB2; clear hB2 C1))
      go_ret
      exact ⟨rfl, HB1.out.trans (HB2.out.mono HB1.out.size)⟩
    · have d0 : decide (a < 0) = false := decide_eq_false h0
      have d1 : decide ((text.size : Int) < a) = true := decide_eq_true (by have := HO.out; omega)
      clear h0
      go_enter Tryz.func6, Tryz.ntmps6
      go_wp2_with (first
        | (go_at_call 13; refine CL.out.mono ?_; rintro x w1 ⟨rfl, hB1⟩; have HB1 := Aside0.mk hB1; clear hB1 CL)
        | (go_at_call 20; refine (C1.out _).mono ?_; rintro x w2 ⟨rfl, hB2⟩; have HB2 := Aside0.mk hB2; clear hB2 C1))
      go_ret
      exact ⟨rfl, HB1.out.trans (HB2.out.mono HB1.out.size)⟩
  · obtain ⟨n, rfl⟩ : ∃ n : Nat, a = (n : Int) := ⟨a.toNat, by omega⟩
    have hn : n ≤ text.size := by omega
    have hw : whereE text (n : Int) = ((lineN text n : Int), (colN text n : Int), 0) := if_neg ho
    rw [hw] at HH
    have l1 := lineN_pos text n
    have l2 := colN_pos text n
    have l3 := line_col text n
    have d0 : decide ((n : Int) < 0) = false := decide_eq_false (by omega)
    have d1 : decide ((text.size : Int) < (n : Int)) = false := decide_eq_false (by omega)
    have d1n : decide (text.size < n) = false := decide_eq_false (by omega)
    have C1 := Aside0.mk (fun w1 => markup_Where.calls k text (n : Int) (lineN text n : Int) (colN text n : Int) 0 w1 HH.out)
    by_cases he : n = text.size
    · have ee : ((n : Int) == (text.size : Int)) = true := beq_iff_eq.mpr (by omega)
      have een : (n == text.size) = true := beq_iff_eq.mpr he
      generalize lineN text n = L at *
      generalize colN text n = C at *
      have q1 : decide ((L : Int) < 1) = false := decide_eq_false (by omega)
      have q1n : decide (L < 1) = false := decide_eq_false (by omega)
      have q2 : decide ((C : Int) < 1) = false := decide_eq_false (by omega)
      have q2n : decide (C < 1) = false := decide_eq_false (by omega)
      have hsz := HS.out
      have w1_ := Go.Proofs.YtealmfcimoomlaaGreatDoorW.PrintLast.i64_w ((L : Int) + (C : Int))
      rw [wrap_in (by omega) (by omega)] at w1_
      have w2_ := Go.Proofs.YtealmfcimoomlaaGreatDoorW.PrintLast.i64_w ((text.size : Int) + 2)
      rw [wrap_in (by omega) (by omega)] at w2_
      have q3 : decide ((L : Int) + (C : Int) ≤ (text.size : Int) + 2) = true := decide_eq_true (by omega)
      clear ho hn hw l1 l2 l3 he hsz HH HN
      go_enter Tryz.func6, Tryz.ntmps6
      go_wp2_with (first
        | (go_at_call 13; refine CL.out.mono ?_; rintro x w1 ⟨rfl, hB1⟩; have HB1 := Aside0.mk hB1; clear hB1 CL)
        | (go_at_call 20; refine (C1.out _).mono ?_; rintro x w2 ⟨rfl, hB2⟩; have HB2 := Aside0.mk hB2; clear hB2 C1))
      go_ret
      exact ⟨rfl, HB1.out.trans (HB2.out.mono HB1.out.size)⟩
    · have hlt : n < text.size := by omega
      have hgo : ¬ ((n : Int) + 1 < 0 ∨ (text.size : Int) < (n : Int) + 1) := by omega
      have hw2 : whereE text ((n : Int) + 1) = ((lineN text (n + 1) : Int), (colN text (n + 1) : Int), 0) := (if_neg hgo : whereE text ((n : Int) + 1) = _)
      rw [hw2] at HN
      have C3 := Aside0.mk (fun w1 => markup_Where.calls k text ((n : Int) + 1) (lineN text (n + 1) : Int) (colN text (n + 1) : Int) 0 w1 HN.out)
      have ee : ((n : Int) == (text.size : Int)) = false := beq_eq_false_iff_ne.mpr (by omega)
      have een : (n == text.size) = false := beq_eq_false_iff_ne.mpr he
      have eL : lineN text (n + 1) = if text.get! n = 10 then lineN text n + 1 else lineN text n := rfl
      have eC : colN text (n + 1) = if text.get! n = 10 then 1 else colN text n + 1 := rfl
      have hge : text.get! n = text[n]'hlt := by
        have hjs : n < text.data.size := hlt
        rw [get_list, List.getD_eq_getElem?_getD, Array.getElem?_toList, Array.getElem?_eq_getElem hjs]
        rfl
      have b10 : (((text[n]'hlt).toNat : Nat) : Int) = 10 ↔ text.get! n = 10 := by
        rw [hge]
        constructor
        · intro h
          exact UInt8.toNat_inj.mp (by simpa using (by omega : (text[n]'hlt).toNat = 10))
        · intro h; rw [h]; rfl
      have hsz := HS.out
      have i0 := eq_true (show (n : Int) < (text.size : Int) by omega)
      have i1 := eq_true hlt
      have wn := Go.Proofs.YtealmfcimoomlaaGreatDoorW.PrintLast.i64_w ((n : Int) + 1)
      rw [wrap_in (by omega) (by omega)] at wn
      have l4 := line_col text n
      generalize lineN text n = L at *
      generalize colN text n = C at *
      have q1 : decide ((L : Int) < 1) = false := decide_eq_false (by omega)
      have q1n : decide (L < 1) = false := decide_eq_false (by omega)
      have q2 : decide ((C : Int) < 1) = false := decide_eq_false (by omega)
      have q2n : decide (C < 1) = false := decide_eq_false (by omega)
      have wL := Go.Proofs.YtealmfcimoomlaaGreatDoorW.PrintLast.i64_w ((L : Int) + 1)
      rw [wrap_in (by omega) (by omega)] at wL
      have wC := Go.Proofs.YtealmfcimoomlaaGreatDoorW.PrintLast.i64_w ((C : Int) + 1)
      rw [wrap_in (by omega) (by omega)] at wC
      by_cases hb : text.get! n = 10
      · rw [if_pos hb] at eL eC
        rw [eL, eC] at C3
        have hbt : ((((text[n]'hlt).toNat : Nat) : Int) == 10) = true := beq_iff_eq.mpr (b10.mpr hb)
        clear ho hn hw hw2 l1 l2 l3 l4 he hsz HH HN eL eC b10 hb hgo hge
        go_enter Tryz.func6, Tryz.ntmps6
        go_wp2_with (first
          | (go_at_call 13; refine CL.out.mono ?_; rintro x w1 ⟨rfl, hB1⟩; have HB1 := Aside0.mk hB1; clear hB1 CL)
          | (go_at_call 20; refine (C1.out _).mono ?_; rintro x w2 ⟨rfl, hB2⟩; have HB2 := Aside0.mk hB2; clear hB2 C1)
          | (go_at_call 20; refine (C3.out _).mono ?_; rintro x w3 ⟨rfl, hB3⟩; have HB3 := Aside0.mk hB3; clear hB3 C3))
        go_ret
        exact ⟨rfl, (HB1.out.trans (HB2.out.mono HB1.out.size)).trans (HB3.out.mono (Nat.le_trans HB1.out.size HB2.out.size))⟩
      · rw [if_neg hb] at eL eC
        rw [eL, eC] at C3
        have hbt : ((((text[n]'hlt).toNat : Nat) : Int) == 10) = false := beq_eq_false_iff_ne.mpr (fun e => hb (b10.mp e))
        clear ho hn hw hw2 l1 l2 l3 l4 he hsz HH HN eL eC b10 hb hgo hge
        go_enter Tryz.func6, Tryz.ntmps6
        go_wp2_with (first
          | (go_at_call 13; refine CL.out.mono ?_; rintro x w1 ⟨rfl, hB1⟩; have HB1 := Aside0.mk hB1; clear hB1 CL)
          | (go_at_call 20; refine (C1.out _).mono ?_; rintro x w2 ⟨rfl, hB2⟩; have HB2 := Aside0.mk hB2; clear hB2 C1)
          | (go_at_call 20; refine (C3.out _).mono ?_; rintro x w3 ⟨rfl, hB3⟩; have HB3 := Aside0.mk hB3; clear hB3 C3))
        go_ret
        exact ⟨rfl, (HB1.out.trans (HB2.out.mono HB1.out.size)).trans (HB3.out.mono (Nat.le_trans HB1.out.size HB2.out.size))⟩
end Go.Proofs.YtealmfcimoomlaaGreatDoor.PA
