/- Texts of this claim, one behind the other: PM6, UWhere04, PureMarkupWhere, Opens, GL. Conditions: those of each theorem. -/
import Derived.Test.YtealmfcimoomlaaGreatDoorPText
import Derived.Test.YtealmfcimoomlaaGreatDoorPA8
import Derived.Test.YtealmfcimoomlaaGreatDoorUBuild
import Derived.ChangeArms
import Derived.SizedLaws
import Derived.Deep.Slices
import Derived.Deep.Fields
import Derived.KernelRfl
import Derived.Test.YtealmfcimoomlaaGreatDoorG
import Derived.Test.YtealmfcimoomlaaGreatDoorRows
import Derived.Test.YtealmfcimoomlaaGreatDoorUUtf8
import Derived.Lib.LaidU8T
import Derived.PinnedBridge
import Derived.HandedShaped
import Derived.Shelf.Vars
import Derived.LaidLaws
import Derived.Lib.ItoaNum
import Derived.Lib.LaidTab
/- 'alike' of one and the same; Where. -/
namespace Go.Proofs.YtealmfcimoomlaaGreatDoor.PA
open Go.RowKit Go.Proofs.YtealmfcimoomlaaGreatDoorW.PrintWords Go.Proofs.YtealmfcimoomlaaGreatDoorW.PrintLast Go.Proofs.YtealmfcimoomlaaGreatDoorW.PrintMore
set_option linter.unusedVariables false
set_option linter.unusedSimpArgs false
def lineN (s : ByteArray) : Nat → Nat
  | 0 => 1
  | j + 1 => if s.get! j = 10 then lineN s j + 1 else lineN s j
def colN (s : ByteArray) : Nat → Nat
  | 0 => 1
  | j + 1 => if s.get! j = 10 then 1 else colN s j + 1
theorem lineN_le (s : ByteArray) : ∀ j, lineN s j ≤ j + 1
  | 0 => Nat.le_refl _
  | j + 1 => by rw [lineN]; have := lineN_le s j; split <;> omega
theorem colN_le (s : ByteArray) : ∀ j, colN s j ≤ j + 1
  | 0 => Nat.le_refl _
  | j + 1 => by rw [colN]; have := colN_le s j; split <;> omega
theorem bt_10 (s : ByteArray) (j : Nat) (hj : j < s.size) : bt s (j : Int) = 10 ↔ s.get! j = 10 := by
  rw [bt_byte s j hj]
  constructor
  · intro h
    exact UInt8.toNat_inj.mp (by simpa using (by omega : (s.get! j).toNat = 10))
  · intro h; rw [h]; rfl
theorem count_take (s : ByteArray) : ∀ i, i ≤ s.size → lineN s i = Lib.countByte (s.data.toList.take i) 10 + 1
  | 0, _ => by rw [lineN, List.take_zero]; rfl
  | i + 1, h => by
    have hi : i < s.data.toList.length := by rw [data_length]; omega
    rw [lineN, count_take s i (by omega), List.take_succ_eq_append_getElem hi]
    unfold Lib.countByte
    rw [List.count_append]
    have hg : s.get! i = s.data.toList[i] := by rw [get_list, List.getD_eq_getElem?_getD, List.getElem?_eq_getElem hi]; rfl
    rw [hg]
    by_cases hc : s.data.toList[i] = 10
    · rw [if_pos hc, hc]; rfl
    · rw [if_neg hc, List.count_cons_of_ne hc]
      simp
theorem col_last (s t : ByteArray) : ∀ i, i ≤ s.size → (∀ j, j < i → t.data[j]! = s.get! j) → (colN s i : Int) = (i : Int) - Lib.lastIdx t 10 i
  | 0, _, _ => by rw [colN]; rfl
  | i + 1, h, ht => by
    have ih := col_last s t i (by omega) (fun j hj => ht j (by omega))
    rw [colN]
    unfold Lib.lastIdx
    rw [ht i (by omega)]
    by_cases hc : s.get! i = 10
    · rw [if_pos hc, hc]
      simp
      omega
    · have : ¬ ((s.get! i).toNat : Int) = 10 := by
        intro e
        exact hc (UInt8.toNat_inj.mp (by simpa using (by omega : (s.get! i).toNat = 10)))
      rw [if_neg hc]
      simp only [this, if_false, beq_iff_eq]
      omega
def whereE (s : ByteArray) (a : Int) : Int × Int × Int := if a < 0 ∨ (s.size : Int) < a then (0, 0, 1) else ((lineN s a.toNat : Int), (colN s a.toNat : Int), 0)
theorem where_evP (s : ByteArray) (hs : s.size ≤ 140737488351232) (a : Int) : Ev (fun k => markup_Where.f k s a) (whereE s a) := by
  unfold markup_Where.f whereE
  have stop : Ev (fun k => markup_Where.j0 k s a true) (0, 0, 1) := Ev.step (f := fun _ => some (0, 0, 1)) (fun k => by rw [markup_Where.j0.eq_2, if_pos rfl]) (Ev.now _)
  by_cases h1 : a < 0
  · simp only [if_pos h1, if_pos (show a < 0 ∨ (s.size : Int) < a from .inl h1)]; exact stop
  · simp only [if_neg h1]
    by_cases h2 : (s.size : Int) < a
    · simp only [decide_eq_true (show a > (s.size : Int) from h2), if_pos (show a < 0 ∨ (s.size : Int) < a from .inr h2)]; exact stop
    · simp only [decide_eq_false (show ¬ a > (s.size : Int) from h2), if_neg (show ¬ (a < 0 ∨ (s.size : Int) < a) from fun h => h.elim h1 h2)]
      obtain ⟨i, rfl⟩ : ∃ i : Nat, a = (i : Int) := ⟨a.toNat, by omega⟩
      have hi : i ≤ s.size := by omega
      have hd : (s.extract 0 i).data.toList = s.data.toList.take i := by simp [ByteArray.data_extract]
      have hz : (s.extract 0 i).size = i := by simp [ByteArray.size_extract]; omega
      have c1 := count_take s i hi
      have c2 := col_last s (s.extract 0 i) i hi (fun j hj => by
        have hjs : j < s.data.size := by have : s.data.size = s.size := rfl; omega
        have hje : j < (s.extract 0 i).data.size := by have : (s.extract 0 i).data.size = (s.extract 0 i).size := rfl; omega
        rw [getElem!_pos (s.extract 0 i).data j hje]
        have : s.get! j = s.data[j] := by rw [get_list, List.getD_eq_getElem?_getD, Array.getElem?_toList, Array.getElem?_eq_getElem hjs]; rfl
        rw [this]
        simp [ByteArray.data_extract])
      have h3 := lineN_le s i
      have h4 := colN_le s i
      have hw1 := Aside0.mk (show wrap64 (((Lib.countByte (s.data.toList.take i) 10 : Nat) : Int) + 1) = (lineN s i : Int) by rw [c1]; unfold wrap64; omega)
      have hw2 := Aside0.mk (show wrap64 ((i : Int) - Lib.lastIdx (s.extract 0 i) 10 i) = (colN s i : Int) by rw [← c2]; unfold wrap64; omega)
      refine Ev.step (f := fun _ => some ((lineN s i : Int), (colN s i : Int), 0)) (fun k => ?_) (by rw [Int.toNat_natCast]; exact Ev.now _)
      rw [markup_Where.j0.eq_2, if_neg (by decide), if_pos (by omega), if_pos (by omega), Int.toNat_natCast]
      unfold strings_Count.f strings_LastIndexByte.f
      rw [if_pos rfl, Option.bind_some, if_pos (by omega), Option.bind_some, hd]
      unfold Lib.lastIndexByte
      rw [hz, hw1.out, hw2.out]
end Go.Proofs.YtealmfcimoomlaaGreatDoor.PA

/- espalierlaw04.MarkupWhere: the walk; lines and columns are whereE's. -/
namespace Go.Proofs.YtealmfcimoomlaaGreatDoor.PA
open Go.RowKit Go.Proofs.YtealmfcimoomlaaGreatDoorW.PrintWords Go.Proofs.YtealmfcimoomlaaGreatDoorW.PrintLast Go.Proofs.YtealmfcimoomlaaGreatDoorW.PrintMore
set_option linter.unusedVariables false
set_option linter.unusedSimpArgs false
theorem lineN_pos (s : ByteArray) : ∀ j, 1 ≤ lineN s j
  | 0 => Nat.le_refl _
  | j + 1 => by rw [lineN]; have := lineN_pos s j; split <;> omega
theorem colN_pos (s : ByteArray) : ∀ j, 1 ≤ colN s j
  | 0 => Nat.le_refl _
  | j + 1 => by rw [colN]; split <;> omega
theorem line_col (s : ByteArray) : ∀ j, lineN s j + colN s j ≤ j + 2
  | 0 => Nat.le_refl _
  | j + 1 => by
    rw [lineN, colN]
    have := line_col s j
    have := colN_pos s j
    split <;> omega
structure WhereAsks (k : Nat) (text : ByteArray) (a : Int) (r : Bool) : Prop where
  yes : r = true
  small : text.size ≤ 140737488351232
  here : markup_Where.f k text a = some (whereE text a)
  next : markup_Where.f k text (a + 1) = some (whereE text (a + 1))
theorem env_of {w : World} (hG : Glob w) (hG2 : Glob2 w) (hG3 : Glob3 w) : Env w.heap.size w := ⟨w, rfl, hG, hG2, hG3, Below.refl _ _⟩
set_option maxHeartbeats 16000000 in
set_option maxRecDepth 100000 in
theorem espalierlaw04_MarkupWhere.calls (k : Nat) (text : ByteArray) (a : Int) (r : Bool) (w : World) (h : WhereAsks k text a r) (hG : Glob w := by first | exact Glob.step HG.out (by repeat (first | (with_reducible first | exact HB.out | apply below_alloc | apply pw_below_drewN | apply below_drew1) | exact HB.out | (refine below_set ?_ (Aside0.out (by assumption))))) | exact HG.out | assumption) (hG2 : Glob2 w := by first | exact Glob2.step HG2.out (by repeat (first | (with_reducible first | exact HB.out | apply below_alloc | apply pw_below_drewN | apply below_drew1) | exact HB.out | (refine below_set ?_ (Aside0.out (by assumption))))) | exact HG2.out | assumption) (hG3 : Glob3 w := by first | exact Glob3.step HG3.out (by repeat (first | (with_reducible first | exact HB.out | apply below_alloc | apply pw_below_drewN | apply below_drew1) | exact HB.out | (refine below_set ?_ (Aside0.out (by assumption))))) | exact HG3.out | assumption) :
    Calls Tryz.prog 6 #[.string text, .int .i64 a] w fun e w' => e = .returned (.bool r) ∧ Below w.heap.size w w' := by
  obtain ⟨rfl, hsz, hh, hn⟩ := h
  have CL := Aside0.mk (lives_calls w (env_of hG hG2 hG3))
  have HH := Aside0.mk hh
  have HN := Aside0.mk hn
  have HS := Aside0.mk hsz
  clear hh hn hG hG2 hG3 hsz
  by_cases ho : a < 0 ∨ (text.size : Int) < a
  · have hw : whereE text a = (0, 0, 1) := if_pos ho
    rw [hw] at HH
    have C1 := Aside0.mk (fun w1 => markup_Where.calls k text a 0 0 1 w1 HH.out)
    have HO := Aside0.mk ho
    clear ho hw
    by_cases h0 : a < 0
    · have d0 : decide (a < 0) = true := decide_eq_true h0
      clear h0
      go_enter Tryz.func6, Tryz.ntmps6
      go_wp2_with (first
        | (go_at_call 13; refine CL.out.mono ?_; rintro x w1 ⟨rfl, hB1⟩; have HB1 := Aside0.mk hB1; clear hB1 CL)
        | (go_at_call 20; refine (C1.out _).mono ?_; rintro x w2 ⟨rfl, hB2⟩; have HB2 := Aside0.mk hB2; clear hB2 C1))
      go_ret
      exact ⟨rfl, HB1.out.trans (HB2.out.mono HB1.out.size)⟩
    · have d0 : decide (a < 0) = false := decide_eq_false h0
      have d1 : decide ((text.size : Int) < a) = true := decide_eq_true (by have := HO.out; omega)
      clear h0
      go_enter Tryz.func6, Tryz.ntmps6
      go_wp2_with (first
        | (go_at_call 13; refine CL.out.mono ?_; rintro x w1 ⟨rfl, hB1⟩; have HB1 := Aside0.mk hB1; clear hB1 CL)
        | (go_at_call 20; refine (C1.out _).mono ?_; rintro x w2 ⟨rfl, hB2⟩; have HB2 := Aside0.mk hB2; clear hB2 C1))
      go_ret
      exact ⟨rfl, HB1.out.trans (HB2.out.mono HB1.out.size)⟩
  · obtain ⟨n, rfl⟩ : ∃ n : Nat, a = (n : Int) := ⟨a.toNat, by omega⟩
    have hn : n ≤ text.size := by omega
    have hw : whereE text (n : Int) = ((lineN text n : Int), (colN text n : Int), 0) := if_neg ho
    rw [hw] at HH
    have l1 := lineN_pos text n
    have l2 := colN_pos text n
    have l3 := line_col text n
    have d0 : decide ((n : Int) < 0) = false := decide_eq_false (by omega)
    have d1 : decide ((text.size : Int) < (n : Int)) = false := decide_eq_false (by omega)
    have d1n : decide (text.size < n) = false := decide_eq_false (by omega)
    have C1 := Aside0.mk (fun w1 => markup_Where.calls k text (n : Int) (lineN text n : Int) (colN text n : Int) 0 w1 HH.out)
    by_cases he : n = text.size
    · have ee : ((n : Int) == (text.size : Int)) = true := beq_iff_eq.mpr (by omega)
      have een : (n == text.size) = true := beq_iff_eq.mpr he
      generalize lineN text n = L at *
      generalize colN text n = C at *
      have q1 : decide ((L : Int) < 1) = false := decide_eq_false (by omega)
      have q1n : decide (L < 1) = false := decide_eq_false (by omega)
      have q2 : decide ((C : Int) < 1) = false := decide_eq_false (by omega)
      have q2n : decide (C < 1) = false := decide_eq_false (by omega)
      have hsz := HS.out
      have w1_ := Go.Proofs.YtealmfcimoomlaaGreatDoorW.PrintLast.i64_w ((L : Int) + (C : Int))
      rw [wrap_in (by omega) (by omega)] at w1_
      have w2_ := Go.Proofs.YtealmfcimoomlaaGreatDoorW.PrintLast.i64_w ((text.size : Int) + 2)
      rw [wrap_in (by omega) (by omega)] at w2_
      have q3 : decide ((L : Int) + (C : Int) ≤ (text.size : Int) + 2) = true := decide_eq_true (by omega)
      clear ho hn hw l1 l2 l3 he hsz HH HN
      go_enter Tryz.func6, Tryz.ntmps6
      go_wp2_with (first
        | (go_at_call 13; refine CL.out.mono ?_; rintro x w1 ⟨rfl, hB1⟩; have HB1 := Aside0.mk hB1; clear hB1 CL)
        | (go_at_call 20; refine (C1.out _).mono ?_; rintro x w2 ⟨rfl, hB2⟩; have HB2 := Aside0.mk hB2; clear hB2 C1))
      go_ret
      exact ⟨rfl, HB1.out.trans (HB2.out.mono HB1.out.size)⟩
    · have hlt : n < text.size := by omega
      have hgo : ¬ ((n : Int) + 1 < 0 ∨ (text.size : Int) < (n : Int) + 1) := by omega
      have hw2 : whereE text ((n : Int) + 1) = ((lineN text (n + 1) : Int), (colN text (n + 1) : Int), 0) := (if_neg hgo : whereE text ((n : Int) + 1) = _)
      rw [hw2] at HN
      have C3 := Aside0.mk (fun w1 => markup_Where.calls k text ((n : Int) + 1) (lineN text (n + 1) : Int) (colN text (n + 1) : Int) 0 w1 HN.out)
      have ee : ((n : Int) == (text.size : Int)) = false := beq_eq_false_iff_ne.mpr (by omega)
      have een : (n == text.size) = false := beq_eq_false_iff_ne.mpr he
      have eL : lineN text (n + 1) = if text.get! n = 10 then lineN text n + 1 else lineN text n := rfl
      have eC : colN text (n + 1) = if text.get! n = 10 then 1 else colN text n + 1 := rfl
      have hge : text.get! n = text[n]'hlt := by
        have hjs : n < text.data.size := hlt
        rw [get_list, List.getD_eq_getElem?_getD, Array.getElem?_toList, Array.getElem?_eq_getElem hjs]
        rfl
      have b10 : (((text[n]'hlt).toNat : Nat) : Int) = 10 ↔ text.get! n = 10 := by
        rw [hge]
        constructor
        · intro h
          exact UInt8.toNat_inj.mp (by simpa using (by omega : (text[n]'hlt).toNat = 10))
        · intro h; rw [h]; rfl
      have hsz := HS.out
      have i0 := eq_true (show (n : Int) < (text.size : Int) by omega)
      have i1 := eq_true hlt
      have wn := Go.Proofs.YtealmfcimoomlaaGreatDoorW.PrintLast.i64_w ((n : Int) + 1)
      rw [wrap_in (by omega) (by omega)] at wn
      have l4 := line_col text n
      generalize lineN text n = L at *
      generalize colN text n = C at *
      have q1 : decide ((L : Int) < 1) = false := decide_eq_false (by omega)
      have q1n : decide (L < 1) = false := decide_eq_false (by omega)
      have q2 : decide ((C : Int) < 1) = false := decide_eq_false (by omega)
      have q2n : decide (C < 1) = false := decide_eq_false (by omega)
      have wL := Go.Proofs.YtealmfcimoomlaaGreatDoorW.PrintLast.i64_w ((L : Int) + 1)
      rw [wrap_in (by omega) (by omega)] at wL
      have wC := Go.Proofs.YtealmfcimoomlaaGreatDoorW.PrintLast.i64_w ((C : Int) + 1)
      rw [wrap_in (by omega) (by omega)] at wC
      by_cases hb : text.get! n = 10
      · rw [if_pos hb] at eL eC
        rw [eL, eC] at C3
        have hbt : ((((text[n]'hlt).toNat : Nat) : Int) == 10) = true := beq_iff_eq.mpr (b10.mpr hb)
        clear ho hn hw hw2 l1 l2 l3 l4 he hsz HH HN eL eC b10 hb hgo hge
        go_enter Tryz.func6, Tryz.ntmps6
        go_wp2_with (first
          | (go_at_call 13; refine CL.out.mono ?_; rintro x w1 ⟨rfl, hB1⟩; have HB1 := Aside0.mk hB1; clear hB1 CL)
          | (go_at_call 20; refine (C1.out _).mono ?_; rintro x w2 ⟨rfl, hB2⟩; have HB2 := Aside0.mk hB2; clear hB2 C1)
          | (go_at_call 20; refine (C3.out _).mono ?_; rintro x w3 ⟨rfl, hB3⟩; have HB3 := Aside0.mk hB3; clear hB3 C3))
        go_ret
        exact ⟨rfl, (HB1.out.trans (HB2.out.mono HB1.out.size)).trans (HB3.out.mono (Nat.le_trans HB1.out.size HB2.out.size))⟩
      · rw [if_neg hb] at eL eC
        rw [eL, eC] at C3
        have hbt : ((((text[n]'hlt).toNat : Nat) : Int) == 10) = false := beq_eq_false_iff_ne.mpr (fun e => hb (b10.mp e))
        clear ho hn hw hw2 l1 l2 l3 l4 he hsz HH HN eL eC b10 hb hgo hge
        go_enter Tryz.func6, Tryz.ntmps6
        go_wp2_with (first
          | (go_at_call 13; refine CL.out.mono ?_; rintro x w1 ⟨rfl, hB1⟩; have HB1 := Aside0.mk hB1; clear hB1 CL)
          | (go_at_call 20; refine (C1.out _).mono ?_; rintro x w2 ⟨rfl, hB2⟩; have HB2 := Aside0.mk hB2; clear hB2 C1)
          | (go_at_call 20; refine (C3.out _).mono ?_; rintro x w3 ⟨rfl, hB3⟩; have HB3 := Aside0.mk hB3; clear hB3 C3))
        go_ret
        exact ⟨rfl, (HB1.out.trans (HB2.out.mono HB1.out.size)).trans (HB3.out.mono (Nat.le_trans HB1.out.size HB2.out.size))⟩
end Go.Proofs.YtealmfcimoomlaaGreatDoor.PA

/- MarkupWhere, in plain: at so many rounds all that the law asks is so. -/
namespace Go.Proofs.YtealmfcimoomlaaGreatDoor.Pure
open Go.RowKit Go.Proofs.YtealmfcimoomlaaGreatDoorW.PrintWords Go.Proofs.YtealmfcimoomlaaGreatDoorW.PrintLast Go.Proofs.YtealmfcimoomlaaGreatDoorW.PrintMore Go.Proofs.YtealmfcimoomlaaGreatDoor.PA
set_option linter.unusedVariables false
theorem MarkupWhere (text : ByteArray) (a : Int) (q0 : text.size ≤ 140737488351232) (q1 : (Lit.int .i64 a).wf = true) : ∃ k, WhereAsks k text a true := by
  obtain ⟨K1, e1⟩ := where_evP text q0 a
  obtain ⟨K2, e2⟩ := where_evP text q0 (a + 1)
  exact ⟨K1 + K2, rfl, q0, e1 _ (by omega), e2 _ (by omega)⟩
end Go.Proofs.YtealmfcimoomlaaGreatDoor.Pure

/- What comes in, read as data, stands in memory as the print's kinds say: for numbers, bools, texts, slices and structs of such. -/
namespace Go.Proofs.YtealmfcimoomlaaGreatDoor.PA
open Go.RowKit Go.Proofs.YtealmfcimoomlaaGreatDoorW.PrintWords Go.Proofs.YtealmfcimoomlaaGreatDoorW.PrintLast Go.Proofs.YtealmfcimoomlaaGreatDoorW.PrintMore
set_option linter.unusedVariables false
set_option linter.unusedSimpArgs false
/-- Data of type t, all of whose parts are within the reach, stand as the kind d says, and are such as Q says. -/
def Opens (P : Program) (t : TypeId) {α : Type} (d : Kd α) (Q : α → Prop) : Prop :=
  ∀ {H : Type} {enc : TypeId × Value → H} {w : World} {base : Nat} {sp : Nat → Bool} {held : Bool} {fuel : Nat} {cs : List Value} {x : DataW H × List MemPlace},
    DataW.trod enc P w base sp held fuel t cs = some x → (∀ n ∈ x.1.weights P t, n ≤ reachBytes) → ∃ a : α, d.K w a cs ∧ Q a
section
variable {P : Program} {t e : TypeId} {α β : Type}
theorem Opens.imp {d : Kd α} {Q Q' : α → Prop} (h : Opens P t d Q) (hi : ∀ a, Q a → Q' a) : Opens P t d Q' := fun hx hw => let ⟨a, hk, hq⟩ := h hx hw; ⟨a, hk, hi a hq⟩
theorem Opens.int {k : IntKind} (hu : P.underlying t = some (.int k)) : Opens P t (Kd.int k) (fun n => (Lit.int k n).wf = true) := fun hx _ => by
  obtain ⟨n, rfl, rfl, hw⟩ := DataW.trod_int hu hx
  exact ⟨n, rfl, hw⟩
theorem Opens.bool (hu : P.underlying t = some .bool) : Opens P t Kd.bool (fun _ => True) := fun hx _ => by
  obtain ⟨n, rfl, rfl⟩ := DataW.trod_bool hu hx
  exact ⟨n, rfl, trivial⟩
theorem Opens.string (hu : P.underlying t = some .string) : Opens P t Kd.string (fun s => s.size ≤ 140737488351232) := fun hx hw => by
  obtain ⟨s, rfl, rfl, _⟩ := DataW.trod_string hu hx
  have h := hw s.data.toList.length (by simp [DataW.weights])
  rw [Array.length_toList] at h
  exact ⟨s, rfl, h⟩
theorem weightsAll_mem {H : Type} : ∀ {ds : List (DataW H)} {j : Nat} {d : DataW H}, ds[j]? = some d → ∀ n ∈ d.weights P e, n ∈ DataW.weightsAll P e ds
  | d0 :: ds, 0, d, hd, n, hn => by
    simp only [List.getElem?_cons_zero, Option.some.injEq] at hd
    subst hd
    simp only [DataW.weightsAll, List.mem_append]
    exact .inl hn
  | d0 :: ds, j + 1, d, hd, n, hn => by
    simp only [List.getElem?_cons_succ] at hd
    simp only [DataW.weightsAll, List.mem_append]
    exact .inr (weightsAll_mem hd n hn)
  | [], _, _, hd, _, _ => by simp at hd
theorem list_choose {R : Nat → α → Prop} : ∀ n, (∀ i, i < n → ∃ x, R i x) → ∃ xs : List α, xs.length = n ∧ ∀ i x, xs[i]? = some x → R i x
  | 0, _ => ⟨[], rfl, fun i x h => by simp at h⟩
  | n + 1, h => by
    obtain ⟨xs, hl, hx⟩ := list_choose n (fun i hi => h i (by omega))
    obtain ⟨x, hr⟩ := h n (by omega)
    refine ⟨xs ++ [x], by simp [hl], fun i y hy => ?_⟩
    rw [List.getElem?_append] at hy
    split at hy
    · exact hx i y hy
    · next hn =>
      have : i = n := by
        have := (List.getElem?_eq_some_iff.1 hy).1
        simp at this
        omega
      subst this
      rw [hl, Nat.sub_self] at hy
      simp only [List.getElem?_cons_zero, Option.some.injEq] at hy
      subst hy
      exact hr
theorem Opens.slice {d : Kd α} {Q : α → Prop} {m : Nat} (hu : P.underlying t = some (.slice e)) (hc : P.cellsOf e = d.sz) (hb : P.bytesOf e = m) (he : Opens P e d Q) : Opens P t (Kd.slice e d) (fun l => (∀ a ∈ l, Q a) ∧ l.length * m ≤ 140737488351232) := by
  intro H enc w base sp held fuel cs x hx hw
  rcases DataW.trod_slice hu hx with ⟨rfl, rfl⟩ | ⟨a, len, cap, elems, rest, n, rfl, rfl, rfl, hbase, hlc, hcm, hlen, hel, hsp, hns⟩
  · exact ⟨[], ⟨none, 0, rfl, Nat.le_refl _, rfl, by show 0 ≤ _; omega, fun h => absurd h (by show ¬ 0 < 0; omega)⟩, fun a ha => (List.not_mem_nil ha).elim, by simp⟩
  · have hall : ∀ i, i < elems.length → ∃ x : α, (∃ c, w.cells? base (a.add (i * P.cellsOf e)) (P.cellsOf e) = some c ∧ d.K w x c) ∧ Q x := by
      intro i hi
      have h1 := hel i (by omega)
      rw [List.getElem?_eq_getElem hi] at h1
      obtain ⟨c, hcc, hx'⟩ := Option.bind_eq_some_iff.mp h1
      obtain ⟨x, hk, hq⟩ := he hx' (fun n hn => hw n (by
        simp only [DataW.weights, hu, List.mem_cons, List.mem_append]
        exact .inr (.inl (weightsAll_mem (ds := elems.map (·.1)) (j := i) (by rw [List.getElem?_map, List.getElem?_eq_getElem hi]; rfl) n hn))))
      exact ⟨x, ⟨c, hcc, hk⟩, hq⟩
    obtain ⟨xs, hxl, hxs⟩ := list_choose elems.length hall
    have hwl := hw ((elems.length + rest.length) * m) (by simp [DataW.weights, hu, hb])
    refine ⟨xs, ⟨some a, cap, by rw [hxl, hlen], by omega, rfl, by unfold maxLen at hcm; omega, fun _ => ⟨a, rfl, fun j p hj => ?_⟩⟩, fun y hy => ?_, ?_⟩
    · obtain ⟨⟨c, hcc, hk⟩, _⟩ := hxs j p hj
      obtain ⟨_, hcl, hat⟩ := World.cells?_some hcc
      refine ⟨c, d.K_len hk, hk, fun i u hi => ?_⟩
      have hil : i < P.cellsOf e := by
        have := (List.getElem?_eq_some_iff.1 hi).1
        omega
      rw [← Go.Deep.add_add, ← hc, hat i hil]
      exact hi
    · obtain ⟨i, hi⟩ := List.getElem?_of_mem hy
      exact (hxs i y hi).2
    · have : xs.length * m ≤ (elems.length + rest.length) * m := Nat.mul_le_mul_right _ (by omega)
      exact Nat.le_trans this hwl
/-- A struct's fields from one on. -/
def OpensL (P : Program) (fs : List Field) (off tot : Nat) {α : Type} (d : Kd α) (Q : α → Prop) : Prop :=
  ∀ {H : Type} {enc : TypeId × Value → H} {w : World} {base : Nat} {sp : Nat → Bool} {held : Bool} {n : Nat} {cs : List Value} {xs : List (DataW H × List MemPlace)}, cs.length = tot → xs.length = fs.length →
    (∀ (i : Nat) (f : Field), fs[i]? = some f → DataW.trod enc P w base sp held n f.type ((cs.drop f.offset).take (P.cellsOf f.type)) = xs[i]?) →
    (∀ n ∈ DataW.weightsEach P (fs.map (·.type)) (xs.map (·.1)), n ≤ reachBytes) → ∃ a : α, d.K w a (cs.drop off) ∧ Q a
theorem OpensL.one {f : Field} {off tot : Nat} {d : Kd α} {Q : α → Prop} (ho : f.offset = off) (hc : P.cellsOf f.type = d.sz) (ht : off + d.sz = tot) (h : Opens P f.type d Q) : OpensL P [f] off tot d Q := by
  intro H enc w base sp held n cs xs hl hxl hx hw
  match xs, hxl with
  | [x], _ =>
    have h1 := hx 0 f rfl
    rw [ho, hc, List.take_of_length_le (by rw [List.length_drop]; omega)] at h1
    exact h h1 (fun m hm => hw m (by simpa [DataW.weightsEach] using hm))
theorem OpensL.cons {f : Field} {fs : List Field} {off tot : Nat} {d : Kd α} {d' : Kd β} {Q : α → Prop} {Q' : β → Prop} (ho : f.offset = off) (hc : P.cellsOf f.type = d.sz) (ht : off + d.sz ≤ tot) (h : Opens P f.type d Q) (hs : OpensL P fs (off + d.sz) tot d' Q') :
    OpensL P (f :: fs) off tot (Kd.pair d d') (fun a => Q a.1 ∧ Q' a.2) := by
  intro H enc w base sp held n cs xs hl hxl hx hw
  match xs, hxl with
  | x :: xs, hxl =>
    have h1 := hx 0 f rfl
    rw [ho, hc] at h1
    obtain ⟨a, ha, hq⟩ := h h1 (fun m hm => hw m (by simp only [List.map_cons, DataW.weightsEach, List.mem_append]; exact .inl hm))
    obtain ⟨b, hb, hq'⟩ := hs (xs := xs) hl (by simpa using hxl) (fun i g hg => hx (i + 1) g (by simpa using hg)) (fun m hm => hw m (by simp only [List.map_cons, DataW.weightsEach, List.mem_append]; exact .inr hm))
    refine ⟨(a, b), ⟨_, _, ?_, ha, hb⟩, hq, hq'⟩
    rw [← List.drop_drop, List.take_append_drop]
theorem Opens.struct {fs : Array Field} {tot : Nat} {d : Kd α} {Q : α → Prop} (hu : P.underlying t = some (.struct fs)) (hc : P.cellsOf t = tot) (h : OpensL P fs.toList 0 tot d Q) : Opens P t d Q := by
  intro H enc w base sp held fuel cs x hx hw
  obtain ⟨xs, n, _, rfl, hl, hxl, hall⟩ := DataW.trod_struct hu hx
  obtain ⟨a, ha, hq⟩ := h (xs := xs) (cs := cs) (by omega) (by simpa using hxl) (fun i f hf => hall i f (by simpa using hf)) (fun m hm => hw m (by simpa [DataW.weights, hu] using hm))
  exact ⟨a, by simpa using ha, hq⟩
theorem Opens.iso {d : Kd α} {Q : α → Prop} (f : β → α) (g : α → β) (hg : ∀ a, f (g a) = a) (h : Opens P t d Q) : Opens P t (Kd.iso d f) (fun b => Q (f b)) := fun hx hw => by
  obtain ⟨a, ha, hq⟩ := h hx hw
  exact ⟨g a, by show d.K _ (f (g a)) _; rw [hg]; exact ha, by show Q (f (g a)); rw [hg]; exact hq⟩
end
end Go.Proofs.YtealmfcimoomlaaGreatDoor.PA

/- From what a row lists to 'Glob'. -/
namespace Go.Proofs.YtealmfcimoomlaaGreatDoor
open Go.Shelf Go.Lib
set_option linter.unusedSimpArgs false
set_option maxRecDepth 100000
variable {w : World}
theorem Glob.of_reads {w : World} (h3 : VarReads Tryz.prog w "unicode/utf8.first" Rows.laid_unicode_utf8_first) (h4 : VarReads Tryz.prog w "unicode/utf8.acceptRanges" Rows.laid_unicode_utf8_acceptRanges) : Glob w :=
  utf8Tabs_of_readsT (ρ := Tryz.lays197_ren) (U8Types.of260 { Tryz.lays197 with }) ⟨by kernel_rfl, by kernel_rfl, by kernel_rfl, by kernel_rfl, by kernel_rfl, by kernel_rfl, by kernel_rfl⟩
    (Pinned.utf8First_eq ▸ h3) ((show Rows.laid_unicode_utf8_acceptRanges = acceptData by kernel_rfl) ▸ h4)
theorem named_elem {fuel : Nat} {cs : List Value} {p : List MemPlace} {txt : List UInt8} {c : Int} (h : DataW.trod (fun _ => ()) Tryz.prog w 0 (fun _ => true) false fuel 146 cs = some (.agg [.lit (.string txt), .lit (.int .u8 c)], p)) : cs = [.string ⟨txt.toArray⟩, .int .u8 c] := by
  obtain ⟨xs, n, rfl, hx, hl, hxl, hall⟩ := DataW.trod_struct Tryz.underlying146 h
  have c9 : Tryz.prog.cellsOf 9 = 1 := by kernel_rfl
  have c5 : Tryz.prog.cellsOf 5 = 1 := by kernel_rfl
  have c84 : Tryz.prog.cellsOf 146 = 2 := by kernel_rfl
  have h0 : DataW.trod (fun _ => ()) Tryz.prog w 0 (fun _ => true) false n 9 ((cs.drop 0).take (Tryz.prog.cellsOf 9)) = xs[0]? := hall 0 _ rfl
  have h1 : DataW.trod (fun _ => ()) Tryz.prog w 0 (fun _ => true) false n 5 ((cs.drop 1).take (Tryz.prog.cellsOf 5)) = xs[1]? := hall 1 _ rfl
  rw [c9] at h0
  rw [c5] at h1
  rw [c84] at hl
  match xs, hxl with
  | [a, b], _ =>
    have e := congrArg Prod.fst hx
    simp only [List.map_cons, List.map_nil, DataW.agg.injEq, List.cons.injEq, and_true] at e
    simp only [List.getElem?_cons_zero, List.getElem?_cons_succ, List.drop_zero] at h0 h1
    obtain ⟨s, hs, ha, _⟩ := DataW.trod_string Tryz.underlying9 h0
    obtain ⟨z, hz, hb, _⟩ := DataW.trod_int Tryz.underlying5 h1
    match cs, hl with
    | [x, y], _ =>
      simp at hs hz
      subst hs hz
      rw [ha, hb] at e
      simp at e
      obtain ⟨e1, e2⟩ := e
      subst e2
      rw [e1]
theorem Glob2.of_reads {w : World} (h : VarReads Tryz.prog w "espalier/chars.named" Rows.laid_espalier_chars_named) : Glob2 w := by
  obtain ⟨g, t, cs, fuel, p, hg, hty, hvar, hd⟩ := h
  obtain rfl := Option.some.inj ((show Tryz.prog.globalNamed "espalier/chars.named" = some 1 by kernel_rfl).symm.trans hg)
  obtain rfl := Option.some.inj ((show (Tryz.prog.globals[1]?).map (·.type) = some 147 by kernel_rfl).symm.trans hty)
  have c84 : Tryz.prog.cellsOf 146 = 2 := by kernel_rfl
  have hc : ∀ i, w.cell? ⟨1, i, none⟩ = cs[i]? := fun i => World.var?_cell hg hvar i
  have key : ∀ (j : Nat) (hj : j < 5) (txt : List UInt8) (c : Int), (match (Rows.laid_espalier_chars_named : DataW Unit) with | .agg l => l[j]? | _ => none) = some (.agg [.lit (.string txt), .lit (.int .u8 c)]) →
      w.cell? ⟨1, 2 * j, none⟩ = some (.string ⟨txt.toArray⟩) ∧ w.cell? ⟨1, 2 * j + 1, none⟩ = some (.int .u8 c) := by
    intro j hj txt c hl
    obtain ⟨fuel', d, q, hdi, he⟩ := array_elem Tryz.underlying147 hd j hj
    have hdd : d = .agg [.lit (.string txt), .lit (.int .u8 c)] := Option.some.inj (hdi.symm.trans hl)
    subst hdd
    rw [c84] at he
    have e := named_elem he
    have e0 := congrArg (·[0]?) e
    have e1 := congrArg (·[1]?) e
    simp only [List.getElem?_take, List.getElem?_drop] at e0 e1
    constructor
    · rw [hc, ← Array.getElem?_toList]; simpa [Nat.mul_comm] using e0
    · rw [hc, ← Array.getElem?_toList]; simpa [Nat.mul_comm] using e1
  have k0 := key 0 (by omega) _ _ rfl
  have k1 := key 1 (by omega) _ _ rfl
  have k2 := key 2 (by omega) _ _ rfl
  have k3 := key 3 (by omega) _ _ rfl
  have k4 := key 4 (by omega) _ _ rfl
  refine ⟨?_, ?_⟩
  · have h0 := k0.1
    unfold World.cell? at h0
    rcases Nat.lt_or_ge 1 w.heap.size with h | h
    · exact h
    · rw [show ((⟨1, 2 * 0, none⟩ : Addr)).block = 1 from rfl, Array.getElem?_eq_none h] at h0
      simp at h0
  · intro i hi
    have : i = 0 ∨ i = 1 ∨ i = 2 ∨ i = 3 ∨ i = 4 ∨ i = 5 ∨ i = 6 ∨ i = 7 ∨ i = 8 ∨ i = 9 := by omega
    rcases this with rfl | rfl | rfl | rfl | rfl | rfl | rfl | rfl | rfl | rfl
    · exact k0.1
    · exact k0.2
    · exact k1.1
    · exact k1.2
    · exact k2.1
    · exact k2.2
    · exact k3.1
    · exact k3.2
    · exact k4.1
    · exact k4.2
theorem iface_of_reads {w : World} {n nm : String} {x : DataW Unit} {ti : TypeId} {ms : Array (String × TypeId)} (h : VarReads Tryz.prog w n (.iface nm x)) (hty : ∀ g, Tryz.prog.globalNamed n = some g → (Tryz.prog.globals[g]?).map (·.type) = some ti) (hi : Tryz.prog.underlying ti = some (.interface ms)) : ∃ t p, w.var? Tryz.prog n = some #[.iface t p] := by
  obtain ⟨g, t, cs, fuel, p, hg, ht, hv, hd⟩ := h
  obtain rfl := Option.some.inj ((hty g hg).symm.trans ht)
  obtain ⟨_, u, v, he, _, _⟩ := iface_of_trod hi hd
  refine ⟨u, v, ?_⟩
  rw [hv]
  congr 1
  apply Array.toList_inj.mp
  exact he
theorem tab_of_reads {w : World} {n : String} {k : IntKind} {zs : List Int} {t e : TypeId} {m : Nat} (h : VarReads Tryz.prog w n (tabData k zs)) (hty : ∀ g, Tryz.prog.globalNamed n = some g → (Tryz.prog.globals[g]?).map (·.type) = some t)
    (ht : Tryz.prog.underlying t = some (.array m e)) (he : Tryz.prog.underlying e = some (.int k)) (hce : Tryz.prog.cellsOf e = 1) (hct : Tryz.prog.cellsOf t = m) : TabIs Tryz.prog w n k zs := by
  obtain ⟨g, t', cs, fuel, p, hg, ht', hv, hd⟩ := h
  obtain rfl := Option.some.inj ((hty g hg).symm.trans ht')
  unfold TabIs
  rw [hv, ← cells_of_tab ht he hce hct hd]
theorem maxLen_of_shape {w : World} (h : w.ShapedOpen Tryz.prog) : ∃ m, w.cell? ⟨0, 0, none⟩ = some (.int .i64 m) :=
  cell_of_shapedOpen_int (t := 3) (zero := #[.int .i64 0]) h (of_decide_eq_true (by kernel_rfl)) (by kernel_rfl) rfl (by kernel_rfl) (by kernel_rfl) Tryz.underlying3
/-- The wrap of a law's row: what a row lists, the reach, and the world's shape are handed to the contract. -/
theorem handed_and {H : Type} {enc : TypeId × Value → H} {a : Assume} {C : Checked} {os : Os} {f : FuncId} {fn : Func} {s : ChangeSpec} {conds : List PathCond} {apart fresh handsOn again : Bool} {X : World → Array Value → Prop}
    (hX : ∀ (w w' : World) (args : Array Value), w.heap = w'.heap → X w args → X w' args)
    (own : ownKnob C.prog.godebug = none) (started : os.Started) (noInit : C.prog.inits.idxOf? f = none) (hfn : C.prog.funcs[f]? = some fn)
    (witness : ∃ (w : World) (tape : Tape) (i : Input), w.os = os ∧ (w.forCall tape i).Shaped C.prog ∧ i.vars = [] ∧ Input.okWide C.prog (w.forCall tape i) .any w.heap.size f i ∧
      ((s.pre enc C.prog fn conds apart (w.forCall tape i).memory i.args ∧ X (w.forCall tape i).memory i.args) ∧ sizedMet enc C.prog fn (OpenSpec.ofChange s) apart (w.forCall tape i).memory i.args) ∧ a.holds C.prog (lone (Frame.enter C.prog f i.args .normal) [] (w.forCall tape i)))
    (contract : ∀ (W : World) (base : Nat) (args : Array Value) (ds gs : List (DataW H)) (before : List MemPlace),
      (∀ (j : Nat) t v, fn.params[j]? = some t → args[j]? = some v → Value.okWide C.prog W .any base t v) →
      DataW.Whole enc C.prog fn.params.toList s.vars apart W args.toList ds gs before →
      (DataW.weightsEach C.prog (fn.params.toList ++ s.plain.varTypes C.prog) (ds ++ gs)).all (· ≤ reachBytes) = true → X W args → W.ShapedOpen C.prog →
      Calls C.prog f args W fun e W' => ∃ v, e = .returned v ∧ s.post enc C.prog fn apart fresh handsOn again W args v W') :
    ReturnsInHanded a C os f .any (fun w args => (s.pre enc C.prog fn conds apart w args ∧ X w args) ∧ sizedMet enc C.prog fn (OpenSpec.ofChange s) apart w args) (s.post enc C.prog fn apart fresh handsOn again) := by
  refine returnsInHanded_of_calls own started noInit witness ?_
  intro w tape i _ hsh _ hok hpre hholds
  obtain ⟨_, _, _, fn', hfn', _, _, _, _, hval⟩ := hok
  obtain rfl := Option.some.inj (hfn'.symm.trans hfn)
  obtain ⟨⟨⟨ds, gs, before, hw, hc⟩, hx⟩, hz⟩ := hpre
  refine (contract (w.forCall tape i) w.heap.size i.args ds gs before hval (DataW.Whole.of_heap (w' := w.forCall tape i) (by rfl) hw) (hz.weights hw) (hX _ _ _ (by rfl) hx) hsh).mono fun e W' ⟨v, he, hp⟩ => ?_
  subst he
  exact ChangeSpec.post_blind hp
end Go.Proofs.YtealmfcimoomlaaGreatDoor
