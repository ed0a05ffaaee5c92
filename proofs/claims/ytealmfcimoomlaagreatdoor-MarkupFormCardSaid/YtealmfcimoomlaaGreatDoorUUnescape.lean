/- chars.Unescape: what it answers, over chars.reference, chars.first and a strings.Builder. -/
import Derived.Test.YtealmfcimoomlaaGreatDoorPA2
import Derived.Test.YtealmfcimoomlaaGreatDoorUReference
import Derived.Lib.FrozenHead2
import Derived.BigCall
import Derived.Outline
namespace Go.Proofs.YtealmfcimoomlaaGreatDoor.PA
open Go.RowKit Go.Proofs.YtealmfcimoomlaaGreatDoorW.PrintWords Go.Proofs.YtealmfcimoomlaaGreatDoorW.PrintLast Go.Proofs.YtealmfcimoomlaaGreatDoorW.PrintMore
set_option linter.unusedVariables false
set_option linter.unusedSimpArgs false
theorem blkU_below {W W' : World} (hb : Below W.heap.size W W') {b : Nat} {o : Obj} (h : W.heap[b]? = some o) : W'.heap[b]? = some o := by
  rw [hb.block b (Array.getElem?_eq_some_iff.1 h).1]; exact h
theorem rowF_below {W W' : World} (hb : Below W.heap.size W W') {base : Nat} {e : TypeId} {sz n : Nat} {v : Value} {xs : List Value} (h : W.ownsRowF base e sz v n xs) : W'.ownsRowF base e sz v n xs := by
  obtain ⟨hl, h⟩ := h
  refine ⟨hl, ?_⟩
  rcases h with h | ⟨g, cap, cur, fz, h1, h2, h3, h4⟩
  · exact .inl h
  · exact .inr ⟨g, cap, cur, fz, h1, h2, blkU_below hb h3, h4⟩
theorem builder_below {W W' : World} (hb : Below W.heap.size W W') {T e : TypeId} {B b : Nat} {bs : List Value} (h : Lib.IsBuilderF T e B b bs W) : Lib.IsBuilderF T e B b bs W' := by
  rcases h with ⟨h1, v, h2, h3, h4⟩ | ⟨h1, v, h2, h3, h4⟩
  · exact .inl ⟨h1, v, blkU_below hb h2, rowF_below hb h3, h4⟩
  · exact .inr ⟨h1, v, blkU_below hb h2, rowF_below hb h3, h4⟩
/-- The character, or the reference, at a place. -/
def unescStep (k : Nat) (s : ByteArray) (i : Nat) : Option (ByteArray × Int × Int) :=
  if bt s (i : Int) = 38 then chars_reference.f k (s.extract i s.size)
  else (chars_first.f k (s.extract i s.size)).bind fun t => if 0 ≤ t.2.1 ∧ (i : Int) + t.2.1 ≤ s.size then some (s.extract i (i + t.2.1.toNat), t.2.1, t.2.2) else none
def unescL : Nat → ByteArray → List UInt8 → Nat → Option (ByteArray × Int × Int)
  | 0, _, _, _ => none
  | k + 1, s, acc, i => if i < s.size then ((unescStep k s i).bind fun t => if t.1.size ≤ 16384 then (if t.2.2 = 0 then (if (acc.length : Int) + t.1.size > 16384 then some ((⟨#[]⟩ : ByteArray), (i : Int), 2) else if 0 ≤ t.2.1 ∧ (i : Int) + t.2.1 ≤ s.size then unescL k s (acc ++ t.1.data.toList) (i + t.2.1.toNat) else none) else some ((⟨#[]⟩ : ByteArray), (i : Int), t.2.2)) else none) else some (⟨acc.toArray⟩, 0, 0)
def chars_Unescape.f (k : Nat) (a0 : ByteArray) : Option (ByteArray × Int × Int) := if a0.size ≤ 140737488355328 then unescL k a0 [] 0 else none
theorem unescStep_mono (k : Nat) (s : ByteArray) (i : Nat) : LeO (unescStep k s i) (unescStep (k + 1) s i) := by
  unfold unescStep
  exact LeO.ite (chars_reference.mono _ _) (LeO.bind (chars_first.mono _ _) (fun _ => LeO.refl _))
theorem unescL_mono : ∀ k s acc i, LeO (unescL k s acc i) (unescL (k + 1) s acc i)
  | 0, _, _, _ => fun r h => by simp [unescL] at h
  | k + 1, s, acc, i => by
    rw [unescL.eq_2, unescL.eq_2]
    exact LeO.ite (LeO.bind (unescStep_mono k s i) (fun _ => LeO.ite (LeO.ite (LeO.ite (LeO.refl _) (LeO.ite (unescL_mono k _ _ _) (LeO.refl _))) (LeO.refl _)) (LeO.refl _))) (LeO.refl _)
theorem chars_Unescape.mono : ∀ a0 k, LeO (chars_Unescape.f k a0) (chars_Unescape.f (k + 1) a0) := by
  intro a0 k
  unfold chars_Unescape.f
  exact LeO.ite (unescL_mono _ _ _ _) (LeO.refl _)
set_option maxHeartbeats 8000000 in
set_option maxRecDepth 1000000 in
theorem chars_Unescape.calls (k : Nat) (a0 : ByteArray) (r1 : ByteArray) (r2 r3 : Int) (w : World) (h : chars_Unescape.f k a0 = some (r1, r2, r3)) (hG : Glob w := by first | exact Glob.step HG.out (by repeat (first | (with_reducible first | exact HB.out | apply below_alloc | apply pw_below_drewN | apply below_drew1) | exact HB.out | (refine below_set ?_ (Aside0.out (by assumption))))) | exact HG.out | assumption) (hG2 : Glob2 w := by first | exact Glob2.step HG2.out (by repeat (first | (with_reducible first | exact HB.out | apply below_alloc | apply pw_below_drewN | apply below_drew1) | exact HB.out | (refine below_set ?_ (Aside0.out (by assumption))))) | exact HG2.out | assumption) :
    Calls Tryz.prog 95 #[.string a0] w fun e w' => e = .returned (.tuple #[.string r1, .int .i64 r2, .int .i64 r3]) ∧ Below w.heap.size w w' := by
  have HG := Aside0.mk hG
  clear hG
  have HG2 := Aside0.mk hG2
  clear hG2
  unfold chars_Unescape.f at h
  by_cases hs : a0.size ≤ 140737488355328
  case neg => rw [if_neg hs] at h; exact absurd h (by simp)
  rw [if_pos hs] at h
  have H' := Aside0.mk h
  clear h
  go_enter Tryz.func95, Tryz.ntmps95
  go_wp2
  go_loopg [6] k (fun kq v6 wr => ∃ (acc : List UInt8) (i : Nat), v6 = .int .i64 i ∧ i ≤ a0.size ∧ acc.length ≤ 16384 ∧ Aside0 (unescL kq a0 acc i = some (r1, r2, r3)) ∧ Aside0 (kq ≤ k) ∧ Aside0 (Lib.IsBuilderF 70 5 w.heap.size w.heap.size (Lib.byteCells acc) wr) ∧ Aside0 (Below w.heap.size w wr))
  case atStart => exact ⟨[], 0, rfl, by omega, by simp, H', ⟨Nat.le_refl _⟩, ⟨Lib.IsBuilderF.of (Lib.fresh_isBuilder 70 5 w)⟩, ⟨(Below.refl _ w).alloc (Nat.le_refl _) _⟩⟩
  case round =>
    clear H'
    obtain ⟨acc, i, rfl, hi, hacc, HA, HK1, HI, HB⟩ := hrel
    cases gk with
    | zero => exact absurd HA.out (by simp [unescL])
    | succ k1 =>
      have H := HA.out
      clear HA
      rw [unescL.eq_2] at H
      have hsz : w.heap.size ≤ wr.heap.size := HB.out.size
      by_cases hlt : i < a0.size
      · rw [if_pos hlt] at H
        obtain ⟨⟨t1, t2, t3⟩, hst, H⟩ := Option.bind_eq_some_iff.mp H
        replace H : (if t1.size ≤ 16384 then (if t3 = 0 then (if (acc.length : Int) + t1.size > 16384 then some ((⟨#[]⟩ : ByteArray), (i : Int), 2) else if 0 ≤ t2 ∧ (i : Int) + t2 ≤ a0.size then unescL k1 a0 (acc ++ t1.data.toList) (i + t2.toNat) else none) else some ((⟨#[]⟩ : ByteArray), (i : Int), t3)) else none) = some (r1, r2, r3) := H
        by_cases ct : t1.size ≤ 16384
        case neg => rw [if_neg ct] at H; exact absurd H (by simp)
        rw [if_pos ct] at H
        have hLen : Hid (∀ W, Lib.IsBuilderF 70 5 w.heap.size w.heap.size (Lib.byteCells acc) W → Calls Tryz.prog 50 #[.pointer (some ⟨w.heap.size, 0, none⟩)] W fun e w' => e = .returned (.int .i64 (acc.length : Int)) ∧ w' = W) :=
          Lib.hid (fun W h => by have := Tryz.Builder_Len_f _ _ _ _ h; rw [Lib.byteCells_length] at this; exact this)
        have hbt : bt a0 (i : Int) = (a0[i].toNat : Int) := by
          unfold bt
          rw [dif_pos (by simpa using hlt)]
          simp
        unfold unescStep at hst
        rw [hbt] at hst
        by_cases c38 : (a0[i].toNat : Int) = 38
        · rw [if_pos c38] at hst
          have d38 : ((a0[i].toNat : Int) == 38) = true := beq_iff_eq.mpr c38
          clear c38 hbt
          have HR := Aside0.mk hst
          clear hst
          by_cases c3 : t3 = 0
          · rw [if_pos c3] at H
            have c3b : (t3 == 0) = true := beq_iff_eq.mpr c3
            have c3c : (t3 != 0) = false := bne_eq_false_iff_eq.mpr c3
            clear c3
            by_cases c4 : (acc.length : Int) + t1.size > 16384
            · rw [if_pos c4] at H
              simp only [Option.some.injEq, Prod.mk.injEq] at H
              obtain ⟨rfl, rfl, rfl⟩ := H
              go_wp2_with (first | (go_at_call 121; refine (chars_reference.calls k1 _ t1 t2 t3 _ HR.out).mono ?_; rintro e w5 ⟨rfl, hb⟩; have hI5 := builder_below hb HI.out; have HB5 := HB.out.trans (hb.mono hsz)) | (go_at_call 50; refine (hLen.out _ hI5).mono ?_; rintro e w6 ⟨rfl, rfl⟩))
              go_ret3
              exact ⟨rfl, HB5⟩
            · rw [if_neg c4] at H
              by_cases c5 : 0 ≤ t2 ∧ (i : Int) + t2 ≤ a0.size
              case neg => rw [if_neg c5] at H; exact absurd H (by simp)
              rw [if_pos c5] at H
              obtain ⟨c5, c6⟩ := c5
              have H' := Aside0.mk H
              clear H
              go_wp2_with (first | (go_at_call 121; refine (chars_reference.calls k1 _ t1 t2 t3 _ HR.out).mono ?_; rintro e w5 ⟨rfl, hb⟩; have hI5 := builder_below hb HI.out; have HB5 := HB.out.trans (hb.mono hsz)) | (go_at_call 50; refine (hLen.out _ hI5).mono ?_; rintro e w6 ⟨rfl, rfl⟩) | (go_at_call 58; refine (Tryz.Builder_WriteString_k w.heap.size w.heap.size _ _ _ hI5 (by rw [Lib.byteCells_length]; omega) HB5.size).mono ?_; rintro e W1 ⟨rfl, h1, b1, k1_⟩))
              go_roundg k1
              case measure => have := HK1.out; omega
              case rel => exact ⟨acc ++ t1.data.toList, i + t2.toNat, by first | rfl | (congr 1; omega) | (congr 1), by omega, by rw [List.length_append, ← Lib.size_eq]; omega, H', ⟨by have := HK1.out; omega⟩, ⟨by rw [Lib.byteCells_append]; exact .inr h1⟩, ⟨HB5.trans b1⟩⟩
          · rw [if_neg c3] at H
            have c3b : (t3 == 0) = false := beq_eq_false_iff_ne.mpr c3
            have c3c : (t3 != 0) = true := bne_iff_ne.mpr c3
            clear c3
            simp only [Option.some.injEq, Prod.mk.injEq] at H
            obtain ⟨rfl, rfl, rfl⟩ := H
            go_wp2_with (first | (go_at_call 121; refine (chars_reference.calls k1 _ t1 t2 t3 _ HR.out).mono ?_; rintro e w5 ⟨rfl, hb⟩; have hI5 := builder_below hb HI.out; have HB5 := HB.out.trans (hb.mono hsz)))
            go_ret3
            exact ⟨rfl, HB5⟩
        · rw [if_neg c38] at hst
          have d38 : ((a0[i].toNat : Int) == 38) = false := beq_eq_false_iff_ne.mpr c38
          clear c38 hbt
          obtain ⟨⟨q1, q2, q3⟩, hst2, hq⟩ := Option.bind_eq_some_iff.mp hst
          clear hst
          replace hq : (if 0 ≤ q2 ∧ (i : Int) + q2 ≤ a0.size then some (a0.extract i (i + q2.toNat), q2, q3) else none) = some (t1, t2, t3) := hq
          by_cases cq : 0 ≤ q2 ∧ (i : Int) + q2 ≤ a0.size
          case neg => rw [if_neg cq] at hq; exact absurd hq (by simp)
          rw [if_pos cq] at hq
          simp only [Option.some.injEq, Prod.mk.injEq] at hq
          obtain ⟨rfl, rfl, rfl⟩ := hq
          have HR := Aside0.mk hst2
          clear hst2
          obtain ⟨m, rfl⟩ := Int.eq_ofNat_of_zero_le cq.1
          have cm : i + m ≤ a0.size := by omega
          clear cq
          have a1 := eq_true (show (0 : Int) ≤ (i : Int) by omega)
          have a2 := eq_true (show (i : Int) ≤ (i : Int) + (m : Int) by omega)
          have a3 := eq_true (show (i : Int) + (m : Int) ≤ (a0.size : Int) by omega)
          have hms : (a0.extract i (i + (m : Int).toNat)).size = m := by simp only [ByteArray.size_extract, Int.toNat_natCast]; omega
          rw [hms] at H
          have HMS := Lib.hid hms
          clear hms ct
          by_cases c3 : q3 = 0
          · rw [if_pos c3] at H
            have c3b : (q3 == 0) = true := beq_iff_eq.mpr c3
            have c3c : (q3 != 0) = false := bne_eq_false_iff_eq.mpr c3
            clear c3
            by_cases c4 : (acc.length : Int) + (m : Int) > 16384
            · rw [if_pos c4] at H
              simp only [Option.some.injEq, Prod.mk.injEq] at H
              obtain ⟨rfl, rfl, rfl⟩ := H
              go_wp2_with (first | (go_at_call 76; refine (chars_first.calls k1 _ q1 (m : Int) q3 _ HR.out).mono ?_; rintro e w5 ⟨rfl, hb⟩; have hI5 := builder_below hb HI.out; have HB5 := HB.out.trans (hb.mono hsz)) | (go_at_call 50; refine (hLen.out _ hI5).mono ?_; rintro e w6 ⟨rfl, rfl⟩))
              go_ret3
              exact ⟨rfl, HB5⟩
            · rw [if_neg c4] at H
              by_cases c5 : 0 ≤ (m : Int) ∧ (i : Int) + (m : Int) ≤ a0.size
              case neg => rw [if_neg c5] at H; exact absurd H (by simp)
              rw [if_pos c5] at H
              obtain ⟨c5, c6⟩ := c5
              have H' := Aside0.mk H
              clear H
              go_wp2_with (first | (go_at_call 76; refine (chars_first.calls k1 _ q1 (m : Int) q3 _ HR.out).mono ?_; rintro e w5 ⟨rfl, hb⟩; have hI5 := builder_below hb HI.out; have HB5 := HB.out.trans (hb.mono hsz)) | (go_at_call 50; refine (hLen.out _ hI5).mono ?_; rintro e w6 ⟨rfl, rfl⟩) | (go_at_call 58; refine (Tryz.Builder_WriteString_k w.heap.size w.heap.size _ _ _ hI5 (by rw [Lib.byteCells_length]; have := HMS.out; simp at this ⊢; omega) HB5.size).mono ?_; rintro e W1 ⟨rfl, h1, b1, k1_⟩))
              go_roundg k1
              case measure => have := HK1.out; omega
              case rel => exact ⟨acc ++ (a0.extract i (i + (m : Int).toNat)).data.toList, i + (m : Int).toNat, by first | rfl | (congr 1; omega) | (congr 1), by omega, by rw [List.length_append, ← Lib.size_eq, HMS.out]; omega, H', ⟨by have := HK1.out; omega⟩, ⟨by rw [Lib.byteCells_append]; exact .inr h1⟩, ⟨HB5.trans b1⟩⟩
          · rw [if_neg c3] at H
            have c3b : (q3 == 0) = false := beq_eq_false_iff_ne.mpr c3
            have c3c : (q3 != 0) = true := bne_iff_ne.mpr c3
            clear c3
            simp only [Option.some.injEq, Prod.mk.injEq] at H
            obtain ⟨rfl, rfl, rfl⟩ := H
            go_wp2_with (first | (go_at_call 76; refine (chars_first.calls k1 _ q1 (m : Int) q3 _ HR.out).mono ?_; rintro e w5 ⟨rfl, hb⟩; have hI5 := builder_below hb HI.out; have HB5 := HB.out.trans (hb.mono hsz)))
            go_ret3
            exact ⟨rfl, HB5⟩
      · rw [if_neg hlt] at H
        simp only [Option.some.injEq, Prod.mk.injEq] at H
        obtain ⟨rfl, rfl, rfl⟩ := H
        go_wp2_with (go_at_call 31; refine (Tryz.Builder_String_any_k w.heap.size w.heap.size _ _ HI.out hsz).mono ?_; rintro e W1 ⟨rfl, h1, b1, k1⟩)
        go_ret3
        exact ⟨rfl, HB.out.trans b1⟩
end Go.Proofs.YtealmfcimoomlaaGreatDoor.PA
