/- chars.Escape: what it answers, over chars.text and a strings.Builder. -/
import Derived.Test.YtealmfcimoomlaaGreatDoorPA5
import Derived.Lib.FrozenHead2
import Derived.BigCall
import Derived.Outline
import Derived.Lib.Hide
namespace Go.Proofs.YtealmfcimoomlaaGreatDoor.PA
open Go.RowKit Go.Proofs.YtealmfcimoomlaaGreatDoorW.PrintWords Go.Proofs.YtealmfcimoomlaaGreatDoorW.PrintLast Go.Proofs.YtealmfcimoomlaaGreatDoorW.PrintMore
set_option linter.unusedVariables false
set_option linter.unusedSimpArgs false
theorem ne_byte {b c : UInt8} (h : ¬ b = c) : ((b.toNat : Int) == (c.toNat : Int)) = false := by
  rw [beq_eq_false_iff_ne]
  intro hx
  exact h (UInt8.toNat_inj.mp (by omega))
/-- What stands for a byte. -/
def escByte (q : Bool) (c : UInt8) : List UInt8 :=
  if c = 38 then [38, 97, 109, 112, 59] else if c = 60 then [38, 108, 116, 59] else if c = 62 then [38, 103, 116, 59] else if c = 13 then [38, 35, 49, 51, 59]
  else if q = true ∧ c = 34 then [38, 113, 117, 111, 116, 59] else if q = true ∧ c = 9 then [38, 35, 57, 59] else if q = true ∧ c = 10 then [38, 35, 49, 48, 59] else [c]
def escAll (q : Bool) (l : List UInt8) : List UInt8 := l.flatMap (escByte q)
theorem escByte_len (q : Bool) (c : UInt8) : (escByte q c).length ≤ 6 := by unfold escByte; (repeat' split) <;> simp
theorem escAll_snoc (q : Bool) (s : ByteArray) (k : Nat) (h : k < s.size) : escAll q (s.data.toList.take (k + 1)) = escAll q (s.data.toList.take k) ++ escByte q s[k] := by
  rw [List.take_succ_eq_append_getElem (by simpa using h)]
  simp only [escAll, List.flatMap_append, List.flatMap_cons, List.flatMap_nil, List.append_nil]
  rfl
theorem escAll_len (q : Bool) (l : List UInt8) : (escAll q l).length ≤ 6 * l.length := by
  induction l with
  | nil => simp [escAll]
  | cons c l ih =>
    have := escByte_len q c
    simp only [escAll, List.flatMap_cons, List.length_append, List.length_cons] at *
    omega
def chars_Escape.f (k : Nat) (a0 : ByteArray) (a1 : Bool) : Option (ByteArray × Int × Int) :=
  (chars_text.f k a0).bind fun t => if t.2 = 0 then (if a0.size ≤ 16384 then some (⟨(escAll a1 a0.data.toList).toArray⟩, 0, 0) else none) else some ((⟨#[]⟩ : ByteArray), t.1, t.2)
theorem chars_Escape.mono : ∀ a0 a1 k, LeO (chars_Escape.f k a0 a1) (chars_Escape.f (k + 1) a0 a1) := by
  intro a0 a1 k
  unfold chars_Escape.f
  exact LeO.bind (chars_text.mono _ _) (fun _ => LeO.refl _)
set_option maxHeartbeats 4000000 in
set_option maxRecDepth 1000000 in
theorem chars_Escape.calls_true (k : Nat) (a0 : ByteArray) (t1 t2 : Int) (w : World) (HT : Aside0 (chars_text.f k a0 = some (t1, t2))) (c2b : (t2 != 0) = false) (hs : a0.size ≤ 16384) (HG : Aside0 (Glob w)) :
    Calls Tryz.prog 37 #[.string a0, .bool true] w fun e w' => e = .returned (.tuple #[.string ⟨(escAll true a0.data.toList).toArray⟩, .int .i64 0, .int .i64 0]) ∧ Below w.heap.size w w' := by
  go_enter Tryz.func37, Tryz.ntmps37
  go_wp2_with (go_at_call 57; refine (chars_text.calls k a0 t1 t2 _ HT.out HG.out).mono ?_; rintro e w5 ⟨rfl, hb5⟩)
  go_loopw [23] (fun v wr => ∃ i : Nat, i ≤ a0.size ∧ v = .int .i64 i ∧ Lib.IsBuilderF 70 5 w5.heap.size w5.heap.size (Lib.byteCells (escAll true (a0.data.toList.take i))) wr ∧ Below w5.heap.size w5 wr) (fun v _ => a0.size - (intOf v).toNat)
  case atStart => exact ⟨0, Nat.zero_le _, rfl, Lib.IsBuilderF.of (Lib.fresh_isBuilder 70 5 w5), (Below.refl _ w5).alloc (Nat.le_refl _) _⟩
  case round =>
    obtain ⟨i, hi, rfl, hI, hbw⟩ := hrel
    have hsz : w5.heap.size ≤ wr.heap.size := hbw.size
    have hl := escAll_len true (a0.data.toList.take i)
    have hl2 : (a0.data.toList.take i).length ≤ i := List.length_take_le _ _
    by_cases hlt : i < a0.size
    · have hsn := Lib.hid (escAll_snoc true a0 i hlt)
      by_cases e0 : a0[i] = 38
      · have he := Lib.hid (show escByte true a0[i] = [38, 97, 109, 112, 59] by rw [e0]; decide)
        have d0 : ((a0[i].toNat : Int) == 38) = true := by rw [e0]; decide
        clear e0
        go_wp2_with (go_at_call 58; refine (Tryz.Builder_WriteString_k w5.heap.size w5.heap.size _ _ _ hI (by rw [Lib.byteCells_length]; simp only [ByteArray.size, List.size_toArray, List.length_cons, List.length_nil]; omega) hsz).mono ?_; rintro e W1 ⟨rfl, h1, b1, k1⟩)
        go_roundw
        case rel => exact ⟨i + 1, by omega, by go_num, by rw [hsn.out, he.out, Lib.byteCells_append]; exact Or.inr h1, hbw.trans b1⟩
        case measure => simp [intOf]; omega
      · have d0 : ((a0[i].toNat : Int) == 38) = false := ne_byte e0
        by_cases e1 : a0[i] = 60
        · have he := Lib.hid (show escByte true a0[i] = [38, 108, 116, 59] by rw [e1]; decide)
          have d1 : ((a0[i].toNat : Int) == 60) = true := by rw [e1]; decide
          clear e1
          clear e0
          go_wp2_with (go_at_call 58; refine (Tryz.Builder_WriteString_k w5.heap.size w5.heap.size _ _ _ hI (by rw [Lib.byteCells_length]; simp only [ByteArray.size, List.size_toArray, List.length_cons, List.length_nil]; omega) hsz).mono ?_; rintro e W1 ⟨rfl, h1, b1, k1⟩)
          go_roundw
          case rel => exact ⟨i + 1, by omega, by go_num, by rw [hsn.out, he.out, Lib.byteCells_append]; exact Or.inr h1, hbw.trans b1⟩
          case measure => simp [intOf]; omega
        · have d1 : ((a0[i].toNat : Int) == 60) = false := ne_byte e1
          by_cases e2 : a0[i] = 62
          · have he := Lib.hid (show escByte true a0[i] = [38, 103, 116, 59] by rw [e2]; decide)
            have d2 : ((a0[i].toNat : Int) == 62) = true := by rw [e2]; decide
            clear e2
            clear e0
            clear e1
            go_wp2_with (go_at_call 58; refine (Tryz.Builder_WriteString_k w5.heap.size w5.heap.size _ _ _ hI (by rw [Lib.byteCells_length]; simp only [ByteArray.size, List.size_toArray, List.length_cons, List.length_nil]; omega) hsz).mono ?_; rintro e W1 ⟨rfl, h1, b1, k1⟩)
            go_roundw
            case rel => exact ⟨i + 1, by omega, by go_num, by rw [hsn.out, he.out, Lib.byteCells_append]; exact Or.inr h1, hbw.trans b1⟩
            case measure => simp [intOf]; omega
          · have d2 : ((a0[i].toNat : Int) == 62) = false := ne_byte e2
            by_cases e3 : a0[i] = 13
            · have he := Lib.hid (show escByte true a0[i] = [38, 35, 49, 51, 59] by rw [e3]; decide)
              have d3 : ((a0[i].toNat : Int) == 13) = true := by rw [e3]; decide
              clear e3
              clear e0
              clear e1
              clear e2
              go_wp2_with (go_at_call 58; refine (Tryz.Builder_WriteString_k w5.heap.size w5.heap.size _ _ _ hI (by rw [Lib.byteCells_length]; simp only [ByteArray.size, List.size_toArray, List.length_cons, List.length_nil]; omega) hsz).mono ?_; rintro e W1 ⟨rfl, h1, b1, k1⟩)
              go_roundw
              case rel => exact ⟨i + 1, by omega, by go_num, by rw [hsn.out, he.out, Lib.byteCells_append]; exact Or.inr h1, hbw.trans b1⟩
              case measure => simp [intOf]; omega
            · have d3 : ((a0[i].toNat : Int) == 13) = false := ne_byte e3
              by_cases e4 : a0[i] = 34
              · have he := Lib.hid (show escByte true a0[i] = [38, 113, 117, 111, 116, 59] by rw [e4]; decide)
                have d4 : ((a0[i].toNat : Int) == 34) = true := by rw [e4]; decide
                clear e4
                clear e0
                clear e1
                clear e2
                clear e3
                go_wp2_with (go_at_call 58; refine (Tryz.Builder_WriteString_k w5.heap.size w5.heap.size _ _ _ hI (by rw [Lib.byteCells_length]; simp only [ByteArray.size, List.size_toArray, List.length_cons, List.length_nil]; omega) hsz).mono ?_; rintro e W1 ⟨rfl, h1, b1, k1⟩)
                go_roundw
                case rel => exact ⟨i + 1, by omega, by go_num, by rw [hsn.out, he.out, Lib.byteCells_append]; exact Or.inr h1, hbw.trans b1⟩
                case measure => simp [intOf]; omega
              · have d4 : ((a0[i].toNat : Int) == 34) = false := ne_byte e4
                by_cases e5 : a0[i] = 9
                · have he := Lib.hid (show escByte true a0[i] = [38, 35, 57, 59] by rw [e5]; decide)
                  have d5 : ((a0[i].toNat : Int) == 9) = true := by rw [e5]; decide
                  clear e5
                  clear e0
                  clear e1
                  clear e2
                  clear e3
                  clear e4
                  go_wp2_with (go_at_call 58; refine (Tryz.Builder_WriteString_k w5.heap.size w5.heap.size _ _ _ hI (by rw [Lib.byteCells_length]; simp only [ByteArray.size, List.size_toArray, List.length_cons, List.length_nil]; omega) hsz).mono ?_; rintro e W1 ⟨rfl, h1, b1, k1⟩)
                  go_roundw
                  case rel => exact ⟨i + 1, by omega, by go_num, by rw [hsn.out, he.out, Lib.byteCells_append]; exact Or.inr h1, hbw.trans b1⟩
                  case measure => simp [intOf]; omega
                · have d5 : ((a0[i].toNat : Int) == 9) = false := ne_byte e5
                  by_cases e6 : a0[i] = 10
                  · have he := Lib.hid (show escByte true a0[i] = [38, 35, 49, 48, 59] by rw [e6]; decide)
                    have d6 : ((a0[i].toNat : Int) == 10) = true := by rw [e6]; decide
                    clear e6
                    clear e0
                    clear e1
                    clear e2
                    clear e3
                    clear e4
                    clear e5
                    go_wp2_with (go_at_call 58; refine (Tryz.Builder_WriteString_k w5.heap.size w5.heap.size _ _ _ hI (by rw [Lib.byteCells_length]; simp only [ByteArray.size, List.size_toArray, List.length_cons, List.length_nil]; omega) hsz).mono ?_; rintro e W1 ⟨rfl, h1, b1, k1⟩)
                    go_roundw
                    case rel => exact ⟨i + 1, by omega, by go_num, by rw [hsn.out, he.out, Lib.byteCells_append]; exact Or.inr h1, hbw.trans b1⟩
                    case measure => simp [intOf]; omega
                  · have d6 : ((a0[i].toNat : Int) == 10) = false := ne_byte e6
                    have he := Lib.hid (show escByte true a0[i] = [a0[i]] by simp [escByte, e0, e1, e2, e3, e4, e5, e6])
                    clear e0 e1 e2 e3 e4 e5 e6
                    go_wp2_with (go_at_call 59; refine (Tryz.Builder_WriteByte_k w5.heap.size w5.heap.size _ _ _ hI (by rw [Lib.byteCells_length]; omega) hsz).mono ?_; rintro e W1 ⟨rfl, h1, b1, k1⟩)
                    go_roundw
                    case rel => exact ⟨i + 1, by omega, by go_num, by rw [hsn.out, he.out, Lib.byteCells_append]; exact Or.inr h1, hbw.trans b1⟩
                    case measure => simp [intOf]; omega
    · have htake : a0.data.toList.take i = a0.data.toList := List.take_of_length_le (by rw [← Lib.size_eq]; omega)
      rw [htake] at hI
      go_wp2_with (go_at_call 31; refine (Tryz.Builder_String_any_k w5.heap.size w5.heap.size _ _ hI hsz).mono ?_; rintro e W1 ⟨rfl, h1, b1, k1⟩)
      go_ret3
      exact ⟨rfl, hb5.trans ((hbw.trans b1).mono hb5.size)⟩
set_option maxHeartbeats 4000000 in
set_option maxRecDepth 1000000 in
theorem chars_Escape.calls_false (k : Nat) (a0 : ByteArray) (t1 t2 : Int) (w : World) (HT : Aside0 (chars_text.f k a0 = some (t1, t2))) (c2b : (t2 != 0) = false) (hs : a0.size ≤ 16384) (HG : Aside0 (Glob w)) :
    Calls Tryz.prog 37 #[.string a0, .bool false] w fun e w' => e = .returned (.tuple #[.string ⟨(escAll false a0.data.toList).toArray⟩, .int .i64 0, .int .i64 0]) ∧ Below w.heap.size w w' := by
  go_enter Tryz.func37, Tryz.ntmps37
  go_wp2_with (go_at_call 57; refine (chars_text.calls k a0 t1 t2 _ HT.out HG.out).mono ?_; rintro e w5 ⟨rfl, hb5⟩)
  go_loopw [23] (fun v wr => ∃ i : Nat, i ≤ a0.size ∧ v = .int .i64 i ∧ Lib.IsBuilderF 70 5 w5.heap.size w5.heap.size (Lib.byteCells (escAll false (a0.data.toList.take i))) wr ∧ Below w5.heap.size w5 wr) (fun v _ => a0.size - (intOf v).toNat)
  case atStart => exact ⟨0, Nat.zero_le _, rfl, Lib.IsBuilderF.of (Lib.fresh_isBuilder 70 5 w5), (Below.refl _ w5).alloc (Nat.le_refl _) _⟩
  case round =>
    obtain ⟨i, hi, rfl, hI, hbw⟩ := hrel
    have hsz : w5.heap.size ≤ wr.heap.size := hbw.size
    have hl := escAll_len false (a0.data.toList.take i)
    have hl2 : (a0.data.toList.take i).length ≤ i := List.length_take_le _ _
    by_cases hlt : i < a0.size
    · have hsn := Lib.hid (escAll_snoc false a0 i hlt)
      by_cases e0 : a0[i] = 38
      · have he := Lib.hid (show escByte false a0[i] = [38, 97, 109, 112, 59] by rw [e0]; decide)
        have d0 : ((a0[i].toNat : Int) == 38) = true := by rw [e0]; decide
        clear e0
        go_wp2_with (go_at_call 58; refine (Tryz.Builder_WriteString_k w5.heap.size w5.heap.size _ _ _ hI (by rw [Lib.byteCells_length]; simp only [ByteArray.size, List.size_toArray, List.length_cons, List.length_nil]; omega) hsz).mono ?_; rintro e W1 ⟨rfl, h1, b1, k1⟩)
        go_roundw
        case rel => exact ⟨i + 1, by omega, by go_num, by rw [hsn.out, he.out, Lib.byteCells_append]; exact Or.inr h1, hbw.trans b1⟩
        case measure => simp [intOf]; omega
      · have d0 : ((a0[i].toNat : Int) == 38) = false := ne_byte e0
        by_cases e1 : a0[i] = 60
        · have he := Lib.hid (show escByte false a0[i] = [38, 108, 116, 59] by rw [e1]; decide)
          have d1 : ((a0[i].toNat : Int) == 60) = true := by rw [e1]; decide
          clear e1
          clear e0
          go_wp2_with (go_at_call 58; refine (Tryz.Builder_WriteString_k w5.heap.size w5.heap.size _ _ _ hI (by rw [Lib.byteCells_length]; simp only [ByteArray.size, List.size_toArray, List.length_cons, List.length_nil]; omega) hsz).mono ?_; rintro e W1 ⟨rfl, h1, b1, k1⟩)
          go_roundw
          case rel => exact ⟨i + 1, by omega, by go_num, by rw [hsn.out, he.out, Lib.byteCells_append]; exact Or.inr h1, hbw.trans b1⟩
          case measure => simp [intOf]; omega
        · have d1 : ((a0[i].toNat : Int) == 60) = false := ne_byte e1
          by_cases e2 : a0[i] = 62
          · have he := Lib.hid (show escByte false a0[i] = [38, 103, 116, 59] by rw [e2]; decide)
            have d2 : ((a0[i].toNat : Int) == 62) = true := by rw [e2]; decide
            clear e2
            clear e0
            clear e1
            go_wp2_with (go_at_call 58; refine (Tryz.Builder_WriteString_k w5.heap.size w5.heap.size _ _ _ hI (by rw [Lib.byteCells_length]; simp only [ByteArray.size, List.size_toArray, List.length_cons, List.length_nil]; omega) hsz).mono ?_; rintro e W1 ⟨rfl, h1, b1, k1⟩)
            go_roundw
            case rel => exact ⟨i + 1, by omega, by go_num, by rw [hsn.out, he.out, Lib.byteCells_append]; exact Or.inr h1, hbw.trans b1⟩
            case measure => simp [intOf]; omega
          · have d2 : ((a0[i].toNat : Int) == 62) = false := ne_byte e2
            by_cases e3 : a0[i] = 13
            · have he := Lib.hid (show escByte false a0[i] = [38, 35, 49, 51, 59] by rw [e3]; decide)
              have d3 : ((a0[i].toNat : Int) == 13) = true := by rw [e3]; decide
              clear e3
              clear e0
              clear e1
              clear e2
              go_wp2_with (go_at_call 58; refine (Tryz.Builder_WriteString_k w5.heap.size w5.heap.size _ _ _ hI (by rw [Lib.byteCells_length]; simp only [ByteArray.size, List.size_toArray, List.length_cons, List.length_nil]; omega) hsz).mono ?_; rintro e W1 ⟨rfl, h1, b1, k1⟩)
              go_roundw
              case rel => exact ⟨i + 1, by omega, by go_num, by rw [hsn.out, he.out, Lib.byteCells_append]; exact Or.inr h1, hbw.trans b1⟩
              case measure => simp [intOf]; omega
            · have d3 : ((a0[i].toNat : Int) == 13) = false := ne_byte e3
              have he := Lib.hid (show escByte false a0[i] = [a0[i]] by simp [escByte, e0, e1, e2, e3])
              clear e0 e1 e2 e3
              go_wp2_with (go_at_call 59; refine (Tryz.Builder_WriteByte_k w5.heap.size w5.heap.size _ _ _ hI (by rw [Lib.byteCells_length]; omega) hsz).mono ?_; rintro e W1 ⟨rfl, h1, b1, k1⟩)
              go_roundw
              case rel => exact ⟨i + 1, by omega, by go_num, by rw [hsn.out, he.out, Lib.byteCells_append]; exact Or.inr h1, hbw.trans b1⟩
              case measure => simp [intOf]; omega
    · have htake : a0.data.toList.take i = a0.data.toList := List.take_of_length_le (by rw [← Lib.size_eq]; omega)
      rw [htake] at hI
      go_wp2_with (go_at_call 31; refine (Tryz.Builder_String_any_k w5.heap.size w5.heap.size _ _ hI hsz).mono ?_; rintro e W1 ⟨rfl, h1, b1, k1⟩)
      go_ret3
      exact ⟨rfl, hb5.trans ((hbw.trans b1).mono hb5.size)⟩
set_option maxHeartbeats 4000000 in
set_option maxRecDepth 1000000 in
theorem chars_Escape.calls (k : Nat) (a0 : ByteArray) (a1 : Bool) (r1 : ByteArray) (r2 r3 : Int) (w : World) (h : chars_Escape.f k a0 a1 = some (r1, r2, r3)) (hG : Glob w := by first | exact Glob.step HG.out (by repeat (first | (with_reducible first | exact HB.out | apply below_alloc | apply pw_below_drewN | apply below_drew1) | exact HB.out | (refine below_set ?_ (Aside0.out (by assumption))))) | exact HG.out | assumption) :
    Calls Tryz.prog 37 #[.string a0, .bool a1] w fun e w' => e = .returned (.tuple #[.string r1, .int .i64 r2, .int .i64 r3]) ∧ Below w.heap.size w w' := by
  have HG := Aside0.mk hG
  clear hG
  unfold chars_Escape.f at h
  obtain ⟨⟨t1, t2⟩, ht, h⟩ := Option.bind_eq_some_iff.mp h
  have HT := Aside0.mk ht
  clear ht
  replace h : (if t2 = 0 then (if a0.size ≤ 16384 then some (⟨(escAll a1 a0.data.toList).toArray⟩, 0, 0) else none) else some ((⟨#[]⟩ : ByteArray), t1, t2)) = some (r1, r2, r3) := h
  by_cases c2 : t2 = 0
  · rw [if_pos c2] at h
    by_cases hs : a0.size ≤ 16384
    case neg => rw [if_neg hs] at h; exact absurd h (by simp)
    rw [if_pos hs] at h
    simp only [Option.some.injEq, Prod.mk.injEq] at h
    obtain ⟨rfl, rfl, rfl⟩ := h
    have c2b : (t2 != 0) = false := bne_eq_false_iff_eq.mpr c2
    cases a1
    · exact chars_Escape.calls_false k a0 t1 t2 w HT c2b hs HG
    · exact chars_Escape.calls_true k a0 t1 t2 w HT c2b hs HG
  · rw [if_neg c2] at h
    simp only [Option.some.injEq, Prod.mk.injEq] at h
    obtain ⟨rfl, rfl, rfl⟩ := h
    have c2b : (t2 != 0) = true := bne_iff_ne.mpr c2
    clear c2
    go_enter Tryz.func37, Tryz.ntmps37
    go_wp2_with (go_at_call 57; refine (chars_text.calls k a0 t1 t2 _ HT.out HG.out).mono ?_; rintro e w5 ⟨rfl, hb5⟩)
    go_ret3
    exact ⟨rfl, hb5⟩
end Go.Proofs.YtealmfcimoomlaaGreatDoor.PA
