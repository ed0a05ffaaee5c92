/- strings.ContainsRune over the blanks, at whatever rune. -/
import Derived.Test.YtdmeafhhdhojlaaDoorPB3
import Derived.Test.YtdmeafhhdhojlaaDoorShelfC
import Derived.Test.YtdmeafhhdhojlaaDoorUBlank
import Derived.BigCall
import Derived.WalkMore
import Derived.Handy
import Derived.Laws.RangeAny
import Derived.Laws.RangeString
import Derived.RegionTactic
import Derived.ChangeAlike
import Derived.Deep.QuietTactic
import Derived.BigQuiet
import Derived.Shelf.Strings.FuncGrows
import Derived.Outline
namespace Go.Proofs.YtdmeafhhdhojlaaDoor.PB
open Go.RowKit Go.Proofs.YtdmeafhhdhojlaaDoorW.PrintWords Go.Proofs.YtdmeafhhdhojlaaDoorW.PrintLast Go.Proofs.YtdmeafhhdhojlaaDoorW.PrintMore
set_option linter.unusedVariables false
set_option linter.unusedSimpArgs false
def blanksB : ByteArray := ⟨#[9, 10, 13, 32]⟩
def isBlank (r : Nat) : Bool := r == 9 || r == 10 || r == 13 || r == 32
theorem valid_of (r : Nat) (h : r < 55296 ∨ 57344 ≤ r ∧ r ≤ 1114111) : Utf8.valid (r : Int) = true := by
  unfold Utf8.valid
  rw [Bool.or_eq_true, Bool.and_eq_true, Bool.and_eq_true, decide_eq_true_iff, decide_eq_true_iff, decide_eq_true_iff, decide_eq_true_iff]
  omega
theorem enc_two (r : Nat) (h0 : 128 ≤ r) (h1 : r < 2048) : ∃ b0 b1 : UInt8, 128 ≤ b1.toNat ∧ Utf8.encode (r : Int) = ⟨#[b0, b1]⟩ := by
  refine ⟨UInt8.ofNat (192 + r / 64), UInt8.ofNat (128 + r % 64), by simp; omega, ?_⟩
  have hv := valid_of r (by omega)
  unfold Utf8.encode
  simp only [hv, if_true, Int.toNat_natCast]
  rw [if_neg (by omega), if_pos (by omega)]
theorem enc_three (r : Nat) (h0 : 2048 ≤ r) (h1 : r < 65536) (hv : Utf8.valid (r : Int) = true) : ∃ b0 b1 b2 : UInt8, 128 ≤ b2.toNat ∧ Utf8.encode (r : Int) = ⟨#[b0, b1, b2]⟩ := by
  refine ⟨UInt8.ofNat (224 + r / 4096), UInt8.ofNat (128 + r / 64 % 64), UInt8.ofNat (128 + r % 64), by simp; omega, ?_⟩
  unfold Utf8.encode
  simp only [hv, if_true, Int.toNat_natCast]
  rw [if_neg (by omega), if_neg (by omega), if_pos (by omega)]
theorem enc_four (r : Nat) (h0 : 65536 ≤ r) (hv : Utf8.valid (r : Int) = true) : ∃ b0 b1 b2 b3 : UInt8, 128 ≤ b3.toNat ∧ Utf8.encode (r : Int) = ⟨#[b0, b1, b2, b3]⟩ := by
  refine ⟨UInt8.ofNat (240 + r / 262144), UInt8.ofNat (128 + r / 4096 % 64), UInt8.ofNat (128 + r / 64 % 64), UInt8.ofNat (128 + r % 64), by simp; omega, ?_⟩
  unfold Utf8.encode
  simp only [hv, if_true, Int.toNat_natCast]
  rw [if_neg (by omega), if_neg (by omega), if_neg (by omega)]
theorem indexByte_none : ∀ (l : List UInt8) (b : UInt8), (∀ x ∈ l, x ≠ b) → Lib.indexByte l b = -1
  | [], _, _ => rfl
  | a :: l, b, h => by
    have ih := indexByte_none l b (fun x hx => h x (by simp [hx]))
    have ha : (a == b) = false := beq_eq_false_iff_ne.mpr (h a (by simp))
    rw [Lib.indexByte, ha, ih]
    rfl
theorem IndexByte_none (b : UInt8) (hb : 128 ≤ b.toNat) (t : ByteArray) (w : World) (ht : (t.data.toList.all fun x => decide (x.toNat < 128)) = true) : Calls Tryd.prog 74 #[.string t, .int .u8 (b.toNat : Int)] w fun e w' => e = .returned (.int .i64 (-1)) ∧ w' = w := by
  refine (Tryd.strings_IndexByte t (b.toNat : Int) w).mono ?_
  rintro e w' ⟨rfl, rfl⟩
  refine ⟨?_, rfl⟩
  rw [Int.toNat_natCast, show b.toNat.toUInt8 = b from UInt8.ofNat_toNat, indexByte_none _ _ (fun x hx e => by
    have := List.all_eq_true.mp ht x hx
    rw [decide_eq_true_iff, e] at this
    omega)]
set_option maxHeartbeats 4000000 in
set_option maxRecDepth 1000000 in
theorem IndexRune_two (r : Nat) (h0 : 128 ≤ r) (h6 : (r : Int) ≠ 65533) (hr : Lib.validRune (r : Int) = true) (he : ∃ b0 b1 : UInt8, 128 ≤ b1.toNat ∧ Utf8.encode (r : Int) = ⟨#[b0, b1]⟩) (w : World) :
    Calls Tryd.prog 65 #[.string blanksB, .int .i32 r] w fun e w' => e = .returned (.int .i64 (-1)) ∧ Below w.heap.size w w' := by
  have hr3 : ((r : Int) == 65533) = false := beq_eq_false_iff_ne.mpr h6
  have hr4 : decide ((r : Int) < 128) = false := decide_eq_false (by omega)
  obtain ⟨b0, b1, hb, he⟩ := he
  clear h6
  have kc : ∀ W, (convert 21 9 (.int .i32 (r : Int))).run Tryd.prog W = .ok (.string ⟨#[b0, b1]⟩) W := by
    intro W
    rw [← he]
    simp [convert, run_underlying Tryd.underlying21, run_underlying Tryd.underlying9, Conv.intToString]
  clear he
  have HI := Lib.hid (IndexByte_none ((⟨#[b0, b1]⟩ : ByteArray)[1]'(show 1 < 2 by decide)) (show 128 ≤ b1.toNat from hb))
  have hn : ((((⟨#[9, 10, 13, 32]⟩ : ByteArray)[1]'(by decide)).toNat : Int) != (((⟨#[b0, b1]⟩ : ByteArray)[1]'(show 1 < 2 by decide)).toNat : Int)) = true := bne_iff_ne.mpr (show (10 : Int) ≠ (b1.toNat : Int) by omega)
  have hw2 : IntKind.i64.wrap 2 = 2 := by decide
  clear hb
  unfold blanksB
  go_enter Tryd.func65, Tryd.ntmps65
  go_wp2_with (first | (go_at_call 75; refine (Tryd.utf8_ValidRune _ _).mono ?_; rintro e w5 ⟨rfl, rfl⟩) | (go_at_call 74; refine (HI.out _ _ (by decide +kernel)).mono ?_; rintro e w6 ⟨rfl, rfl⟩))
  apply wp_scope_straight
  go_wp2_with (first | (go_at_call 75; refine (Tryd.utf8_ValidRune _ _).mono ?_; rintro e w5 ⟨rfl, rfl⟩) | (go_at_call 74; refine (HI.out _ _ (by decide +kernel)).mono ?_; rintro e w6 ⟨rfl, rfl⟩))
  refine wp_loop_rounds 1 ?_
  rw [rounds_succ]
  go_wp2_with (first | (go_at_call 75; refine (Tryd.utf8_ValidRune _ _).mono ?_; rintro e w5 ⟨rfl, rfl⟩) | (go_at_call 74; refine (HI.out _ _ (by decide +kernel)).mono ?_; rintro e w6 ⟨rfl, rfl⟩))
  apply wp_scope_straight
  go_wp2_with (first | (go_at_call 75; refine (Tryd.utf8_ValidRune _ _).mono ?_; rintro e w5 ⟨rfl, rfl⟩) | (go_at_call 74; refine (HI.out _ _ (by decide +kernel)).mono ?_; rintro e w6 ⟨rfl, rfl⟩))
  go_quiet (fail)
  go_wp2_with (first | (go_at_call 75; refine (Tryd.utf8_ValidRune _ _).mono ?_; rintro e w5 ⟨rfl, rfl⟩) | (go_at_call 74; refine (HI.out _ _ (by decide +kernel)).mono ?_; rintro e w6 ⟨rfl, rfl⟩))
  go_quiet ((go_at_call 74; exact (HI.out (ByteArray.extract ⟨#[9, 10, 13, 32]⟩ 2 4) _ (by decide +kernel)).mono (fun e w' h => ⟨h.1, _, h.2⟩)))
  go_wp2_with (first | (go_at_call 75; refine (Tryd.utf8_ValidRune _ _).mono ?_; rintro e w5 ⟨rfl, rfl⟩) | (go_at_call 74; refine (HI.out _ _ (by decide +kernel)).mono ?_; rintro e w6 ⟨rfl, rfl⟩))
  simp only [Exit.noGoto, Exit.inBlock, Exit.then]
  go_ret
  exact ⟨rfl, below_drewNg _ _⟩
set_option maxHeartbeats 4000000 in
set_option maxRecDepth 1000000 in
theorem IndexRune_three (r : Nat) (h0 : 128 ≤ r) (h6 : (r : Int) ≠ 65533) (hr : Lib.validRune (r : Int) = true) (he : ∃ b0 b1 b2 : UInt8, 128 ≤ b2.toNat ∧ Utf8.encode (r : Int) = ⟨#[b0, b1, b2]⟩) (w : World) :
    Calls Tryd.prog 65 #[.string blanksB, .int .i32 r] w fun e w' => e = .returned (.int .i64 (-1)) ∧ Below w.heap.size w w' := by
  have hr3 : ((r : Int) == 65533) = false := beq_eq_false_iff_ne.mpr h6
  have hr4 : decide ((r : Int) < 128) = false := decide_eq_false (by omega)
  obtain ⟨b0, b1, b2, hb, he⟩ := he
  clear h6
  have kc : ∀ W, (convert 21 9 (.int .i32 (r : Int))).run Tryd.prog W = .ok (.string ⟨#[b0, b1, b2]⟩) W := by
    intro W
    rw [← he]
    simp [convert, run_underlying Tryd.underlying21, run_underlying Tryd.underlying9, Conv.intToString]
  clear he
  have HI := Lib.hid (IndexByte_none ((⟨#[b0, b1, b2]⟩ : ByteArray)[2]'(show 2 < 3 by decide)) (show 128 ≤ b2.toNat from hb))
  have hn : ((((⟨#[9, 10, 13, 32]⟩ : ByteArray)[2]'(by decide)).toNat : Int) != (((⟨#[b0, b1, b2]⟩ : ByteArray)[2]'(show 2 < 3 by decide)).toNat : Int)) = true := bne_iff_ne.mpr (show (13 : Int) ≠ (b2.toNat : Int) by omega)
  have hw2 : IntKind.i64.wrap 3 = 3 := by decide
  clear hb
  unfold blanksB
  go_enter Tryd.func65, Tryd.ntmps65
  go_wp2_with (first | (go_at_call 75; refine (Tryd.utf8_ValidRune _ _).mono ?_; rintro e w5 ⟨rfl, rfl⟩) | (go_at_call 74; refine (HI.out _ _ (by decide +kernel)).mono ?_; rintro e w6 ⟨rfl, rfl⟩))
  apply wp_scope_straight
  go_wp2_with (first | (go_at_call 75; refine (Tryd.utf8_ValidRune _ _).mono ?_; rintro e w5 ⟨rfl, rfl⟩) | (go_at_call 74; refine (HI.out _ _ (by decide +kernel)).mono ?_; rintro e w6 ⟨rfl, rfl⟩))
  refine wp_loop_rounds 1 ?_
  rw [rounds_succ]
  go_wp2_with (first | (go_at_call 75; refine (Tryd.utf8_ValidRune _ _).mono ?_; rintro e w5 ⟨rfl, rfl⟩) | (go_at_call 74; refine (HI.out _ _ (by decide +kernel)).mono ?_; rintro e w6 ⟨rfl, rfl⟩))
  apply wp_scope_straight
  go_wp2_with (first | (go_at_call 75; refine (Tryd.utf8_ValidRune _ _).mono ?_; rintro e w5 ⟨rfl, rfl⟩) | (go_at_call 74; refine (HI.out _ _ (by decide +kernel)).mono ?_; rintro e w6 ⟨rfl, rfl⟩))
  go_quiet (fail)
  go_wp2_with (first | (go_at_call 75; refine (Tryd.utf8_ValidRune _ _).mono ?_; rintro e w5 ⟨rfl, rfl⟩) | (go_at_call 74; refine (HI.out _ _ (by decide +kernel)).mono ?_; rintro e w6 ⟨rfl, rfl⟩))
  go_quiet ((go_at_call 74; exact (HI.out (ByteArray.extract ⟨#[9, 10, 13, 32]⟩ 3 4) _ (by decide +kernel)).mono (fun e w' h => ⟨h.1, _, h.2⟩)))
  go_wp2_with (first | (go_at_call 75; refine (Tryd.utf8_ValidRune _ _).mono ?_; rintro e w5 ⟨rfl, rfl⟩) | (go_at_call 74; refine (HI.out _ _ (by decide +kernel)).mono ?_; rintro e w6 ⟨rfl, rfl⟩))
  simp only [Exit.noGoto, Exit.inBlock, Exit.then]
  go_ret
  exact ⟨rfl, below_drewNg _ _⟩
set_option maxHeartbeats 4000000 in
set_option maxRecDepth 1000000 in
theorem IndexRune_four (r : Nat) (h0 : 128 ≤ r) (h6 : (r : Int) ≠ 65533) (hr : Lib.validRune (r : Int) = true) (he : ∃ b0 b1 b2 b3 : UInt8, 128 ≤ b3.toNat ∧ Utf8.encode (r : Int) = ⟨#[b0, b1, b2, b3]⟩) (w : World) :
    Calls Tryd.prog 65 #[.string blanksB, .int .i32 r] w fun e w' => e = .returned (.int .i64 (-1)) ∧ Below w.heap.size w w' := by
  have hr3 : ((r : Int) == 65533) = false := beq_eq_false_iff_ne.mpr h6
  have hr4 : decide ((r : Int) < 128) = false := decide_eq_false (by omega)
  obtain ⟨b0, b1, b2, b3, hb, he⟩ := he
  clear h6
  have kc : ∀ W, (convert 21 9 (.int .i32 (r : Int))).run Tryd.prog W = .ok (.string ⟨#[b0, b1, b2, b3]⟩) W := by
    intro W
    rw [← he]
    simp [convert, run_underlying Tryd.underlying21, run_underlying Tryd.underlying9, Conv.intToString]
  clear he
  have HI := Lib.hid (IndexByte_none ((⟨#[b0, b1, b2, b3]⟩ : ByteArray)[3]'(show 3 < 4 by decide)) (show 128 ≤ b3.toNat from hb))
  have hn : ((((⟨#[9, 10, 13, 32]⟩ : ByteArray)[3]'(by decide)).toNat : Int) != (((⟨#[b0, b1, b2, b3]⟩ : ByteArray)[3]'(show 3 < 4 by decide)).toNat : Int)) = true := bne_iff_ne.mpr (show (32 : Int) ≠ (b3.toNat : Int) by omega)
  have hw2 : IntKind.i64.wrap 4 = 4 := by decide
  clear hb
  unfold blanksB
  go_enter Tryd.func65, Tryd.ntmps65
  go_wp2_with (first | (go_at_call 75; refine (Tryd.utf8_ValidRune _ _).mono ?_; rintro e w5 ⟨rfl, rfl⟩) | (go_at_call 74; refine (HI.out _ _ (by decide +kernel)).mono ?_; rintro e w6 ⟨rfl, rfl⟩))
  apply wp_scope_straight
  go_wp2_with (first | (go_at_call 75; refine (Tryd.utf8_ValidRune _ _).mono ?_; rintro e w5 ⟨rfl, rfl⟩) | (go_at_call 74; refine (HI.out _ _ (by decide +kernel)).mono ?_; rintro e w6 ⟨rfl, rfl⟩))
  refine wp_loop_rounds 1 ?_
  rw [rounds_succ]
  go_wp2_with (first | (go_at_call 75; refine (Tryd.utf8_ValidRune _ _).mono ?_; rintro e w5 ⟨rfl, rfl⟩) | (go_at_call 74; refine (HI.out _ _ (by decide +kernel)).mono ?_; rintro e w6 ⟨rfl, rfl⟩))
  apply wp_scope_straight
  go_wp2_with (first | (go_at_call 75; refine (Tryd.utf8_ValidRune _ _).mono ?_; rintro e w5 ⟨rfl, rfl⟩) | (go_at_call 74; refine (HI.out _ _ (by decide +kernel)).mono ?_; rintro e w6 ⟨rfl, rfl⟩))
  go_quiet (fail)
  go_wp2_with (first | (go_at_call 75; refine (Tryd.utf8_ValidRune _ _).mono ?_; rintro e w5 ⟨rfl, rfl⟩) | (go_at_call 74; refine (HI.out _ _ (by decide +kernel)).mono ?_; rintro e w6 ⟨rfl, rfl⟩))
  go_quiet ((go_at_call 74; exact (HI.out (ByteArray.extract ⟨#[9, 10, 13, 32]⟩ 4 4) _ (by decide +kernel)).mono (fun e w' h => ⟨h.1, _, h.2⟩)))
  go_wp2_with (first | (go_at_call 75; refine (Tryd.utf8_ValidRune _ _).mono ?_; rintro e w5 ⟨rfl, rfl⟩) | (go_at_call 74; refine (HI.out _ _ (by decide +kernel)).mono ?_; rintro e w6 ⟨rfl, rfl⟩))
  simp only [Exit.noGoto, Exit.inBlock, Exit.then]
  go_ret
  exact ⟨rfl, below_drewNg _ _⟩
theorem blank_decode : ∀ pos : Fin 4, (Utf8.decode ⟨#[9, 10, 13, 32]⟩ pos.val).1 ≠ 65533 := by decide +kernel
set_option maxHeartbeats 4000000 in
set_option maxRecDepth 1000000 in
theorem IndexRune_err (w : World) :
    Calls Tryd.prog 65 #[.string blanksB, .int .i32 65533] w fun e w' => e = .returned (.int .i64 (-1)) ∧ Below w.heap.size w w' := by
  unfold blanksB
  go_enter Tryd.func65, Tryd.ntmps65
  go_wp2
  go_loopw [5, 6] (fun v5 v6 w' => ∃ pos : Nat, w' = w.iter ⟨#[9, 10, 13, 32]⟩ pos) (fun _ _ w' => 4 - w'.iterPos w.heap.size)
  case atStart => exact ⟨0, rfl⟩
  case round =>
    obtain ⟨pos, rfl⟩ := hrel
    have h4 : (⟨#[9, 10, 13, 32]⟩ : ByteArray).size = 4 := rfl
    by_cases hp : pos < (⟨#[9, 10, 13, 32]⟩ : ByteArray).size
    · have hnx : ∀ ty, (Instr.next (.pointer (some ⟨w.heap.size, 0, none⟩)) true ty).run Tryd.prog (w.iter ⟨#[9, 10, 13, 32]⟩ pos) = _ := fun ty => run_next_any w ⟨#[9, 10, 13, 32]⟩ pos ty hp
      have hwd := Lib.decode_width_pos ⟨#[9, 10, 13, 32]⟩ pos hp
      have hne : (((Utf8.decode ⟨#[9, 10, 13, 32]⟩ pos).1 : Int) == 65533) = false := beq_eq_false_iff_ne.mpr (by have hb := blank_decode ⟨pos, by omega⟩; simp only at hb; omega)
      go_wp2
      go_roundw
      case rel => exact ⟨_, rfl⟩
      case measure =>
        simp
        omega
    · have hnx : ∀ ty, (Instr.next (.pointer (some ⟨w.heap.size, 0, none⟩)) true ty).run Tryd.prog (w.iter ⟨#[9, 10, 13, 32]⟩ pos) = _ := fun ty => run_next_end w ⟨#[9, 10, 13, 32]⟩ pos ty hp
      go_wp2
      go_ret
      exact ⟨rfl, (Below.refl _ w).alloc (Nat.le_refl _) _⟩
end Go.Proofs.YtdmeafhhdhojlaaDoor.PB
