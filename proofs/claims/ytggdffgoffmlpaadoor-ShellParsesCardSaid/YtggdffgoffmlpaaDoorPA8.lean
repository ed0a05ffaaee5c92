-- Written by a program of this session (wip/tools/xprint.py: the kit's print, with given functions). Not trusted: Lean checks it.
import Derived.Test.YtggdffgoffmlpaaDoorPA0
namespace Go.Proofs.YtggdffgoffmlpaaDoor.PA
open Go.RowKit Go.Proofs.YtggdffgoffmlpaaDoorW.PrintWords Go.Proofs.YtggdffgoffmlpaaDoorW.PrintLast Go.Proofs.YtggdffgoffmlpaaDoorW.PrintMore
attribute [local go_sem] max2_int min2_int max_two min_two max_three min_three max_four min_four   -- for this text's walks alone
set_option linter.unusedVariables false
set_option linter.unusedSimpArgs false

/-! ### espalierref30_form: function 9 -/
mutual
def espalierref30_form.j0 : Nat → ByteArray → Bool → Option (ByteArray)
 | 0, _, _ => none
 | k + 1, x3, x4 => if x4 = true then (some (⟨#[]⟩ : ByteArray)) else (if x3.toList = ([108, 111, 97, 100] : List UInt8) then (espalierref30_form.j1 k x3 (x3.toList == ([108, 111, 97, 100] : List UInt8))) else (if x3.toList = ([97, 115, 107] : List UInt8) then (espalierref30_form.j1 k x3 (x3.toList == ([97, 115, 107] : List UInt8))) else (espalierref30_form.j1 k x3 (x3.toList == ([99, 111, 117, 110, 116] : List UInt8)))))
def espalierref30_form.j1 : Nat → ByteArray → Bool → Option (ByteArray)
 | 0, _, _ => none
 | k + 1, x3, x16 => if x16 = true then (some (⟨#[86]⟩ : ByteArray)) else (if x3.toList = ([112, 117, 116] : List UInt8) then (some (⟨#[80, 72, 86]⟩ : ByteArray)) else (if x3.toList = ([109, 111, 118, 101] : List UInt8) then (some (⟨#[72, 80, 72]⟩ : ByteArray)) else (if x3.toList = ([100, 114, 111, 112] : List UInt8) then (espalierref30_form.j2 k x3 (x3.toList == ([100, 114, 111, 112] : List UInt8))) else (espalierref30_form.j2 k x3 (x3.toList == ([115, 104, 111, 119] : List UInt8))))))
def espalierref30_form.j2 : Nat → ByteArray → Bool → Option (ByteArray)
 | 0, _, _ => none
 | k + 1, x3, x24 => if x24 = true then (some (⟨#[72]⟩ : ByteArray)) else (if x3.toList = ([110, 97, 109, 101] : List UInt8) then (espalierref30_form.j3 k x3 (x3.toList == ([110, 97, 109, 101] : List UInt8))) else (espalierref30_form.j3 k x3 (x3.toList == ([102, 114, 111, 109] : List UInt8))))
def espalierref30_form.j3 : Nat → ByteArray → Bool → Option (ByteArray)
 | 0, _, _ => none
 | k + 1, x3, x27 => if x27 = true then (some (⟨#[72, 86]⟩ : ByteArray)) else (if x3.toList = ([116, 101, 120, 116] : List UInt8) then (some (⟨#[72, 63]⟩ : ByteArray)) else (if x3.toList = ([97, 116, 116, 114] : List UInt8) then (some (⟨#[72, 78, 63]⟩ : ByteArray)) else (if x3.toList = ([110, 111, 97, 116, 116, 114] : List UInt8) then (some (⟨#[72, 78]⟩ : ByteArray)) else (if x3.toList = ([119, 97, 108, 107] : List UInt8) then (some (⟨#[65, 72]⟩ : ByteArray)) else (if x3.toList = ([114, 101, 108] : List UInt8) then (some (⟨#[72, 72]⟩ : ByteArray)) else (if x3.toList = ([119, 111, 114, 100, 115] : List UInt8) then (espalierref30_form.j4 k x3 (x3.toList == ([119, 111, 114, 100, 115] : List UInt8))) else (espalierref30_form.j4 k x3 (x3.toList == ([112, 104, 114, 97, 115, 101] : List UInt8)))))))))
def espalierref30_form.j4 : Nat → ByteArray → Bool → Option (ByteArray)
 | 0, _, _ => none
 | k + 1, x3, x40 => if x40 = true then (some (⟨#[43]⟩ : ByteArray)) else (if x3.toList = ([109, 111, 100, 101, 108] : List UInt8) then (some (⟨#[78, 86]⟩ : ByteArray)) else (if x3.toList = ([119, 97, 115] : List UInt8) then (espalierref30_form.j5 k x3 (x3.toList == ([119, 97, 115] : List UInt8))) else (if x3.toList = ([102, 97, 114] : List UInt8) then (espalierref30_form.j5 k x3 (x3.toList == ([102, 97, 114] : List UInt8))) else (espalierref30_form.j5 k x3 (x3.toList == ([102, 114, 101, 101] : List UInt8))))))
def espalierref30_form.j5 : Nat → ByteArray → Bool → Option (ByteArray)
 | 0, _, _ => none
 | k + 1, x3, x45 => if x45 = true then (some (⟨#[68]⟩ : ByteArray)) else (if x3.toList = ([108, 111, 99, 107] : List UInt8) then (some (⟨#[68, 72, 77]⟩ : ByteArray)) else (some (⟨#[33]⟩ : ByteArray)))
end
def espalierref30_form.f (k : Nat) (a0 : ByteArray) : Option (ByteArray) := if a0.toList = ([111, 112, 101, 110] : List UInt8) then (espalierref30_form.j0 k a0 (a0.toList == ([111, 112, 101, 110] : List UInt8))) else (if a0.toList = ([118, 97, 108, 105, 100] : List UInt8) then (espalierref30_form.j0 k a0 (a0.toList == ([118, 97, 108, 105, 100] : List UInt8))) else (if a0.toList = ([107, 101, 101, 112] : List UInt8) then (espalierref30_form.j0 k a0 (a0.toList == ([107, 101, 101, 112] : List UInt8))) else (if a0.toList = ([116, 97, 98, 108, 101] : List UInt8) then (espalierref30_form.j0 k a0 (a0.toList == ([116, 97, 98, 108, 101] : List UInt8))) else (if a0.toList = ([104, 101, 108, 100] : List UInt8) then (espalierref30_form.j0 k a0 (a0.toList == ([104, 101, 108, 100] : List UInt8))) else (if a0.toList = ([115, 121, 110, 99] : List UInt8) then (espalierref30_form.j0 k a0 (a0.toList == ([115, 121, 110, 99] : List UInt8))) else (if a0.toList = ([115, 110, 97, 112] : List UInt8) then (espalierref30_form.j0 k a0 (a0.toList == ([115, 110, 97, 112] : List UInt8))) else (if a0.toList = ([99, 114, 97, 115, 104] : List UInt8) then (espalierref30_form.j0 k a0 (a0.toList == ([99, 114, 97, 115, 104] : List UInt8))) else (if a0.toList = ([105, 100, 115] : List UInt8) then (espalierref30_form.j0 k a0 (a0.toList == ([105, 100, 115] : List UInt8))) else (if a0.toList = ([101, 100, 105, 116, 115] : List UInt8) then (espalierref30_form.j0 k a0 (a0.toList == ([101, 100, 105, 116, 115] : List UInt8))) else (espalierref30_form.j0 k a0 (a0.toList == ([115, 117, 109] : List UInt8))))))))))))
theorem espalierref30_form.mono_l : ∀ k, (∀ y0 y1, LeO (espalierref30_form.j0 k y0 y1) (espalierref30_form.j0 (k + 1) y0 y1)) ∧ (∀ y0 y1, LeO (espalierref30_form.j1 k y0 y1) (espalierref30_form.j1 (k + 1) y0 y1)) ∧ (∀ y0 y1, LeO (espalierref30_form.j2 k y0 y1) (espalierref30_form.j2 (k + 1) y0 y1)) ∧ (∀ y0 y1, LeO (espalierref30_form.j3 k y0 y1) (espalierref30_form.j3 (k + 1) y0 y1)) ∧ (∀ y0 y1, LeO (espalierref30_form.j4 k y0 y1) (espalierref30_form.j4 (k + 1) y0 y1)) ∧ (∀ y0 y1, LeO (espalierref30_form.j5 k y0 y1) (espalierref30_form.j5 (k + 1) y0 y1))
 | 0 => ⟨fun _ _ r h => by simp [espalierref30_form.j0] at h, fun _ _ r h => by simp [espalierref30_form.j1] at h, fun _ _ r h => by simp [espalierref30_form.j2] at h, fun _ _ r h => by simp [espalierref30_form.j3] at h, fun _ _ r h => by simp [espalierref30_form.j4] at h, fun _ _ r h => by simp [espalierref30_form.j5] at h⟩
 | k + 1 => by
  obtain ⟨ih0, ih1, ih2, ih3, ih4, ih5⟩ := espalierref30_form.mono_l k
  refine ⟨?_, ?_, ?_, ?_, ?_, ?_⟩
  ·intro y0 y1
   unfold espalierref30_form.j0
   repeat' first
   | (with_reducible exact ih0 _ _)
   | (with_reducible exact ih1 _ _)
   | (with_reducible exact ih2 _ _)
   | (with_reducible exact ih3 _ _)
   | (with_reducible exact ih4 _ _)
   | (with_reducible exact ih5 _ _)
   | (with_reducible exact LeO.refl _)
   | (with_reducible exact LeO.none _)
   | (with_reducible refine LeO.ite ?_ ?_)
   | (with_reducible refine LeO.bind ?_ (fun _ => ?_))
   | exact ih0 _ _
   | exact ih1 _ _
   | exact ih2 _ _
   | exact ih3 _ _
   | exact ih4 _ _
   | exact ih5 _ _
   | exact LeO.none _
   | refine LeO.ite ?_ ?_
   | refine LeO.bind ?_ (fun _ => ?_)
  ·intro y0 y1
   unfold espalierref30_form.j1
   repeat' first
   | (with_reducible exact ih0 _ _)
   | (with_reducible exact ih1 _ _)
   | (with_reducible exact ih2 _ _)
   | (with_reducible exact ih3 _ _)
   | (with_reducible exact ih4 _ _)
   | (with_reducible exact ih5 _ _)
   | (with_reducible exact LeO.refl _)
   | (with_reducible exact LeO.none _)
   | (with_reducible refine LeO.ite ?_ ?_)
   | (with_reducible refine LeO.bind ?_ (fun _ => ?_))
   | exact ih0 _ _
   | exact ih1 _ _
   | exact ih2 _ _
   | exact ih3 _ _
   | exact ih4 _ _
   | exact ih5 _ _
   | exact LeO.none _
   | refine LeO.ite ?_ ?_
   | refine LeO.bind ?_ (fun _ => ?_)
  ·intro y0 y1
   unfold espalierref30_form.j2
   repeat' first
   | (with_reducible exact ih0 _ _)
   | (with_reducible exact ih1 _ _)
   | (with_reducible exact ih2 _ _)
   | (with_reducible exact ih3 _ _)
   | (with_reducible exact ih4 _ _)
   | (with_reducible exact ih5 _ _)
   | (with_reducible exact LeO.refl _)
   | (with_reducible exact LeO.none _)
   | (with_reducible refine LeO.ite ?_ ?_)
   | (with_reducible refine LeO.bind ?_ (fun _ => ?_))
   | exact ih0 _ _
   | exact ih1 _ _
   | exact ih2 _ _
   | exact ih3 _ _
   | exact ih4 _ _
   | exact ih5 _ _
   | exact LeO.none _
   | refine LeO.ite ?_ ?_
   | refine LeO.bind ?_ (fun _ => ?_)
  ·intro y0 y1
   unfold espalierref30_form.j3
   repeat' first
   | (with_reducible exact ih0 _ _)
   | (with_reducible exact ih1 _ _)
   | (with_reducible exact ih2 _ _)
   | (with_reducible exact ih3 _ _)
   | (with_reducible exact ih4 _ _)
   | (with_reducible exact ih5 _ _)
   | (with_reducible exact LeO.refl _)
   | (with_reducible exact LeO.none _)
   | (with_reducible refine LeO.ite ?_ ?_)
   | (with_reducible refine LeO.bind ?_ (fun _ => ?_))
   | exact ih0 _ _
   | exact ih1 _ _
   | exact ih2 _ _
   | exact ih3 _ _
   | exact ih4 _ _
   | exact ih5 _ _
   | exact LeO.none _
   | refine LeO.ite ?_ ?_
   | refine LeO.bind ?_ (fun _ => ?_)
  ·intro y0 y1
   unfold espalierref30_form.j4
   repeat' first
   | (with_reducible exact ih0 _ _)
   | (with_reducible exact ih1 _ _)
   | (with_reducible exact ih2 _ _)
   | (with_reducible exact ih3 _ _)
   | (with_reducible exact ih4 _ _)
   | (with_reducible exact ih5 _ _)
   | (with_reducible exact LeO.refl _)
   | (with_reducible exact LeO.none _)
   | (with_reducible refine LeO.ite ?_ ?_)
   | (with_reducible refine LeO.bind ?_ (fun _ => ?_))
   | exact ih0 _ _
   | exact ih1 _ _
   | exact ih2 _ _
   | exact ih3 _ _
   | exact ih4 _ _
   | exact ih5 _ _
   | exact LeO.none _
   | refine LeO.ite ?_ ?_
   | refine LeO.bind ?_ (fun _ => ?_)
  ·intro y0 y1
   unfold espalierref30_form.j5
   repeat' first
   | (with_reducible exact ih0 _ _)
   | (with_reducible exact ih1 _ _)
   | (with_reducible exact ih2 _ _)
   | (with_reducible exact ih3 _ _)
   | (with_reducible exact ih4 _ _)
   | (with_reducible exact ih5 _ _)
   | (with_reducible exact LeO.refl _)
   | (with_reducible exact LeO.none _)
   | (with_reducible refine LeO.ite ?_ ?_)
   | (with_reducible refine LeO.bind ?_ (fun _ => ?_))
   | exact ih0 _ _
   | exact ih1 _ _
   | exact ih2 _ _
   | exact ih3 _ _
   | exact ih4 _ _
   | exact ih5 _ _
   | exact LeO.none _
   | refine LeO.ite ?_ ?_
   | refine LeO.bind ?_ (fun _ => ?_)
theorem espalierref30_form.mono : ∀ a0 k, LeO (espalierref30_form.f k a0) (espalierref30_form.f (k + 1) a0) := by
 intro a0 k
 obtain ⟨ih0, ih1, ih2, ih3, ih4, ih5⟩ := espalierref30_form.mono_l k
 unfold espalierref30_form.f
 repeat' first
   | (with_reducible exact ih0 _ _)
   | (with_reducible exact ih1 _ _)
   | (with_reducible exact ih2 _ _)
   | (with_reducible exact ih3 _ _)
   | (with_reducible exact ih4 _ _)
   | (with_reducible exact ih5 _ _)
   | (with_reducible exact LeO.refl _)
   | (with_reducible exact LeO.none _)
   | (with_reducible refine LeO.ite ?_ ?_)
   | (with_reducible refine LeO.bind ?_ (fun _ => ?_))
   | exact ih0 _ _
   | exact ih1 _ _
   | exact ih2 _ _
   | exact ih3 _ _
   | exact ih4 _ _
   | exact ih5 _ _
   | exact LeO.none _
   | refine LeO.ite ?_ ?_
   | refine LeO.bind ?_ (fun _ => ?_)
set_option maxHeartbeats 8000000 in
set_option maxRecDepth 100000 in
theorem espalierref30_form.calls (k : Nat) (a0 : ByteArray) (r : ByteArray) (w : World) (h : espalierref30_form.f k a0 = some r) :
  Calls Tryd.prog 9 #[.string a0] w fun e w' => e = .returned (.string r) ∧ Drawn0 w w' := by
 have H : (if a0.toList = ([111, 112, 101, 110] : List UInt8) then (espalierref30_form.j0 k a0 (a0.toList == ([111, 112, 101, 110] : List UInt8))) else (if a0.toList = ([118, 97, 108, 105, 100] : List UInt8) then (espalierref30_form.j0 k a0 (a0.toList == ([118, 97, 108, 105, 100] : List UInt8))) else (if a0.toList = ([107, 101, 101, 112] : List UInt8) then (espalierref30_form.j0 k a0 (a0.toList == ([107, 101, 101, 112] : List UInt8))) else (if a0.toList = ([116, 97, 98, 108, 101] : List UInt8) then (espalierref30_form.j0 k a0 (a0.toList == ([116, 97, 98, 108, 101] : List UInt8))) else (if a0.toList = ([104, 101, 108, 100] : List UInt8) then (espalierref30_form.j0 k a0 (a0.toList == ([104, 101, 108, 100] : List UInt8))) else (if a0.toList = ([115, 121, 110, 99] : List UInt8) then (espalierref30_form.j0 k a0 (a0.toList == ([115, 121, 110, 99] : List UInt8))) else (if a0.toList = ([115, 110, 97, 112] : List UInt8) then (espalierref30_form.j0 k a0 (a0.toList == ([115, 110, 97, 112] : List UInt8))) else (if a0.toList = ([99, 114, 97, 115, 104] : List UInt8) then (espalierref30_form.j0 k a0 (a0.toList == ([99, 114, 97, 115, 104] : List UInt8))) else (if a0.toList = ([105, 100, 115] : List UInt8) then (espalierref30_form.j0 k a0 (a0.toList == ([105, 100, 115] : List UInt8))) else (if a0.toList = ([101, 100, 105, 116, 115] : List UInt8) then (espalierref30_form.j0 k a0 (a0.toList == ([101, 100, 105, 116, 115] : List UInt8))) else (espalierref30_form.j0 k a0 (a0.toList == ([115, 117, 109] : List UInt8))))))))))))) = some r := h
 clear h
 have HC2 := Aside0.mk H
 clear H
 go_enter Tryd.func9, Tryd.ntmps9
 go_upto_if 4 with (fail)
 go_cut [4] (fun v4 wc => ∃ (kq : Nat) (x4_1 : Bool), v4 = .bool x4_1 ∧ Aside0 (espalierref30_form.j0 kq a0 x4_1 = some r) ∧ Aside0 (kq ≤ k) ∧ Drawn0 w wc)
 case first =>
  have H := HC2.out
  clear HC2
  by_cases c3 : a0.toList = ([111, 112, 101, 110] : List UInt8)
  ·rw [if_pos c3] at H
   have c3b0 : (a0.toList == ([111, 112, 101, 110] : List UInt8)) = true := beq_iff_eq.mpr c3
   have c3b1 : (a0.toList != ([111, 112, 101, 110] : List UInt8)) = false := bne_eq_false_iff_eq.mpr c3
   clear c3
   (first | rw [c3b0] | (simp only [i64_w, i32_w]; rw [c3b0]) | skip)
   have H' := Aside0.mk H
   clear H
   go_wp2
   go_meet
   case rel => exact ⟨_, ((a0.toList == ([111, 112, 101, 110] : List UInt8))), (by first | rfl | (simp; done) | (simp [*]; done)), H', ⟨by first | omega | exact Nat.le_refl _⟩, by repeat (first | exact Drawn0.refl _ | apply Drawn0.step)⟩
  ·rw [if_neg c3] at H
   have c3b0 : (a0.toList == ([111, 112, 101, 110] : List UInt8)) = false := beq_eq_false_iff_ne.mpr c3
   have c3b1 : (a0.toList != ([111, 112, 101, 110] : List UInt8)) = true := bne_iff_ne.mpr c3
   (first | rw [c3b0] | (simp only [i64_w, i32_w]; rw [c3b0]) | skip)
   by_cases c4 : a0.toList = ([118, 97, 108, 105, 100] : List UInt8)
   ·rw [if_pos c4] at H
    have c4b0 : (a0.toList == ([118, 97, 108, 105, 100] : List UInt8)) = true := beq_iff_eq.mpr c4
    have c4b1 : (a0.toList != ([118, 97, 108, 105, 100] : List UInt8)) = false := bne_eq_false_iff_eq.mpr c4
    clear c4
    have H' := Aside0.mk H
    clear H
    go_wp2
    go_meet
    case rel => exact ⟨_, ((a0.toList == ([118, 97, 108, 105, 100] : List UInt8))), (by first | rfl | (simp; done) | (simp [*]; done)), H', ⟨by first | omega | exact Nat.le_refl _⟩, by repeat (first | exact Drawn0.refl _ | apply Drawn0.step)⟩
   ·rw [if_neg c4] at H
    have c4b0 : (a0.toList == ([118, 97, 108, 105, 100] : List UInt8)) = false := beq_eq_false_iff_ne.mpr c4
    have c4b1 : (a0.toList != ([118, 97, 108, 105, 100] : List UInt8)) = true := bne_iff_ne.mpr c4
    by_cases c5 : a0.toList = ([107, 101, 101, 112] : List UInt8)
    ·rw [if_pos c5] at H
     have c5b0 : (a0.toList == ([107, 101, 101, 112] : List UInt8)) = true := beq_iff_eq.mpr c5
     have c5b1 : (a0.toList != ([107, 101, 101, 112] : List UInt8)) = false := bne_eq_false_iff_eq.mpr c5
     clear c5
     have H' := Aside0.mk H
     clear H
     go_wp2
     go_meet
     case rel => exact ⟨_, ((a0.toList == ([107, 101, 101, 112] : List UInt8))), (by first | rfl | (simp; done) | (simp [*]; done)), H', ⟨by first | omega | exact Nat.le_refl _⟩, by repeat (first | exact Drawn0.refl _ | apply Drawn0.step)⟩
    ·rw [if_neg c5] at H
     have c5b0 : (a0.toList == ([107, 101, 101, 112] : List UInt8)) = false := beq_eq_false_iff_ne.mpr c5
     have c5b1 : (a0.toList != ([107, 101, 101, 112] : List UInt8)) = true := bne_iff_ne.mpr c5
     by_cases c6 : a0.toList = ([116, 97, 98, 108, 101] : List UInt8)
     ·rw [if_pos c6] at H
      have c6b0 : (a0.toList == ([116, 97, 98, 108, 101] : List UInt8)) = true := beq_iff_eq.mpr c6
      have c6b1 : (a0.toList != ([116, 97, 98, 108, 101] : List UInt8)) = false := bne_eq_false_iff_eq.mpr c6
      clear c6
      have H' := Aside0.mk H
      clear H
      go_wp2
      go_meet
      case rel => exact ⟨_, ((a0.toList == ([116, 97, 98, 108, 101] : List UInt8))), (by first | rfl | (simp; done) | (simp [*]; done)), H', ⟨by first | omega | exact Nat.le_refl _⟩, by repeat (first | exact Drawn0.refl _ | apply Drawn0.step)⟩
     ·rw [if_neg c6] at H
      have c6b0 : (a0.toList == ([116, 97, 98, 108, 101] : List UInt8)) = false := beq_eq_false_iff_ne.mpr c6
      have c6b1 : (a0.toList != ([116, 97, 98, 108, 101] : List UInt8)) = true := bne_iff_ne.mpr c6
      by_cases c7 : a0.toList = ([104, 101, 108, 100] : List UInt8)
      ·rw [if_pos c7] at H
       have c7b0 : (a0.toList == ([104, 101, 108, 100] : List UInt8)) = true := beq_iff_eq.mpr c7
       have c7b1 : (a0.toList != ([104, 101, 108, 100] : List UInt8)) = false := bne_eq_false_iff_eq.mpr c7
       clear c7
       have H' := Aside0.mk H
       clear H
       go_wp2
       go_meet
       case rel => exact ⟨_, ((a0.toList == ([104, 101, 108, 100] : List UInt8))), (by first | rfl | (simp; done) | (simp [*]; done)), H', ⟨by first | omega | exact Nat.le_refl _⟩, by repeat (first | exact Drawn0.refl _ | apply Drawn0.step)⟩
      ·rw [if_neg c7] at H
       have c7b0 : (a0.toList == ([104, 101, 108, 100] : List UInt8)) = false := beq_eq_false_iff_ne.mpr c7
       have c7b1 : (a0.toList != ([104, 101, 108, 100] : List UInt8)) = true := bne_iff_ne.mpr c7
       by_cases c8 : a0.toList = ([115, 121, 110, 99] : List UInt8)
       ·rw [if_pos c8] at H
        have c8b0 : (a0.toList == ([115, 121, 110, 99] : List UInt8)) = true := beq_iff_eq.mpr c8
        have c8b1 : (a0.toList != ([115, 121, 110, 99] : List UInt8)) = false := bne_eq_false_iff_eq.mpr c8
        clear c8
        have H' := Aside0.mk H
        clear H
        go_wp2
        go_meet
        case rel => exact ⟨_, ((a0.toList == ([115, 121, 110, 99] : List UInt8))), (by first | rfl | (simp; done) | (simp [*]; done)), H', ⟨by first | omega | exact Nat.le_refl _⟩, by repeat (first | exact Drawn0.refl _ | apply Drawn0.step)⟩
       ·rw [if_neg c8] at H
        have c8b0 : (a0.toList == ([115, 121, 110, 99] : List UInt8)) = false := beq_eq_false_iff_ne.mpr c8
        have c8b1 : (a0.toList != ([115, 121, 110, 99] : List UInt8)) = true := bne_iff_ne.mpr c8
        by_cases c9 : a0.toList = ([115, 110, 97, 112] : List UInt8)
        ·rw [if_pos c9] at H
         have c9b0 : (a0.toList == ([115, 110, 97, 112] : List UInt8)) = true := beq_iff_eq.mpr c9
         have c9b1 : (a0.toList != ([115, 110, 97, 112] : List UInt8)) = false := bne_eq_false_iff_eq.mpr c9
         clear c9
         have H' := Aside0.mk H
         clear H
         go_wp2
         go_meet
         case rel => exact ⟨_, ((a0.toList == ([115, 110, 97, 112] : List UInt8))), (by first | rfl | (simp; done) | (simp [*]; done)), H', ⟨by first | omega | exact Nat.le_refl _⟩, by repeat (first | exact Drawn0.refl _ | apply Drawn0.step)⟩
        ·rw [if_neg c9] at H
         have c9b0 : (a0.toList == ([115, 110, 97, 112] : List UInt8)) = false := beq_eq_false_iff_ne.mpr c9
         have c9b1 : (a0.toList != ([115, 110, 97, 112] : List UInt8)) = true := bne_iff_ne.mpr c9
         by_cases c10 : a0.toList = ([99, 114, 97, 115, 104] : List UInt8)
         ·rw [if_pos c10] at H
          have c10b0 : (a0.toList == ([99, 114, 97, 115, 104] : List UInt8)) = true := beq_iff_eq.mpr c10
          have c10b1 : (a0.toList != ([99, 114, 97, 115, 104] : List UInt8)) = false := bne_eq_false_iff_eq.mpr c10
          clear c10
          have H' := Aside0.mk H
          clear H
          go_wp2
          go_meet
          case rel => exact ⟨_, ((a0.toList == ([99, 114, 97, 115, 104] : List UInt8))), (by first | rfl | (simp; done) | (simp [*]; done)), H', ⟨by first | omega | exact Nat.le_refl _⟩, by repeat (first | exact Drawn0.refl _ | apply Drawn0.step)⟩
         ·rw [if_neg c10] at H
          have c10b0 : (a0.toList == ([99, 114, 97, 115, 104] : List UInt8)) = false := beq_eq_false_iff_ne.mpr c10
          have c10b1 : (a0.toList != ([99, 114, 97, 115, 104] : List UInt8)) = true := bne_iff_ne.mpr c10
          by_cases c11 : a0.toList = ([105, 100, 115] : List UInt8)
          ·rw [if_pos c11] at H
           have c11b0 : (a0.toList == ([105, 100, 115] : List UInt8)) = true := beq_iff_eq.mpr c11
           have c11b1 : (a0.toList != ([105, 100, 115] : List UInt8)) = false := bne_eq_false_iff_eq.mpr c11
           clear c11
           have H' := Aside0.mk H
           clear H
           go_wp2
           go_meet
           case rel => exact ⟨_, ((a0.toList == ([105, 100, 115] : List UInt8))), (by first | rfl | (simp; done) | (simp [*]; done)), H', ⟨by first | omega | exact Nat.le_refl _⟩, by repeat (first | exact Drawn0.refl _ | apply Drawn0.step)⟩
          ·rw [if_neg c11] at H
           have c11b0 : (a0.toList == ([105, 100, 115] : List UInt8)) = false := beq_eq_false_iff_ne.mpr c11
           have c11b1 : (a0.toList != ([105, 100, 115] : List UInt8)) = true := bne_iff_ne.mpr c11
           by_cases c12 : a0.toList = ([101, 100, 105, 116, 115] : List UInt8)
           ·rw [if_pos c12] at H
            have c12b0 : (a0.toList == ([101, 100, 105, 116, 115] : List UInt8)) = true := beq_iff_eq.mpr c12
            have c12b1 : (a0.toList != ([101, 100, 105, 116, 115] : List UInt8)) = false := bne_eq_false_iff_eq.mpr c12
            clear c12
            have H' := Aside0.mk H
            clear H
            go_wp2
            go_meet
            case rel => exact ⟨_, ((a0.toList == ([101, 100, 105, 116, 115] : List UInt8))), (by first | rfl | (simp; done) | (simp [*]; done)), H', ⟨by first | omega | exact Nat.le_refl _⟩, by repeat (first | exact Drawn0.refl _ | apply Drawn0.step)⟩
           ·rw [if_neg c12] at H
            have c12b0 : (a0.toList == ([101, 100, 105, 116, 115] : List UInt8)) = false := beq_eq_false_iff_ne.mpr c12
            have c12b1 : (a0.toList != ([101, 100, 105, 116, 115] : List UInt8)) = true := bne_iff_ne.mpr c12
            have H' := Aside0.mk H
            clear H
            go_wp2
            go_meet
            case rel => exact ⟨_, ((a0.toList == ([115, 117, 109] : List UInt8))), (by first | rfl | (simp; done) | (simp [*]; done)), H', ⟨by first | omega | exact Nat.le_refl _⟩, by repeat (first | exact Drawn0.refl _ | apply Drawn0.step)⟩
 case rest =>
  clear HC2
  try clear c1
  try clear p2
  try clear c3
  try clear c3b0
  try clear c3b1
  try clear c4
  try clear c4b0
  try clear c4b1
  try clear c5
  try clear c5b0
  try clear c5b1
  try clear c6
  try clear c6b0
  try clear c6b1
  try clear c7
  try clear c7b0
  try clear c7b1
  try clear c8
  try clear c8b0
  try clear c8b1
  try clear c9
  try clear c9b0
  try clear c9b1
  try clear c10
  try clear c10b0
  try clear c10b1
  try clear c11
  try clear c11b0
  try clear c11b1
  try clear c12
  try clear c12b0
  try clear c12b1
  obtain ⟨kq, x4_1, rfl, HA, HJ1, ⟨mc1, rfl⟩⟩ := hcut
  cases kq with
  | zero => exact absurd HA.out (by simp [espalierref30_form.j0])
  | succ kj1 =>
   have H := HA.out
   clear HA
   simp only [espalierref30_form.j0] at H
   by_cases c13 : x4_1 = true
   ·subst c13
    have H1 : (some (⟨#[]⟩ : ByteArray)) = some r := by rw [if_pos rfl] at H; exact H
    clear H
    have H := H1
    clear H1
    obtain rfl := Option.some.inj H
    go_wp2
    go_ret
    exact ⟨by first | rfl | (simp; done) | (simp [*]; done), by repeat (first | exact Drawn0.refl _ | apply Drawn0.step)⟩
   ·replace c13 := Bool.eq_false_iff.mpr c13
    subst c13
    have H1 : (if a0.toList = ([108, 111, 97, 100] : List UInt8) then (espalierref30_form.j1 kj1 a0 (a0.toList == ([108, 111, 97, 100] : List UInt8))) else (if a0.toList = ([97, 115, 107] : List UInt8) then (espalierref30_form.j1 kj1 a0 (a0.toList == ([97, 115, 107] : List UInt8))) else (espalierref30_form.j1 kj1 a0 (a0.toList == ([99, 111, 117, 110, 116] : List UInt8))))) = some r := by rw [if_neg (show ¬ (false = true) by decide)] at H; exact H
    clear H
    have H := H1
    clear H1
    have HC14 := Aside0.mk H
    clear H
    go_upto_if 16 with (fail)
    go_cut [16] (fun v16 wc => ∃ (kq : Nat) (x16_13 : Bool), v16 = .bool x16_13 ∧ Aside0 (espalierref30_form.j1 kq a0 x16_13 = some r) ∧ Aside0 (kq ≤ kj1) ∧ Drawn0 w wc)
    case first =>
     have H := HC14.out
     clear HC14
     by_cases c15 : a0.toList = ([108, 111, 97, 100] : List UInt8)
     ·rw [if_pos c15] at H
      have c15b0 : (a0.toList == ([108, 111, 97, 100] : List UInt8)) = true := beq_iff_eq.mpr c15
      have c15b1 : (a0.toList != ([108, 111, 97, 100] : List UInt8)) = false := bne_eq_false_iff_eq.mpr c15
      clear c15
      (first | rw [c15b0] | (simp only [i64_w, i32_w]; rw [c15b0]) | skip)
      have H' := Aside0.mk H
      clear H
      go_wp2
      go_meet
      case rel => exact ⟨_, ((a0.toList == ([108, 111, 97, 100] : List UInt8))), (by first | rfl | (simp; done) | (simp [*]; done)), H', ⟨by have := HJ1.out; first | omega | exact Nat.le_refl _⟩, by repeat (first | exact Drawn0.refl _ | apply Drawn0.step)⟩
     ·rw [if_neg c15] at H
      have c15b0 : (a0.toList == ([108, 111, 97, 100] : List UInt8)) = false := beq_eq_false_iff_ne.mpr c15
      have c15b1 : (a0.toList != ([108, 111, 97, 100] : List UInt8)) = true := bne_iff_ne.mpr c15
      (first | rw [c15b0] | (simp only [i64_w, i32_w]; rw [c15b0]) | skip)
      by_cases c16 : a0.toList = ([97, 115, 107] : List UInt8)
      ·rw [if_pos c16] at H
       have c16b0 : (a0.toList == ([97, 115, 107] : List UInt8)) = true := beq_iff_eq.mpr c16
       have c16b1 : (a0.toList != ([97, 115, 107] : List UInt8)) = false := bne_eq_false_iff_eq.mpr c16
       clear c16
       have H' := Aside0.mk H
       clear H
       go_wp2
       go_meet
       case rel => exact ⟨_, ((a0.toList == ([97, 115, 107] : List UInt8))), (by first | rfl | (simp; done) | (simp [*]; done)), H', ⟨by have := HJ1.out; first | omega | exact Nat.le_refl _⟩, by repeat (first | exact Drawn0.refl _ | apply Drawn0.step)⟩
      ·rw [if_neg c16] at H
       have c16b0 : (a0.toList == ([97, 115, 107] : List UInt8)) = false := beq_eq_false_iff_ne.mpr c16
       have c16b1 : (a0.toList != ([97, 115, 107] : List UInt8)) = true := bne_iff_ne.mpr c16
       have H' := Aside0.mk H
       clear H
       go_wp2
       go_meet
       case rel => exact ⟨_, ((a0.toList == ([99, 111, 117, 110, 116] : List UInt8))), (by first | rfl | (simp; done) | (simp [*]; done)), H', ⟨by have := HJ1.out; first | omega | exact Nat.le_refl _⟩, by repeat (first | exact Drawn0.refl _ | apply Drawn0.step)⟩
    case rest =>
     clear HC14
     try clear c1
     try clear p2
     try clear c3
     try clear c3b0
     try clear c3b1
     try clear c4
     try clear c4b0
     try clear c4b1
     try clear c5
     try clear c5b0
     try clear c5b1
     try clear c6
     try clear c6b0
     try clear c6b1
     try clear c7
     try clear c7b0
     try clear c7b1
     try clear c8
     try clear c8b0
     try clear c8b1
     try clear c9
     try clear c9b0
     try clear c9b1
     try clear c10
     try clear c10b0
     try clear c10b1
     try clear c11
     try clear c11b0
     try clear c11b1
     try clear c12
     try clear c12b0
     try clear c12b1
     try clear c13
     try clear c15
     try clear c15b0
     try clear c15b1
     try clear c16
     try clear c16b0
     try clear c16b1
     try clear p2
     obtain ⟨kq, x16_13, rfl, HA, HJ13, ⟨mc13, rfl⟩⟩ := hcut
     cases kq with
     | zero => exact absurd HA.out (by simp [espalierref30_form.j1])
     | succ kj13 =>
      have H := HA.out
      clear HA
      simp only [espalierref30_form.j1] at H
      by_cases c17 : x16_13 = true
      ·subst c17
       have H1 : (some (⟨#[86]⟩ : ByteArray)) = some r := by rw [if_pos rfl] at H; exact H
       clear H
       have H := H1
       clear H1
       obtain rfl := Option.some.inj H
       go_wp2
       go_ret
       exact ⟨by first | rfl | (simp; done) | (simp [*]; done), by repeat (first | exact Drawn0.refl _ | apply Drawn0.step)⟩
      ·replace c17 := Bool.eq_false_iff.mpr c17
       subst c17
       have H1 : (if a0.toList = ([112, 117, 116] : List UInt8) then (some (⟨#[80, 72, 86]⟩ : ByteArray)) else (if a0.toList = ([109, 111, 118, 101] : List UInt8) then (some (⟨#[72, 80, 72]⟩ : ByteArray)) else (if a0.toList = ([100, 114, 111, 112] : List UInt8) then (espalierref30_form.j2 kj13 a0 (a0.toList == ([100, 114, 111, 112] : List UInt8))) else (espalierref30_form.j2 kj13 a0 (a0.toList == ([115, 104, 111, 119] : List UInt8)))))) = some r := by rw [if_neg (show ¬ (false = true) by decide)] at H; exact H
       clear H
       have H := H1
       clear H1
       by_cases c18 : a0.toList = ([112, 117, 116] : List UInt8)
       ·rw [if_pos c18] at H
        have c18b0 : (a0.toList == ([112, 117, 116] : List UInt8)) = true := beq_iff_eq.mpr c18
        have c18b1 : (a0.toList != ([112, 117, 116] : List UInt8)) = false := bne_eq_false_iff_eq.mpr c18
        clear c18
        obtain rfl := Option.some.inj H
        go_wp2
        go_ret
        exact ⟨by first | rfl | (simp; done) | (simp [*]; done), by repeat (first | exact Drawn0.refl _ | apply Drawn0.step)⟩
       ·rw [if_neg c18] at H
        have c18b0 : (a0.toList == ([112, 117, 116] : List UInt8)) = false := beq_eq_false_iff_ne.mpr c18
        have c18b1 : (a0.toList != ([112, 117, 116] : List UInt8)) = true := bne_iff_ne.mpr c18
        by_cases c19 : a0.toList = ([109, 111, 118, 101] : List UInt8)
        ·rw [if_pos c19] at H
         have c19b0 : (a0.toList == ([109, 111, 118, 101] : List UInt8)) = true := beq_iff_eq.mpr c19
         have c19b1 : (a0.toList != ([109, 111, 118, 101] : List UInt8)) = false := bne_eq_false_iff_eq.mpr c19
         clear c19
         obtain rfl := Option.some.inj H
         go_wp2
         go_ret
         exact ⟨by first | rfl | (simp; done) | (simp [*]; done), by repeat (first | exact Drawn0.refl _ | apply Drawn0.step)⟩
        ·rw [if_neg c19] at H
         have c19b0 : (a0.toList == ([109, 111, 118, 101] : List UInt8)) = false := beq_eq_false_iff_ne.mpr c19
         have c19b1 : (a0.toList != ([109, 111, 118, 101] : List UInt8)) = true := bne_iff_ne.mpr c19
         have HC20 := Aside0.mk H
         clear H
         go_upto_if 24 with (fail)
         go_cut [24] (fun v24 wc => ∃ (kq : Nat) (x24_19 : Bool), v24 = .bool x24_19 ∧ Aside0 (espalierref30_form.j2 kq a0 x24_19 = some r) ∧ Aside0 (kq ≤ kj13) ∧ Drawn0 w wc)
         case first =>
          have H := HC20.out
          clear HC20
          by_cases c21 : a0.toList = ([100, 114, 111, 112] : List UInt8)
          ·rw [if_pos c21] at H
           have c21b0 : (a0.toList == ([100, 114, 111, 112] : List UInt8)) = true := beq_iff_eq.mpr c21
           have c21b1 : (a0.toList != ([100, 114, 111, 112] : List UInt8)) = false := bne_eq_false_iff_eq.mpr c21
           clear c21
           (first | rw [c21b0] | (simp only [i64_w, i32_w]; rw [c21b0]) | skip)
           have H' := Aside0.mk H
           clear H
           go_wp2
           go_meet
           case rel => exact ⟨_, ((a0.toList == ([100, 114, 111, 112] : List UInt8))), (by first | rfl | (simp; done) | (simp [*]; done)), H', ⟨by have := HJ1.out; have := HJ13.out; first | omega | exact Nat.le_refl _⟩, by repeat (first | exact Drawn0.refl _ | apply Drawn0.step)⟩
          ·rw [if_neg c21] at H
           have c21b0 : (a0.toList == ([100, 114, 111, 112] : List UInt8)) = false := beq_eq_false_iff_ne.mpr c21
           have c21b1 : (a0.toList != ([100, 114, 111, 112] : List UInt8)) = true := bne_iff_ne.mpr c21
           (first | rw [c21b0] | (simp only [i64_w, i32_w]; rw [c21b0]) | skip)
           have H' := Aside0.mk H
           clear H
           go_wp2
           go_meet
           case rel => exact ⟨_, ((a0.toList == ([115, 104, 111, 119] : List UInt8))), (by first | rfl | (simp; done) | (simp [*]; done)), H', ⟨by have := HJ1.out; have := HJ13.out; first | omega | exact Nat.le_refl _⟩, by repeat (first | exact Drawn0.refl _ | apply Drawn0.step)⟩
         case rest =>
          clear HC20
          try clear c1
          try clear c2
          try clear p2
          try clear c3
          try clear c3b0
          try clear c3b1
          try clear c4
          try clear c4b0
          try clear c4b1
          try clear c5
          try clear c5b0
          try clear c5b1
          try clear c6
          try clear c6b0
          try clear c6b1
          try clear c7
          try clear c7b0
          try clear c7b1
          try clear c8
          try clear c8b0
          try clear c8b1
          try clear c9
          try clear c9b0
          try clear c9b1
          try clear c10
          try clear c10b0
          try clear c10b1
          try clear c11
          try clear c11b0
          try clear c11b1
          try clear c12
          try clear c12b0
          try clear c12b1
          try clear c13
          try clear c15
          try clear c15b0
          try clear c15b1
          try clear c16
          try clear c16b0
          try clear c16b1
          try clear c17
          try clear c18
          try clear c18b0
          try clear c18b1
          try clear c19
          try clear c19b0
          try clear c19b1
          try clear c21
          try clear c21b0
          try clear c21b1
          try clear p2
          obtain ⟨kq, x24_19, rfl, HA, HJ19, ⟨mc19, rfl⟩⟩ := hcut
          cases kq with
          | zero => exact absurd HA.out (by simp [espalierref30_form.j2])
          | succ kj19 =>
           have H := HA.out
           clear HA
           simp only [espalierref30_form.j2] at H
           by_cases c22 : x24_19 = true
           ·subst c22
            have H1 : (some (⟨#[72]⟩ : ByteArray)) = some r := by rw [if_pos rfl] at H; exact H
            clear H
            have H := H1
            clear H1
            obtain rfl := Option.some.inj H
            go_wp2
            go_ret
            exact ⟨by first | rfl | (simp; done) | (simp [*]; done), by repeat (first | exact Drawn0.refl _ | apply Drawn0.step)⟩
           ·replace c22 := Bool.eq_false_iff.mpr c22
            subst c22
            have H1 : (if a0.toList = ([110, 97, 109, 101] : List UInt8) then (espalierref30_form.j3 kj19 a0 (a0.toList == ([110, 97, 109, 101] : List UInt8))) else (espalierref30_form.j3 kj19 a0 (a0.toList == ([102, 114, 111, 109] : List UInt8)))) = some r := by rw [if_neg (show ¬ (false = true) by decide)] at H; exact H
            clear H
            have H := H1
            clear H1
            have HC23 := Aside0.mk H
            clear H
            go_upto_if 27 with (fail)
            go_cut [27] (fun v27 wc => ∃ (kq : Nat) (x27_22 : Bool), v27 = .bool x27_22 ∧ Aside0 (espalierref30_form.j3 kq a0 x27_22 = some r) ∧ Aside0 (kq ≤ kj19) ∧ Drawn0 w wc)
            case first =>
             have H := HC23.out
             clear HC23
             by_cases c24 : a0.toList = ([110, 97, 109, 101] : List UInt8)
             ·rw [if_pos c24] at H
              have c24b0 : (a0.toList == ([110, 97, 109, 101] : List UInt8)) = true := beq_iff_eq.mpr c24
              have c24b1 : (a0.toList != ([110, 97, 109, 101] : List UInt8)) = false := bne_eq_false_iff_eq.mpr c24
              clear c24
              (first | rw [c24b0] | (simp only [i64_w, i32_w]; rw [c24b0]) | skip)
              have H' := Aside0.mk H
              clear H
              go_wp2
              go_meet
              case rel => exact ⟨_, ((a0.toList == ([110, 97, 109, 101] : List UInt8))), (by first | rfl | (simp; done) | (simp [*]; done)), H', ⟨by have := HJ1.out; have := HJ13.out; have := HJ19.out; first | omega | exact Nat.le_refl _⟩, by repeat (first | exact Drawn0.refl _ | apply Drawn0.step)⟩
             ·rw [if_neg c24] at H
              have c24b0 : (a0.toList == ([110, 97, 109, 101] : List UInt8)) = false := beq_eq_false_iff_ne.mpr c24
              have c24b1 : (a0.toList != ([110, 97, 109, 101] : List UInt8)) = true := bne_iff_ne.mpr c24
              (first | rw [c24b0] | (simp only [i64_w, i32_w]; rw [c24b0]) | skip)
              have H' := Aside0.mk H
              clear H
              go_wp2
              go_meet
              case rel => exact ⟨_, ((a0.toList == ([102, 114, 111, 109] : List UInt8))), (by first | rfl | (simp; done) | (simp [*]; done)), H', ⟨by have := HJ1.out; have := HJ13.out; have := HJ19.out; first | omega | exact Nat.le_refl _⟩, by repeat (first | exact Drawn0.refl _ | apply Drawn0.step)⟩
            case rest =>
             clear HC23
             try clear c1
             try clear c2
             try clear p2
             try clear c3
             try clear c3b0
             try clear c3b1
             try clear c4
             try clear c4b0
             try clear c4b1
             try clear c5
             try clear c5b0
             try clear c5b1
             try clear c6
             try clear c6b0
             try clear c6b1
             try clear c7
             try clear c7b0
             try clear c7b1
             try clear c8
             try clear c8b0
             try clear c8b1
             try clear c9
             try clear c9b0
             try clear c9b1
             try clear c10
             try clear c10b0
             try clear c10b1
             try clear c11
             try clear c11b0
             try clear c11b1
             try clear c12
             try clear c12b0
             try clear c12b1
             try clear c13
             try clear c15
             try clear c15b0
             try clear c15b1
             try clear c16
             try clear c16b0
             try clear c16b1
             try clear c17
             try clear c18
             try clear c18b0
             try clear c18b1
             try clear c19
             try clear c19b0
             try clear c19b1
             try clear c21
             try clear c21b0
             try clear c21b1
             try clear c22
             try clear c24
             try clear c24b0
             try clear c24b1
             try clear p2
             obtain ⟨kq, x27_22, rfl, HA, HJ22, ⟨mc22, rfl⟩⟩ := hcut
             cases kq with
             | zero => exact absurd HA.out (by simp [espalierref30_form.j3])
             | succ kj22 =>
              have H := HA.out
              clear HA
              simp only [espalierref30_form.j3] at H
              by_cases c25 : x27_22 = true
              ·subst c25
               have H1 : (some (⟨#[72, 86]⟩ : ByteArray)) = some r := by rw [if_pos rfl] at H; exact H
               clear H
               have H := H1
               clear H1
               obtain rfl := Option.some.inj H
               go_wp2
               go_ret
               exact ⟨by first | rfl | (simp; done) | (simp [*]; done), by repeat (first | exact Drawn0.refl _ | apply Drawn0.step)⟩
              ·replace c25 := Bool.eq_false_iff.mpr c25
               subst c25
               have H1 : (if a0.toList = ([116, 101, 120, 116] : List UInt8) then (some (⟨#[72, 63]⟩ : ByteArray)) else (if a0.toList = ([97, 116, 116, 114] : List UInt8) then (some (⟨#[72, 78, 63]⟩ : ByteArray)) else (if a0.toList = ([110, 111, 97, 116, 116, 114] : List UInt8) then (some (⟨#[72, 78]⟩ : ByteArray)) else (if a0.toList = ([119, 97, 108, 107] : List UInt8) then (some (⟨#[65, 72]⟩ : ByteArray)) else (if a0.toList = ([114, 101, 108] : List UInt8) then (some (⟨#[72, 72]⟩ : ByteArray)) else (if a0.toList = ([119, 111, 114, 100, 115] : List UInt8) then (espalierref30_form.j4 kj22 a0 (a0.toList == ([119, 111, 114, 100, 115] : List UInt8))) else (espalierref30_form.j4 kj22 a0 (a0.toList == ([112, 104, 114, 97, 115, 101] : List UInt8))))))))) = some r := by rw [if_neg (show ¬ (false = true) by decide)] at H; exact H
               clear H
               have H := H1
               clear H1
               by_cases c26 : a0.toList = ([116, 101, 120, 116] : List UInt8)
               ·rw [if_pos c26] at H
                have c26b0 : (a0.toList == ([116, 101, 120, 116] : List UInt8)) = true := beq_iff_eq.mpr c26
                have c26b1 : (a0.toList != ([116, 101, 120, 116] : List UInt8)) = false := bne_eq_false_iff_eq.mpr c26
                clear c26
                obtain rfl := Option.some.inj H
                go_wp2
                go_ret
                exact ⟨by first | rfl | (simp; done) | (simp [*]; done), by repeat (first | exact Drawn0.refl _ | apply Drawn0.step)⟩
               ·rw [if_neg c26] at H
                have c26b0 : (a0.toList == ([116, 101, 120, 116] : List UInt8)) = false := beq_eq_false_iff_ne.mpr c26
                have c26b1 : (a0.toList != ([116, 101, 120, 116] : List UInt8)) = true := bne_iff_ne.mpr c26
                by_cases c27 : a0.toList = ([97, 116, 116, 114] : List UInt8)
                ·rw [if_pos c27] at H
                 have c27b0 : (a0.toList == ([97, 116, 116, 114] : List UInt8)) = true := beq_iff_eq.mpr c27
                 have c27b1 : (a0.toList != ([97, 116, 116, 114] : List UInt8)) = false := bne_eq_false_iff_eq.mpr c27
                 clear c27
                 obtain rfl := Option.some.inj H
                 go_wp2
                 go_ret
                 exact ⟨by first | rfl | (simp; done) | (simp [*]; done), by repeat (first | exact Drawn0.refl _ | apply Drawn0.step)⟩
                ·rw [if_neg c27] at H
                 have c27b0 : (a0.toList == ([97, 116, 116, 114] : List UInt8)) = false := beq_eq_false_iff_ne.mpr c27
                 have c27b1 : (a0.toList != ([97, 116, 116, 114] : List UInt8)) = true := bne_iff_ne.mpr c27
                 by_cases c28 : a0.toList = ([110, 111, 97, 116, 116, 114] : List UInt8)
                 ·rw [if_pos c28] at H
                  have c28b0 : (a0.toList == ([110, 111, 97, 116, 116, 114] : List UInt8)) = true := beq_iff_eq.mpr c28
                  have c28b1 : (a0.toList != ([110, 111, 97, 116, 116, 114] : List UInt8)) = false := bne_eq_false_iff_eq.mpr c28
                  clear c28
                  obtain rfl := Option.some.inj H
                  go_wp2
                  go_ret
                  exact ⟨by first | rfl | (simp; done) | (simp [*]; done), by repeat (first | exact Drawn0.refl _ | apply Drawn0.step)⟩
                 ·rw [if_neg c28] at H
                  have c28b0 : (a0.toList == ([110, 111, 97, 116, 116, 114] : List UInt8)) = false := beq_eq_false_iff_ne.mpr c28
                  have c28b1 : (a0.toList != ([110, 111, 97, 116, 116, 114] : List UInt8)) = true := bne_iff_ne.mpr c28
                  by_cases c29 : a0.toList = ([119, 97, 108, 107] : List UInt8)
                  ·rw [if_pos c29] at H
                   have c29b0 : (a0.toList == ([119, 97, 108, 107] : List UInt8)) = true := beq_iff_eq.mpr c29
                   have c29b1 : (a0.toList != ([119, 97, 108, 107] : List UInt8)) = false := bne_eq_false_iff_eq.mpr c29
                   clear c29
                   obtain rfl := Option.some.inj H
                   go_wp2
                   go_ret
                   exact ⟨by first | rfl | (simp; done) | (simp [*]; done), by repeat (first | exact Drawn0.refl _ | apply Drawn0.step)⟩
                  ·rw [if_neg c29] at H
                   have c29b0 : (a0.toList == ([119, 97, 108, 107] : List UInt8)) = false := beq_eq_false_iff_ne.mpr c29
                   have c29b1 : (a0.toList != ([119, 97, 108, 107] : List UInt8)) = true := bne_iff_ne.mpr c29
                   by_cases c30 : a0.toList = ([114, 101, 108] : List UInt8)
                   ·rw [if_pos c30] at H
                    have c30b0 : (a0.toList == ([114, 101, 108] : List UInt8)) = true := beq_iff_eq.mpr c30
                    have c30b1 : (a0.toList != ([114, 101, 108] : List UInt8)) = false := bne_eq_false_iff_eq.mpr c30
                    clear c30
                    obtain rfl := Option.some.inj H
                    go_wp2
                    go_ret
                    exact ⟨by first | rfl | (simp; done) | (simp [*]; done), by repeat (first | exact Drawn0.refl _ | apply Drawn0.step)⟩
                   ·rw [if_neg c30] at H
                    have c30b0 : (a0.toList == ([114, 101, 108] : List UInt8)) = false := beq_eq_false_iff_ne.mpr c30
                    have c30b1 : (a0.toList != ([114, 101, 108] : List UInt8)) = true := bne_iff_ne.mpr c30
                    have HC31 := Aside0.mk H
                    clear H
                    go_upto_if 40 with (fail)
                    go_cut [40] (fun v40 wc => ∃ (kq : Nat) (x40_30 : Bool), v40 = .bool x40_30 ∧ Aside0 (espalierref30_form.j4 kq a0 x40_30 = some r) ∧ Aside0 (kq ≤ kj22) ∧ Drawn0 w wc)
                    case first =>
                     have H := HC31.out
                     clear HC31
                     by_cases c32 : a0.toList = ([119, 111, 114, 100, 115] : List UInt8)
                     ·rw [if_pos c32] at H
                      have c32b0 : (a0.toList == ([119, 111, 114, 100, 115] : List UInt8)) = true := beq_iff_eq.mpr c32
                      have c32b1 : (a0.toList != ([119, 111, 114, 100, 115] : List UInt8)) = false := bne_eq_false_iff_eq.mpr c32
                      clear c32
                      (first | rw [c32b0] | (simp only [i64_w, i32_w]; rw [c32b0]) | skip)
                      have H' := Aside0.mk H
                      clear H
                      go_wp2
                      go_meet
                      case rel => exact ⟨_, ((a0.toList == ([119, 111, 114, 100, 115] : List UInt8))), (by first | rfl | (simp; done) | (simp [*]; done)), H', ⟨by have := HJ1.out; have := HJ13.out; have := HJ19.out; have := HJ22.out; first | omega | exact Nat.le_refl _⟩, by repeat (first | exact Drawn0.refl _ | apply Drawn0.step)⟩
                     ·rw [if_neg c32] at H
                      have c32b0 : (a0.toList == ([119, 111, 114, 100, 115] : List UInt8)) = false := beq_eq_false_iff_ne.mpr c32
                      have c32b1 : (a0.toList != ([119, 111, 114, 100, 115] : List UInt8)) = true := bne_iff_ne.mpr c32
                      (first | rw [c32b0] | (simp only [i64_w, i32_w]; rw [c32b0]) | skip)
                      have H' := Aside0.mk H
                      clear H
                      go_wp2
                      go_meet
                      case rel => exact ⟨_, ((a0.toList == ([112, 104, 114, 97, 115, 101] : List UInt8))), (by first | rfl | (simp; done) | (simp [*]; done)), H', ⟨by have := HJ1.out; have := HJ13.out; have := HJ19.out; have := HJ22.out; first | omega | exact Nat.le_refl _⟩, by repeat (first | exact Drawn0.refl _ | apply Drawn0.step)⟩
                    case rest =>
                     clear HC31
                     try clear c1
                     try clear c2
                     try clear p2
                     try clear c3
                     try clear c3b0
                     try clear c3b1
                     try clear c4
                     try clear c4b0
                     try clear c4b1
                     try clear c5
                     try clear c5b0
                     try clear c5b1
                     try clear c6
                     try clear c6b0
                     try clear c6b1
                     try clear c7
                     try clear c7b0
                     try clear c7b1
                     try clear c8
                     try clear c8b0
                     try clear c8b1
                     try clear c9
                     try clear c9b0
                     try clear c9b1
                     try clear c10
                     try clear c10b0
                     try clear c10b1
                     try clear c11
                     try clear c11b0
                     try clear c11b1
                     try clear c12
                     try clear c12b0
                     try clear c12b1
                     try clear c13
                     try clear c15
                     try clear c15b0
                     try clear c15b1
                     try clear c16
                     try clear c16b0
                     try clear c16b1
                     try clear c17
                     try clear c18
                     try clear c18b0
                     try clear c18b1
                     try clear c19
                     try clear c19b0
                     try clear c19b1
                     try clear c21
                     try clear c21b0
                     try clear c21b1
                     try clear c22
                     try clear c24
                     try clear c24b0
                     try clear c24b1
                     try clear c25
                     try clear c26
                     try clear c26b0
                     try clear c26b1
                     try clear c27
                     try clear c27b0
                     try clear c27b1
                     try clear c28
                     try clear c28b0
                     try clear c28b1
                     try clear c29
                     try clear c29b0
                     try clear c29b1
                     try clear c30
                     try clear c30b0
                     try clear c30b1
                     try clear c32
                     try clear c32b0
                     try clear c32b1
                     try clear p2
                     obtain ⟨kq, x40_30, rfl, HA, HJ30, ⟨mc30, rfl⟩⟩ := hcut
                     cases kq with
                     | zero => exact absurd HA.out (by simp [espalierref30_form.j4])
                     | succ kj30 =>
                      have H := HA.out
                      clear HA
                      simp only [espalierref30_form.j4] at H
                      by_cases c33 : x40_30 = true
                      ·subst c33
                       have H1 : (some (⟨#[43]⟩ : ByteArray)) = some r := by rw [if_pos rfl] at H; exact H
                       clear H
                       have H := H1
                       clear H1
                       obtain rfl := Option.some.inj H
                       go_wp2
                       go_ret
                       exact ⟨by first | rfl | (simp; done) | (simp [*]; done), by repeat (first | exact Drawn0.refl _ | apply Drawn0.step)⟩
                      ·replace c33 := Bool.eq_false_iff.mpr c33
                       subst c33
                       have H1 : (if a0.toList = ([109, 111, 100, 101, 108] : List UInt8) then (some (⟨#[78, 86]⟩ : ByteArray)) else (if a0.toList = ([119, 97, 115] : List UInt8) then (espalierref30_form.j5 kj30 a0 (a0.toList == ([119, 97, 115] : List UInt8))) else (if a0.toList = ([102, 97, 114] : List UInt8) then (espalierref30_form.j5 kj30 a0 (a0.toList == ([102, 97, 114] : List UInt8))) else (espalierref30_form.j5 kj30 a0 (a0.toList == ([102, 114, 101, 101] : List UInt8)))))) = some r := by rw [if_neg (show ¬ (false = true) by decide)] at H; exact H
                       clear H
                       have H := H1
                       clear H1
                       by_cases c34 : a0.toList = ([109, 111, 100, 101, 108] : List UInt8)
                       ·rw [if_pos c34] at H
                        have c34b0 : (a0.toList == ([109, 111, 100, 101, 108] : List UInt8)) = true := beq_iff_eq.mpr c34
                        have c34b1 : (a0.toList != ([109, 111, 100, 101, 108] : List UInt8)) = false := bne_eq_false_iff_eq.mpr c34
                        clear c34
                        obtain rfl := Option.some.inj H
                        go_wp2
                        go_ret
                        exact ⟨by first | rfl | (simp; done) | (simp [*]; done), by repeat (first | exact Drawn0.refl _ | apply Drawn0.step)⟩
                       ·rw [if_neg c34] at H
                        have c34b0 : (a0.toList == ([109, 111, 100, 101, 108] : List UInt8)) = false := beq_eq_false_iff_ne.mpr c34
                        have c34b1 : (a0.toList != ([109, 111, 100, 101, 108] : List UInt8)) = true := bne_iff_ne.mpr c34
                        have HC35 := Aside0.mk H
                        clear H
                        go_upto_if 45 with (fail)
                        go_cut [45] (fun v45 wc => ∃ (kq : Nat) (x45_34 : Bool), v45 = .bool x45_34 ∧ Aside0 (espalierref30_form.j5 kq a0 x45_34 = some r) ∧ Aside0 (kq ≤ kj30) ∧ Drawn0 w wc)
                        case first =>
                         have H := HC35.out
                         clear HC35
                         by_cases c36 : a0.toList = ([119, 97, 115] : List UInt8)
                         ·rw [if_pos c36] at H
                          have c36b0 : (a0.toList == ([119, 97, 115] : List UInt8)) = true := beq_iff_eq.mpr c36
                          have c36b1 : (a0.toList != ([119, 97, 115] : List UInt8)) = false := bne_eq_false_iff_eq.mpr c36
                          clear c36
                          (first | rw [c36b0] | (simp only [i64_w, i32_w]; rw [c36b0]) | skip)
                          have H' := Aside0.mk H
                          clear H
                          go_wp2
                          go_meet
                          case rel => exact ⟨_, ((a0.toList == ([119, 97, 115] : List UInt8))), (by first | rfl | (simp; done) | (simp [*]; done)), H', ⟨by have := HJ1.out; have := HJ13.out; have := HJ19.out; have := HJ22.out; have := HJ30.out; first | omega | exact Nat.le_refl _⟩, by repeat (first | exact Drawn0.refl _ | apply Drawn0.step)⟩
                         ·rw [if_neg c36] at H
                          have c36b0 : (a0.toList == ([119, 97, 115] : List UInt8)) = false := beq_eq_false_iff_ne.mpr c36
                          have c36b1 : (a0.toList != ([119, 97, 115] : List UInt8)) = true := bne_iff_ne.mpr c36
                          (first | rw [c36b0] | (simp only [i64_w, i32_w]; rw [c36b0]) | skip)
                          by_cases c37 : a0.toList = ([102, 97, 114] : List UInt8)
                          ·rw [if_pos c37] at H
                           have c37b0 : (a0.toList == ([102, 97, 114] : List UInt8)) = true := beq_iff_eq.mpr c37
                           have c37b1 : (a0.toList != ([102, 97, 114] : List UInt8)) = false := bne_eq_false_iff_eq.mpr c37
                           clear c37
                           have H' := Aside0.mk H
                           clear H
                           go_wp2
                           go_meet
                           case rel => exact ⟨_, ((a0.toList == ([102, 97, 114] : List UInt8))), (by first | rfl | (simp; done) | (simp [*]; done)), H', ⟨by have := HJ1.out; have := HJ13.out; have := HJ19.out; have := HJ22.out; have := HJ30.out; first | omega | exact Nat.le_refl _⟩, by repeat (first | exact Drawn0.refl _ | apply Drawn0.step)⟩
                          ·rw [if_neg c37] at H
                           have c37b0 : (a0.toList == ([102, 97, 114] : List UInt8)) = false := beq_eq_false_iff_ne.mpr c37
                           have c37b1 : (a0.toList != ([102, 97, 114] : List UInt8)) = true := bne_iff_ne.mpr c37
                           have H' := Aside0.mk H
                           clear H
                           go_wp2
                           go_meet
                           case rel => exact ⟨_, ((a0.toList == ([102, 114, 101, 101] : List UInt8))), (by first | rfl | (simp; done) | (simp [*]; done)), H', ⟨by have := HJ1.out; have := HJ13.out; have := HJ19.out; have := HJ22.out; have := HJ30.out; first | omega | exact Nat.le_refl _⟩, by repeat (first | exact Drawn0.refl _ | apply Drawn0.step)⟩
                        case rest =>
                         clear HC35
                         try clear c1
                         try clear c2
                         try clear p2
                         try clear c3
                         try clear c3b0
                         try clear c3b1
                         try clear c4
                         try clear c4b0
                         try clear c4b1
                         try clear c5
                         try clear c5b0
                         try clear c5b1
                         try clear c6
                         try clear c6b0
                         try clear c6b1
                         try clear c7
                         try clear c7b0
                         try clear c7b1
                         try clear c8
                         try clear c8b0
                         try clear c8b1
                         try clear c9
                         try clear c9b0
                         try clear c9b1
                         try clear c10
                         try clear c10b0
                         try clear c10b1
                         try clear c11
                         try clear c11b0
                         try clear c11b1
                         try clear c12
                         try clear c12b0
                         try clear c12b1
                         try clear c13
                         try clear c15
                         try clear c15b0
                         try clear c15b1
                         try clear c16
                         try clear c16b0
                         try clear c16b1
                         try clear c17
                         try clear c18
                         try clear c18b0
                         try clear c18b1
                         try clear c19
                         try clear c19b0
                         try clear c19b1
                         try clear c21
                         try clear c21b0
                         try clear c21b1
                         try clear c22
                         try clear c24
                         try clear c24b0
                         try clear c24b1
                         try clear c25
                         try clear c26
                         try clear c26b0
                         try clear c26b1
                         try clear c27
                         try clear c27b0
                         try clear c27b1
                         try clear c28
                         try clear c28b0
                         try clear c28b1
                         try clear c29
                         try clear c29b0
                         try clear c29b1
                         try clear c30
                         try clear c30b0
                         try clear c30b1
                         try clear c32
                         try clear c32b0
                         try clear c32b1
                         try clear c33
                         try clear c34
                         try clear c34b0
                         try clear c34b1
                         try clear c36
                         try clear c36b0
                         try clear c36b1
                         try clear c37
                         try clear c37b0
                         try clear c37b1
                         try clear p2
                         obtain ⟨kq, x45_34, rfl, HA, HJ34, ⟨mc34, rfl⟩⟩ := hcut
                         cases kq with
                         | zero => exact absurd HA.out (by simp [espalierref30_form.j5])
                         | succ kj34 =>
                          have H := HA.out
                          clear HA
                          simp only [espalierref30_form.j5] at H
                          by_cases c38 : x45_34 = true
                          ·subst c38
                           have H1 : (some (⟨#[68]⟩ : ByteArray)) = some r := by rw [if_pos rfl] at H; exact H
                           clear H
                           have H := H1
                           clear H1
                           obtain rfl := Option.some.inj H
                           go_wp2
                           go_ret
                           exact ⟨by first | rfl | (simp; done) | (simp [*]; done), by repeat (first | exact Drawn0.refl _ | apply Drawn0.step)⟩
                          ·replace c38 := Bool.eq_false_iff.mpr c38
                           subst c38
                           have H1 : (if a0.toList = ([108, 111, 99, 107] : List UInt8) then (some (⟨#[68, 72, 77]⟩ : ByteArray)) else (some (⟨#[33]⟩ : ByteArray))) = some r := by rw [if_neg (show ¬ (false = true) by decide)] at H; exact H
                           clear H
                           have H := H1
                           clear H1
                           by_cases c39 : a0.toList = ([108, 111, 99, 107] : List UInt8)
                           ·rw [if_pos c39] at H
                            have c39b0 : (a0.toList == ([108, 111, 99, 107] : List UInt8)) = true := beq_iff_eq.mpr c39
                            have c39b1 : (a0.toList != ([108, 111, 99, 107] : List UInt8)) = false := bne_eq_false_iff_eq.mpr c39
                            clear c39
                            obtain rfl := Option.some.inj H
                            go_wp2
                            go_ret
                            exact ⟨by first | rfl | (simp; done) | (simp [*]; done), by repeat (first | exact Drawn0.refl _ | apply Drawn0.step)⟩
                           ·rw [if_neg c39] at H
                            have c39b0 : (a0.toList == ([108, 111, 99, 107] : List UInt8)) = false := beq_eq_false_iff_ne.mpr c39
                            have c39b1 : (a0.toList != ([108, 111, 99, 107] : List UInt8)) = true := bne_iff_ne.mpr c39
                            obtain rfl := Option.some.inj H
                            go_wp2
                            go_ret
                            exact ⟨by first | rfl | (simp; done) | (simp [*]; done), by repeat (first | exact Drawn0.refl _ | apply Drawn0.step)⟩

end Go.Proofs.YtggdffgoffmlpaaDoor.PA
