/- Texts of this claim, one behind the other: PA8, USame. Conditions: those of each theorem. -/
import Derived.Test.YtealmfcimoomlaaGreatDoorUBuild
import Derived.Test.YtealmfcimoomlaaGreatDoorUMarkLib
import Derived.Test.YtealmfcimoomlaaGreatDoorUWtree
-- Written by a program of this session (wip/tools/xprint.py: the kit's print, with given functions). Not trusted: Lean checks it.
-- squeezed
namespace Go.Proofs.YtealmfcimoomlaaGreatDoor.PA
open Go.RowKit Go.Proofs.YtealmfcimoomlaaGreatDoorW.PrintWords Go.Proofs.YtealmfcimoomlaaGreatDoorW.PrintLast Go.Proofs.YtealmfcimoomlaaGreatDoorW.PrintMore
attribute [local go_sem] max2_int min2_int max_two min_two max_three min_three max_four min_four   -- for this text's walks alone
set_option linter.unusedVariables false
set_option linter.unusedSimpArgs false

attribute [local go_sem high] eqA61
/-! ### api_Attr_51: function 51 -/
def api_Attr_51.l0 : Nat → List (S61) → List (S61) → Int → Int → Option (Bool)
 | 0, _, _, _, _ => none
 | k + 1, x0, x1, x12, x13 => if x13 < x12 then (if 0 ≤ x13 then (if x13 < (x0.length : Int) then (if x13 < (x1.length : Int) then (if (!((((rd_T61 x0 x13).f0).toList) == (((rd_T61 x1 x13).f0).toList)) || (!((((rd_T61 x0 x13).f1).toList) == (((rd_T61 x1 x13).f1).toList)))) = true then (some false) else (api_Attr_51.l0 k x0 x1 x12 (wrap64 (x13 + 1)))) else (none)) else (none)) else (none)) else (some true)
def api_Attr_51.f (k : Nat) (l0 : List (S61)) (l1 : List (S61)) : Option (Bool) := if (l0.length : Int) = (l1.length : Int) then (api_Attr_51.l0 k l0 l1 (l0.length : Int) 0) else (some false)
theorem api_Attr_51.mono_l : ∀ k, (∀ y0 y1 y2 y3, LeO (api_Attr_51.l0 k y0 y1 y2 y3) (api_Attr_51.l0 (k + 1) y0 y1 y2 y3))
 | 0 => fun _ _ _ _ r h => by simp [api_Attr_51.l0] at h
 | k + 1 => by
  have ih0 := api_Attr_51.mono_l k
  ·intro y0 y1 y2 y3
   unfold api_Attr_51.l0
   repeat' first
   | (with_reducible exact ih0 _ _ _ _)
   | (with_reducible exact LeO.refl _)
   | (with_reducible exact LeO.none _)
   | (with_reducible refine LeO.ite ?_ ?_)
   | (with_reducible refine LeO.bind ?_ (fun _ => ?_))
   | exact ih0 _ _ _ _
   | exact LeO.none _
   | refine LeO.ite ?_ ?_
   | refine LeO.bind ?_ (fun _ => ?_)
theorem api_Attr_51.mono : ∀ a0 a1 k, LeO (api_Attr_51.f k a0 a1) (api_Attr_51.f (k + 1) a0 a1) := by
 intro a0 a1 k
 have ih0 := api_Attr_51.mono_l k
 unfold api_Attr_51.f
 repeat' first
   | (with_reducible exact ih0 _ _ _ _)
   | (with_reducible exact LeO.refl _)
   | (with_reducible exact LeO.none _)
   | (with_reducible refine LeO.ite ?_ ?_)
   | (with_reducible refine LeO.bind ?_ (fun _ => ?_))
   | exact ih0 _ _ _ _
   | exact LeO.none _
   | refine LeO.ite ?_ ?_
   | refine LeO.bind ?_ (fun _ => ?_)
set_option maxHeartbeats 8000000 in
set_option maxRecDepth 100000 in
theorem api_Attr_51.calls (k : Nat) (A0 : Option Addr) (c0 : Nat) (l0 : List (S61)) (A1 : Option Addr) (c1 : Nat) (l1 : List (S61)) (r : Bool) (w : World) (hr0 : Kd.C k61 w A0 l0.length l0) (hc0 : l0.length ≤ c0) (hr1 : Kd.C k61 w A1 l1.length l1) (hc1 : l1.length ≤ c1) (h : api_Attr_51.f k l0 l1 = some r) :
  Calls Tryz.prog 51 #[.slice A0 l0.length c0, .slice A1 l1.length c1] w fun e w' => e = .returned (.bool r) ∧ Drawn0 w w' := by
 have hu61 := Tryz.underlying61
 have HR0 := Aside0.mk hr0
 have HC0 := Aside0.mk hc0
 clear hr0 hc0
 have HR1 := Aside0.mk hr1
 have HC1 := Aside0.mk hc1
 clear hr1 hc1
 have H : (if (l0.length : Int) = (l1.length : Int) then (api_Attr_51.l0 k l0 l1 (l0.length : Int) 0) else (some false)) = some r := h
 clear h
 by_cases c3 : (l0.length : Int) = (l1.length : Int)
 ·rw [if_pos c3] at H
  have c3b0 := beq_iff_eq.mpr c3
  have c3b1 := bne_eq_false_iff_eq.mpr c3
  have c3b2 : (l0.length == l1.length) = true := by first | simpa using c3 | (simp at c3 ⊢; omega)
  clear c3
  have H' := Aside0.mk H
  clear H
  go_enter Tryz.func51, Tryz.ntmps51
  go_wp2
  repeat (go_quiet (fail); try go_wp2)
  go_loopg [13] k (fun kq v13 w' => ∃ (x13_1 : Int), v13 = .int .i64 x13_1 ∧ Aside0 (api_Attr_51.l0 kq l0 l1 (l0.length : Int) x13_1 = some r) ∧ Aside0 (kq ≤ k) ∧ Drawn0 w w')
  case atStart => exact ⟨(0), (by first | rfl | (simp; done) | (simp [*]; done)), H', ⟨Nat.le_refl _⟩, by repeat (first | exact Drawn0.refl _ | apply Drawn0.step)⟩
  case round =>
   clear H'
   try clear c1
   try clear p2
   try clear c3
   try clear c3b0
   try clear c3b1
   try clear c3b2
   obtain ⟨x13_1, rfl, HA, HK1, ⟨m1, rfl⟩⟩ := hrel
   cases gk with
   | zero => exact absurd HA.out (by simp [api_Attr_51.l0])
   | succ k1 =>
    have H := HA.out
    clear HA
    simp only [api_Attr_51.l0] at H
    by_cases c4 : x13_1 < (l0.length : Int)
    ·rw [if_pos c4] at H
     have c4b0 : decide (x13_1 < (l0.length : Int)) = true := decide_eq_true c4
     clear c4
     by_cases c5 : 0 ≤ x13_1
     ·rw [if_pos c5] at H
      have c5b0 : decide (0 ≤ x13_1) = true := decide_eq_true c5
      clear c5
      by_cases c6 : x13_1 < (l0.length : Int)
      ·rw [if_pos c6] at H
       have c6b0 : decide (x13_1 < (l0.length : Int)) = true := decide_eq_true c6
       clear c6
       by_cases c7 : x13_1 < (l1.length : Int)
       ·rw [if_pos c7] at H
        have c7b0 : decide (x13_1 < (l1.length : Int)) = true := decide_eq_true c7
        clear c7
        by_cases c8 : (!((((rd_T61 l0 x13_1).f0).toList) == (((rd_T61 l1 x13_1).f0).toList)) || (!((((rd_T61 l0 x13_1).f1).toList) == (((rd_T61 l1 x13_1).f1).toList)))) = true
        ·rw [if_pos c8] at H
         have c8b0 : (!((((rd_T61 l0 x13_1).f0).toList) == (((rd_T61 l1 x13_1).f0).toList)) || (!((((rd_T61 l0 x13_1).f1).toList) == (((rd_T61 l1 x13_1).f1).toList)))) = true := c8
         clear c8
         obtain rfl := Option.some.inj H
         have p150 : 0 ≤ (x13_1 : Int) := of_decide_eq_true (by first | (with_reducible assumption) | assumption)
         have q150 : x13_1 < (l0.length : Int) := of_decide_eq_true (by first | (with_reducible assumption) | assumption)
         obtain ⟨ad150, e150, hx150_0, hx150_1⟩ := at_T61 HR0.out x13_1 p150 q150
         cases e150
         replace p150 := eq_true p150
         replace q150 := eq_true q150
         have p151 : 0 ≤ (x13_1 : Int) := of_decide_eq_true (by first | (with_reducible assumption) | assumption)
         have q151 : x13_1 < (l1.length : Int) := of_decide_eq_true (by first | (with_reducible assumption) | assumption)
         obtain ⟨ad151, e151, hx151_0, hx151_1⟩ := at_T61 HR1.out x13_1 p151 q151
         cases e151
         replace p151 := eq_true p151
         replace q151 := eq_true q151
         go_wp2
         repeat (go_quiet (fail); try go_wp2)
         go_ret
         exact ⟨by first | rfl | (simp; done) | (simp [*]; done), by repeat (first | exact Drawn0.refl _ | apply Drawn0.step)⟩
        ·rw [if_neg c8] at H
         have c8b0 : (!((((rd_T61 l0 x13_1).f0).toList) == (((rd_T61 l1 x13_1).f0).toList)) || (!((((rd_T61 l0 x13_1).f1).toList) == (((rd_T61 l1 x13_1).f1).toList)))) = false := by simpa using c8
         clear c8
         have H' := Aside0.mk H
         clear H
         have p150 : 0 ≤ (x13_1 : Int) := of_decide_eq_true (by first | (with_reducible assumption) | assumption)
         have q150 : x13_1 < (l0.length : Int) := of_decide_eq_true (by first | (with_reducible assumption) | assumption)
         obtain ⟨ad150, e150, hx150_0, hx150_1⟩ := at_T61 HR0.out x13_1 p150 q150
         cases e150
         replace p150 := eq_true p150
         replace q150 := eq_true q150
         have p151 : 0 ≤ (x13_1 : Int) := of_decide_eq_true (by first | (with_reducible assumption) | assumption)
         have q151 : x13_1 < (l1.length : Int) := of_decide_eq_true (by first | (with_reducible assumption) | assumption)
         obtain ⟨ad151, e151, hx151_0, hx151_1⟩ := at_T61 HR1.out x13_1 p151 q151
         cases e151
         replace p151 := eq_true p151
         replace q151 := eq_true q151
         go_wp2
         repeat (go_quiet (fail); try go_wp2)
         go_roundg k1
         case measure => have := HK1.out; omega
         case rel => exact ⟨(wrap64 (x13_1 + 1)), (by first | rfl | (simp; done) | (simp [*]; done)), H', ⟨by have := HK1.out; omega⟩, by repeat (first | exact Drawn0.refl _ | apply Drawn0.step)⟩
       ·rw [if_neg c7] at H
        exact absurd H (by simp)
      ·rw [if_neg c6] at H
       exact absurd H (by simp)
     ·rw [if_neg c5] at H
      exact absurd H (by simp)
    ·rw [if_neg c4] at H
     have c4b0 : decide (x13_1 < (l0.length : Int)) = false := decide_eq_false c4
     clear c4
     obtain rfl := Option.some.inj H
     go_wp2
     repeat (go_quiet (fail); try go_wp2)
     go_ret
     exact ⟨by first | rfl | (simp; done) | (simp [*]; done), by repeat (first | exact Drawn0.refl _ | apply Drawn0.step)⟩
 ·rw [if_neg c3] at H
  have c3b0 := beq_eq_false_iff_ne.mpr c3
  have c3b1 := bne_iff_ne.mpr c3
  have c3b2 : (l0.length == l1.length) = false := by first | simpa using c3 | (simp at c3 ⊢; omega)
  obtain rfl := Option.some.inj H
  go_enter Tryz.func51, Tryz.ntmps51
  go_wp2
  repeat (go_quiet (fail); try go_wp2)
  go_ret
  exact ⟨by first | rfl | (simp; done) | (simp [*]; done), by repeat (first | exact Drawn0.refl _ | apply Drawn0.step)⟩

-- NOT PRINTED: function 33 (markup_same)

-- NOT PRINTED: function 18 (markup_Same)

-- NOT PRINTED: function 19 (espalierlaw04_Copied)

-- NOT PRINTED: function 5 (espalierlaw04_MarkupOne)

-- GIVEN: function 34 (strings_Count)

-- GIVEN: function 35 (strings_LastIndexByte)

/-! ### markup_Where: function 20 -/
def markup_Where.j0 : Nat → ByteArray → Int → Bool → Option (Int × Int × Int)
 | 0, _, _, _ => none
 | k + 1, x0, x1, x15 => if x15 = true then (some (0, 0, 1)) else (if 0 ≤ x1 then (if x1 ≤ (x0.size : Int) then ((strings_Count.f (x0.extract 0 (x1 : Int).toNat) (⟨#[10]⟩ : ByteArray)).bind fun t155 => ((strings_LastIndexByte.f (x0.extract 0 (x1 : Int).toNat) 10).bind fun t156 => (some (wrap64 (t155 + 1), wrap64 (x1 - t156), 0)))) else (none)) else (none))
def markup_Where.f (k : Nat) (a0 : ByteArray) (a1 : Int) : Option (Int × Int × Int) := if a1 < 0 then (markup_Where.j0 k a0 a1 true) else (markup_Where.j0 k a0 a1 (decide (a1 > (a0.size : Int))))
theorem markup_Where.mono_l : ∀ k, (∀ y0 y1 y2, LeO (markup_Where.j0 k y0 y1 y2) (markup_Where.j0 (k + 1) y0 y1 y2))
 | 0 => fun _ _ _ r h => by simp [markup_Where.j0] at h
 | k + 1 => by
  have ih0 := markup_Where.mono_l k
  ·intro y0 y1 y2
   unfold markup_Where.j0
   repeat' first
   | (with_reducible exact ih0 _ _ _)
   | (with_reducible exact LeO.refl _)
   | (with_reducible exact LeO.none _)
   | (with_reducible refine LeO.ite ?_ ?_)
   | (with_reducible refine LeO.bind ?_ (fun _ => ?_))
   | exact ih0 _ _ _
   | exact LeO.none _
   | refine LeO.ite ?_ ?_
   | refine LeO.bind ?_ (fun _ => ?_)
theorem markup_Where.mono : ∀ a0 a1 k, LeO (markup_Where.f k a0 a1) (markup_Where.f (k + 1) a0 a1) := by
 intro a0 a1 k
 have ih0 := markup_Where.mono_l k
 unfold markup_Where.f
 repeat' first
   | (with_reducible exact ih0 _ _ _)
   | (with_reducible exact LeO.refl _)
   | (with_reducible exact LeO.none _)
   | (with_reducible refine LeO.ite ?_ ?_)
   | (with_reducible refine LeO.bind ?_ (fun _ => ?_))
   | exact ih0 _ _ _
   | exact LeO.none _
   | refine LeO.ite ?_ ?_
   | refine LeO.bind ?_ (fun _ => ?_)
set_option maxHeartbeats 8000000 in
set_option maxRecDepth 100000 in
theorem markup_Where.calls (k : Nat) (a0 : ByteArray) (a1 : Int) (r1 : Int) (r2 : Int) (r3 : Int) (w : World) (h : markup_Where.f k a0 a1 = some (r1, r2, r3)) :
  Calls Tryz.prog 20 #[.string a0, .int .i64 a1] w fun e w' => e = .returned (.tuple #[.int .i64 r1, .int .i64 r2, .int .i64 r3]) ∧ Below w.heap.size w w' := by
 have HB := Aside0.mk (Below.refl w.heap.size w)
 have H : (if a1 < 0 then (markup_Where.j0 k a0 a1 true) else (markup_Where.j0 k a0 a1 (decide (a1 > (a0.size : Int))))) = some (r1, r2, r3) := h
 clear h
 have HC3 := Aside0.mk H
 clear H
 go_enter Tryz.func20, Tryz.ntmps20
 go_upto_region 1 with (fail)
 go_cut [15] (fun v15 wc => ∃ (kq : Nat) (x15_2 : Bool), v15 = .bool x15_2 ∧ Aside0 (markup_Where.j0 kq a0 a1 x15_2 = some (r1, r2, r3)) ∧ Aside0 (kq ≤ k) ∧ Aside0 (Below w.heap.size w wc))
 case first =>
  have H := HC3.out
  clear HC3
  by_cases c4 : a1 < 0
  ·rw [if_pos c4] at H
   have c4b0 : decide (a1 < 0) = true := decide_eq_true c4
   clear c4
   (first | rw [c4b0] | (simp only [i64_w, i32_w]; rw [c4b0]) | skip)
   have H' := Aside0.mk H
   clear H
   go_wp2
   go_meet
   case rel => exact ⟨_, (true), (by first | rfl | (simp; done) | (simp [*]; done)), H', ⟨by first | omega | exact Nat.le_refl _⟩, ⟨hb_⟩⟩
  ·rw [if_neg c4] at H
   have c4b0 : decide (a1 < 0) = false := decide_eq_false c4
   clear c4
   (first | rw [c4b0] | (simp only [i64_w, i32_w]; rw [c4b0]) | skip)
   have H' := Aside0.mk H
   clear H
   go_wp2
   go_meet
   case rel => exact ⟨_, (decide (a1 > (a0.size : Int))), (by first | rfl | (simp; done) | (simp [*]; done)), H', ⟨by first | omega | exact Nat.le_refl _⟩, ⟨hb_⟩⟩
 case rest =>
  clear HC3
  try clear c2
  try clear p2
  try clear c4
  try clear c4b0
  obtain ⟨kq, x15_2, rfl, HA, HJ2, HB⟩ := hcut
  cases kq with
  | zero => exact absurd HA.out (by simp [markup_Where.j0])
  | succ kj2 =>
   have H := HA.out
   clear HA
   simp only [markup_Where.j0] at H
   by_cases c5 : x15_2 = true
   ·subst c5
    rw [if_pos rfl] at H
    simp only [Option.some.injEq, Prod.mk.injEq] at H
    obtain ⟨rfl, rfl, rfl⟩ := H
    go_wp2
    go_ret3
    exact ⟨er_, hb_⟩
   ·replace c5 := Bool.eq_false_iff.mpr c5
    subst c5
    rw [if_neg (show ¬ (false = true) by decide)] at H
    by_cases c6 : 0 ≤ a1
    ·rw [if_pos c6] at H
     have c6b0 := eq_true c6
     have c6b1 : decide (0 ≤ a1) = true := decide_eq_true c6
     clear c6
     by_cases c7 : a1 ≤ (a0.size : Int)
     ·rw [if_pos c7] at H
      have c7b0 := eq_true c7
      have c7b1 : decide (a1 ≤ (a0.size : Int)) = true := decide_eq_true c7
      clear c7
      replace H := Option.bind_eq_some_iff.mp H
      obtain ⟨t155, A80, H⟩ := H
      replace H : ((strings_LastIndexByte.f (a0.extract 0 (a1 : Int).toNat) 10).bind fun t156 => (some (wrap64 (t155 + 1), wrap64 (a1 - t156), 0))) = some (r1, r2, r3) := H
      have A8 := Aside0.mk A80
      clear A80
      replace H := Option.bind_eq_some_iff.mp H
      obtain ⟨t156, A90, H⟩ := H
      replace H : (some (wrap64 (t155 + 1), wrap64 (a1 - t156), 0)) = some (r1, r2, r3) := H
      have A9 := Aside0.mk A90
      clear A90
      simp only [Option.some.injEq, Prod.mk.injEq] at H
      obtain ⟨rfl, rfl, rfl⟩ := H
      go_wp2_with (first | ((with_reducible refine gate_callee (f := 34) rfl ?_); refine goesL_ (some 20) rfl rfl Tryz.func34 (by kernel_rfl) rfl #[.string (a0.extract 0 (a1 : Int).toNat), .string (⟨#[10]⟩ : ByteArray)] rfl rf_ ?_; (with_reducible refine (strings_Count.calls (a0.extract 0 (a1 : Int).toNat) (⟨#[10]⟩ : ByteArray) t155 _ A8.out).mono ?_); rintro e w10 ⟨rfl, hb⟩; refine ⟨_, rfl, ?_⟩; replace HB := Aside0.mk (below_step hb_ hb); (try clear hb); (try clear hb2); (try clear hk); (try clear hi)) | ((with_reducible refine gate_callee (f := 35) rfl ?_); refine goesL_ (some 24) rfl rfl Tryz.func35 (by kernel_rfl) rfl #[.string (a0.extract 0 (a1 : Int).toNat), .int .u8 10] rfl rf_ ?_; (with_reducible refine (strings_LastIndexByte.calls (a0.extract 0 (a1 : Int).toNat) 10 t156 _ A9.out).mono ?_); rintro e w11 ⟨rfl, hb⟩; refine ⟨_, rfl, ?_⟩; replace HB := Aside0.mk (below_step hb_ hb); (try clear hb); (try clear hb2); (try clear hk); (try clear hi)))
      go_ret3
      exact ⟨er_, hb_⟩
     ·rw [if_neg c7] at H
      exact absurd H (by simp)
    ·rw [if_neg c6] at H
     exact absurd H (by simp)

-- NOT PRINTED: function 6 (espalierlaw04_MarkupWhere)

end Go.Proofs.YtealmfcimoomlaaGreatDoor.PA

/- markup.Same: slices.EqualFunc and same, each by the other. -/
namespace Go.Proofs.YtealmfcimoomlaaGreatDoor.PA
open Go.RowKit Go.Proofs.YtealmfcimoomlaaGreatDoorW.PrintWords Go.Proofs.YtealmfcimoomlaaGreatDoorW.PrintLast Go.Proofs.YtealmfcimoomlaaGreatDoorW.PrintMore
set_option linter.unusedVariables false
set_option linter.unusedSimpArgs false
mutual
def sameT (k : Nat) : S35 → S35 → Option Bool
  | ⟨a0, a1, a2, a3, a4⟩, b =>
    if (a0 != b.f0) = true then some false
    else if (a0 == 1) = true then (if (a1.toList == b.f1.toList) = true then (api_Attr_51.f k a2 b.f2).bind fun e => if e = true then (if a4.length = b.f4.length then sameL k a4 b.f4 else some false) else some false else some false)
    else if (a0 == 2) = true then some (a3.toList == b.f3.toList) else some true
def sameL (k : Nat) : List S35 → List S35 → Option Bool
  | [], _ => some true
  | _ :: _, [] => some true
  | a :: l, b :: m => (sameT k a b).bind fun e => if e = true then sameL k l m else some false
end
def sameK (k : Nat) (l m : List S35) : Option Bool := if l.length = m.length then sameL k l m else some false
theorem api_Attr_51.mono' (k : Nat) (a b : List S61) : LeO (api_Attr_51.f k a b) (api_Attr_51.f (k + 1) a b) := api_Attr_51.mono _ _ _
mutual
theorem sameT_mono (k : Nat) : ∀ (a b : S35), LeO (sameT k a b) (sameT (k + 1) a b)
  | ⟨a0, a1, a2, a3, a4⟩, b => by
    rw [sameT, sameT]
    exact LeO.ite (LeO.refl _) (LeO.ite (LeO.ite (LeO.bind (api_Attr_51.mono' k _ _) fun e => LeO.ite (LeO.ite (sameL_mono k a4 b.f4) (LeO.refl _)) (LeO.refl _)) (LeO.refl _)) (LeO.refl _))
theorem sameL_mono (k : Nat) : ∀ (l m : List S35), LeO (sameL k l m) (sameL (k + 1) l m)
  | [], m => by rw [sameL, sameL]; exact LeO.refl _
  | a :: l, [] => by rw [sameL, sameL]; exact LeO.refl _
  | a :: l, b :: m => by
    rw [sameL, sameL]
    exact LeO.bind (sameT_mono k a b) fun e => LeO.ite (sameL_mono k l m) (LeO.refl _)
end
def EqP (k : Nat) (w0 : World) (n : Nat) : Prop := ∀ (l m : List S35), SizeOf.sizeOf l ≤ n → ∀ (A : Option Addr) (c : Nat) (B : Option Addr) (d : Nat) (r : Bool) (w : World), Kd.C k35 w0 A l.length l → l.length ≤ c → Kd.C k35 w0 B m.length m → m.length ≤ d → Below w0.heap.size w0 w → sameK k l m = some r →
    Calls Tryz.prog 32 #[.slice A l.length c, .slice B m.length d, .func (.func 33) #[] #[]] w fun e w' => e = .returned (.bool r) ∧ Below w.heap.size w w'
/-- Two trees as variables, one behind the other. -/
theorem two_boxes (w : World) (cs ds : Array Value) (T : TypeId) : Below w.heap.size w ((w.alloc (.cells cs T)).alloc (.cells ds T)) ∧ ((w.alloc (.cells cs T)).alloc (.cells ds T)).heap[w.heap.size]? = some (.cells cs T (0, 0)) ∧ ((w.alloc (.cells cs T)).alloc (.cells ds T)).heap[w.heap.size + 1]? = some (.cells ds T (0, 0)) := by
  have h1 := heap_alloc_new w (.cells cs T)
  have hs1 : (w.alloc (.cells cs T)).heap.size = w.heap.size + 1 := Array.size_push ..
  have h2 := heap_alloc_new (w.alloc (.cells cs T)) (.cells ds T)
  rw [hs1] at h2
  have hb := (Below.refl w.heap.size w).alloc (Nat.le_refl _) (.cells cs T)
  exact ⟨hb.alloc hb.size _, (Lib.alloc_old _ (.cells ds T) w.heap.size (blk_lt h1)).trans h1, h2⟩
set_option maxHeartbeats 8000000 in
set_option maxRecDepth 100000 in
theorem same_step (k : Nat) (w0 : World) (n : Nat) (ih : EqP k w0 n) (x y : S35) (hn : SizeOf.sizeOf x.f4 ≤ n) (A2 A4 B2 B4 : Option Addr) (c2 c4 d2 d4 : Nat) (r : Bool) (w : World)
    (hA2 : Kd.C k61 w0 A2 x.f2.length x.f2) (hc2 : x.f2.length ≤ c2) (hA4 : Kd.C k35 w0 A4 x.f4.length x.f4) (hc4 : x.f4.length ≤ c4) (hB2 : Kd.C k61 w0 B2 y.f2.length y.f2) (hd2 : y.f2.length ≤ d2) (hB4 : Kd.C k35 w0 B4 y.f4.length y.f4) (hd4 : y.f4.length ≤ d4) (hB : Below w0.heap.size w0 w) (hf : sameT k x y = some r) :
    Calls Tryz.prog 33 #[.agg #[.int .i64 x.f0, .string x.f1, .slice A2 x.f2.length c2, .string x.f3, .slice A4 x.f4.length c4], .agg #[.int .i64 y.f0, .string y.f1, .slice B2 y.f2.length d2, .string y.f3, .slice B4 y.f4.length d4]] w fun e w' => e = .returned (.bool r) ∧ Below w.heap.size w w' := by
  obtain ⟨hb, g1, g2⟩ := two_boxes w #[.int .i64 x.f0, .string x.f1, .slice A2 x.f2.length c2, .string x.f3, .slice A4 x.f4.length c4] #[.int .i64 y.f0, .string y.f1, .slice B2 y.f2.length d2, .string y.f3, .slice B4 y.f4.length d4] 35
  have q0 := (blk_cell g1 0).trans rfl
  have q1 := (blk_cell g1 1).trans rfl
  have q2 := (blk_cell g1 2).trans rfl
  have q3 := (blk_cell g1 3).trans rfl
  have q4 := (blk_cell g1 4).trans rfl
  have p0 := (blk_cell g2 0).trans rfl
  have p1 := (blk_cell g2 1).trans rfl
  have p2 := (blk_cell g2 2).trans rfl
  have p3 := (blk_cell g2 3).trans rfl
  have p4 := (blk_cell g2 4).trans rfl
  have HB := Aside0.mk hb
  have H0 := Aside0.mk hB
  have H1 := Aside0.mk (hB.trans (hb.mono hB.size))
  have IH := Aside0.mk ih
  have hf' : sameT k ⟨x.f0, x.f1, x.f2, x.f3, x.f4⟩ y = some r := by rw [tree_one]; exact hf
  clear hf hb hB g1 g2 ih
  rw [sameT] at hf'
  cases h0 : (x.f0 != y.f0) with
  | true =>
    rw [h0, if_pos rfl] at hf'
    obtain rfl := Option.some.inj hf'
    go_enter Tryz.func33, Tryz.ntmps33
    go_wp2
    go_ret
    exact ⟨rfl, HB.out⟩
  | false =>
    rw [h0, if_neg (by decide)] at hf'
    cases h1 : (x.f0 == 1) with
    | true =>
      rw [h1, if_pos rfl] at hf'
      cases h2 : (x.f1.toList == y.f1.toList) with
      | false =>
        rw [h2, if_neg (by decide)] at hf'
        obtain rfl := Option.some.inj hf'
        go_enter Tryz.func33, Tryz.ntmps33
        go_wp2
        go_ret
        exact ⟨rfl, HB.out⟩
      | true =>
        rw [h2, if_pos rfl] at hf'
        obtain ⟨e1, he1, hf2⟩ := Option.bind_eq_some_iff.mp hf'
        have HA := Aside0.mk (api_Attr_51.calls k A2 c2 x.f2 B2 d2 y.f2 e1 ((w.alloc (.cells #[.int .i64 x.f0, .string x.f1, .slice A2 x.f2.length c2, .string x.f3, .slice A4 x.f4.length c4] 35)).alloc (.cells #[.int .i64 y.f0, .string y.f1, .slice B2 y.f2.length d2, .string y.f3, .slice B4 y.f4.length d4] 35)) (Kd.C_below hA2 H1.out) hc2 (Kd.C_below hB2 H1.out) hd2 he1)
        clear hf' he1
        cases e1 with
        | false =>
          rw [if_neg (by decide)] at hf2
          obtain rfl := Option.some.inj hf2
          go_enter Tryz.func33, Tryz.ntmps33
          go_wp2_with (go_at_call 51; refine HA.out.mono ?_; rintro e w2 ⟨rfl, hB2⟩)
          go_ret
          exact ⟨rfl, HB.out.trans (hB2.below.mono HB.out.size)⟩
        | true =>
          rw [if_pos rfl] at hf2
          have HF := Aside0.mk hf2
          clear hf2
          have HA2 := Aside0.mk hA2
          have HA4 := Aside0.mk hA4
          have HB4 := Aside0.mk hB4
          have HC4 := Aside0.mk hc4
          have HD4 := Aside0.mk hd4
          have HN := Aside0.mk hn
          clear hA2 hA4 hB4 hB2 hc4 hd4 hn hc2 hd2
          go_enter Tryz.func33, Tryz.ntmps33
          go_wp2_with (first
            | (go_at_call 51; refine HA.out.mono ?_; rintro e w2 ⟨rfl, hB2⟩; have hB2' := hB2.below; have HB3 := Aside0.mk (HB.out.trans (hB2'.mono HB.out.size)); have q4 := pw_cell_below hB2' q4; have p4 := pw_cell_below hB2' p4; have HI := Aside0.mk (IH.out x.f4 y.f4 HN.out A4 c4 B4 d4 r w2 HA4.out HC4.out HB4.out HD4.out (H1.out.trans (hB2'.mono H1.out.size)) HF.out); clear hB2 hB2' HA)
            | (go_at_call 32; refine HI.out.mono ?_; rintro e w3 ⟨rfl, hB4⟩))
          go_ret
          exact ⟨rfl, HB3.out.trans (hB4.mono HB3.out.size)⟩
    | false =>
      rw [h1, if_neg (by decide)] at hf'
      cases h2 : (x.f0 == 2) with
      | true =>
        rw [h2, if_pos rfl] at hf'
        obtain rfl := Option.some.inj hf'
        go_enter Tryz.func33, Tryz.ntmps33
        go_wp2
        go_ret
        exact ⟨rfl, HB.out⟩
      | false =>
        rw [h2, if_neg (by decide)] at hf'
        obtain rfl := Option.some.inj hf'
        go_enter Tryz.func33, Tryz.ntmps33
        go_wp2
        go_ret
        exact ⟨rfl, HB.out⟩
set_option maxHeartbeats 8000000 in
set_option maxRecDepth 100000 in
theorem equal_calls (k : Nat) (w0 : World) : ∀ n, EqP k w0 n := by
  intro n
  induction n with
  | zero => intro l m h; cases l <;> simp at h
  | succ n ih =>
    intro l m hn A c B d r w hA hc hB hd hW hf
    have HA := Aside0.mk hA
    have HB := Aside0.mk hB
    have HN := Aside0.mk hn
    have HW := Aside0.mk hW
    have HC := Aside0.mk hc
    have HD := Aside0.mk hd
    have IH := Aside0.mk ih
    have hbl : l.length ≤ 9223372036854775807 := hA.2.1
    have hbm : m.length ≤ 9223372036854775807 := hB.2.1
    unfold sameK at hf
    clear hA hB hn hW ih hc hd
    by_cases hlm : l.length = m.length
    case neg =>
      rw [if_neg hlm] at hf
      obtain rfl := Option.some.inj hf
      have hx : ((l.length : Int) != (m.length : Int)) = true := bne_iff_ne.mpr (by omega)
      clear hlm hf
      go_enter Tryz.func32, Tryz.ntmps32
      go_wp2
      go_ret
      exact ⟨rfl, Below.refl _ _⟩
    rw [if_pos hlm] at hf
    have hx : ((l.length : Int) != (m.length : Int)) = false := bne_eq_false_iff_eq.mpr (by omega)
    have HF := Aside0.mk hf
    have HL := Aside0.mk hlm
    clear hlm hf
    go_enter Tryz.func32, Tryz.ntmps32
    go_wp2
    go_loopw [17] (fun v wr => ∃ i : Nat, i ≤ l.length ∧ v = .int .i64 i ∧ Aside0 (sameL k (l.drop i) (m.drop i) = some r ∧ Below w.heap.size w wr)) (fun v _ => l.length - (intOf v).toNat)
    case atStart => exact ⟨0, Nat.zero_le _, rfl, ⟨⟨HF.out, Below.refl _ _⟩⟩⟩
    case round =>
      obtain ⟨i, hi, rfl, ⟨hbd, T6⟩⟩ := hrel
      by_cases hlt : i < l.length
      · have hltz : (i : Int) < (l.length : Int) := by omega
        have hltm : i < m.length := by have := HL.out; omega
        have hltmz : (i : Int) < (m.length : Int) := by omega
        have hmem : rd_T35 l (i : Int) ∈ l := rd36_mem _ _ hlt
        rw [drop36 _ _ hlt, drop36 _ _ hltm, sameL] at hbd
        have T7 := HW.out.trans (T6.mono HW.out.size)
        obtain ⟨ad, A2, c2, A4, c4, rfl, y0, y1, y2, y3, y4, g2, g3, g4, g5⟩ := at_T35 HA.out (i : Int) (by omega) hltz
        obtain ⟨ae, B2, d2, B4, d4, rfl, x0, x1, x2, x3, x4, f2, f3, f4, f5⟩ := at_T35 HB.out (i : Int) (by omega) hltmz
        have y0 := pw_cell_below T7 y0
        have y1 := pw_cell_below T7 y1
        have y2 := pw_cell_below T7 y2
        have y3 := pw_cell_below T7 y3
        have y4 := pw_cell_below T7 y4
        have x0 := pw_cell_below ((Below.refl _ _).alloc (Nat.le_refl _) (.cells #[.int .i64 (rd_T35 l (i : Int)).f0, .string (rd_T35 l (i : Int)).f1, .slice A2 (rd_T35 l (i : Int)).f2.length c2, .string (rd_T35 l (i : Int)).f3, .slice A4 (rd_T35 l (i : Int)).f4.length c4] 35)) (pw_cell_below T7 x0)
        have x1 := pw_cell_below ((Below.refl _ _).alloc (Nat.le_refl _) (.cells #[.int .i64 (rd_T35 l (i : Int)).f0, .string (rd_T35 l (i : Int)).f1, .slice A2 (rd_T35 l (i : Int)).f2.length c2, .string (rd_T35 l (i : Int)).f3, .slice A4 (rd_T35 l (i : Int)).f4.length c4] 35)) (pw_cell_below T7 x1)
        have x2 := pw_cell_below ((Below.refl _ _).alloc (Nat.le_refl _) (.cells #[.int .i64 (rd_T35 l (i : Int)).f0, .string (rd_T35 l (i : Int)).f1, .slice A2 (rd_T35 l (i : Int)).f2.length c2, .string (rd_T35 l (i : Int)).f3, .slice A4 (rd_T35 l (i : Int)).f4.length c4] 35)) (pw_cell_below T7 x2)
        have x3 := pw_cell_below ((Below.refl _ _).alloc (Nat.le_refl _) (.cells #[.int .i64 (rd_T35 l (i : Int)).f0, .string (rd_T35 l (i : Int)).f1, .slice A2 (rd_T35 l (i : Int)).f2.length c2, .string (rd_T35 l (i : Int)).f3, .slice A4 (rd_T35 l (i : Int)).f4.length c4] 35)) (pw_cell_below T7 x3)
        have x4 := pw_cell_below ((Below.refl _ _).alloc (Nat.le_refl _) (.cells #[.int .i64 (rd_T35 l (i : Int)).f0, .string (rd_T35 l (i : Int)).f1, .slice A2 (rd_T35 l (i : Int)).f2.length c2, .string (rd_T35 l (i : Int)).f3, .slice A4 (rd_T35 l (i : Int)).f4.length c4] 35)) (pw_cell_below T7 x4)
        rw [Int.toNat_natCast] at y0 y1 y2 y3 y4 x0 x1 x2 x3 x4
        have hsz : SizeOf.sizeOf (rd_T35 l (i : Int)).f4 ≤ n := by
          have h1 := List.sizeOf_lt_of_mem hmem
          have h2 := HN.out
          have h3 := size_kids (rd_T35 l (i : Int))
          omega
        generalize rd_T35 l (i : Int) = a at hbd y0 y1 y2 y3 y4 x0 x1 x2 x3 x4 g2 g3 g4 g5 hsz
        generalize rd_T35 m (i : Int) = b at hbd x0 x1 x2 x3 x4 f2 f3 f4 f5
        obtain ⟨e1, he1, hbd2⟩ := Option.bind_eq_some_iff.mp hbd
        obtain ⟨hb, u1, u2⟩ := two_boxes wr #[.int .i64 a.f0, .string a.f1, .slice A2 a.f2.length c2, .string a.f3, .slice A4 a.f4.length c4] #[.int .i64 b.f0, .string b.f1, .slice B2 b.f2.length d2, .string b.f3, .slice B4 b.f4.length d4] 35
        have q0 := (blk_cell u1 0).trans rfl
        have q1 := (blk_cell u1 1).trans rfl
        have q2 := (blk_cell u1 2).trans rfl
        have q3 := (blk_cell u1 3).trans rfl
        have q4 := (blk_cell u1 4).trans rfl
        have p0 := (blk_cell u2 0).trans rfl
        have p1 := (blk_cell u2 1).trans rfl
        have p2 := (blk_cell u2 2).trans rfl
        have p3 := (blk_cell u2 3).trans rfl
        have p4 := (blk_cell u2 4).trans rfl
        have HS := Aside0.mk (same_step k w0 n IH.out a b hsz A2 A4 B2 B4 c2 c4 d2 d4 e1 _ g3 g2 g5 g4 f3 f2 f5 f4 (T7.trans (hb.mono T7.size)) he1)
        have HB1 := Aside0.mk (T6.trans (hb.mono T6.size))
        have HF2 := Aside0.mk hbd2
        clear hbd he1 hbd2 hmem hsz g2 g3 g4 g5 f2 f3 f4 f5 hb u1 u2 T6 T7
        cases e1 with
        | true =>
          go_wp2_with ((first | go_at_call 33 | go_at_fn 33); refine HS.out.mono ?_; rintro e w5 ⟨rfl, hB5⟩; have HB2 := Aside0.mk (HB1.out.trans (hB5.mono HB1.out.size)); clear hB5 q0 q1 q2 q3 q4 p0 p1 p2 p3 p4)
          go_roundw
          case rel => exact ⟨i + 1, by omega, by go_num, ⟨⟨HF2.out, HB2.out⟩⟩⟩
          case measure => simp [intOf]; omega
        | false =>
          have h9 := HF2.out
          rw [if_neg (by decide)] at h9
          obtain rfl := Option.some.inj h9
          clear h9
          go_wp2_with ((first | go_at_call 33 | go_at_fn 33); refine HS.out.mono ?_; rintro e w5 ⟨rfl, hB5⟩; have HB2 := Aside0.mk (HB1.out.trans (hB5.mono HB1.out.size)); clear hB5 q0 q1 q2 q3 q4 p0 p1 p2 p3 p4)
          go_ret
          exact ⟨rfl, HB2.out⟩
      · rw [List.drop_of_length_le (by omega), sameL] at hbd
        obtain rfl := Option.some.inj hbd
        have T7 := Aside0.mk T6
        clear T6 hbd
        go_wp2
        go_ret
        exact ⟨rfl, T7.out⟩
def markup_Same.f (k : Nat) (l m : List S35) : Option Bool := sameK k l m
theorem markup_Same.mono : ∀ a0 a1 k, LeO (markup_Same.f k a0 a1) (markup_Same.f (k + 1) a0 a1) := fun a0 a1 k => LeO.ite (sameL_mono k _ _) (LeO.refl _)
set_option maxHeartbeats 4000000 in
set_option maxRecDepth 100000 in
theorem markup_Same.calls (k : Nat) (A0 : Option Addr) (c0 : Nat) (l0 : List (S35)) (A1 : Option Addr) (c1 : Nat) (l1 : List (S35)) (r : Bool) (w : World) (hr0 : Kd.C k35 w A0 l0.length l0) (hc0 : l0.length ≤ c0) (hr1 : Kd.C k35 w A1 l1.length l1) (hc1 : l1.length ≤ c1) (h : markup_Same.f k l0 l1 = some r) :
    Calls Tryz.prog 18 #[.slice A0 l0.length c0, .slice A1 l1.length c1] w fun e w' => e = .returned (.bool r) ∧ Below w.heap.size w w' := by
  have HE := Aside0.mk (equal_calls k w _ l0 l1 (Nat.le_refl _) A0 c0 A1 c1 r w hr0 hc0 hr1 hc1 (Below.refl _ _) h)
  clear h hr0 hr1
  go_enter Tryz.func18, Tryz.ntmps18
  go_wp2_with (go_at_call 32; refine HE.out.mono ?_; rintro e w5 ⟨rfl, hB5⟩)
  go_ret
  exact ⟨rfl, hB5⟩
end Go.Proofs.YtealmfcimoomlaaGreatDoor.PA
