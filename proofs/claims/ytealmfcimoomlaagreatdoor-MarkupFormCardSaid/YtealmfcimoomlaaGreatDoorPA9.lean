-- Written by a program of this session (wip/tools/xprint.py: the kit's print, with given functions). Not trusted: Lean checks it.
-- squeezed
import Derived.Test.YtealmfcimoomlaaGreatDoorUBuild
namespace Go.Proofs.YtealmfcimoomlaaGreatDoor.PA
open Go.RowKit Go.Proofs.YtealmfcimoomlaaGreatDoorW.PrintWords Go.Proofs.YtealmfcimoomlaaGreatDoorW.PrintLast Go.Proofs.YtealmfcimoomlaaGreatDoorW.PrintMore
attribute [local go_sem] max2_int min2_int max_two min_two max_three min_three max_four min_four   -- for this text's walks alone
set_option linter.unusedVariables false
set_option linter.unusedSimpArgs false

/-! ### espalierlaw04_normal: function 14 -/
mutual
def espalierlaw04_normal.l0 : Nat → List (S35) → Int → Option (Bool)
 | 0, _, _ => none
 | k + 1, x0, x3 => if x3 < (x0.length : Int) then (if 0 ≤ x3 then (if ((rd_T35 x0 x3).f0) = 2 then (if ((rd_T35 x0 x3).f3).toList = ([] : List UInt8) then (espalierlaw04_normal.j1 k x0 x3 true) else (if x3 > 0 then (if 0 ≤ (wrap64 (x3 - 1)) then (if (wrap64 (x3 - 1)) < (x0.length : Int) then (espalierlaw04_normal.j1 k x0 x3 (((rd_T35 x0 (wrap64 (x3 - 1))).f0) == 2)) else (none)) else (none)) else (espalierlaw04_normal.j1 k x0 x3 false))) else (espalierlaw04_normal.j1 k x0 x3 false)) else (none)) else (some true)
def espalierlaw04_normal.j1 : Nat → List (S35) → Int → Bool → Option (Bool)
 | 0, _, _, _ => none
 | k + 1, x0, x3, x36 => if x36 = true then (some false) else (if 0 ≤ x3 then (if x3 < (x0.length : Int) then (if ((rd_T35 x0 x3).f0) = 1 then ((espalierlaw04_normal.f k ((rd_T35 x0 x3).f4)).bind fun t162 => (if t162 = true then (espalierlaw04_normal.l0 k x0 (wrap64 (x3 + 1))) else (some false))) else (espalierlaw04_normal.l0 k x0 (wrap64 (x3 + 1)))) else (none)) else (none))
def espalierlaw04_normal.f : Nat → List (S35) → Option (Bool)
 | 0, _ => none
 | k + 1, l0 => espalierlaw04_normal.l0 k l0 0
end
theorem espalierlaw04_normal.mono_l : ∀ k, (∀ y0, LeO (espalierlaw04_normal.f k y0) (espalierlaw04_normal.f (k + 1) y0)) ∧ (∀ y0 y1, LeO (espalierlaw04_normal.l0 k y0 y1) (espalierlaw04_normal.l0 (k + 1) y0 y1)) ∧ (∀ y0 y1 y2, LeO (espalierlaw04_normal.j1 k y0 y1 y2) (espalierlaw04_normal.j1 (k + 1) y0 y1 y2))
 | 0 => ⟨fun _ r h => by simp [espalierlaw04_normal.f] at h, fun _ _ r h => by simp [espalierlaw04_normal.l0] at h, fun _ _ _ r h => by simp [espalierlaw04_normal.j1] at h⟩
 | k + 1 => by
  obtain ⟨ih0, ih1, ih2⟩ := espalierlaw04_normal.mono_l k
  refine ⟨?_, ?_, ?_⟩
  ·intro y0
   unfold espalierlaw04_normal.f
   repeat' first
   | (with_reducible exact ih0 _)
   | (with_reducible exact ih1 _ _)
   | (with_reducible exact ih2 _ _ _)
   | (with_reducible exact LeO.refl _)
   | (with_reducible exact LeO.none _)
   | (with_reducible refine LeO.ite ?_ ?_)
   | (with_reducible refine LeO.bind ?_ (fun _ => ?_))
   | exact ih0 _
   | exact ih1 _ _
   | exact ih2 _ _ _
   | exact LeO.none _
   | refine LeO.ite ?_ ?_
   | refine LeO.bind ?_ (fun _ => ?_)
  ·intro y0 y1
   unfold espalierlaw04_normal.l0
   repeat' first
   | (with_reducible exact ih0 _)
   | (with_reducible exact ih1 _ _)
   | (with_reducible exact ih2 _ _ _)
   | (with_reducible exact LeO.refl _)
   | (with_reducible exact LeO.none _)
   | (with_reducible refine LeO.ite ?_ ?_)
   | (with_reducible refine LeO.bind ?_ (fun _ => ?_))
   | exact ih0 _
   | exact ih1 _ _
   | exact ih2 _ _ _
   | exact LeO.none _
   | refine LeO.ite ?_ ?_
   | refine LeO.bind ?_ (fun _ => ?_)
  ·intro y0 y1 y2
   unfold espalierlaw04_normal.j1
   repeat' first
   | (with_reducible exact ih0 _)
   | (with_reducible exact ih1 _ _)
   | (with_reducible exact ih2 _ _ _)
   | (with_reducible exact LeO.refl _)
   | (with_reducible exact LeO.none _)
   | (with_reducible refine LeO.ite ?_ ?_)
   | (with_reducible refine LeO.bind ?_ (fun _ => ?_))
   | exact ih0 _
   | exact ih1 _ _
   | exact ih2 _ _ _
   | exact LeO.none _
   | refine LeO.ite ?_ ?_
   | refine LeO.bind ?_ (fun _ => ?_)
theorem espalierlaw04_normal.mono : ∀ a0 k, LeO (espalierlaw04_normal.f k a0) (espalierlaw04_normal.f (k + 1) a0) := by
 intro a0 k
 obtain ⟨ih0, ih1, ih2⟩ := espalierlaw04_normal.mono_l k
 exact ih0 a0
set_option maxHeartbeats 8000000 in
set_option maxRecDepth 100000 in
theorem espalierlaw04_normal.calls (k : Nat) : ∀ (A0 : Option Addr) (c0 : Nat) (l0 : List (S35)) (r : Bool) (w : World) (hr0 : Kd.C k35 w A0 l0.length l0) (hc0 : l0.length ≤ c0) (h : espalierlaw04_normal.f k l0 = some r),
  Calls Tryz.prog 14 #[.slice A0 l0.length c0] w fun e w' => e = .returned (.bool r) ∧ Drawn0 w w' := by
 induction k using Nat.strongRecOn with
 | _ k ih =>
 intro A0 c0 l0 r w hr0 hc0 h
 cases k with
 | zero => exact absurd h (by simp [espalierlaw04_normal.f])
 | succ k =>
 simp only [espalierlaw04_normal.f] at h
 have HR0 := Aside0.mk hr0
 have HC0 := Aside0.mk hc0
 clear hr0 hc0
 have H : (espalierlaw04_normal.l0 k l0 0) = some r := h
 clear h
 have H' := Aside0.mk H
 clear H
 go_enter Tryz.func14, Tryz.ntmps14
 go_wp2
 go_loopg [3] k (fun kq v3 w' => ∃ (x3_1 : Int), v3 = .int .i64 x3_1 ∧ Aside0 (espalierlaw04_normal.l0 kq l0 x3_1 = some r) ∧ Aside0 (kq ≤ k) ∧ Drawn0 w w')
 case atStart => exact ⟨(0), (by first | rfl | (simp; done) | (simp [*]; done)), H', ⟨Nat.le_refl _⟩, by repeat (first | exact Drawn0.refl _ | apply Drawn0.step)⟩
 case round =>
  clear H'
  try clear c1
  obtain ⟨x3_1, rfl, HA, HK1, ⟨m1, rfl⟩⟩ := hrel
  cases gk with
  | zero => exact absurd HA.out (by simp [espalierlaw04_normal.l0])
  | succ k1 =>
   have H := HA.out
   clear HA
   simp only [espalierlaw04_normal.l0] at H
   by_cases c2 : x3_1 < (l0.length : Int)
   ·rw [if_pos c2] at H
    have c2b0 : decide (x3_1 < (l0.length : Int)) = true := decide_eq_true c2
    clear c2
    have HC3 := Aside0.mk H
    clear H
    go_upto_region 4 with (fail)
    go_cut [36] (fun v36 wc => ∃ (kq : Nat) (x36_2 : Bool), v36 = .bool x36_2 ∧ Aside0 (espalierlaw04_normal.j1 kq l0 x3_1 x36_2 = some r) ∧ Aside0 (kq ≤ k1) ∧ Drawn0 w wc)
    case first =>
     have H := HC3.out
     clear HC3
     by_cases c4 : 0 ≤ x3_1
     ·rw [if_pos c4] at H
      have c4b0 : decide (0 ≤ x3_1) = true := decide_eq_true c4
      clear c4
      (first | rw [c4b0] | (simp only [i64_w, i32_w]; rw [c4b0]) | skip)
      by_cases c5 : ((rd_T35 l0 x3_1).f0) = 2
      ·rw [if_pos c5] at H
       have c5b0 := beq_iff_eq.mpr c5
       have c5b1 := bne_eq_false_iff_eq.mpr c5
       clear c5
       by_cases c6 : ((rd_T35 l0 x3_1).f3).toList = ([] : List UInt8)
       ·rw [if_pos c6] at H
        have c6b0 := beq_iff_eq.mpr c6
        have c6b1 := bne_eq_false_iff_eq.mpr c6
        clear c6
        have H' := Aside0.mk H
        clear H
        have p157 : 0 ≤ (x3_1 : Int) := of_decide_eq_true (by first | (with_reducible assumption) | assumption)
        have q157 : x3_1 < (l0.length : Int) := of_decide_eq_true (by first | (with_reducible assumption) | assumption)
        obtain ⟨ad157, A157_2, c157_2, A157_4, c157_4, e157, hx157_0, hx157_1, hx157_2, hx157_3, hx157_4, hl157_2, hi157_2, hl157_4, hi157_4⟩ := at_T35 HR0.out x3_1 p157 q157
        cases e157
        have HR157_2 := Aside0.mk hi157_2
        have HC157_2 := Aside0.mk hl157_2
        clear hi157_2 hl157_2
        have HR157_4 := Aside0.mk hi157_4
        have HC157_4 := Aside0.mk hl157_4
        clear hi157_4 hl157_4
        replace p157 := eq_true p157
        replace q157 := eq_true q157
        have p158 : 0 ≤ (x3_1 : Int) := of_decide_eq_true (by first | (with_reducible assumption) | assumption)
        have q158 : x3_1 < (l0.length : Int) := of_decide_eq_true (by first | (with_reducible assumption) | assumption)
        obtain ⟨ad158, A158_2, c158_2, A158_4, c158_4, e158, hx158_0, hx158_1, hx158_2, hx158_3, hx158_4, hl158_2, hi158_2, hl158_4, hi158_4⟩ := at_T35 HR0.out x3_1 p158 q158
        obtain rfl : ad157 = ad158 := (by injection e158)
        have HR158_2 := Aside0.mk hi158_2
        have HC158_2 := Aside0.mk hl158_2
        clear hi158_2 hl158_2
        have HR158_4 := Aside0.mk hi158_4
        have HC158_4 := Aside0.mk hl158_4
        clear hi158_4 hl158_4
        replace p158 := eq_true p158
        replace q158 := eq_true q158
        have ea_ := Option.some.inj (hx157_2.symm.trans hx158_2)
        injection ea_ with ea_ en_ ec_
        subst ea_
        subst ec_
        clear en_
        have ea_ := Option.some.inj (hx157_4.symm.trans hx158_4)
        injection ea_ with ea_ en_ ec_
        subst ea_
        subst ec_
        clear en_
        go_wp2
        go_meet
        case rel => exact ⟨_, (true), (by first | rfl | (simp; done) | (simp [*]; done)), H', ⟨by have := HK1.out; first | omega | exact Nat.le_refl _⟩, by repeat (first | exact Drawn0.refl _ | apply Drawn0.step)⟩
       ·rw [if_neg c6] at H
        have c6b0 := beq_eq_false_iff_ne.mpr c6
        have c6b1 := bne_iff_ne.mpr c6
        by_cases c7 : x3_1 > 0
        ·rw [if_pos c7] at H
         have c7b0 : decide (0 < x3_1) = true := decide_eq_true c7
         clear c7
         obtain ⟨ji8, hji8⟩ : ∃ j_ : Int, (wrap64 (x3_1 - 1)) = j_ := ⟨_, rfl⟩
         replace H : (if 0 ≤ (ji8) then (if (ji8) < (l0.length : Int) then (espalierlaw04_normal.j1 k1 l0 x3_1 (((rd_T35 l0 (ji8)).f0) == 2)) else (none)) else (none)) = some r := by first | (rw [hji8] at H; exact H) | (simp only [hji8] at H ⊢; exact H)
         have hji8w : (IntKind.i64.wrap (x3_1 - 1)) = ji8 := (i64_w _).trans hji8
         by_cases c9 : 0 ≤ (ji8)
         ·rw [if_pos c9] at H
          have c9b0 : decide (0 ≤ (ji8)) = true := decide_eq_true c9
          clear c9
          by_cases c10 : (ji8) < (l0.length : Int)
          ·rw [if_pos c10] at H
           have c10b0 : decide ((ji8) < (l0.length : Int)) = true := decide_eq_true c10
           clear c10
           have H' := Aside0.mk H
           clear H
           have p157 : 0 ≤ (x3_1 : Int) := of_decide_eq_true (by first | (with_reducible assumption) | assumption)
           have q157 : x3_1 < (l0.length : Int) := of_decide_eq_true (by first | (with_reducible assumption) | assumption)
           obtain ⟨ad157, A157_2, c157_2, A157_4, c157_4, e157, hx157_0, hx157_1, hx157_2, hx157_3, hx157_4, hl157_2, hi157_2, hl157_4, hi157_4⟩ := at_T35 HR0.out x3_1 p157 q157
           cases e157
           have HR157_2 := Aside0.mk hi157_2
           have HC157_2 := Aside0.mk hl157_2
           clear hi157_2 hl157_2
           have HR157_4 := Aside0.mk hi157_4
           have HC157_4 := Aside0.mk hl157_4
           clear hi157_4 hl157_4
           replace p157 := eq_true p157
           replace q157 := eq_true q157
           have p158 : 0 ≤ (x3_1 : Int) := of_decide_eq_true (by first | (with_reducible assumption) | assumption)
           have q158 : x3_1 < (l0.length : Int) := of_decide_eq_true (by first | (with_reducible assumption) | assumption)
           obtain ⟨ad158, A158_2, c158_2, A158_4, c158_4, e158, hx158_0, hx158_1, hx158_2, hx158_3, hx158_4, hl158_2, hi158_2, hl158_4, hi158_4⟩ := at_T35 HR0.out x3_1 p158 q158
           obtain rfl : ad157 = ad158 := (by injection e158)
           have HR158_2 := Aside0.mk hi158_2
           have HC158_2 := Aside0.mk hl158_2
           clear hi158_2 hl158_2
           have HR158_4 := Aside0.mk hi158_4
           have HC158_4 := Aside0.mk hl158_4
           clear hi158_4 hl158_4
           replace p158 := eq_true p158
           replace q158 := eq_true q158
           have ea_ := Option.some.inj (hx157_2.symm.trans hx158_2)
           injection ea_ with ea_ en_ ec_
           subst ea_
           subst ec_
           clear en_
           have ea_ := Option.some.inj (hx157_4.symm.trans hx158_4)
           injection ea_ with ea_ en_ ec_
           subst ea_
           subst ec_
           clear en_
           have p159 : 0 ≤ ((ji8) : Int) := of_decide_eq_true (by first | (with_reducible assumption) | assumption)
           have q159 : (ji8) < (l0.length : Int) := of_decide_eq_true (by first | (with_reducible assumption) | assumption)
           obtain ⟨ad159, A159_2, c159_2, A159_4, c159_4, e159, hx159_0, hx159_1, hx159_2, hx159_3, hx159_4, hl159_2, hi159_2, hl159_4, hi159_4⟩ := at_T35 HR0.out (ji8) p159 q159
           obtain rfl : ad157 = ad159 := (by injection e159)
           have HR159_2 := Aside0.mk hi159_2
           have HC159_2 := Aside0.mk hl159_2
           clear hi159_2 hl159_2
           have HR159_4 := Aside0.mk hi159_4
           have HC159_4 := Aside0.mk hl159_4
           clear hi159_4 hl159_4
           replace p159 := eq_true p159
           replace q159 := eq_true q159
           go_wp2
           go_meet
           case rel => exact ⟨_, ((((rd_T35 l0 (ji8)).f0) == 2)), (by first | rfl | (simp; done) | (simp only [← hji8] <;> (first | rfl | simp)) | (simp [*]; done)), H', ⟨by have := HK1.out; first | omega | exact Nat.le_refl _⟩, by repeat (first | exact Drawn0.refl _ | apply Drawn0.step)⟩
          ·rw [if_neg c10] at H
           exact absurd H (by simp)
         ·rw [if_neg c9] at H
          exact absurd H (by simp)
        ·rw [if_neg c7] at H
         have c7b0 : decide (0 < x3_1) = false := decide_eq_false c7
         clear c7
         have H' := Aside0.mk H
         clear H
         have p157 : 0 ≤ (x3_1 : Int) := of_decide_eq_true (by first | (with_reducible assumption) | assumption)
         have q157 : x3_1 < (l0.length : Int) := of_decide_eq_true (by first | (with_reducible assumption) | assumption)
         obtain ⟨ad157, A157_2, c157_2, A157_4, c157_4, e157, hx157_0, hx157_1, hx157_2, hx157_3, hx157_4, hl157_2, hi157_2, hl157_4, hi157_4⟩ := at_T35 HR0.out x3_1 p157 q157
         cases e157
         have HR157_2 := Aside0.mk hi157_2
         have HC157_2 := Aside0.mk hl157_2
         clear hi157_2 hl157_2
         have HR157_4 := Aside0.mk hi157_4
         have HC157_4 := Aside0.mk hl157_4
         clear hi157_4 hl157_4
         replace p157 := eq_true p157
         replace q157 := eq_true q157
         have p158 : 0 ≤ (x3_1 : Int) := of_decide_eq_true (by first | (with_reducible assumption) | assumption)
         have q158 : x3_1 < (l0.length : Int) := of_decide_eq_true (by first | (with_reducible assumption) | assumption)
         obtain ⟨ad158, A158_2, c158_2, A158_4, c158_4, e158, hx158_0, hx158_1, hx158_2, hx158_3, hx158_4, hl158_2, hi158_2, hl158_4, hi158_4⟩ := at_T35 HR0.out x3_1 p158 q158
         obtain rfl : ad157 = ad158 := (by injection e158)
         have HR158_2 := Aside0.mk hi158_2
         have HC158_2 := Aside0.mk hl158_2
         clear hi158_2 hl158_2
         have HR158_4 := Aside0.mk hi158_4
         have HC158_4 := Aside0.mk hl158_4
         clear hi158_4 hl158_4
         replace p158 := eq_true p158
         replace q158 := eq_true q158
         have ea_ := Option.some.inj (hx157_2.symm.trans hx158_2)
         injection ea_ with ea_ en_ ec_
         subst ea_
         subst ec_
         clear en_
         have ea_ := Option.some.inj (hx157_4.symm.trans hx158_4)
         injection ea_ with ea_ en_ ec_
         subst ea_
         subst ec_
         clear en_
         go_wp2
         go_meet
         case rel => exact ⟨_, (false), (by first | rfl | (simp; done) | (simp [*]; done)), H', ⟨by have := HK1.out; first | omega | exact Nat.le_refl _⟩, by repeat (first | exact Drawn0.refl _ | apply Drawn0.step)⟩
      ·rw [if_neg c5] at H
       have c5b0 := beq_eq_false_iff_ne.mpr c5
       have c5b1 := bne_iff_ne.mpr c5
       have H' := Aside0.mk H
       clear H
       have p157 : 0 ≤ (x3_1 : Int) := of_decide_eq_true (by first | (with_reducible assumption) | assumption)
       have q157 : x3_1 < (l0.length : Int) := of_decide_eq_true (by first | (with_reducible assumption) | assumption)
       obtain ⟨ad157, A157_2, c157_2, A157_4, c157_4, e157, hx157_0, hx157_1, hx157_2, hx157_3, hx157_4, hl157_2, hi157_2, hl157_4, hi157_4⟩ := at_T35 HR0.out x3_1 p157 q157
       cases e157
       have HR157_2 := Aside0.mk hi157_2
       have HC157_2 := Aside0.mk hl157_2
       clear hi157_2 hl157_2
       have HR157_4 := Aside0.mk hi157_4
       have HC157_4 := Aside0.mk hl157_4
       clear hi157_4 hl157_4
       replace p157 := eq_true p157
       replace q157 := eq_true q157
       go_wp2
       go_meet
       case rel => exact ⟨_, (false), (by first | rfl | (simp; done) | (simp [*]; done)), H', ⟨by have := HK1.out; first | omega | exact Nat.le_refl _⟩, by repeat (first | exact Drawn0.refl _ | apply Drawn0.step)⟩
     ·rw [if_neg c4] at H
      exact absurd H (by simp)
    case rest =>
     clear HC3
     try clear c1
     try clear p1
     try clear q1
     try clear hx1
     try clear c2
     try clear c2b0
     try clear p2
     try clear c4
     try clear c4b0
     try clear c5
     try clear c5b0
     try clear c5b1
     try clear c6
     try clear c6b0
     try clear c6b1
     try clear p6
     try clear c7
     try clear c7b0
     try clear c9
     try clear c9b0
     try clear c10
     try clear c10b0
     try clear hx157_0
     try clear hx157_1
     try clear hx157_2
     try clear hx157_3
     try clear hx157_4
     try clear hx158_0
     try clear hx158_1
     try clear hx158_2
     try clear hx158_3
     try clear hx158_4
     try clear hx159_0
     try clear hx159_1
     try clear hx159_2
     try clear hx159_3
     try clear hx159_4
     try clear p157
     try clear p158
     try clear p159
     try clear q157
     try clear q158
     try clear q159
     obtain ⟨kq, x36_2, rfl, HA, HJ2, ⟨mc2, rfl⟩⟩ := hcut
     cases kq with
     | zero => exact absurd HA.out (by simp [espalierlaw04_normal.j1])
     | succ kj2 =>
      have H := HA.out
      clear HA
      simp only [espalierlaw04_normal.j1] at H
      by_cases c11 : x36_2 = true
      ·subst c11
       rw [if_pos rfl] at H
       obtain rfl := Option.some.inj H
       go_wp2
       go_ret
       exact ⟨by first | rfl | (simp; done) | (simp [*]; done), by repeat (first | exact Drawn0.refl _ | apply Drawn0.step)⟩
      ·replace c11 := Bool.eq_false_iff.mpr c11
       subst c11
       rw [if_neg (show ¬ (false = true) by decide)] at H
       by_cases c12 : 0 ≤ x3_1
       ·rw [if_pos c12] at H
        have c12b0 : decide (0 ≤ x3_1) = true := decide_eq_true c12
        clear c12
        by_cases c13 : x3_1 < (l0.length : Int)
        ·rw [if_pos c13] at H
         have c13b0 : decide (x3_1 < (l0.length : Int)) = true := decide_eq_true c13
         clear c13
         by_cases c14 : ((rd_T35 l0 x3_1).f0) = 1
         ·rw [if_pos c14] at H
          have c14b0 := beq_iff_eq.mpr c14
          have c14b1 := bne_eq_false_iff_eq.mpr c14
          clear c14
          replace H := Option.bind_eq_some_iff.mp H
          obtain ⟨t162, A150, H⟩ := H
          replace H : (if t162 = true then (espalierlaw04_normal.l0 kj2 l0 (wrap64 (x3_1 + 1))) else (some false)) = some r := H
          have A15 := Aside0.mk A150
          clear A150
          by_cases c16 : t162 = true
          ·subst c16
           rw [if_pos rfl] at H
           have H' := Aside0.mk H
           clear H
           have p160 : 0 ≤ (x3_1 : Int) := of_decide_eq_true (by first | (with_reducible assumption) | assumption)
           have q160 : x3_1 < (l0.length : Int) := of_decide_eq_true (by first | (with_reducible assumption) | assumption)
           obtain ⟨ad160, A160_2, c160_2, A160_4, c160_4, e160, hx160_0, hx160_1, hx160_2, hx160_3, hx160_4, hl160_2, hi160_2, hl160_4, hi160_4⟩ := at_T35 HR0.out x3_1 p160 q160
           cases e160
           have HR160_2 := Aside0.mk hi160_2
           have HC160_2 := Aside0.mk hl160_2
           clear hi160_2 hl160_2
           have HR160_4 := Aside0.mk hi160_4
           have HC160_4 := Aside0.mk hl160_4
           clear hi160_4 hl160_4
           replace p160 := eq_true p160
           replace q160 := eq_true q160
           have p161 : 0 ≤ (x3_1 : Int) := of_decide_eq_true (by first | (with_reducible assumption) | assumption)
           have q161 : x3_1 < (l0.length : Int) := of_decide_eq_true (by first | (with_reducible assumption) | assumption)
           obtain ⟨ad161, A161_2, c161_2, A161_4, c161_4, e161, hx161_0, hx161_1, hx161_2, hx161_3, hx161_4, hl161_2, hi161_2, hl161_4, hi161_4⟩ := at_T35 HR0.out x3_1 p161 q161
           obtain rfl : ad160 = ad161 := (by injection e161)
           have HR161_2 := Aside0.mk hi161_2
           have HC161_2 := Aside0.mk hl161_2
           clear hi161_2 hl161_2
           have HR161_4 := Aside0.mk hi161_4
           have HC161_4 := Aside0.mk hl161_4
           clear hi161_4 hl161_4
           replace p161 := eq_true p161
           replace q161 := eq_true q161
           have ea_ := Option.some.inj (hx160_2.symm.trans hx161_2)
           injection ea_ with ea_ en_ ec_
           subst ea_
           subst ec_
           clear en_
           have ea_ := Option.some.inj (hx160_4.symm.trans hx161_4)
           injection ea_ with ea_ en_ ec_
           subst ea_
           subst ec_
           clear en_
           go_wp2_with (first | (go_at_call 14; (with_reducible refine (ih kj2 (by have := HK1.out; have := HJ2.out; omega) _ _ ((rd_T35 l0 x3_1).f4) true _ ?side1 ?side2 A15.out).mono ?_); (case side1 => repeat (first | exact HR161_4.out | (with_reducible refine Kd.C_alloc ?_ _) | (with_reducible refine Kd.C_drewN ?_ _) | (with_reducible refine Kd.C_drew ?_))); (case side2 => exact HC161_4.out); rintro e w' ⟨rfl, ⟨nd, rfl⟩⟩))
           go_roundg kj2
           case measure => have := HK1.out; have := HJ2.out; omega
           case rel => exact ⟨(wrap64 (x3_1 + 1)), (by first | rfl | (simp; done) | (simp [*]; done)), H', ⟨by have := HK1.out; have := HJ2.out; omega⟩, by repeat (first | exact Drawn0.refl _ | apply Drawn0.step)⟩
          ·replace c16 := Bool.eq_false_iff.mpr c16
           subst c16
           rw [if_neg (show ¬ (false = true) by decide)] at H
           obtain rfl := Option.some.inj H
           have p160 : 0 ≤ (x3_1 : Int) := of_decide_eq_true (by first | (with_reducible assumption) | assumption)
           have q160 : x3_1 < (l0.length : Int) := of_decide_eq_true (by first | (with_reducible assumption) | assumption)
           obtain ⟨ad160, A160_2, c160_2, A160_4, c160_4, e160, hx160_0, hx160_1, hx160_2, hx160_3, hx160_4, hl160_2, hi160_2, hl160_4, hi160_4⟩ := at_T35 HR0.out x3_1 p160 q160
           cases e160
           have HR160_2 := Aside0.mk hi160_2
           have HC160_2 := Aside0.mk hl160_2
           clear hi160_2 hl160_2
           have HR160_4 := Aside0.mk hi160_4
           have HC160_4 := Aside0.mk hl160_4
           clear hi160_4 hl160_4
           replace p160 := eq_true p160
           replace q160 := eq_true q160
           have p161 : 0 ≤ (x3_1 : Int) := of_decide_eq_true (by first | (with_reducible assumption) | assumption)
           have q161 : x3_1 < (l0.length : Int) := of_decide_eq_true (by first | (with_reducible assumption) | assumption)
           obtain ⟨ad161, A161_2, c161_2, A161_4, c161_4, e161, hx161_0, hx161_1, hx161_2, hx161_3, hx161_4, hl161_2, hi161_2, hl161_4, hi161_4⟩ := at_T35 HR0.out x3_1 p161 q161
           obtain rfl : ad160 = ad161 := (by injection e161)
           have HR161_2 := Aside0.mk hi161_2
           have HC161_2 := Aside0.mk hl161_2
           clear hi161_2 hl161_2
           have HR161_4 := Aside0.mk hi161_4
           have HC161_4 := Aside0.mk hl161_4
           clear hi161_4 hl161_4
           replace p161 := eq_true p161
           replace q161 := eq_true q161
           have ea_ := Option.some.inj (hx160_2.symm.trans hx161_2)
           injection ea_ with ea_ en_ ec_
           subst ea_
           subst ec_
           clear en_
           have ea_ := Option.some.inj (hx160_4.symm.trans hx161_4)
           injection ea_ with ea_ en_ ec_
           subst ea_
           subst ec_
           clear en_
           go_wp2_with (first | (go_at_call 14; (with_reducible refine (ih kj2 (by have := HK1.out; have := HJ2.out; omega) _ _ ((rd_T35 l0 x3_1).f4) false _ ?side1 ?side2 A15.out).mono ?_); (case side1 => repeat (first | exact HR161_4.out | (with_reducible refine Kd.C_alloc ?_ _) | (with_reducible refine Kd.C_drewN ?_ _) | (with_reducible refine Kd.C_drew ?_))); (case side2 => exact HC161_4.out); rintro e w' ⟨rfl, ⟨nd, rfl⟩⟩))
           go_ret
           exact ⟨by first | rfl | (simp; done) | (simp [*]; done), by repeat (first | exact Drawn0.refl _ | apply Drawn0.step)⟩
         ·rw [if_neg c14] at H
          have c14b0 := beq_eq_false_iff_ne.mpr c14
          have c14b1 := bne_iff_ne.mpr c14
          have H' := Aside0.mk H
          clear H
          have p160 : 0 ≤ (x3_1 : Int) := of_decide_eq_true (by first | (with_reducible assumption) | assumption)
          have q160 : x3_1 < (l0.length : Int) := of_decide_eq_true (by first | (with_reducible assumption) | assumption)
          obtain ⟨ad160, A160_2, c160_2, A160_4, c160_4, e160, hx160_0, hx160_1, hx160_2, hx160_3, hx160_4, hl160_2, hi160_2, hl160_4, hi160_4⟩ := at_T35 HR0.out x3_1 p160 q160
          cases e160
          have HR160_2 := Aside0.mk hi160_2
          have HC160_2 := Aside0.mk hl160_2
          clear hi160_2 hl160_2
          have HR160_4 := Aside0.mk hi160_4
          have HC160_4 := Aside0.mk hl160_4
          clear hi160_4 hl160_4
          replace p160 := eq_true p160
          replace q160 := eq_true q160
          go_wp2
          go_roundg kj2
          case measure => have := HK1.out; have := HJ2.out; omega
          case rel => exact ⟨(wrap64 (x3_1 + 1)), (by first | rfl | (simp; done) | (simp [*]; done)), H', ⟨by have := HK1.out; have := HJ2.out; omega⟩, by repeat (first | exact Drawn0.refl _ | apply Drawn0.step)⟩
        ·rw [if_neg c13] at H
         exact absurd H (by simp)
       ·rw [if_neg c12] at H
        exact absurd H (by simp)
   ·rw [if_neg c2] at H
    have c2b0 : decide (x3_1 < (l0.length : Int)) = false := decide_eq_false c2
    clear c2
    obtain rfl := Option.some.inj H
    go_wp2
    go_ret
    exact ⟨by first | rfl | (simp; done) | (simp [*]; done), by repeat (first | exact Drawn0.refl _ | apply Drawn0.step)⟩

/-! ### espalierlaw04_size: function 15 -/
mutual
def espalierlaw04_size.l0 : Nat → List (S35) → Int → Int → Option (Int)
 | 0, _, _, _ => none
 | k + 1, x0, x3, x4 => if x4 < (x0.length : Int) then (if 0 ≤ x4 then (if ((rd_T35 x0 x4).f0) = 1 then ((espalierlaw04_size.f k ((rd_T35 x0 x4).f4)).bind fun t165 => (espalierlaw04_size.l0 k x0 (wrap64 (x3 + t165)) (wrap64 (x4 + 1)))) else (espalierlaw04_size.l0 k x0 x3 (wrap64 (x4 + 1)))) else (none)) else (some x3)
def espalierlaw04_size.f : Nat → List (S35) → Option (Int)
 | 0, _ => none
 | k + 1, l0 => espalierlaw04_size.l0 k l0 (l0.length : Int) 0
end
theorem espalierlaw04_size.mono_l : ∀ k, (∀ y0, LeO (espalierlaw04_size.f k y0) (espalierlaw04_size.f (k + 1) y0)) ∧ (∀ y0 y1 y2, LeO (espalierlaw04_size.l0 k y0 y1 y2) (espalierlaw04_size.l0 (k + 1) y0 y1 y2))
 | 0 => ⟨fun _ r h => by simp [espalierlaw04_size.f] at h, fun _ _ _ r h => by simp [espalierlaw04_size.l0] at h⟩
 | k + 1 => by
  obtain ⟨ih0, ih1⟩ := espalierlaw04_size.mono_l k
  refine ⟨?_, ?_⟩
  ·intro y0
   unfold espalierlaw04_size.f
   repeat' first
   | (with_reducible exact ih0 _)
   | (with_reducible exact ih1 _ _ _)
   | (with_reducible exact LeO.refl _)
   | (with_reducible exact LeO.none _)
   | (with_reducible refine LeO.ite ?_ ?_)
   | (with_reducible refine LeO.bind ?_ (fun _ => ?_))
   | exact ih0 _
   | exact ih1 _ _ _
   | exact LeO.none _
   | refine LeO.ite ?_ ?_
   | refine LeO.bind ?_ (fun _ => ?_)
  ·intro y0 y1 y2
   unfold espalierlaw04_size.l0
   repeat' first
   | (with_reducible exact ih0 _)
   | (with_reducible exact ih1 _ _ _)
   | (with_reducible exact LeO.refl _)
   | (with_reducible exact LeO.none _)
   | (with_reducible refine LeO.ite ?_ ?_)
   | (with_reducible refine LeO.bind ?_ (fun _ => ?_))
   | exact ih0 _
   | exact ih1 _ _ _
   | exact LeO.none _
   | refine LeO.ite ?_ ?_
   | refine LeO.bind ?_ (fun _ => ?_)
theorem espalierlaw04_size.mono : ∀ a0 k, LeO (espalierlaw04_size.f k a0) (espalierlaw04_size.f (k + 1) a0) := by
 intro a0 k
 obtain ⟨ih0, ih1⟩ := espalierlaw04_size.mono_l k
 exact ih0 a0
set_option maxHeartbeats 8000000 in
set_option maxRecDepth 100000 in
theorem espalierlaw04_size.calls (k : Nat) : ∀ (A0 : Option Addr) (c0 : Nat) (l0 : List (S35)) (r : Int) (w : World) (hr0 : Kd.C k35 w A0 l0.length l0) (hc0 : l0.length ≤ c0) (h : espalierlaw04_size.f k l0 = some r),
  Calls Tryz.prog 15 #[.slice A0 l0.length c0] w fun e w' => e = .returned (.int .i64 r) ∧ Drawn0 w w' := by
 induction k using Nat.strongRecOn with
 | _ k ih =>
 intro A0 c0 l0 r w hr0 hc0 h
 cases k with
 | zero => exact absurd h (by simp [espalierlaw04_size.f])
 | succ k =>
 simp only [espalierlaw04_size.f] at h
 have HR0 := Aside0.mk hr0
 have HC0 := Aside0.mk hc0
 clear hr0 hc0
 have H : (espalierlaw04_size.l0 k l0 (l0.length : Int) 0) = some r := h
 clear h
 have H' := Aside0.mk H
 clear H
 go_enter Tryz.func15, Tryz.ntmps15
 go_wp2
 go_loopg [3, 4] k (fun kq v3 v4 w' => ∃ (x3_1 : Int) (x4_1 : Int), v3 = .int .i64 x3_1 ∧ v4 = .int .i64 x4_1 ∧ Aside0 (espalierlaw04_size.l0 kq l0 x3_1 x4_1 = some r) ∧ Aside0 (kq ≤ k) ∧ Drawn0 w w')
 case atStart => exact ⟨((l0.length : Int)), (0), (by first | rfl | (simp; done) | (simp [*]; done)), (by first | rfl | (simp; done) | (simp [*]; done)), H', ⟨Nat.le_refl _⟩, by repeat (first | exact Drawn0.refl _ | apply Drawn0.step)⟩
 case round =>
  clear H'
  try clear c1
  obtain ⟨x3_1, x4_1, rfl, rfl, HA, HK1, ⟨m1, rfl⟩⟩ := hrel
  cases gk with
  | zero => exact absurd HA.out (by simp [espalierlaw04_size.l0])
  | succ k1 =>
   have H := HA.out
   clear HA
   simp only [espalierlaw04_size.l0] at H
   by_cases c2 : x4_1 < (l0.length : Int)
   ·rw [if_pos c2] at H
    have c2b0 : decide (x4_1 < (l0.length : Int)) = true := decide_eq_true c2
    clear c2
    by_cases c3 : 0 ≤ x4_1
    ·rw [if_pos c3] at H
     have c3b0 : decide (0 ≤ x4_1) = true := decide_eq_true c3
     clear c3
     by_cases c4 : ((rd_T35 l0 x4_1).f0) = 1
     ·rw [if_pos c4] at H
      have c4b0 := beq_iff_eq.mpr c4
      have c4b1 := bne_eq_false_iff_eq.mpr c4
      clear c4
      replace H := Option.bind_eq_some_iff.mp H
      obtain ⟨t165, A50, H⟩ := H
      replace H : (espalierlaw04_size.l0 k1 l0 (wrap64 (x3_1 + t165)) (wrap64 (x4_1 + 1))) = some r := H
      have A5 := Aside0.mk A50
      clear A50
      have H' := Aside0.mk H
      clear H
      have p163 : 0 ≤ (x4_1 : Int) := of_decide_eq_true (by first | (with_reducible assumption) | assumption)
      have q163 : x4_1 < (l0.length : Int) := of_decide_eq_true (by first | (with_reducible assumption) | assumption)
      obtain ⟨ad163, A163_2, c163_2, A163_4, c163_4, e163, hx163_0, hx163_1, hx163_2, hx163_3, hx163_4, hl163_2, hi163_2, hl163_4, hi163_4⟩ := at_T35 HR0.out x4_1 p163 q163
      cases e163
      have HR163_2 := Aside0.mk hi163_2
      have HC163_2 := Aside0.mk hl163_2
      clear hi163_2 hl163_2
      have HR163_4 := Aside0.mk hi163_4
      have HC163_4 := Aside0.mk hl163_4
      clear hi163_4 hl163_4
      replace p163 := eq_true p163
      replace q163 := eq_true q163
      have p164 : 0 ≤ (x4_1 : Int) := of_decide_eq_true (by first | (with_reducible assumption) | assumption)
      have q164 : x4_1 < (l0.length : Int) := of_decide_eq_true (by first | (with_reducible assumption) | assumption)
      obtain ⟨ad164, A164_2, c164_2, A164_4, c164_4, e164, hx164_0, hx164_1, hx164_2, hx164_3, hx164_4, hl164_2, hi164_2, hl164_4, hi164_4⟩ := at_T35 HR0.out x4_1 p164 q164
      obtain rfl : ad163 = ad164 := (by injection e164)
      have HR164_2 := Aside0.mk hi164_2
      have HC164_2 := Aside0.mk hl164_2
      clear hi164_2 hl164_2
      have HR164_4 := Aside0.mk hi164_4
      have HC164_4 := Aside0.mk hl164_4
      clear hi164_4 hl164_4
      replace p164 := eq_true p164
      replace q164 := eq_true q164
      have ea_ := Option.some.inj (hx163_2.symm.trans hx164_2)
      injection ea_ with ea_ en_ ec_
      subst ea_
      subst ec_
      clear en_
      have ea_ := Option.some.inj (hx163_4.symm.trans hx164_4)
      injection ea_ with ea_ en_ ec_
      subst ea_
      subst ec_
      clear en_
      go_wp2_with (first | ((with_reducible refine gate_callee (f := 15) rfl ?_); refine goesL_ (some 25) rfl rfl Tryz.func15 (by kernel_rfl) rfl #[.slice A163_4 ((rd_T35 l0 x4_1).f4).length c163_4] rfl rf_ ?_; (with_reducible refine (ih k1 (by have := HK1.out; omega) _ _ ((rd_T35 l0 x4_1).f4) t165 _ ?side1 ?side2 A5.out).mono ?_); (case side1 => repeat (first | exact HR164_4.out | (with_reducible refine Kd.C_alloc ?_ _) | (with_reducible refine Kd.C_drewN ?_ _) | (with_reducible refine Kd.C_drew ?_))); (case side2 => exact HC164_4.out); rintro e w' ⟨rfl, ⟨nd, rfl⟩⟩; refine ⟨_, rfl, ?_⟩))
      go_roundg k1
      case measure => have := HK1.out; omega
      case rel => exact ⟨(wrap64 (x3_1 + t165)), (wrap64 (x4_1 + 1)), (by first | rfl | (simp; done) | (simp [*]; done)), (by first | rfl | (simp; done) | (simp [*]; done)), H', ⟨by have := HK1.out; omega⟩, by repeat (first | exact Drawn0.refl _ | apply Drawn0.step)⟩
     ·rw [if_neg c4] at H
      have c4b0 := beq_eq_false_iff_ne.mpr c4
      have c4b1 := bne_iff_ne.mpr c4
      have H' := Aside0.mk H
      clear H
      have p163 : 0 ≤ (x4_1 : Int) := of_decide_eq_true (by first | (with_reducible assumption) | assumption)
      have q163 : x4_1 < (l0.length : Int) := of_decide_eq_true (by first | (with_reducible assumption) | assumption)
      obtain ⟨ad163, A163_2, c163_2, A163_4, c163_4, e163, hx163_0, hx163_1, hx163_2, hx163_3, hx163_4, hl163_2, hi163_2, hl163_4, hi163_4⟩ := at_T35 HR0.out x4_1 p163 q163
      cases e163
      have HR163_2 := Aside0.mk hi163_2
      have HC163_2 := Aside0.mk hl163_2
      clear hi163_2 hl163_2
      have HR163_4 := Aside0.mk hi163_4
      have HC163_4 := Aside0.mk hl163_4
      clear hi163_4 hl163_4
      replace p163 := eq_true p163
      replace q163 := eq_true q163
      go_wp2
      go_roundg k1
      case measure => have := HK1.out; omega
      case rel => exact ⟨(x3_1), (wrap64 (x4_1 + 1)), (by first | rfl | (simp; done) | (simp [*]; done)), (by first | rfl | (simp; done) | (simp [*]; done)), H', ⟨by have := HK1.out; omega⟩, by repeat (first | exact Drawn0.refl _ | apply Drawn0.step)⟩
    ·rw [if_neg c3] at H
     exact absurd H (by simp)
   ·rw [if_neg c2] at H
    have c2b0 : decide (x4_1 < (l0.length : Int)) = false := decide_eq_false c2
    clear c2
    obtain rfl := Option.some.inj H
    go_wp2
    go_ret
    exact ⟨by first | rfl | (simp; done) | (simp [*]; done), by repeat (first | exact Drawn0.refl _ | apply Drawn0.step)⟩

-- NOT PRINTED: function 4 (espalierlaw04_MarkupForm)

-- GIVEN: function 56 (api_Attr_56)

end Go.Proofs.YtealmfcimoomlaaGreatDoor.PA
