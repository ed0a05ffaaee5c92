/- Texts of this claim, one behind the other: PA11, UBack04. Conditions: those of each theorem. -/
import Derived.Test.YtealmfcimoomlaaGreatDoorUBuild
import Derived.Test.YtealmfcimoomlaaGreatDoorPA7
import Derived.Test.YtealmfcimoomlaaGreatDoorPA10
import Derived.Test.YtealmfcimoomlaaGreatDoorUMarkLib
import Derived.Test.YtealmfcimoomlaaGreatDoorUSame
import Derived.Test.YtealmfcimoomlaaGreatDoorOpensT
import Derived.Test.YtealmfcimoomlaaGreatDoorPA9
-- Written by a program of this session (wip/tools/xprint.py: the kit's print, with given functions). Not trusted: Lean checks it.
-- squeezed
namespace Go.Proofs.YtealmfcimoomlaaGreatDoor.PA
open Go.RowKit Go.Proofs.YtealmfcimoomlaaGreatDoorW.PrintWords Go.Proofs.YtealmfcimoomlaaGreatDoorW.PrintLast Go.Proofs.YtealmfcimoomlaaGreatDoorW.PrintMore
attribute [local go_sem] max2_int min2_int max_two min_two max_three min_three max_four min_four   -- for this text's walks alone
set_option linter.unusedVariables false
set_option linter.unusedSimpArgs false

/-! ### markup_Normal: function 21 -/
def markup_Normal.f (k : Nat) (l0 : List (S35)) : Option ((List (S35)) × Int) := (markup_can.f k l0).bind fun t185 => (if t185 = 0 then ((markup_normal.f k l0).bind fun bt186 => (some (bt186.1, bt186.2))) else (some (([] : List (S35)), t185)))
theorem markup_Normal.mono : ∀ a0 k, LeO (markup_Normal.f k a0) (markup_Normal.f (k + 1) a0) := by
 intro a0 k
 unfold markup_Normal.f
 repeat' first
   | (with_reducible exact markup_can.mono _ _)
   | (with_reducible exact markup_normal.mono _ _)
   | (with_reducible exact LeO.refl _)
   | (with_reducible exact LeO.none _)
   | (with_reducible refine LeO.ite ?_ ?_)
   | (with_reducible refine LeO.bind ?_ (fun _ => ?_))
   | exact markup_can.mono _ _
   | exact markup_normal.mono _ _
   | exact LeO.none _
   | refine LeO.ite ?_ ?_
   | refine LeO.bind ?_ (fun _ => ?_)
set_option maxHeartbeats 8000000 in
set_option maxRecDepth 100000 in
theorem markup_Normal.calls (k : Nat) (A0 : Option Addr) (c0 : Nat) (l0 : List (S35)) (r1 : List (S35)) (r2 : Int) (w : World) (hr0 : Kd.C k35 w A0 l0.length l0) (hc0 : l0.length ≤ c0) (h : markup_Normal.f k l0 = some (r1, r2)) (hG : Glob w := by first | exact Glob.step HG.out (by repeat (first | (with_reducible first | exact HB.out | apply below_alloc | apply pw_below_drewN | apply below_drew1) | exact HB.out | (refine below_set ?_ (Aside0.out (by assumption))))) | exact HG.out | assumption) :
  Calls Tryz.prog 21 #[.slice A0 l0.length c0] w fun e w' => ∃ v0_ : Value, e = .returned (.tuple #[v0_, .int .i64 r2]) ∧ Kd.R k35 35 w' w.heap.size (fun _ => True) v0_ r1 ∧ Below w.heap.size w w' := by
 have HG := Aside0.mk hG
 clear hG
 have HR0 := Aside0.mk hr0
 have HC0 := Aside0.mk hc0
 clear hr0 hc0
 have HB := Aside0.mk (Below.refl w.heap.size w)
 have H : ((markup_can.f k l0).bind fun t185 => (if t185 = 0 then ((markup_normal.f k l0).bind fun bt186 => (some (bt186.1, bt186.2))) else (some (([] : List (S35)), t185)))) = some (r1, r2) := h
 clear h
 replace H := Option.bind_eq_some_iff.mp H
 obtain ⟨t185, A20, H⟩ := H
 replace H : (if t185 = 0 then ((markup_normal.f k l0).bind fun bt186 => (some (bt186.1, bt186.2))) else (some (([] : List (S35)), t185))) = some (r1, r2) := H
 have A2 := Aside0.mk A20
 clear A20
 by_cases c3 : t185 = 0
 ·rw [if_pos c3] at H
  have c3b0 := beq_iff_eq.mpr c3
  have c3b1 := bne_eq_false_iff_eq.mpr c3
  clear c3
  replace H := Option.bind_eq_some_iff.mp H
  obtain ⟨⟨t186, t187⟩, A40, H⟩ := H
  replace H : (some (t186, t187)) = some (r1, r2) := H
  have A4 := Aside0.mk A40
  clear A40
  simp only [Option.some.injEq, Prod.mk.injEq] at H
  obtain ⟨rfl, rfl⟩ := H
  go_enter Tryz.func21, Tryz.ntmps21
  go_wp2_with (first | ((with_reducible refine gate_callee (f := 28) rfl ?_); refine goesL_ (some 6) rfl rfl Tryz.func28 (by kernel_rfl) rfl #[.slice A0 l0.length c0] rfl rf_ ?_; (with_reducible refine (markup_can.calls k _ _ l0 t185 _ ?side1 ?side2 A2.out).mono ?_); (case side1 => repeat (first | exact HR0.out | (with_reducible refine Kd.C_alloc ?_ _) | (with_reducible refine Kd.C_drewN ?_ _) | (with_reducible refine Kd.C_drew ?_))); (case side2 => exact HC0.out); rintro e w5 ⟨rfl, hb⟩; refine ⟨_, rfl, ?_⟩; replace HB := Aside0.mk (below_step hb_ hb); (try clear hb); (try clear hb2); (try clear hk); (try clear hi)) | ((with_reducible refine gate_callee (f := 36) rfl ?_); refine goesL_ (some 11) rfl rfl Tryz.func36 (by kernel_rfl) rfl #[.slice A0 l0.length c0] rfl rf_ ?_; (with_reducible refine (markup_normal.calls k _ _ l0 t186 t187 _ ?side1 ?side2 A4.out).mono ?_); (case side1 => exact sc_ (Kd.C_below HR0.out HB.out)); (case side2 => exact HC0.out); rintro e w6 ⟨v188, rfl, ho0, hb⟩; refine ⟨_, rfl, ?_⟩; have HO189 := Aside0.mk (Kd.R_lower ho0 (below_size hb_)); replace HB := Aside0.mk (below_step hb_ hb); (try clear hb); (try clear hb2); (try clear hk); (try clear hi); (try clear ho0)))
  go_ret2
  exact ⟨_, er_, by (with_reducible repeat (first | apply Kd.R_alloc | apply Kd.R_drewN | apply Kd.R_drew)); exact HO189.out, hb_⟩
 ·rw [if_neg c3] at H
  have c3b0 := beq_eq_false_iff_ne.mpr c3
  have c3b1 := bne_iff_ne.mpr c3
  simp only [Option.some.injEq, Prod.mk.injEq] at H
  obtain ⟨rfl, rfl⟩ := H
  go_enter Tryz.func21, Tryz.ntmps21
  go_wp2_with (first | ((with_reducible refine gate_callee (f := 28) rfl ?_); refine goesL_ (some 6) rfl rfl Tryz.func28 (by kernel_rfl) rfl #[.slice A0 l0.length c0] rfl rf_ ?_; (with_reducible refine (markup_can.calls k _ _ l0 t185 _ ?side1 ?side2 A2.out).mono ?_); (case side1 => repeat (first | exact HR0.out | (with_reducible refine Kd.C_alloc ?_ _) | (with_reducible refine Kd.C_drewN ?_ _) | (with_reducible refine Kd.C_drew ?_))); (case side2 => exact HC0.out); rintro e w7 ⟨rfl, hb⟩; refine ⟨_, rfl, ?_⟩; replace HB := Aside0.mk (below_step hb_ hb); (try clear hb); (try clear hb2); (try clear hk); (try clear hi)))
  go_ret2
  exact ⟨_, er_, by first | exact Kd.R_nil _ _ _ _ _ | exact Kd.N_nil _ _ _ _ _ | exact Kd.V_nil _ _ _ _ _ | exact Kd.Q_nil _ _ _ _ _ | exact Kd.S_nil _ _ _ _ _, hb_⟩

-- NOT PRINTED: function 7 (espalierlaw04_MarkupBack)

/-! ### espalierlaw04_has: function 38 -/
def espalierlaw04_has.l0 : Nat → ByteArray → Int → Int → Option (Bool)
 | 0, _, _, _ => none
 | k + 1, x0, x1, x5 => if x5 < (x0.size : Int) then (if 0 ≤ x5 then (if (bt x0 x5) = x1 then (some true) else (espalierlaw04_has.l0 k x0 x1 (wrap64 (x5 + 1)))) else (none)) else (some false)
def espalierlaw04_has.f (k : Nat) (a0 : ByteArray) (a1 : Int) : Option (Bool) := espalierlaw04_has.l0 k a0 a1 0
theorem espalierlaw04_has.mono_l : ∀ k, (∀ y0 y1 y2, LeO (espalierlaw04_has.l0 k y0 y1 y2) (espalierlaw04_has.l0 (k + 1) y0 y1 y2))
 | 0 => fun _ _ _ r h => by simp [espalierlaw04_has.l0] at h
 | k + 1 => by
  have ih0 := espalierlaw04_has.mono_l k
  ·intro y0 y1 y2
   unfold espalierlaw04_has.l0
   repeat' first
   | (with_reducible exact ih0 _ _ _)
   | (with_reducible exact LeO.refl _)
   | (with_reducible exact LeO.none _)
   | (with_reducible refine LeO.ite ?_ ?_)
   | (with_reducible refine LeO.bind ?_ (fun _ => ?_))
   | exact ih0 _ _ _
   | exact LeO.none _
   | refine LeO.ite ?_ ?_
   | refine LeO.bind ?_ (fun _ => ?_)
theorem espalierlaw04_has.mono : ∀ a0 a1 k, LeO (espalierlaw04_has.f k a0 a1) (espalierlaw04_has.f (k + 1) a0 a1) := by
 intro a0 a1 k
 have ih0 := espalierlaw04_has.mono_l k
 unfold espalierlaw04_has.f
 repeat' first
   | (with_reducible exact ih0 _ _ _)
   | (with_reducible exact LeO.refl _)
   | (with_reducible exact LeO.none _)
   | (with_reducible refine LeO.ite ?_ ?_)
   | (with_reducible refine LeO.bind ?_ (fun _ => ?_))
   | exact ih0 _ _ _
   | exact LeO.none _
   | refine LeO.ite ?_ ?_
   | refine LeO.bind ?_ (fun _ => ?_)
set_option maxHeartbeats 8000000 in
set_option maxRecDepth 100000 in
theorem espalierlaw04_has.calls (k : Nat) (a0 : ByteArray) (a1 : Int) (r : Bool) (w : World) (h : espalierlaw04_has.f k a0 a1 = some r) :
  Calls Tryz.prog 38 #[.string a0, .int .u8 a1] w fun e w' => e = .returned (.bool r) ∧ Drawn0 w w' := by
 have H : (espalierlaw04_has.l0 k a0 a1 0) = some r := h
 clear h
 have H' := Aside0.mk H
 clear H
 go_enter Tryz.func38, Tryz.ntmps38
 go_wp2
 go_loopg [5] k (fun kq v5 w' => ∃ (x5_1 : Int), v5 = .int .i64 x5_1 ∧ Aside0 (espalierlaw04_has.l0 kq a0 a1 x5_1 = some r) ∧ Aside0 (kq ≤ k) ∧ Drawn0 w w')
 case atStart => exact ⟨(0), (by first | rfl | (simp; done) | (simp [*]; done)), H', ⟨Nat.le_refl _⟩, by repeat (first | exact Drawn0.refl _ | apply Drawn0.step)⟩
 case round =>
  clear H'
  try clear p2
  obtain ⟨x5_1, rfl, HA, HK1, ⟨m1, rfl⟩⟩ := hrel
  cases gk with
  | zero => exact absurd HA.out (by simp [espalierlaw04_has.l0])
  | succ k1 =>
   have H := HA.out
   clear HA
   simp only [espalierlaw04_has.l0] at H
   by_cases c3 : x5_1 < (a0.size : Int)
   ·rw [if_pos c3] at H
    have c3b0 : decide (x5_1 < (a0.size : Int)) = true := decide_eq_true c3
    clear c3
    by_cases c4 : 0 ≤ x5_1
    ·rw [if_pos c4] at H
     have c4b0 : decide (0 ≤ x5_1) = true := decide_eq_true c4
     clear c4
     by_cases c6 : (bt a0 x5_1) = a1
     ·rw [if_pos c6] at H
      have c6b0 := beq_iff_eq.mpr c6
      have c6b1 := bne_eq_false_iff_eq.mpr c6
      clear c6
      obtain rfl := Option.some.inj H
      have p5 : 0 ≤ (x5_1 : Int) := of_decide_eq_true (by first | (with_reducible assumption) | assumption)
      have q5 : x5_1 < (a0.size : Int) := of_decide_eq_true (by first | (with_reducible assumption) | assumption)
      have hx5 := bt_at a0 x5_1
      replace p5 := eq_true p5
      replace q5 := eq_true q5
      go_wp2
      go_ret
      exact ⟨by first | rfl | (simp; done) | (simp [*]; done), by repeat (first | exact Drawn0.refl _ | apply Drawn0.step)⟩
     ·rw [if_neg c6] at H
      have c6b0 := beq_eq_false_iff_ne.mpr c6
      have c6b1 := bne_iff_ne.mpr c6
      have H' := Aside0.mk H
      clear H
      have p5 : 0 ≤ (x5_1 : Int) := of_decide_eq_true (by first | (with_reducible assumption) | assumption)
      have q5 : x5_1 < (a0.size : Int) := of_decide_eq_true (by first | (with_reducible assumption) | assumption)
      have hx5 := bt_at a0 x5_1
      replace p5 := eq_true p5
      replace q5 := eq_true q5
      go_wp2
      go_roundg k1
      case measure => have := HK1.out; omega
      case rel => exact ⟨(wrap64 (x5_1 + 1)), (by first | rfl | (simp; done) | (simp [*]; done)), H', ⟨by have := HK1.out; omega⟩, by repeat (first | exact Drawn0.refl _ | apply Drawn0.step)⟩
    ·rw [if_neg c4] at H
     exact absurd H (by simp)
   ·rw [if_neg c3] at H
    have c3b0 : decide (x5_1 < (a0.size : Int)) = false := decide_eq_false c3
    clear c3
    obtain rfl := Option.some.inj H
    go_wp2
    go_ret
    exact ⟨by first | rfl | (simp; done) | (simp [*]; done), by repeat (first | exact Drawn0.refl _ | apply Drawn0.step)⟩

-- NOT PRINTED: function 22 (espalierlaw04_loose)

-- NOT PRINTED: function 8 (espalierlaw04_MarkupLoose)

end Go.Proofs.YtealmfcimoomlaaGreatDoor.PA

/- espalierlaw04.MarkupBack: the walk. -/
namespace Go.Proofs.YtealmfcimoomlaaGreatDoor.PA
open Go.RowKit Go.Proofs.YtealmfcimoomlaaGreatDoorW.PrintWords Go.Proofs.YtealmfcimoomlaaGreatDoorW.PrintLast Go.Proofs.YtealmfcimoomlaaGreatDoorW.PrintMore
set_option linter.unusedVariables false
set_option linter.unusedSimpArgs false
/-- What the law asks. -/
structure BackAsks (k : Nat) (f : List TreeS) (r : Bool) : Prop where
  yes : r = true
  cf : espalierlaw04_Copied.f f
  ways : ∃ s e n g, markup_Print.f k f = some (s, e) ∧ markup_Normal.f k f = some (n, g) ∧
    ((e ≠ 0 ∧ s = (⟨#[]⟩ : ByteArray) ∧ g = 0) ∨ (e ≠ 0 ∧ s = (⟨#[]⟩ : ByteArray) ∧ g ≠ 0 ∧ n = []) ∨ (e = 0 ∧ g ≠ 0 ∧ n = []) ∨
     (e = 0 ∧ g = 0 ∧ parseF s = (n, 0, 0) ∧ markup_Same.f k n n = some true ∧ espalierlaw04_normal.f k n = some true ∧ markup_Print.f k n = some (s, 0)))
set_option maxHeartbeats 16000000 in
set_option maxRecDepth 100000 in
theorem espalierlaw04_MarkupBack.calls (k : Nat) (A0 : Option Addr) (c0 : Nat) (f : List S35) (r : Bool) (w : World) (hr0 : Kd.C k35 w A0 f.length f) (hc0 : f.length ≤ c0) (h : BackAsks k f r) (hG : Glob w := by first | exact Glob.step HG.out (by repeat (first | (with_reducible first | exact HB.out | apply below_alloc | apply pw_below_drewN | apply below_drew1) | exact HB.out | (refine below_set ?_ (Aside0.out (by assumption))))) | exact HG.out | assumption) (hG2 : Glob2 w := by first | exact Glob2.step HG2.out (by repeat (first | (with_reducible first | exact HB.out | apply below_alloc | apply pw_below_drewN | apply below_drew1) | exact HB.out | (refine below_set ?_ (Aside0.out (by assumption))))) | exact HG2.out | assumption) (hG3 : Glob3 w := by first | exact Glob3.step HG3.out (by repeat (first | (with_reducible first | exact HB.out | apply below_alloc | apply pw_below_drewN | apply below_drew1) | exact HB.out | (refine below_set ?_ (Aside0.out (by assumption))))) | exact HG3.out | assumption) :
    Calls Tryz.prog 7 #[.slice A0 f.length c0] w fun e w' => e = .returned (.bool r) ∧ Below w.heap.size w w' := by
  obtain ⟨rfl, cf, s, e, n, g, hp, hn, hw⟩ := h
  have E0 : Env w.heap.size w := ⟨w, rfl, hG, hG2, hG3, Below.refl _ _⟩
  have HE0 := Aside0.mk E0
  have CL := Aside0.mk (lives_calls w E0)
  have HF := Aside0.mk hr0
  have HFC := Aside0.mk hc0
  have HCF := Aside0.mk cf
  have HPR := Aside0.mk hp
  have HNO := Aside0.mk hn
  have HWA := Aside0.mk hw
  clear hG hG2 hG3 E0 hr0 hc0 cf hp hn hw
  go_enter Tryz.func7, Tryz.ntmps7
  go_wp2_with (go_at_call 13; refine CL.out.mono ?_; rintro x w1 ⟨rfl, hB1⟩; have HB1 := Aside0.mk hB1; clear hB1 CL)
  have HP := Aside0.mk (espalierlaw04_Copied.calls A0 c0 f w1 (Kd.C_below HF.out HB1.out) HFC.out HCF.out)
  go_wp2_with (go_at_call 19; refine HP.out.mono ?_)
  rintro x w2 ⟨v1, rfl, hR, hB2⟩
  obtain ⟨Ai, ci, rfl⟩ := Kd.R_slice hR
  have HI := Aside0.mk ((Kd.R_reads' hR).2)
  have HB2 := Aside0.mk (HB1.out.trans (hB2.mono HB1.out.size))
  clear hR hB2 HP HB1
  have HP := Aside0.mk (markup_Print.calls k Ai ci f s e w2 HI.out.2 HI.out.1 HPR.out (HE0.out.step HB2.out).g1)
  go_wp2_with (go_at_call 17; refine HP.out.mono ?_; rintro x w3 ⟨rfl, hB3⟩; have HB3 := Aside0.mk (HB2.out.trans (hB3.mono HB2.out.size)); clear HP hB3 HI HB2)
  have HP := Aside0.mk (espalierlaw04_Copied.calls A0 c0 f w3 (Kd.C_below HF.out HB3.out) HFC.out HCF.out)
  go_wp2_with (go_at_call 19; refine HP.out.mono ?_)
  rintro x w4 ⟨v2, rfl, hR, hB4⟩
  obtain ⟨Aj, cj, rfl⟩ := Kd.R_slice hR
  have HI := Aside0.mk ((Kd.R_reads' hR).2)
  have HB4 := Aside0.mk (HB3.out.trans (hB4.mono HB3.out.size))
  clear hR hB4 HP HB3
  have HP := Aside0.mk (markup_Normal.calls k Aj cj f n g w4 HI.out.2 HI.out.1 HNO.out (HE0.out.step HB4.out).g1)
  go_wp2_with (go_at_call 21; refine HP.out.mono ?_)
  rintro x w5 ⟨v5, rfl, hR, hB5⟩
  obtain ⟨An, cn, rfl⟩ := Kd.R_slice hR
  have HN := Aside0.mk ((Kd.R_reads' hR).2)
  have HB5 := Aside0.mk (HB4.out.trans (hB5.mono HB4.out.size))
  clear hR hB5 HP HB4 HI
  rcases HWA.out with ⟨h1, rfl, rfl⟩ | ⟨h1, rfl, h2, rfl⟩ | ⟨rfl, h2, rfl⟩ | ⟨rfl, rfl, h3, h4, h5, h6⟩
  · have f0 : (e != 0) = true := bne_iff_ne.mpr h1
    have f1 : (e == 0) = false := beq_eq_false_iff_ne.mpr h1
    clear h1 HWA
    go_wp2
    go_ret
    exact ⟨rfl, HB5.out⟩
  · have f0 : (e != 0) = true := bne_iff_ne.mpr h1
    have f1 : (e == 0) = false := beq_eq_false_iff_ne.mpr h1
    have f2 : (g == 0) = false := beq_eq_false_iff_ne.mpr h2
    clear h1 h2 HWA
    go_wp2
    go_ret
    exact ⟨rfl, HB5.out⟩
  · have f1 : (g != 0) = true := bne_iff_ne.mpr h2
    have f2 : (g == 0) = false := beq_eq_false_iff_ne.mpr h2
    clear h2 HWA
    go_wp2
    go_ret
    exact ⟨rfl, HB5.out⟩
  · have H3 := Aside0.mk h3
    have H4 := Aside0.mk h4
    have H5 := Aside0.mk h5
    have H6 := Aside0.mk h6
    clear h3 h4 h5 h6 HWA
    have hpp := Parse_calls s w5 (HE0.out.step HB5.out).at_
    rw [H3.out] at hpp
    have HP := Aside0.mk hpp
    clear hpp
    go_wp2_with (go_at_call 10; refine HP.out.mono ?_; rintro x w6 ⟨v, rfl, hR, hB6⟩; obtain ⟨A6, c6, rfl⟩ := Kd.R_slice hR; have HD6 := Aside0.mk ((Kd.R_reads' hR).2); have HN6 := Aside0.mk (And.intro HN.out.1 (Kd.C_below HN.out.2 hB6)); have HB6 := Aside0.mk (HB5.out.trans (hB6.mono HB5.out.size)); clear hR hB6 HP HN HB5)
    have HP := Aside0.mk (markup_Print.calls k An cn n s 0 w6 HN6.out.2 HN6.out.1 H6.out (HE0.out.step HB6.out).g1)
    go_wp2_with (go_at_call 17; refine HP.out.mono ?_; rintro x w7 ⟨rfl, hB7⟩; have HD7 := Aside0.mk (And.intro HD6.out.1 (Kd.C_below HD6.out.2 hB7)); have HN7 := Aside0.mk (And.intro HN6.out.1 (Kd.C_below HN6.out.2 hB7)); have HB7 := Aside0.mk (HB6.out.trans (hB7.mono HB6.out.size)); clear hB7 HP HN6 HB6 HD6)
    have HP := Aside0.mk (markup_Same.calls k A6 c6 n An cn n true w7 HD7.out.2 HD7.out.1 HN7.out.2 HN7.out.1 H4.out)
    go_wp2_with (go_at_call 18; refine HP.out.mono ?_; rintro x w8 ⟨rfl, hB8⟩; have HN8 := Aside0.mk (And.intro HN7.out.1 (Kd.C_below HN7.out.2 hB8)); have HB8 := Aside0.mk (HB7.out.trans (hB8.mono HB7.out.size)); clear hB8 HP HN7 HB7)
    have HP := Aside0.mk (espalierlaw04_normal.calls k An cn n true w8 HN8.out.2 HN8.out.1 H5.out)
    go_wp2_with (go_at_call 14; refine HP.out.mono ?_; rintro x w9 ⟨rfl, hB9⟩; have hB9 := hB9.below; have HB9 := Aside0.mk (HB8.out.trans (hB9.mono HB8.out.size)); clear hB9 HP)
    go_ret
    exact ⟨rfl, HB9.out⟩
end Go.Proofs.YtealmfcimoomlaaGreatDoor.PA
