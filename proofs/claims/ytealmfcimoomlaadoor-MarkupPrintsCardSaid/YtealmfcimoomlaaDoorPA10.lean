-- Written by a program of this session (wip/tools/xprint.py: the kit's print, with given functions). Not trusted: Lean checks it.
-- squeezed
import Derived.Test.YtealmfcimoomlaaDoorPA0
import Derived.Test.YtealmfcimoomlaaDoorPA7
import Derived.Test.YtealmfcimoomlaaDoorPA9
namespace Go.Proofs.YtealmfcimoomlaaDoor.PA
open Go.RowKit Go.Proofs.YtealmfcimoomlaaDoorW.PrintWords Go.Proofs.YtealmfcimoomlaaDoorW.PrintLast Go.Proofs.YtealmfcimoomlaaDoorW.PrintMore
attribute [local go_sem] max2_int min2_int max_two min_two max_three min_three max_four min_four   -- for this text's walks alone
set_option linter.unusedVariables false
set_option linter.unusedSimpArgs false

/-! ### espalierref04_Can: function 19 -/
def espalierref04_Can.l0 : Nat → List (S36) → Int → Int → Option (Int)
 | 0, _, _, _ => none
 | k + 1, x0, x3, x4 => if x4 < (x0.length : Int) then (if 0 ≤ x4 then ((espalierref03_Check.f k ((rd_T36 x0 x4).f0) ((rd_T36 x0 x4).f1) ((rd_T36 x0 x4).f2) ((rd_T36 x0 x4).f3) ((rd_T36 x0 x4).f4)).bind fun t186 => (if t186 = 0 then ((espalierref04_Size.f k ((rd_T36 x0 x4).f0) ((rd_T36 x0 x4).f1) ((rd_T36 x0 x4).f2) ((rd_T36 x0 x4).f3) ((rd_T36 x0 x4).f4)).bind fun t188 => (if (wrap64 (x3 + t188)) > 4096 then (espalierref04_Can.l0 k x0 4097 (wrap64 (x4 + 1))) else (espalierref04_Can.l0 k x0 (wrap64 (x3 + t188)) (wrap64 (x4 + 1))))) else (some t186))) else (none)) else (if x3 > 4096 then (some 2) else (some 0))
def espalierref04_Can.f (k : Nat) (l0 : List (S36)) : Option (Int) := espalierref04_Can.l0 k l0 0 0
theorem espalierref04_Can.mono_l : ∀ k, (∀ y0 y1 y2, LeO (espalierref04_Can.l0 k y0 y1 y2) (espalierref04_Can.l0 (k + 1) y0 y1 y2))
 | 0 => fun _ _ _ r h => by simp [espalierref04_Can.l0] at h
 | k + 1 => by
  have ih0 := espalierref04_Can.mono_l k
  ·intro y0 y1 y2
   unfold espalierref04_Can.l0
   repeat' first
   | (with_reducible exact ih0 _ _ _)
   | (with_reducible exact espalierref03_Check.mono _ _ _ _ _ _)
   | (with_reducible exact espalierref04_Size.mono _ _ _ _ _ _)
   | (with_reducible exact LeO.refl _)
   | (with_reducible exact LeO.none _)
   | (with_reducible refine LeO.ite ?_ ?_)
   | (with_reducible refine LeO.bind ?_ (fun _ => ?_))
   | exact ih0 _ _ _
   | exact espalierref03_Check.mono _ _ _ _ _ _
   | exact espalierref04_Size.mono _ _ _ _ _ _
   | exact LeO.none _
   | refine LeO.ite ?_ ?_
   | refine LeO.bind ?_ (fun _ => ?_)
theorem espalierref04_Can.mono : ∀ a0 k, LeO (espalierref04_Can.f k a0) (espalierref04_Can.f (k + 1) a0) := by
 intro a0 k
 have ih0 := espalierref04_Can.mono_l k
 unfold espalierref04_Can.f
 repeat' first
   | (with_reducible exact ih0 _ _ _)
   | (with_reducible exact espalierref03_Check.mono _ _ _ _ _ _)
   | (with_reducible exact espalierref04_Size.mono _ _ _ _ _ _)
   | (with_reducible exact LeO.refl _)
   | (with_reducible exact LeO.none _)
   | (with_reducible refine LeO.ite ?_ ?_)
   | (with_reducible refine LeO.bind ?_ (fun _ => ?_))
   | exact ih0 _ _ _
   | exact espalierref03_Check.mono _ _ _ _ _ _
   | exact espalierref04_Size.mono _ _ _ _ _ _
   | exact LeO.none _
   | refine LeO.ite ?_ ?_
   | refine LeO.bind ?_ (fun _ => ?_)
set_option maxHeartbeats 8000000 in
set_option maxRecDepth 100000 in
theorem espalierref04_Can.calls (k : Nat) (A0 : Option Addr) (c0 : Nat) (l0 : List (S36)) (r : Int) (w : World) (hr0 : Kd.C k36 w A0 l0.length l0) (hc0 : l0.length ≤ c0) (h : espalierref04_Can.f k l0 = some r) :
  Calls Tryd.prog 19 #[.slice A0 l0.length c0] w fun e w' => e = .returned (.int .i64 r) ∧ Below w.heap.size w w' := by
 have hu36 := Tryd.underlying36
 have HR0 := Aside0.mk hr0
 have HC0 := Aside0.mk hc0
 clear hr0 hc0
 have HB := Aside0.mk (Below.refl w.heap.size w)
 have H : (espalierref04_Can.l0 k l0 0 0) = some r := h
 clear h
 have H' := Aside0.mk H
 clear H
 go_enter Tryd.func19, Tryd.ntmps19
 go_wp2
 go_loopg [3, 4] k (fun kq v3 v4 w' => ∃ (x3_1 : Int) (x4_1 : Int), v3 = .int .i64 x3_1 ∧ v4 = .int .i64 x4_1 ∧ Aside0 (espalierref04_Can.l0 kq l0 x3_1 x4_1 = some r) ∧ Aside0 (kq ≤ k) ∧ Aside0 (Below w.heap.size w w'))
 case atStart => exact ⟨(0), (0), (by first | rfl | (simp; done) | (simp [*]; done)), (by first | rfl | (simp; done) | (simp [*]; done)), H', ⟨Nat.le_refl _⟩, ⟨hb_⟩⟩
 case round =>
  clear H'
  try clear c1
  obtain ⟨x3_1, x4_1, rfl, rfl, HA, HK1, HB⟩ := hrel
  cases gk with
  | zero => exact absurd HA.out (by simp [espalierref04_Can.l0])
  | succ k1 =>
   have H := HA.out
   clear HA
   simp only [espalierref04_Can.l0] at H
   by_cases c2 : x4_1 < (l0.length : Int)
   ·rw [if_pos c2] at H
    have c2b0 : decide (x4_1 < (l0.length : Int)) = true := decide_eq_true c2
    clear c2
    by_cases c3 : 0 ≤ x4_1
    ·rw [if_pos c3] at H
     have c3b0 : decide (0 ≤ x4_1) = true := decide_eq_true c3
     clear c3
     replace H := Option.bind_eq_some_iff.mp H
     obtain ⟨t186, A40, H⟩ := H
     replace H : (if t186 = 0 then ((espalierref04_Size.f k1 ((rd_T36 l0 x4_1).f0) ((rd_T36 l0 x4_1).f1) ((rd_T36 l0 x4_1).f2) ((rd_T36 l0 x4_1).f3) ((rd_T36 l0 x4_1).f4)).bind fun t188 => (if (wrap64 (x3_1 + t188)) > 4096 then (espalierref04_Can.l0 k1 l0 4097 (wrap64 (x4_1 + 1))) else (espalierref04_Can.l0 k1 l0 (wrap64 (x3_1 + t188)) (wrap64 (x4_1 + 1))))) else (some t186)) = some r := H
     have A4 := Aside0.mk A40
     clear A40
     by_cases c5 : t186 = 0
     ·rw [if_pos c5] at H
      have c5b0 := beq_iff_eq.mpr c5
      have c5b1 := bne_eq_false_iff_eq.mpr c5
      clear c5
      replace H := Option.bind_eq_some_iff.mp H
      obtain ⟨t188, A60, H⟩ := H
      replace H : (if (wrap64 (x3_1 + t188)) > 4096 then (espalierref04_Can.l0 k1 l0 4097 (wrap64 (x4_1 + 1))) else (espalierref04_Can.l0 k1 l0 (wrap64 (x3_1 + t188)) (wrap64 (x4_1 + 1)))) = some r := H
      have A6 := Aside0.mk A60
      clear A60
      by_cases c7 : (wrap64 (x3_1 + t188)) > 4096
      ·rw [if_pos c7] at H
       have c7b0 : decide (4096 < (wrap64 (x3_1 + t188))) = true := decide_eq_true c7
       clear c7
       have H' := Aside0.mk H
       clear H
       have p185 : 0 ≤ (x4_1 : Int) := of_decide_eq_true (by first | (with_reducible assumption) | assumption)
       have q185 : x4_1 < (l0.length : Int) := of_decide_eq_true (by first | (with_reducible assumption) | assumption)
       obtain ⟨ad185, A185_2, c185_2, A185_4, c185_4, e185, hx185_0, hx185_1, hx185_2, hx185_3, hx185_4, hl185_2, hi185_2, hl185_4, hi185_4⟩ := at_T36 HR0.out x4_1 p185 q185
       cases e185
       replace hx185_0 := hc_ HB.out hx185_0
       replace hx185_1 := hc_ HB.out hx185_1
       replace hx185_2 := hc_ HB.out hx185_2
       replace hx185_3 := hc_ HB.out hx185_3
       replace hx185_4 := hc_ HB.out hx185_4
       have HR185_2 := Aside0.mk hi185_2
       have HC185_2 := Aside0.mk hl185_2
       clear hi185_2 hl185_2
       have HR185_4 := Aside0.mk hi185_4
       have HC185_4 := Aside0.mk hl185_4
       clear hi185_4 hl185_4
       replace p185 := eq_true p185
       replace q185 := eq_true q185
       go_wp2_with (first | ((with_reducible refine gate_callee (f := 35) rfl ?_); refine goesL_ (some 16) rfl rfl Tryd.func35 (by kernel_rfl) rfl #[.agg #[.int .i64 ((rd_T36 l0 x4_1).f0), .string ((rd_T36 l0 x4_1).f1), .slice A185_2 ((rd_T36 l0 x4_1).f2).length c185_2, .string ((rd_T36 l0 x4_1).f3), .slice A185_4 ((rd_T36 l0 x4_1).f4).length c185_4]] rfl rf_ ?_; (with_reducible refine (espalierref03_Check.calls k1 ((rd_T36 l0 x4_1).f0) ((rd_T36 l0 x4_1).f1) _ _ ((rd_T36 l0 x4_1).f2) ((rd_T36 l0 x4_1).f3) _ _ ((rd_T36 l0 x4_1).f4) t186 _ ?side1 ?side2 ?side3 ?side4 A4.out).mono ?_); (case side1 => exact sc_ (Kd.C_below HR185_2.out HB.out)); (case side2 => exact HC185_2.out); (case side3 => exact sc_ (Kd.C_below HR185_4.out HB.out)); (case side4 => exact HC185_4.out); rintro e w8 ⟨rfl, hb⟩; refine ⟨_, rfl, ?_⟩; replace HB := Aside0.mk (below_step hb_ hb); (try clear hb); (try clear hb2); (try clear hk); (try clear hi); have p187 : 0 ≤ (x4_1 : Int) := of_decide_eq_true (by first | (with_reducible assumption) | assumption); have q187 : x4_1 < (l0.length : Int) := of_decide_eq_true (by first | (with_reducible assumption) | assumption); obtain ⟨ad187, A187_2, c187_2, A187_4, c187_4, e187, hx187_0, hx187_1, hx187_2, hx187_3, hx187_4, hl187_2, hi187_2, hl187_4, hi187_4⟩ := at_T36 HR0.out x4_1 p187 q187; obtain rfl : ad185 = ad187 := (by injection e187); replace hx187_0 := hc_ HB.out hx187_0; replace hx187_1 := hc_ HB.out hx187_1; replace hx187_2 := hc_ HB.out hx187_2; replace hx187_3 := hc_ HB.out hx187_3; replace hx187_4 := hc_ HB.out hx187_4; have HR187_2 := Aside0.mk hi187_2; have HC187_2 := Aside0.mk hl187_2; clear hi187_2 hl187_2; have HR187_4 := Aside0.mk hi187_4; have HC187_4 := Aside0.mk hl187_4; clear hi187_4 hl187_4; replace p187 := eq_true p187; replace q187 := eq_true q187) | ((with_reducible refine gate_callee (f := 36) rfl ?_); refine goesL_ (some 25) rfl rfl Tryd.func36 (by kernel_rfl) rfl #[.agg #[.int .i64 ((rd_T36 l0 x4_1).f0), .string ((rd_T36 l0 x4_1).f1), .slice A187_2 ((rd_T36 l0 x4_1).f2).length c187_2, .string ((rd_T36 l0 x4_1).f3), .slice A187_4 ((rd_T36 l0 x4_1).f4).length c187_4]] rfl rf_ ?_; (with_reducible refine (espalierref04_Size.calls k1 ((rd_T36 l0 x4_1).f0) ((rd_T36 l0 x4_1).f1) _ _ ((rd_T36 l0 x4_1).f2) ((rd_T36 l0 x4_1).f3) _ _ ((rd_T36 l0 x4_1).f4) t188 _ ?side1 ?side2 ?side3 ?side4 A6.out).mono ?_); (case side1 => exact sc_ (Kd.C_below HR187_2.out HB.out)); (case side2 => exact HC187_2.out); (case side3 => exact sc_ (Kd.C_below HR187_4.out HB.out)); (case side4 => exact HC187_4.out); rintro e w9 ⟨rfl, hb⟩; refine ⟨_, rfl, ?_⟩; replace HB := Aside0.mk (below_step hb_ hb); (try clear hb); (try clear hb2); (try clear hk); (try clear hi)))
       go_roundg k1
       case measure => have := HK1.out; omega
       case rel => exact ⟨(4097), (wrap64 (x4_1 + 1)), (by first | rfl | (simp; done) | (simp [*]; done)), (by first | rfl | (simp; done) | (simp [*]; done)), H', ⟨by have := HK1.out; omega⟩, ⟨hb_⟩⟩
      ·rw [if_neg c7] at H
       have c7b0 : decide (4096 < (wrap64 (x3_1 + t188))) = false := decide_eq_false c7
       clear c7
       have H' := Aside0.mk H
       clear H
       have p185 : 0 ≤ (x4_1 : Int) := of_decide_eq_true (by first | (with_reducible assumption) | assumption)
       have q185 : x4_1 < (l0.length : Int) := of_decide_eq_true (by first | (with_reducible assumption) | assumption)
       obtain ⟨ad185, A185_2, c185_2, A185_4, c185_4, e185, hx185_0, hx185_1, hx185_2, hx185_3, hx185_4, hl185_2, hi185_2, hl185_4, hi185_4⟩ := at_T36 HR0.out x4_1 p185 q185
       cases e185
       replace hx185_0 := hc_ HB.out hx185_0
       replace hx185_1 := hc_ HB.out hx185_1
       replace hx185_2 := hc_ HB.out hx185_2
       replace hx185_3 := hc_ HB.out hx185_3
       replace hx185_4 := hc_ HB.out hx185_4
       have HR185_2 := Aside0.mk hi185_2
       have HC185_2 := Aside0.mk hl185_2
       clear hi185_2 hl185_2
       have HR185_4 := Aside0.mk hi185_4
       have HC185_4 := Aside0.mk hl185_4
       clear hi185_4 hl185_4
       replace p185 := eq_true p185
       replace q185 := eq_true q185
       go_wp2_with (first | ((with_reducible refine gate_callee (f := 35) rfl ?_); refine goesL_ (some 16) rfl rfl Tryd.func35 (by kernel_rfl) rfl #[.agg #[.int .i64 ((rd_T36 l0 x4_1).f0), .string ((rd_T36 l0 x4_1).f1), .slice A185_2 ((rd_T36 l0 x4_1).f2).length c185_2, .string ((rd_T36 l0 x4_1).f3), .slice A185_4 ((rd_T36 l0 x4_1).f4).length c185_4]] rfl rf_ ?_; (with_reducible refine (espalierref03_Check.calls k1 ((rd_T36 l0 x4_1).f0) ((rd_T36 l0 x4_1).f1) _ _ ((rd_T36 l0 x4_1).f2) ((rd_T36 l0 x4_1).f3) _ _ ((rd_T36 l0 x4_1).f4) t186 _ ?side1 ?side2 ?side3 ?side4 A4.out).mono ?_); (case side1 => exact sc_ (Kd.C_below HR185_2.out HB.out)); (case side2 => exact HC185_2.out); (case side3 => exact sc_ (Kd.C_below HR185_4.out HB.out)); (case side4 => exact HC185_4.out); rintro e w10 ⟨rfl, hb⟩; refine ⟨_, rfl, ?_⟩; replace HB := Aside0.mk (below_step hb_ hb); (try clear hb); (try clear hb2); (try clear hk); (try clear hi); have p187 : 0 ≤ (x4_1 : Int) := of_decide_eq_true (by first | (with_reducible assumption) | assumption); have q187 : x4_1 < (l0.length : Int) := of_decide_eq_true (by first | (with_reducible assumption) | assumption); obtain ⟨ad187, A187_2, c187_2, A187_4, c187_4, e187, hx187_0, hx187_1, hx187_2, hx187_3, hx187_4, hl187_2, hi187_2, hl187_4, hi187_4⟩ := at_T36 HR0.out x4_1 p187 q187; obtain rfl : ad185 = ad187 := (by injection e187); replace hx187_0 := hc_ HB.out hx187_0; replace hx187_1 := hc_ HB.out hx187_1; replace hx187_2 := hc_ HB.out hx187_2; replace hx187_3 := hc_ HB.out hx187_3; replace hx187_4 := hc_ HB.out hx187_4; have HR187_2 := Aside0.mk hi187_2; have HC187_2 := Aside0.mk hl187_2; clear hi187_2 hl187_2; have HR187_4 := Aside0.mk hi187_4; have HC187_4 := Aside0.mk hl187_4; clear hi187_4 hl187_4; replace p187 := eq_true p187; replace q187 := eq_true q187) | ((with_reducible refine gate_callee (f := 36) rfl ?_); refine goesL_ (some 25) rfl rfl Tryd.func36 (by kernel_rfl) rfl #[.agg #[.int .i64 ((rd_T36 l0 x4_1).f0), .string ((rd_T36 l0 x4_1).f1), .slice A187_2 ((rd_T36 l0 x4_1).f2).length c187_2, .string ((rd_T36 l0 x4_1).f3), .slice A187_4 ((rd_T36 l0 x4_1).f4).length c187_4]] rfl rf_ ?_; (with_reducible refine (espalierref04_Size.calls k1 ((rd_T36 l0 x4_1).f0) ((rd_T36 l0 x4_1).f1) _ _ ((rd_T36 l0 x4_1).f2) ((rd_T36 l0 x4_1).f3) _ _ ((rd_T36 l0 x4_1).f4) t188 _ ?side1 ?side2 ?side3 ?side4 A6.out).mono ?_); (case side1 => exact sc_ (Kd.C_below HR187_2.out HB.out)); (case side2 => exact HC187_2.out); (case side3 => exact sc_ (Kd.C_below HR187_4.out HB.out)); (case side4 => exact HC187_4.out); rintro e w11 ⟨rfl, hb⟩; refine ⟨_, rfl, ?_⟩; replace HB := Aside0.mk (below_step hb_ hb); (try clear hb); (try clear hb2); (try clear hk); (try clear hi)))
       go_roundg k1
       case measure => have := HK1.out; omega
       case rel => exact ⟨(wrap64 (x3_1 + t188)), (wrap64 (x4_1 + 1)), (by first | rfl | (simp; done) | (simp [*]; done)), (by first | rfl | (simp; done) | (simp [*]; done)), H', ⟨by have := HK1.out; omega⟩, ⟨hb_⟩⟩
     ·rw [if_neg c5] at H
      have c5b0 := beq_eq_false_iff_ne.mpr c5
      have c5b1 := bne_iff_ne.mpr c5
      obtain rfl := Option.some.inj H
      have p185 : 0 ≤ (x4_1 : Int) := of_decide_eq_true (by first | (with_reducible assumption) | assumption)
      have q185 : x4_1 < (l0.length : Int) := of_decide_eq_true (by first | (with_reducible assumption) | assumption)
      obtain ⟨ad185, A185_2, c185_2, A185_4, c185_4, e185, hx185_0, hx185_1, hx185_2, hx185_3, hx185_4, hl185_2, hi185_2, hl185_4, hi185_4⟩ := at_T36 HR0.out x4_1 p185 q185
      cases e185
      replace hx185_0 := hc_ HB.out hx185_0
      replace hx185_1 := hc_ HB.out hx185_1
      replace hx185_2 := hc_ HB.out hx185_2
      replace hx185_3 := hc_ HB.out hx185_3
      replace hx185_4 := hc_ HB.out hx185_4
      have HR185_2 := Aside0.mk hi185_2
      have HC185_2 := Aside0.mk hl185_2
      clear hi185_2 hl185_2
      have HR185_4 := Aside0.mk hi185_4
      have HC185_4 := Aside0.mk hl185_4
      clear hi185_4 hl185_4
      replace p185 := eq_true p185
      replace q185 := eq_true q185
      go_wp2_with (first | ((with_reducible refine gate_callee (f := 35) rfl ?_); refine goesL_ (some 16) rfl rfl Tryd.func35 (by kernel_rfl) rfl #[.agg #[.int .i64 ((rd_T36 l0 x4_1).f0), .string ((rd_T36 l0 x4_1).f1), .slice A185_2 ((rd_T36 l0 x4_1).f2).length c185_2, .string ((rd_T36 l0 x4_1).f3), .slice A185_4 ((rd_T36 l0 x4_1).f4).length c185_4]] rfl rf_ ?_; (with_reducible refine (espalierref03_Check.calls k1 ((rd_T36 l0 x4_1).f0) ((rd_T36 l0 x4_1).f1) _ _ ((rd_T36 l0 x4_1).f2) ((rd_T36 l0 x4_1).f3) _ _ ((rd_T36 l0 x4_1).f4) t186 _ ?side1 ?side2 ?side3 ?side4 A4.out).mono ?_); (case side1 => exact sc_ (Kd.C_below HR185_2.out HB.out)); (case side2 => exact HC185_2.out); (case side3 => exact sc_ (Kd.C_below HR185_4.out HB.out)); (case side4 => exact HC185_4.out); rintro e w12 ⟨rfl, hb⟩; refine ⟨_, rfl, ?_⟩; replace HB := Aside0.mk (below_step hb_ hb); (try clear hb); (try clear hb2); (try clear hk); (try clear hi)))
      go_ret
      exact ⟨er_, hb_⟩
    ·rw [if_neg c3] at H
     exact absurd H (by simp)
   ·rw [if_neg c2] at H
    have c2b0 : decide (x4_1 < (l0.length : Int)) = false := decide_eq_false c2
    clear c2
    by_cases c13 : x3_1 > 4096
    ·rw [if_pos c13] at H
     have c13b0 : decide (4096 < x3_1) = true := decide_eq_true c13
     clear c13
     obtain rfl := Option.some.inj H
     go_wp2
     go_ret
     exact ⟨er_, hb_⟩
    ·rw [if_neg c13] at H
     have c13b0 : decide (4096 < x3_1) = false := decide_eq_false c13
     clear c13
     obtain rfl := Option.some.inj H
     go_wp2
     go_ret
     exact ⟨er_, hb_⟩

/-! ### espalierref02_escaped: function 51 -/
mutual
def espalierref02_escaped.j0 : Nat → Int → Bool → Bool → Option (ByteArray)
 | 0, _, _, _ => none
 | k + 1, x0, x1, x17 => if x17 = true then (some (⟨#[38, 113, 117, 111, 116, 59]⟩ : ByteArray)) else (if x1 = true then (espalierref02_escaped.j1 k x0 x1 (x0 == 9)) else (espalierref02_escaped.j1 k x0 x1 false))
def espalierref02_escaped.j1 : Nat → Int → Bool → Bool → Option (ByteArray)
 | 0, _, _, _ => none
 | k + 1, x0, x1, x23 => if x23 = true then (some (⟨#[38, 35, 57, 59]⟩ : ByteArray)) else (if x1 = true then (if x0 = 10 then (some (⟨#[38, 35, 49, 48, 59]⟩ : ByteArray)) else (some (⟨#[]⟩ : ByteArray))) else (some (⟨#[]⟩ : ByteArray)))
end
def espalierref02_escaped.f (k : Nat) (a0 : Int) (a1 : Bool) : Option (ByteArray) := if a0 = 38 then (some (⟨#[38, 97, 109, 112, 59]⟩ : ByteArray)) else (if a0 = 60 then (some (⟨#[38, 108, 116, 59]⟩ : ByteArray)) else (if a0 = 62 then (some (⟨#[38, 103, 116, 59]⟩ : ByteArray)) else (if a0 = 13 then (some (⟨#[38, 35, 49, 51, 59]⟩ : ByteArray)) else (if a1 = true then (espalierref02_escaped.j0 k a0 a1 (a0 == 34)) else (espalierref02_escaped.j0 k a0 a1 false)))))
theorem espalierref02_escaped.mono_l : ∀ k, (∀ y0 y1 y2, LeO (espalierref02_escaped.j0 k y0 y1 y2) (espalierref02_escaped.j0 (k + 1) y0 y1 y2)) ∧ (∀ y0 y1 y2, LeO (espalierref02_escaped.j1 k y0 y1 y2) (espalierref02_escaped.j1 (k + 1) y0 y1 y2))
 | 0 => ⟨fun _ _ _ r h => by simp [espalierref02_escaped.j0] at h, fun _ _ _ r h => by simp [espalierref02_escaped.j1] at h⟩
 | k + 1 => by
  obtain ⟨ih0, ih1⟩ := espalierref02_escaped.mono_l k
  refine ⟨?_, ?_⟩
  ·intro y0 y1 y2
   unfold espalierref02_escaped.j0
   repeat' first
   | (with_reducible exact ih0 _ _ _)
   | (with_reducible exact ih1 _ _ _)
   | (with_reducible exact LeO.refl _)
   | (with_reducible exact LeO.none _)
   | (with_reducible refine LeO.ite ?_ ?_)
   | (with_reducible refine LeO.bind ?_ (fun _ => ?_))
   | exact ih0 _ _ _
   | exact ih1 _ _ _
   | exact LeO.none _
   | refine LeO.ite ?_ ?_
   | refine LeO.bind ?_ (fun _ => ?_)
  ·intro y0 y1 y2
   unfold espalierref02_escaped.j1
   repeat' first
   | (with_reducible exact ih0 _ _ _)
   | (with_reducible exact ih1 _ _ _)
   | (with_reducible exact LeO.refl _)
   | (with_reducible exact LeO.none _)
   | (with_reducible refine LeO.ite ?_ ?_)
   | (with_reducible refine LeO.bind ?_ (fun _ => ?_))
   | exact ih0 _ _ _
   | exact ih1 _ _ _
   | exact LeO.none _
   | refine LeO.ite ?_ ?_
   | refine LeO.bind ?_ (fun _ => ?_)
theorem espalierref02_escaped.mono : ∀ a0 a1 k, LeO (espalierref02_escaped.f k a0 a1) (espalierref02_escaped.f (k + 1) a0 a1) := by
 intro a0 a1 k
 obtain ⟨ih0, ih1⟩ := espalierref02_escaped.mono_l k
 unfold espalierref02_escaped.f
 repeat' first
   | (with_reducible exact ih0 _ _ _)
   | (with_reducible exact ih1 _ _ _)
   | (with_reducible exact LeO.refl _)
   | (with_reducible exact LeO.none _)
   | (with_reducible refine LeO.ite ?_ ?_)
   | (with_reducible refine LeO.bind ?_ (fun _ => ?_))
   | exact ih0 _ _ _
   | exact ih1 _ _ _
   | exact LeO.none _
   | refine LeO.ite ?_ ?_
   | refine LeO.bind ?_ (fun _ => ?_)
set_option maxHeartbeats 8000000 in
set_option maxRecDepth 100000 in
theorem espalierref02_escaped.calls (k : Nat) (a0 : Int) (a1 : Bool) (r : ByteArray) (w : World) (h : espalierref02_escaped.f k a0 a1 = some r) :
  Calls Tryd.prog 51 #[.int .u8 a0, .bool a1] w fun e w' => e = .returned (.string r) ∧ Drawn0 w w' := by
 have H : (if a0 = 38 then (some (⟨#[38, 97, 109, 112, 59]⟩ : ByteArray)) else (if a0 = 60 then (some (⟨#[38, 108, 116, 59]⟩ : ByteArray)) else (if a0 = 62 then (some (⟨#[38, 103, 116, 59]⟩ : ByteArray)) else (if a0 = 13 then (some (⟨#[38, 35, 49, 51, 59]⟩ : ByteArray)) else (if a1 = true then (espalierref02_escaped.j0 k a0 a1 (a0 == 34)) else (espalierref02_escaped.j0 k a0 a1 false)))))) = some r := h
 clear h
 by_cases c3 : a0 = 38
 ·rw [if_pos c3] at H
  have c3b0 := beq_iff_eq.mpr c3
  have c3b1 := bne_eq_false_iff_eq.mpr c3
  clear c3
  obtain rfl := Option.some.inj H
  go_enter Tryd.func51, Tryd.ntmps51
  go_wp2
  go_ret
  exact ⟨by first | rfl | (simp; done) | (simp [*]; done), by repeat (first | exact Drawn0.refl _ | apply Drawn0.step)⟩
 ·rw [if_neg c3] at H
  have c3b0 := beq_eq_false_iff_ne.mpr c3
  have c3b1 := bne_iff_ne.mpr c3
  by_cases c4 : a0 = 60
  ·rw [if_pos c4] at H
   have c4b0 := beq_iff_eq.mpr c4
   have c4b1 := bne_eq_false_iff_eq.mpr c4
   clear c4
   obtain rfl := Option.some.inj H
   go_enter Tryd.func51, Tryd.ntmps51
   go_wp2
   go_ret
   exact ⟨by first | rfl | (simp; done) | (simp [*]; done), by repeat (first | exact Drawn0.refl _ | apply Drawn0.step)⟩
  ·rw [if_neg c4] at H
   have c4b0 := beq_eq_false_iff_ne.mpr c4
   have c4b1 := bne_iff_ne.mpr c4
   by_cases c5 : a0 = 62
   ·rw [if_pos c5] at H
    have c5b0 := beq_iff_eq.mpr c5
    have c5b1 := bne_eq_false_iff_eq.mpr c5
    clear c5
    obtain rfl := Option.some.inj H
    go_enter Tryd.func51, Tryd.ntmps51
    go_wp2
    go_ret
    exact ⟨by first | rfl | (simp; done) | (simp [*]; done), by repeat (first | exact Drawn0.refl _ | apply Drawn0.step)⟩
   ·rw [if_neg c5] at H
    have c5b0 := beq_eq_false_iff_ne.mpr c5
    have c5b1 := bne_iff_ne.mpr c5
    by_cases c6 : a0 = 13
    ·rw [if_pos c6] at H
     have c6b0 := beq_iff_eq.mpr c6
     have c6b1 := bne_eq_false_iff_eq.mpr c6
     clear c6
     obtain rfl := Option.some.inj H
     go_enter Tryd.func51, Tryd.ntmps51
     go_wp2
     go_ret
     exact ⟨by first | rfl | (simp; done) | (simp [*]; done), by repeat (first | exact Drawn0.refl _ | apply Drawn0.step)⟩
    ·rw [if_neg c6] at H
     have c6b0 := beq_eq_false_iff_ne.mpr c6
     have c6b1 := bne_iff_ne.mpr c6
     have HC7 := Aside0.mk H
     clear H
     go_enter Tryd.func51, Tryd.ntmps51
     go_upto_region 9 with (fail)
     go_cut [17] (fun v17 wc => ∃ (kq : Nat) (x17_6 : Bool), v17 = .bool x17_6 ∧ Aside0 (espalierref02_escaped.j0 kq a0 a1 x17_6 = some r) ∧ Aside0 (kq ≤ k) ∧ Drawn0 w wc)
     case first =>
      have H := HC7.out
      clear HC7
      by_cases c8 : a1 = true
      ·subst c8
       rw [if_pos rfl] at H
       have H' := Aside0.mk H
       clear H
       go_wp2
       go_meet
       case rel => exact ⟨_, ((a0 == 34)), (by first | rfl | (simp; done) | (simp [*]; done)), H', ⟨by first | omega | exact Nat.le_refl _⟩, by repeat (first | exact Drawn0.refl _ | apply Drawn0.step)⟩
      ·replace c8 := Bool.eq_false_iff.mpr c8
       subst c8
       rw [if_neg (show ¬ (false = true) by decide)] at H
       have H' := Aside0.mk H
       clear H
       go_wp2
       go_meet
       case rel => exact ⟨_, (false), (by first | rfl | (simp; done) | (simp [*]; done)), H', ⟨by first | omega | exact Nat.le_refl _⟩, by repeat (first | exact Drawn0.refl _ | apply Drawn0.step)⟩
     case rest =>
      clear HC7
      try clear p2
      try clear c3
      try clear c3b0
      try clear c3b1
      try clear c4
      try clear c4b0
      try clear c4b1
      try clear c5
      try clear c5b0
      try clear c5b1
      try clear c6
      try clear c6b0
      try clear c6b1
      try clear c8
      obtain ⟨kq, x17_6, rfl, HA, HJ6, ⟨mc6, rfl⟩⟩ := hcut
      cases kq with
      | zero => exact absurd HA.out (by simp [espalierref02_escaped.j0])
      | succ kj6 =>
       have H := HA.out
       clear HA
       simp only [espalierref02_escaped.j0] at H
       by_cases c9 : x17_6 = true
       ·subst c9
        rw [if_pos rfl] at H
        obtain rfl := Option.some.inj H
        go_wp2
        go_ret
        exact ⟨by first | rfl | (simp; done) | (simp [*]; done), by repeat (first | exact Drawn0.refl _ | apply Drawn0.step)⟩
       ·replace c9 := Bool.eq_false_iff.mpr c9
        subst c9
        rw [if_neg (show ¬ (false = true) by decide)] at H
        have HC10 := Aside0.mk H
        clear H
        go_upto_region 11 with (fail)
        go_cut [23] (fun v23 wc => ∃ (kq : Nat) (x23_9 : Bool), v23 = .bool x23_9 ∧ Aside0 (espalierref02_escaped.j1 kq a0 a1 x23_9 = some r) ∧ Aside0 (kq ≤ kj6) ∧ Drawn0 w wc)
        case first =>
         have H := HC10.out
         clear HC10
         by_cases c11 : a1 = true
         ·subst c11
          rw [if_pos rfl] at H
          have H' := Aside0.mk H
          clear H
          go_wp2
          go_meet
          case rel => exact ⟨_, ((a0 == 9)), (by first | rfl | (simp; done) | (simp [*]; done)), H', ⟨by have := HJ6.out; first | omega | exact Nat.le_refl _⟩, by repeat (first | exact Drawn0.refl _ | apply Drawn0.step)⟩
         ·replace c11 := Bool.eq_false_iff.mpr c11
          subst c11
          rw [if_neg (show ¬ (false = true) by decide)] at H
          have H' := Aside0.mk H
          clear H
          go_wp2
          go_meet
          case rel => exact ⟨_, (false), (by first | rfl | (simp; done) | (simp [*]; done)), H', ⟨by have := HJ6.out; first | omega | exact Nat.le_refl _⟩, by repeat (first | exact Drawn0.refl _ | apply Drawn0.step)⟩
        case rest =>
         clear HC10
         try clear c1
         try clear p2
         try clear c3
         try clear c3b0
         try clear c3b1
         try clear c4
         try clear c4b0
         try clear c4b1
         try clear c5
         try clear c5b0
         try clear c5b1
         try clear c6
         try clear c6b0
         try clear c6b1
         try clear c8
         try clear c9
         try clear c11
         try clear p2
         obtain ⟨kq, x23_9, rfl, HA, HJ9, ⟨mc9, rfl⟩⟩ := hcut
         cases kq with
         | zero => exact absurd HA.out (by simp [espalierref02_escaped.j1])
         | succ kj9 =>
          have H := HA.out
          clear HA
          simp only [espalierref02_escaped.j1] at H
          by_cases c12 : x23_9 = true
          ·subst c12
           rw [if_pos rfl] at H
           obtain rfl := Option.some.inj H
           go_wp2
           go_ret
           exact ⟨by first | rfl | (simp; done) | (simp [*]; done), by repeat (first | exact Drawn0.refl _ | apply Drawn0.step)⟩
          ·replace c12 := Bool.eq_false_iff.mpr c12
           subst c12
           rw [if_neg (show ¬ (false = true) by decide)] at H
           by_cases c13 : a1 = true
           ·subst c13
            rw [if_pos rfl] at H
            by_cases c14 : a0 = 10
            ·rw [if_pos c14] at H
             have c14b0 := beq_iff_eq.mpr c14
             have c14b1 := bne_eq_false_iff_eq.mpr c14
             clear c14
             obtain rfl := Option.some.inj H
             go_wp2
             go_ret
             exact ⟨by first | rfl | (simp; done) | (simp [*]; done), by repeat (first | exact Drawn0.refl _ | apply Drawn0.step)⟩
            ·rw [if_neg c14] at H
             have c14b0 := beq_eq_false_iff_ne.mpr c14
             have c14b1 := bne_iff_ne.mpr c14
             obtain rfl := Option.some.inj H
             go_wp2
             go_ret
             exact ⟨by first | rfl | (simp; done) | (simp [*]; done), by repeat (first | exact Drawn0.refl _ | apply Drawn0.step)⟩
           ·replace c13 := Bool.eq_false_iff.mpr c13
            subst c13
            rw [if_neg (show ¬ (false = true) by decide)] at H
            obtain rfl := Option.some.inj H
            go_wp2
            go_ret
            exact ⟨by first | rfl | (simp; done) | (simp [*]; done), by repeat (first | exact Drawn0.refl _ | apply Drawn0.step)⟩

/-! ### espalierref02_Escape: function 37 -/
def espalierref02_Escape.l0 : Nat → ByteArray → Bool → List Int → Int → Option (ByteArray × Int × Int)
 | 0, _, _, _, _ => none
 | k + 1, x0, x1, x9, x10 => if x10 < (x0.size : Int) then (if 0 ≤ x10 then ((espalierref02_escaped.f k (bt x0 x10) x1).bind fun t191 => (if t191.toList = ([] : List UInt8) then (if x9.length < 140737488355328 then (espalierref02_Escape.l0 k x0 x1 (x9 ++ [bt x0 x10]) (wrap64 (x10 + 1))) else (none)) else (if x9.length + t191.size < 140737488355328 then (espalierref02_Escape.l0 k x0 x1 (x9 ++ bytesOf t191) (wrap64 (x10 + 1))) else (none)))) else (none)) else (some (strOfNums x9, 0, 0))
def espalierref02_Escape.f (k : Nat) (a0 : ByteArray) (a1 : Bool) : Option (ByteArray × Int × Int) := (espalierref02_Text.f k a0).bind fun bt189 => (if bt189.2 = 0 then (espalierref02_Escape.l0 k a0 a1 ([] : List Int) 0) else (some ((⟨#[]⟩ : ByteArray), bt189.1, bt189.2)))
theorem espalierref02_Escape.mono_l : ∀ k, (∀ y0 y1 y2 y3, LeO (espalierref02_Escape.l0 k y0 y1 y2 y3) (espalierref02_Escape.l0 (k + 1) y0 y1 y2 y3))
 | 0 => fun _ _ _ _ r h => by simp [espalierref02_Escape.l0] at h
 | k + 1 => by
  have ih0 := espalierref02_Escape.mono_l k
  ·intro y0 y1 y2 y3
   unfold espalierref02_Escape.l0
   repeat' first
   | (with_reducible exact ih0 _ _ _ _)
   | (with_reducible exact espalierref02_Text.mono _ _)
   | (with_reducible exact espalierref02_escaped.mono _ _ _)
   | (with_reducible exact LeO.refl _)
   | (with_reducible exact LeO.none _)
   | (with_reducible refine LeO.ite ?_ ?_)
   | (with_reducible refine LeO.bind ?_ (fun _ => ?_))
   | exact ih0 _ _ _ _
   | exact espalierref02_Text.mono _ _
   | exact espalierref02_escaped.mono _ _ _
   | exact LeO.none _
   | refine LeO.ite ?_ ?_
   | refine LeO.bind ?_ (fun _ => ?_)
theorem espalierref02_Escape.mono : ∀ a0 a1 k, LeO (espalierref02_Escape.f k a0 a1) (espalierref02_Escape.f (k + 1) a0 a1) := by
 intro a0 a1 k
 have ih0 := espalierref02_Escape.mono_l k
 unfold espalierref02_Escape.f
 repeat' first
   | (with_reducible exact ih0 _ _ _ _)
   | (with_reducible exact espalierref02_Text.mono _ _)
   | (with_reducible exact espalierref02_escaped.mono _ _ _)
   | (with_reducible exact LeO.refl _)
   | (with_reducible exact LeO.none _)
   | (with_reducible refine LeO.ite ?_ ?_)
   | (with_reducible refine LeO.bind ?_ (fun _ => ?_))
   | exact ih0 _ _ _ _
   | exact espalierref02_Text.mono _ _
   | exact espalierref02_escaped.mono _ _ _
   | exact LeO.none _
   | refine LeO.ite ?_ ?_
   | refine LeO.bind ?_ (fun _ => ?_)
set_option maxHeartbeats 8000000 in
set_option maxRecDepth 100000 in
theorem espalierref02_Escape.calls (k : Nat) (a0 : ByteArray) (a1 : Bool) (r1 : ByteArray) (r2 : Int) (r3 : Int) (w : World) (h : espalierref02_Escape.f k a0 a1 = some (r1, r2, r3)) :
  Calls Tryd.prog 37 #[.string a0, .bool a1] w fun e w' => e = .returned (.tuple #[.string r1, .int .i64 r2, .int .i64 r3]) ∧ Below w.heap.size w w' := by
 have HB := Aside0.mk (Below.refl w.heap.size w)
 have H : ((espalierref02_Text.f k a0).bind fun bt189 => (if bt189.2 = 0 then (espalierref02_Escape.l0 k a0 a1 ([] : List Int) 0) else (some ((⟨#[]⟩ : ByteArray), bt189.1, bt189.2)))) = some (r1, r2, r3) := h
 clear h
 replace H := Option.bind_eq_some_iff.mp H
 obtain ⟨⟨t189, t190⟩, A30, H⟩ := H
 replace H : (if t190 = 0 then (espalierref02_Escape.l0 k a0 a1 ([] : List Int) 0) else (some ((⟨#[]⟩ : ByteArray), t189, t190))) = some (r1, r2, r3) := H
 have A3 := Aside0.mk A30
 clear A30
 by_cases c4 : t190 = 0
 ·rw [if_pos c4] at H
  have c4b0 := beq_iff_eq.mpr c4
  have c4b1 := bne_eq_false_iff_eq.mpr c4
  clear c4
  have H' := Aside0.mk H
  clear H
  go_enter Tryd.func37, Tryd.ntmps37
  go_wp2_with (first | ((with_reducible refine gate_callee (f := 50) rfl ?_); refine goesL_ (some 14) rfl rfl Tryd.func50 (by kernel_rfl) rfl #[.string a0] rfl rf_ ?_; (with_reducible refine (espalierref02_Text.calls k a0 t189 t190 _ A3.out).mono ?_); rintro e w5 ⟨rfl, hb⟩; refine ⟨_, rfl, ?_⟩; replace HB := Aside0.mk (below_step hb_ hb); (try clear hb); (try clear hb2); (try clear hk); (try clear hi)))
  go_loopg [9, 10] k (fun kq v9 v10 w' => ∃ (x9_1 : List Int) (x10_1 : Int), v10 = .int .i64 x10_1 ∧ Aside0 (espalierref02_Escape.l0 kq a0 a1 x9_1 x10_1 = some (r1, r2, r3)) ∧ Aside0 (kq ≤ k) ∧ Aside0 (Kd.R (Kd.int .u8) 5 w' w.heap.size (fun _ => True) v9 x9_1) ∧ Aside0 (Below w.heap.size w w'))
  case atStart => exact ⟨(([] : List Int)), (0), (by first | rfl | (simp; done) | (simp [*]; done)), H', ⟨Nat.le_refl _⟩, ⟨by first | exact Kd.R_nil _ _ _ _ _ | exact Kd.N_nil _ _ _ _ _ | exact Kd.V_nil _ _ _ _ _ | exact Kd.Q_nil _ _ _ _ _ | exact Kd.S_nil _ _ _ _ _⟩, ⟨hb_⟩⟩
  case round =>
   clear H'
   try clear p2
   try clear c3
   try clear c4
   try clear c4b0
   try clear c4b1
   try clear c5
   obtain ⟨x9_1, x10_1, rfl, HA, HK1, HO_9, HB⟩ := hrel
   cases gk with
   | zero => exact absurd HA.out (by simp [espalierref02_Escape.l0])
   | succ k1 =>
    have H := HA.out
    clear HA
    simp only [espalierref02_Escape.l0] at H
    by_cases c6 : x10_1 < (a0.size : Int)
    ·rw [if_pos c6] at H
     have c6b0 : decide (x10_1 < (a0.size : Int)) = true := decide_eq_true c6
     clear c6
     by_cases c7 : 0 ≤ x10_1
     ·rw [if_pos c7] at H
      have c7b0 : decide (0 ≤ x10_1) = true := decide_eq_true c7
      clear c7
      replace H := Option.bind_eq_some_iff.mp H
      obtain ⟨t191, A90, H⟩ := H
      replace H : (if t191.toList = ([] : List UInt8) then (if x9_1.length < 140737488355328 then (espalierref02_Escape.l0 k1 a0 a1 (x9_1 ++ [bt a0 x10_1]) (wrap64 (x10_1 + 1))) else (none)) else (if x9_1.length + t191.size < 140737488355328 then (espalierref02_Escape.l0 k1 a0 a1 (x9_1 ++ bytesOf t191) (wrap64 (x10_1 + 1))) else (none))) = some (r1, r2, r3) := H
      have A9 := Aside0.mk A90
      clear A90
      by_cases c10 : t191.toList = ([] : List UInt8)
      ·rw [if_pos c10] at H
       have c10b0 := beq_iff_eq.mpr c10
       have c10b1 := bne_eq_false_iff_eq.mpr c10
       clear c10
       by_cases c12 : x9_1.length < 140737488355328
       ·rw [if_pos c12] at H
        have LMc12 := Aside0.mk c12
        clear c12
        obtain ⟨y192, hy192⟩ : ∃ y_ : List Int, y_ = (x9_1 ++ [bt a0 x10_1]) := ⟨_, rfl⟩
        replace H : (espalierref02_Escape.l0 k1 a0 a1 y192 (wrap64 (x10_1 + 1))) = some (r1, r2, r3) := by first | (rw [hy192]; with_reducible exact H) | (have H2_ := (Option.bind_some _ _).symm.trans H; rw [hy192]; with_reducible exact H2_) | (have H2_ := (Option.bind_some _ _).symm.trans H; with_reducible exact H2_) | with_reducible exact H | (rw [hy192]; exact H) | exact H
        have Ny192 := Aside0.mk hy192
        clear hy192
        have H' := Aside0.mk H
        clear H
        have p8 : 0 ≤ (x10_1 : Int) := of_decide_eq_true (by first | (with_reducible assumption) | assumption)
        have q8 : x10_1 < (a0.size : Int) := of_decide_eq_true (by first | (with_reducible assumption) | assumption)
        have hx8 := bt_at a0 x10_1
        replace p8 := eq_true p8
        replace q8 := eq_true q8
        go_wp2_with (first | ((with_reducible refine gate_callee (f := 51) rfl ?_); refine goesL_ (some 31) rfl rfl Tryd.func51 (by kernel_rfl) rfl #[.int .u8 (bt a0 x10_1), .bool a1] rfl rf_ ?_; (with_reducible refine (espalierref02_escaped.calls k1 (bt a0 x10_1) a1 t191 _ A9.out).mono ?_); rintro e w' ⟨rfl, ⟨nd, rfl⟩⟩; refine ⟨_, rfl, ?_⟩; have p11 : 0 ≤ (x10_1 : Int) := of_decide_eq_true (by first | (with_reducible assumption) | assumption); have q11 : x10_1 < (a0.size : Int) := of_decide_eq_true (by first | (with_reducible assumption) | assumption); have hx11 := bt_at a0 x10_1; replace p11 := eq_true p11; replace q11 := eq_true q11) | ((with_reducible refine gate_builtin (b := .append) (xs := #[.tmp 34, .tmp 38]) rfl ?_); at_builtin; refine Kd.R_append (Kd.int .u8) (w0 := w) w.heap.size rfl (.tmp 34) (.tmp 38) 40 5 (.int .u8 0) 1 rfl Tryd.underlying40 info5 rfl (by decide) (by omega) u9 x9_1 (bt a0 x10_1) [.int .u8 (bt a0 x10_1)] (fun _ => True) (fun _ => False) rfl rfl ?aP (fun _ hk => hk.elim) ?aF ?aO ?aB ?aS ?aL ?_; (case aP => exact rfl); (case aB => exact hb_); (case aF => exact (fun _ _ => trivial)); (case aO => exact (ra_ HO_9.out)); (case aS => exact (below_size hb_)); (case aL => have := LMc12.out; omega); intro v193 w13 ho hb hg hat; rw [← Ny192.out] at ho; replace HB := Aside0.mk (hb); have HO194 := Aside0.mk (ho); clear HO_9; clear ho hb hg hat))
        go_roundg k1
        case measure => have := HK1.out; omega
        case rel => exact ⟨(y192), (wrap64 (x10_1 + 1)), (by first | rfl | (simp; done) | (simp [*]; done)), H', ⟨by have := HK1.out; omega⟩, ⟨ra_ HO194.out⟩, ⟨hb_⟩⟩
       ·rw [if_neg c12] at H
        exact absurd H (by simp)
      ·rw [if_neg c10] at H
       have c10b0 := beq_eq_false_iff_ne.mpr c10
       have c10b1 := bne_iff_ne.mpr c10
       by_cases c14 : x9_1.length + t191.size < 140737488355328
       ·rw [if_pos c14] at H
        have LMc14 := Aside0.mk c14
        clear c14
        obtain ⟨y195, hy195⟩ : ∃ y_ : List Int, y_ = (x9_1 ++ bytesOf t191) := ⟨_, rfl⟩
        replace H : (espalierref02_Escape.l0 k1 a0 a1 y195 (wrap64 (x10_1 + 1))) = some (r1, r2, r3) := by first | (rw [hy195]; with_reducible exact H) | (have H2_ := (Option.bind_some _ _).symm.trans H; rw [hy195]; with_reducible exact H2_) | (have H2_ := (Option.bind_some _ _).symm.trans H; with_reducible exact H2_) | with_reducible exact H | (rw [hy195]; exact H) | exact H
        have Ny195 := Aside0.mk hy195
        clear hy195
        have H' := Aside0.mk H
        clear H
        have p8 : 0 ≤ (x10_1 : Int) := of_decide_eq_true (by first | (with_reducible assumption) | assumption)
        have q8 : x10_1 < (a0.size : Int) := of_decide_eq_true (by first | (with_reducible assumption) | assumption)
        have hx8 := bt_at a0 x10_1
        replace p8 := eq_true p8
        replace q8 := eq_true q8
        go_wp2_with (first | ((with_reducible refine gate_callee (f := 51) rfl ?_); refine goesL_ (some 31) rfl rfl Tryd.func51 (by kernel_rfl) rfl #[.int .u8 (bt a0 x10_1), .bool a1] rfl rf_ ?_; (with_reducible refine (espalierref02_escaped.calls k1 (bt a0 x10_1) a1 t191 _ A9.out).mono ?_); rintro e w' ⟨rfl, ⟨nd, rfl⟩⟩; refine ⟨_, rfl, ?_⟩) | (at_builtin; refine print_append_str (w0 := w) w.heap.size rfl (.tmp 40) _ 40 9 5 rfl Tryd.underlying40 Tryd.underlying9 info5 u9 x9_1 t191 rfl rfl ?aO ?aB ?aS ?aL ?_; (case aB => exact hb_); (case aO => exact (Kd.own_of_R (ra_ HO_9.out))); (case aS => exact (below_size hb_)); (case aL => have := LMc14.out; omega); intro v196 w15 ho0 hb hg; have ho := Kd.R_of_own (h1 := fun _ => rfl) (ok := fun _ => True) ho0 (fun _ _ => trivial); clear ho0; have hat := True.intro; rw [← Ny195.out] at ho; change Kd.R (Kd.int .u8) 5 w15 w.heap.size (fun _ => True) v196 y195 at ho; replace HB := Aside0.mk (hb); have HO197 := Aside0.mk (ho); clear HO_9; clear ho hb hg hat))
        go_roundg k1
        case measure => have := HK1.out; omega
        case rel => exact ⟨(y195), (wrap64 (x10_1 + 1)), (by first | rfl | (simp; done) | (simp [*]; done)), H', ⟨by have := HK1.out; omega⟩, ⟨ra_ HO197.out⟩, ⟨hb_⟩⟩
       ·rw [if_neg c14] at H
        exact absurd H (by simp)
     ·rw [if_neg c7] at H
      exact absurd H (by simp)
    ·rw [if_neg c6] at H
     have c6b0 : decide (x10_1 < (a0.size : Int)) = false := decide_eq_false c6
     clear c6
     simp only [Option.some.injEq, Prod.mk.injEq] at H
     obtain ⟨rfl, rfl, rfl⟩ := H
     have hcv16 := own_string (P := Tryd.prog) Tryd.underlying40 Tryd.underlying5 Tryd.underlying9 (Kd.own_of_R HO_9.out)
     go_wp2
     go_ret3
     exact ⟨er_, hb_⟩
 ·rw [if_neg c4] at H
  have c4b0 := beq_eq_false_iff_ne.mpr c4
  have c4b1 := bne_iff_ne.mpr c4
  simp only [Option.some.injEq, Prod.mk.injEq] at H
  obtain ⟨rfl, rfl, rfl⟩ := H
  go_enter Tryd.func37, Tryd.ntmps37
  go_wp2_with (first | ((with_reducible refine gate_callee (f := 50) rfl ?_); refine goesL_ (some 14) rfl rfl Tryd.func50 (by kernel_rfl) rfl #[.string a0] rfl rf_ ?_; (with_reducible refine (espalierref02_Text.calls k a0 t189 t190 _ A3.out).mono ?_); rintro e w17 ⟨rfl, hb⟩; refine ⟨_, rfl, ?_⟩; replace HB := Aside0.mk (below_step hb_ hb); (try clear hb); (try clear hb2); (try clear hk); (try clear hi)))
  go_ret3
  exact ⟨er_, hb_⟩

end Go.Proofs.YtealmfcimoomlaaDoor.PA
