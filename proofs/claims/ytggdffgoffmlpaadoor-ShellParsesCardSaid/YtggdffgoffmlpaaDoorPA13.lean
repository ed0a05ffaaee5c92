-- Written by a program of this session (wip/tools/xprint.py: the kit's print, with given functions). Not trusted: Lean checks it.
import Derived.Test.YtggdffgoffmlpaaDoorPA0
import Derived.Test.YtggdffgoffmlpaaDoorPA6
import Derived.Test.YtggdffgoffmlpaaDoorPA7
import Derived.Test.YtggdffgoffmlpaaDoorPA8
import Derived.Test.YtggdffgoffmlpaaDoorPA12
namespace Go.Proofs.YtggdffgoffmlpaaDoor.PA
open Go.RowKit Go.Proofs.YtggdffgoffmlpaaDoorW.PrintWords Go.Proofs.YtggdffgoffmlpaaDoorW.PrintLast Go.Proofs.YtggdffgoffmlpaaDoorW.PrintMore
attribute [local go_sem] max2_int min2_int max_two min_two max_three min_three max_four min_four   -- for this text's walks alone
set_option linter.unusedVariables false
set_option linter.unusedSimpArgs false

/-! ### espalierref30_Parse: function 5 -/
mutual
def espalierref30_Parse.l0 : Nat → List (S28) → List ByteArray → Int → Option ((List (S28)) × Int × Int)
 | 0, _, _, _ => none
 | k + 1, x5, x6, x7 => if x7 < (x6.length : Int) then (if 0 ≤ x7 then ((espalierref30_first.f k (rdOf ByteArray.empty x6 x7)).bind fun bt243 => (if bt243.1.toList = ([] : List UInt8) then (espalierref30_Parse.j1 k x5 x6 x7 bt243.1 bt243.2 true) else (if 0 < (bt243.1.size : Int) then (espalierref30_Parse.j1 k x5 x6 x7 bt243.1 bt243.2 ((bt bt243.1 0) == 35)) else (none)))) else (none)) else (some (x5, 0, 0))
def espalierref30_Parse.j1 : Nat → List (S28) → List ByteArray → Int → ByteArray → ByteArray → Bool → Option ((List (S28)) × Int × Int)
 | 0, _, _, _, _, _, _ => none
 | k + 1, x5, x6, x7, x8, x9, x38 => if x38 = true then (espalierref30_Parse.l0 k x5 x6 (wrap64 (x7 + 1))) else ((espalierref30_form.f k x8).bind fun t245 => ((espalierref30_args.f k x9 t245).bind fun bt246 => (if t245.toList = ([33] : List UInt8) then (some (([] : List (S28)), wrap64 (x7 + 1), 300)) else (if bt246.2 = true then (if ((x8.toList == ([111, 112, 101, 110] : List UInt8)) != ((x5.length : Int) == 0)) = true then (some (([] : List (S28)), wrap64 (x7 + 1), 300)) else (if (x5.length : Int) = 300 then (some (([] : List (S28)), wrap64 (x7 + 1), 300)) else (if x5.length < 2932031007402 then (espalierref30_Parse.l0 k (x5 ++ [(⟨wrap64 (x7 + 1), x8, bt246.1⟩ : S28)]) x6 (wrap64 (x7 + 1))) else (none)))) else (some (([] : List (S28)), wrap64 (x7 + 1), 300))))))
end
def espalierref30_Parse.f (k : Nat) (a0 : ByteArray) : Option ((List (S28)) × Int × Int) := if (a0.size : Int) > 131072 then (some (([] : List (S28)), 0, 2)) else ((espalierref30_Lines.f k a0).bind fun t239 => (espalierref30_Parse.l0 k ([] : List (S28)) t239 0))
theorem espalierref30_Parse.mono_l : ∀ k, (∀ y0 y1 y2, LeO (espalierref30_Parse.l0 k y0 y1 y2) (espalierref30_Parse.l0 (k + 1) y0 y1 y2)) ∧ (∀ y0 y1 y2 y3 y4 y5, LeO (espalierref30_Parse.j1 k y0 y1 y2 y3 y4 y5) (espalierref30_Parse.j1 (k + 1) y0 y1 y2 y3 y4 y5))
 | 0 => ⟨fun _ _ _ r h => by simp [espalierref30_Parse.l0] at h, fun _ _ _ _ _ _ r h => by simp [espalierref30_Parse.j1] at h⟩
 | k + 1 => by
  obtain ⟨ih0, ih1⟩ := espalierref30_Parse.mono_l k
  refine ⟨?_, ?_⟩
  ·intro y0 y1 y2
   unfold espalierref30_Parse.l0
   repeat' first
   | (with_reducible exact ih0 _ _ _)
   | (with_reducible exact ih1 _ _ _ _ _ _)
   | (with_reducible exact espalierref30_Lines.mono _ _)
   | (with_reducible exact espalierref30_args.mono _ _ _)
   | (with_reducible exact espalierref30_first.mono _ _)
   | (with_reducible exact espalierref30_form.mono _ _)
   | (with_reducible exact LeO.refl _)
   | (with_reducible exact LeO.none _)
   | (with_reducible refine LeO.ite ?_ ?_)
   | (with_reducible refine LeO.bind ?_ (fun _ => ?_))
   | exact ih0 _ _ _
   | exact ih1 _ _ _ _ _ _
   | exact espalierref30_Lines.mono _ _
   | exact espalierref30_args.mono _ _ _
   | exact espalierref30_first.mono _ _
   | exact espalierref30_form.mono _ _
   | exact LeO.none _
   | refine LeO.ite ?_ ?_
   | refine LeO.bind ?_ (fun _ => ?_)
  ·intro y0 y1 y2 y3 y4 y5
   unfold espalierref30_Parse.j1
   repeat' first
   | (with_reducible exact ih0 _ _ _)
   | (with_reducible exact ih1 _ _ _ _ _ _)
   | (with_reducible exact espalierref30_Lines.mono _ _)
   | (with_reducible exact espalierref30_args.mono _ _ _)
   | (with_reducible exact espalierref30_first.mono _ _)
   | (with_reducible exact espalierref30_form.mono _ _)
   | (with_reducible exact LeO.refl _)
   | (with_reducible exact LeO.none _)
   | (with_reducible refine LeO.ite ?_ ?_)
   | (with_reducible refine LeO.bind ?_ (fun _ => ?_))
   | exact ih0 _ _ _
   | exact ih1 _ _ _ _ _ _
   | exact espalierref30_Lines.mono _ _
   | exact espalierref30_args.mono _ _ _
   | exact espalierref30_first.mono _ _
   | exact espalierref30_form.mono _ _
   | exact LeO.none _
   | refine LeO.ite ?_ ?_
   | refine LeO.bind ?_ (fun _ => ?_)
theorem espalierref30_Parse.mono : ∀ a0 k, LeO (espalierref30_Parse.f k a0) (espalierref30_Parse.f (k + 1) a0) := by
 intro a0 k
 obtain ⟨ih0, ih1⟩ := espalierref30_Parse.mono_l k
 unfold espalierref30_Parse.f
 repeat' first
   | (with_reducible exact ih0 _ _ _)
   | (with_reducible exact ih1 _ _ _ _ _ _)
   | (with_reducible exact espalierref30_Lines.mono _ _)
   | (with_reducible exact espalierref30_args.mono _ _ _)
   | (with_reducible exact espalierref30_first.mono _ _)
   | (with_reducible exact espalierref30_form.mono _ _)
   | (with_reducible exact LeO.refl _)
   | (with_reducible exact LeO.none _)
   | (with_reducible refine LeO.ite ?_ ?_)
   | (with_reducible refine LeO.bind ?_ (fun _ => ?_))
   | exact ih0 _ _ _
   | exact ih1 _ _ _ _ _ _
   | exact espalierref30_Lines.mono _ _
   | exact espalierref30_args.mono _ _ _
   | exact espalierref30_first.mono _ _
   | exact espalierref30_form.mono _ _
   | exact LeO.none _
   | refine LeO.ite ?_ ?_
   | refine LeO.bind ?_ (fun _ => ?_)
set_option maxHeartbeats 8000000 in
set_option maxRecDepth 100000 in
theorem espalierref30_Parse.calls (k : Nat) (a0 : ByteArray) (r1 : List (S28)) (r2 : Int) (r3 : Int) (w : World) (h : espalierref30_Parse.f k a0 = some (r1, r2, r3)) :
  Calls Tryd.prog 5 #[.string a0] w fun e w' => ∃ v0_ : Value, e = .returned (.tuple #[v0_, .int .i64 r2, .int .i64 r3]) ∧ Kd.S k28 28 w' w.heap.size (fun _ => True) v0_ r1 ∧ Below w.heap.size w w' := by
 have hu28 := Tryd.underlying28
 have HB := Aside0.mk (Below.refl w.heap.size w)
 have H : (if (a0.size : Int) > 131072 then (some (([] : List (S28)), 0, 2)) else ((espalierref30_Lines.f k a0).bind fun t239 => (espalierref30_Parse.l0 k ([] : List (S28)) t239 0))) = some (r1, r2, r3) := h
 clear h
 by_cases c2 : (a0.size : Int) > 131072
 ·rw [if_pos c2] at H
  have c2b0 : decide (131072 < (a0.size : Int)) = true := decide_eq_true c2
  have c2b1 : decide (131072 < a0.size) = true := decide_eq_true (by omega)
  clear c2
  simp only [Option.some.injEq, Prod.mk.injEq] at H
  obtain ⟨rfl, rfl, rfl⟩ := H
  go_enter Tryd.func5, Tryd.ntmps5
  go_wp2
  go_ret3
  exact ⟨_, er_, by first | exact Kd.S_nil _ _ _ _ _ | exact Kd.N_nil _ _ _ _ _ | exact Kd.V_nil _ _ _ _ _ | exact Kd.Q_nil _ _ _ _ _ | exact Kd.R_nil _ _ _ _ _, by repeat (first | (with_reducible first | exact HB.out | apply below_alloc | apply pw_below_drewN | apply below_drew1) | exact HB.out)⟩
 ·rw [if_neg c2] at H
  have c2b0 : decide (131072 < (a0.size : Int)) = false := decide_eq_false c2
  have c2b1 : decide (131072 < a0.size) = false := decide_eq_false (by omega)
  clear c2
  replace H := Option.bind_eq_some_iff.mp H
  obtain ⟨t239, A30, H⟩ := H
  replace H : (espalierref30_Parse.l0 k ([] : List (S28)) t239 0) = some (r1, r2, r3) := H
  have A3 := Aside0.mk A30
  clear A30
  have H' := Aside0.mk H
  clear H
  go_enter Tryd.func5, Tryd.ntmps5
  go_wp2_with (first | ((with_reducible refine gate_callee (f := 7) rfl ?_); refine goesL_ (some 17) rfl rfl Tryd.func7 (by kernel_rfl) rfl #[.string a0] rfl rf_ ?_; (with_reducible refine (espalierref30_Lines.calls k a0 t239 _ A3.out).mono ?_); rintro e w4 ⟨v240, rfl, ho0, hb⟩; refine ⟨_, rfl, ?_⟩; have n0_ := Aside0.mk (Kd.R_lower ho0 (below_size hb_)); have n1_ := Aside0.mk (below_step hb_ hb); clear HB; have HO241 := n0_; have HB := n1_; clear n0_ n1_; (try clear hb); (try clear hb2); (try clear hk); (try clear hi); (try clear ho0)))
  go_loopg [5, 7] k (fun kq v5 v7 w' => ∃ (x5_1 : List (S28)) (x7_1 : Int), v7 = .int .i64 x7_1 ∧ Aside0 (espalierref30_Parse.l0 kq x5_1 t239 x7_1 = some (r1, r2, r3)) ∧ Aside0 (kq ≤ k) ∧ Aside0 (Kd.S k28 28 w' w.heap.size (fun k_ => some k_ ≠ (v240 : Value).ownBlock) v5 x5_1) ∧ Aside0 (Kd.R Kd.string 9 w' w.heap.size (fun _ => True) v240 t239) ∧ Aside0 (Below w.heap.size w w'))
  case atStart => exact ⟨(([] : List (S28))), (0), (by first | rfl | (simp; done) | (simp [*]; done)), H', ⟨Nat.le_refl _⟩, ⟨by first | exact Kd.S_nil _ _ _ _ _ | exact Kd.N_nil _ _ _ _ _ | exact Kd.V_nil _ _ _ _ _ | exact Kd.Q_nil _ _ _ _ _ | exact Kd.R_nil _ _ _ _ _⟩, ⟨by (with_reducible repeat (first | apply Kd.R_alloc | apply Kd.R_drewN | apply Kd.R_drew)); exact HO241.out⟩, ⟨by repeat (first | (with_reducible first | exact HB.out | apply below_alloc | apply pw_below_drewN | apply below_drew1) | exact HB.out)⟩⟩
  case round =>
   clear H'
   try clear c2
   try clear c2b0
   try clear c2b1
   try clear p2
   obtain ⟨x5_1, x7_1, rfl, HA, HK1, HO_5, HO_6, HB⟩ := hrel
   cases gk with
   | zero => exact absurd HA.out (by simp [espalierref30_Parse.l0])
   | succ k1 =>
    have H := HA.out
    clear HA
    simp only [espalierref30_Parse.l0] at H
    by_cases c5 : x7_1 < (t239.length : Int)
    ·rw [if_pos c5] at H
     have c5b0 : decide (x7_1 < (t239.length : Int)) = true := decide_eq_true c5
     clear c5
     by_cases c6 : 0 ≤ x7_1
     ·rw [if_pos c6] at H
      have c6b0 : decide (0 ≤ x7_1) = true := decide_eq_true c6
      clear c6
      replace H := Option.bind_eq_some_iff.mp H
      obtain ⟨⟨t243, t244⟩, A70, H⟩ := H
      replace H : (if t243.toList = ([] : List UInt8) then (espalierref30_Parse.j1 k1 x5_1 t239 x7_1 t243 t244 true) else (if 0 < (t243.size : Int) then (espalierref30_Parse.j1 k1 x5_1 t239 x7_1 t243 t244 ((bt t243 0) == 35)) else (none))) = some (r1, r2, r3) := H
      have A7 := Aside0.mk A70
      clear A70
      have HC8 := Aside0.mk H
      clear H
      obtain ⟨Ao9, co9, eo9⟩ := Kd.R_slice HO_6.out
      subst eo9
      have p242 : 0 ≤ (x7_1 : Int) := of_decide_eq_true (by first | (with_reducible assumption) | assumption)
      have q242 : x7_1 < (t239.length : Int) := of_decide_eq_true (by first | (with_reducible assumption) | assumption)
      obtain ⟨ad242, e242, hx242_0⟩ := Kd.at_string (Kd.R_reads' HO_6.out).2.2 x7_1 p242 q242
      cases e242
      replace p242 := eq_true p242
      replace q242 := eq_true q242
      go_upto_region 9 with (first | ((with_reducible refine gate_callee (f := 8) rfl ?_); refine goesL_ (some 29) rfl rfl Tryd.func8 (by kernel_rfl) rfl #[.string (rdOf ByteArray.empty t239 x7_1)] rfl rf_ ?_; (with_reducible refine (espalierref30_first.calls k1 (rdOf ByteArray.empty t239 x7_1) t243 t244 _ A7.out).mono ?_); rintro e w' ⟨rfl, ⟨nd, rfl⟩⟩; refine ⟨_, rfl, ?_⟩))
      (try simp only [Act.put, List.setIfInBounds_toArray, List.set_cons_zero, List.set_cons_succ])
      go_cut [38] (fun v38 wc => ∃ (kq : Nat) (x38_7 : Bool), v38 = .bool x38_7 ∧ Aside0 (espalierref30_Parse.j1 kq x5_1 t239 x7_1 t243 t244 x38_7 = some (r1, r2, r3)) ∧ Aside0 (kq ≤ k1) ∧ Aside0 (Kd.S k28 28 wc w.heap.size (fun k_ => some k_ ≠ ((.slice (some ad242) t239.length co9) : Value).ownBlock) u5 x5_1) ∧ Aside0 (Kd.R Kd.string 9 wc w.heap.size (fun _ => True) (.slice (some ad242) t239.length co9) t239) ∧ Aside0 (Below w.heap.size w wc))
      case first =>
       have H := HC8.out
       clear HC8
       by_cases c10 : t243.toList = ([] : List UInt8)
       ·rw [if_pos c10] at H
        have c10b0 : (t243.toList == ([] : List UInt8)) = true := beq_iff_eq.mpr c10
        have c10b1 : (t243.toList != ([] : List UInt8)) = false := bne_eq_false_iff_eq.mpr c10
        clear c10
        (first | rw [c10b0] | (simp only [i64_w, i32_w]; rw [c10b0]) | skip)
        have H' := Aside0.mk H
        clear H
        go_wp2
        go_meet
        case rel => exact ⟨_, (true), (by first | rfl | (simp; done) | (simp [*]; done)), H', ⟨by have := HK1.out; first | omega | exact Nat.le_refl _⟩, ⟨by (with_reducible repeat (first | apply Kd.S_alloc | apply Kd.S_drewN | apply Kd.S_drew)); exact HO_5.out⟩, ⟨by (with_reducible repeat (first | apply Kd.R_alloc | apply Kd.R_drewN | apply Kd.R_drew)); exact HO_6.out⟩, ⟨by repeat (first | (with_reducible first | exact HB.out | apply below_alloc | apply pw_below_drewN | apply below_drew1) | exact HB.out)⟩⟩
       ·rw [if_neg c10] at H
        have c10b0 : (t243.toList == ([] : List UInt8)) = false := beq_eq_false_iff_ne.mpr c10
        have c10b1 : (t243.toList != ([] : List UInt8)) = true := bne_iff_ne.mpr c10
        (first | rw [c10b0] | (simp only [i64_w, i32_w]; rw [c10b0]) | skip)
        by_cases c11 : 0 < (t243.size : Int)
        ·rw [if_pos c11] at H
         have c11b0 : decide (0 < (t243.size : Int)) = true := decide_eq_true c11
         have c11b1 : decide (0 < t243.size) = true := decide_eq_true (by omega)
         clear c11
         have H' := Aside0.mk H
         clear H
         have p12 : 0 ≤ (0 : Int) := (by omega)
         have q12 : 0 < t243.size := (by have : (0 : Int) < (t243.size : Int) := of_decide_eq_true (by first | (with_reducible assumption) | assumption); omega)
         have hx12 : ∀ h : 0 < t243.size, ((t243[0]'h).toNat : Int) = bt t243 0 := bt_at t243 0
         clear p12
         have qi12 : (0 < (t243.size : Int)) = True := eq_true (of_decide_eq_true (by first | (with_reducible assumption) | assumption))
         replace q12 := eq_true q12
         go_wp2
         go_meet
         case rel => exact ⟨_, (((bt t243 0) == 35)), (by first | rfl | (simp; done) | (simp [*]; done)), H', ⟨by have := HK1.out; first | omega | exact Nat.le_refl _⟩, ⟨by (with_reducible repeat (first | apply Kd.S_alloc | apply Kd.S_drewN | apply Kd.S_drew)); exact HO_5.out⟩, ⟨by (with_reducible repeat (first | apply Kd.R_alloc | apply Kd.R_drewN | apply Kd.R_drew)); exact HO_6.out⟩, ⟨by repeat (first | (with_reducible first | exact HB.out | apply below_alloc | apply pw_below_drewN | apply below_drew1) | exact HB.out)⟩⟩
        ·rw [if_neg c11] at H
         exact absurd H (by simp)
      case rest =>
       clear HC8
       try clear c1
       try clear p1
       try clear q1
       try clear hx1
       try clear qi1
       try clear c2
       try clear c2b0
       try clear c2b1
       try clear p2
       try clear q2
       try clear hx2
       try clear c5
       try clear c5b0
       try clear c6
       try clear c6b0
       try clear c7
       try clear c8
       try clear c10
       try clear c10b0
       try clear c10b1
       try clear c11
       try clear c11b0
       try clear c11b1
       try clear p12
       try clear q12
       try clear hx12
       try clear qi12
       try clear hx242_0
       try clear p12
       try clear p2
       try clear p242
       try clear q12
       try clear q242
       obtain ⟨kq, x38_7, rfl, HA, HJ7, HO_5, HO_6, HB⟩ := hcut
       cases kq with
       | zero => exact absurd HA.out (by simp [espalierref30_Parse.j1])
       | succ kj7 =>
        have H := HA.out
        clear HA
        simp only [espalierref30_Parse.j1] at H
        by_cases c13 : x38_7 = true
        ·subst c13
         have H1 : (espalierref30_Parse.l0 kj7 x5_1 t239 (wrap64 (x7_1 + 1))) = some (r1, r2, r3) := by rw [if_pos rfl] at H; exact H
         clear H
         have H := H1
         clear H1
         have H' := Aside0.mk H
         clear H
         go_wp2
         go_roundg kj7
         case measure => have := HK1.out; have := HJ7.out; omega
         case rel => exact ⟨(x5_1), (wrap64 (x7_1 + 1)), (by first | rfl | (simp; done) | (simp [*]; done)), H', ⟨by have := HK1.out; have := HJ7.out; omega⟩, ⟨by (with_reducible repeat (first | apply Kd.S_alloc | apply Kd.S_drewN | apply Kd.S_drew)); exact HO_5.out⟩, ⟨by (with_reducible repeat (first | apply Kd.R_alloc | apply Kd.R_drewN | apply Kd.R_drew)); exact HO_6.out⟩, ⟨by repeat (first | (with_reducible first | exact HB.out | apply below_alloc | apply pw_below_drewN | apply below_drew1) | exact HB.out)⟩⟩
        ·replace c13 := Bool.eq_false_iff.mpr c13
         subst c13
         have H1 : ((espalierref30_form.f kj7 t243).bind fun t245 => ((espalierref30_args.f kj7 t244 t245).bind fun bt246 => (if t245.toList = ([33] : List UInt8) then (some (([] : List (S28)), wrap64 (x7_1 + 1), 300)) else (if bt246.2 = true then (if ((t243.toList == ([111, 112, 101, 110] : List UInt8)) != ((x5_1.length : Int) == 0)) = true then (some (([] : List (S28)), wrap64 (x7_1 + 1), 300)) else (if (x5_1.length : Int) = 300 then (some (([] : List (S28)), wrap64 (x7_1 + 1), 300)) else (if x5_1.length < 2932031007402 then (espalierref30_Parse.l0 kj7 (x5_1 ++ [(⟨wrap64 (x7_1 + 1), t243, bt246.1⟩ : S28)]) t239 (wrap64 (x7_1 + 1))) else (none)))) else (some (([] : List (S28)), wrap64 (x7_1 + 1), 300)))))) = some (r1, r2, r3) := by rw [if_neg (show ¬ (false = true) by decide)] at H; exact H
         clear H
         have H := H1
         clear H1
         replace H := Option.bind_eq_some_iff.mp H
         obtain ⟨t245, A140, H⟩ := H
         replace H : ((espalierref30_args.f kj7 t244 t245).bind fun bt246 => (if t245.toList = ([33] : List UInt8) then (some (([] : List (S28)), wrap64 (x7_1 + 1), 300)) else (if bt246.2 = true then (if ((t243.toList == ([111, 112, 101, 110] : List UInt8)) != ((x5_1.length : Int) == 0)) = true then (some (([] : List (S28)), wrap64 (x7_1 + 1), 300)) else (if (x5_1.length : Int) = 300 then (some (([] : List (S28)), wrap64 (x7_1 + 1), 300)) else (if x5_1.length < 2932031007402 then (espalierref30_Parse.l0 kj7 (x5_1 ++ [(⟨wrap64 (x7_1 + 1), t243, bt246.1⟩ : S28)]) t239 (wrap64 (x7_1 + 1))) else (none)))) else (some (([] : List (S28)), wrap64 (x7_1 + 1), 300))))) = some (r1, r2, r3) := H
         have A14 := Aside0.mk A140
         clear A140
         replace H := Option.bind_eq_some_iff.mp H
         obtain ⟨⟨t246, t247⟩, A150, H⟩ := H
         replace H : (if t245.toList = ([33] : List UInt8) then (some (([] : List (S28)), wrap64 (x7_1 + 1), 300)) else (if t247 = true then (if ((t243.toList == ([111, 112, 101, 110] : List UInt8)) != ((x5_1.length : Int) == 0)) = true then (some (([] : List (S28)), wrap64 (x7_1 + 1), 300)) else (if (x5_1.length : Int) = 300 then (some (([] : List (S28)), wrap64 (x7_1 + 1), 300)) else (if x5_1.length < 2932031007402 then (espalierref30_Parse.l0 kj7 (x5_1 ++ [(⟨wrap64 (x7_1 + 1), t243, t246⟩ : S28)]) t239 (wrap64 (x7_1 + 1))) else (none)))) else (some (([] : List (S28)), wrap64 (x7_1 + 1), 300)))) = some (r1, r2, r3) := H
         have A15 := Aside0.mk A150
         clear A150
         by_cases c16 : t245.toList = ([33] : List UInt8)
         ·rw [if_pos c16] at H
          have c16b0 : (t245.toList == ([33] : List UInt8)) = true := beq_iff_eq.mpr c16
          have c16b1 : (t245.toList != ([33] : List UInt8)) = false := bne_eq_false_iff_eq.mpr c16
          clear c16
          simp only [Option.some.injEq, Prod.mk.injEq] at H
          obtain ⟨rfl, rfl, rfl⟩ := H
          go_wp2_with (first | ((with_reducible refine gate_callee (f := 9) rfl ?_); refine goesL_ (some 40) rfl rfl Tryd.func9 (by kernel_rfl) rfl #[.string t243] rfl rf_ ?_; (with_reducible refine (espalierref30_form.calls kj7 t243 t245 _ A14.out).mono ?_); rintro e w' ⟨rfl, ⟨nd, rfl⟩⟩; refine ⟨_, rfl, ?_⟩) | ((with_reducible refine gate_callee (f := 10) rfl ?_); refine goesL_ (some 44) rfl rfl Tryd.func10 (by kernel_rfl) rfl #[.string t244, .string t245] rfl rf_ ?_; (with_reducible refine (espalierref30_args.calls kj7 t244 t245 t246 t247 _ A15.out).mono ?_); rintro e w17 ⟨v248, rfl, ho0, hb⟩; refine ⟨_, rfl, ?_⟩; have n0_ := Aside0.mk (Kd.S_elder' (by (with_reducible repeat (first | apply Kd.S_alloc | apply Kd.S_drewN | apply Kd.S_drew)); exact HO_5.out) (Kd.R_base ho0) hb); have n1_ := Aside0.mk (Kd.R_elder' (by (with_reducible repeat (first | apply Kd.R_alloc | apply Kd.R_drewN | apply Kd.R_drew)); exact HO_6.out) (Kd.R_base ho0) hb); have n2_ := Aside0.mk (Kd.R_lower (Kd.R_new' ho0 (Kd.R_lt (by (with_reducible repeat (first | apply Kd.R_alloc | apply Kd.R_drewN | apply Kd.R_drew)); exact HO_6.out))) (below_size hb_)); have n3_ := Aside0.mk (below_step hb_ hb); clear HO_5; clear HO_6; clear HB; have HO_5 := n0_; have HO_6 := n1_; have HO249 := n2_; have HB := n3_; clear n0_ n1_ n2_ n3_; (try clear hb); (try clear hb2); (try clear hk); (try clear hi); (try clear ho0)))
          go_ret3
          exact ⟨_, er_, by first | exact Kd.S_nil _ _ _ _ _ | exact Kd.N_nil _ _ _ _ _ | exact Kd.V_nil _ _ _ _ _ | exact Kd.Q_nil _ _ _ _ _ | exact Kd.R_nil _ _ _ _ _, by repeat (first | (with_reducible first | exact HB.out | apply below_alloc | apply pw_below_drewN | apply below_drew1) | exact HB.out)⟩
         ·rw [if_neg c16] at H
          have c16b0 : (t245.toList == ([33] : List UInt8)) = false := beq_eq_false_iff_ne.mpr c16
          have c16b1 : (t245.toList != ([33] : List UInt8)) = true := bne_iff_ne.mpr c16
          by_cases c18 : t247 = true
          ·subst c18
           have H1 : (if ((t243.toList == ([111, 112, 101, 110] : List UInt8)) != ((x5_1.length : Int) == 0)) = true then (some (([] : List (S28)), wrap64 (x7_1 + 1), 300)) else (if (x5_1.length : Int) = 300 then (some (([] : List (S28)), wrap64 (x7_1 + 1), 300)) else (if x5_1.length < 2932031007402 then (espalierref30_Parse.l0 kj7 (x5_1 ++ [(⟨wrap64 (x7_1 + 1), t243, t246⟩ : S28)]) t239 (wrap64 (x7_1 + 1))) else (none)))) = some (r1, r2, r3) := by rw [if_pos rfl] at H; exact H
           clear H
           have H := H1
           clear H1
           by_cases c19 : ((t243.toList == ([111, 112, 101, 110] : List UInt8)) != ((x5_1.length : Int) == 0)) = true
           ·rw [if_pos c19] at H
            have c19b0 : ((t243.toList == ([111, 112, 101, 110] : List UInt8)) != ((x5_1.length : Int) == 0)) = true := c19
            (try (have c19b1 : decide ((t243.toList == ([111, 112, 101, 110] : List UInt8)) = ((x5_1.length : Int) == 0)) = false := by simpa using c19))
            (try (have c19b2 : ((t243.toList == ([111, 112, 101, 110] : List UInt8)) == ((x5_1.length : Int) == 0)) = false := by simpa using c19))
            (try (have c19b3 : ¬ ((t243.toList == ([111, 112, 101, 110] : List UInt8)) = ((x5_1.length : Int) == 0)) := by simpa using c19))
            clear c19
            simp only [Option.some.injEq, Prod.mk.injEq] at H
            obtain ⟨rfl, rfl, rfl⟩ := H
            go_wp2_with (first | ((with_reducible refine gate_callee (f := 9) rfl ?_); refine goesL_ (some 40) rfl rfl Tryd.func9 (by kernel_rfl) rfl #[.string t243] rfl rf_ ?_; (with_reducible refine (espalierref30_form.calls kj7 t243 t245 _ A14.out).mono ?_); rintro e w' ⟨rfl, ⟨nd, rfl⟩⟩; refine ⟨_, rfl, ?_⟩) | ((with_reducible refine gate_callee (f := 10) rfl ?_); refine goesL_ (some 44) rfl rfl Tryd.func10 (by kernel_rfl) rfl #[.string t244, .string t245] rfl rf_ ?_; (with_reducible refine (espalierref30_args.calls kj7 t244 t245 t246 true _ A15.out).mono ?_); rintro e w20 ⟨v248, rfl, ho0, hb⟩; refine ⟨_, rfl, ?_⟩; have n0_ := Aside0.mk (Kd.S_elder' (by (with_reducible repeat (first | apply Kd.S_alloc | apply Kd.S_drewN | apply Kd.S_drew)); exact HO_5.out) (Kd.R_base ho0) hb); have n1_ := Aside0.mk (Kd.R_elder' (by (with_reducible repeat (first | apply Kd.R_alloc | apply Kd.R_drewN | apply Kd.R_drew)); exact HO_6.out) (Kd.R_base ho0) hb); have n2_ := Aside0.mk (Kd.R_lower (Kd.R_new' ho0 (Kd.R_lt (by (with_reducible repeat (first | apply Kd.R_alloc | apply Kd.R_drewN | apply Kd.R_drew)); exact HO_6.out))) (below_size hb_)); have n3_ := Aside0.mk (below_step hb_ hb); clear HO_5; clear HO_6; clear HB; have HO_5 := n0_; have HO_6 := n1_; have HO249 := n2_; have HB := n3_; clear n0_ n1_ n2_ n3_; (try clear hb); (try clear hb2); (try clear hk); (try clear hi); (try clear ho0); obtain ⟨Ao21, co21, eo21⟩ := Kd.S_slice HO_5.out; subst eo21))
            go_ret3
            exact ⟨_, er_, by first | exact Kd.S_nil _ _ _ _ _ | exact Kd.N_nil _ _ _ _ _ | exact Kd.V_nil _ _ _ _ _ | exact Kd.Q_nil _ _ _ _ _ | exact Kd.R_nil _ _ _ _ _, by repeat (first | (with_reducible first | exact HB.out | apply below_alloc | apply pw_below_drewN | apply below_drew1) | exact HB.out)⟩
           ·rw [if_neg c19] at H
            have c19b0 : ((t243.toList == ([111, 112, 101, 110] : List UInt8)) != ((x5_1.length : Int) == 0)) = false := by simpa using c19
            (try (have c19b1 : decide ((t243.toList == ([111, 112, 101, 110] : List UInt8)) = ((x5_1.length : Int) == 0)) = true := by simpa using c19))
            (try (have c19b2 : ((t243.toList == ([111, 112, 101, 110] : List UInt8)) == ((x5_1.length : Int) == 0)) = true := by simpa using c19))
            clear c19
            by_cases c22 : (x5_1.length : Int) = 300
            ·rw [if_pos c22] at H
             have c22b0 : ((x5_1.length : Int) == 300) = true := beq_iff_eq.mpr c22
             have c22b1 : ((x5_1.length : Int) != 300) = false := bne_eq_false_iff_eq.mpr c22
             clear c22
             simp only [Option.some.injEq, Prod.mk.injEq] at H
             obtain ⟨rfl, rfl, rfl⟩ := H
             go_wp2_with (first | ((with_reducible refine gate_callee (f := 9) rfl ?_); refine goesL_ (some 40) rfl rfl Tryd.func9 (by kernel_rfl) rfl #[.string t243] rfl rf_ ?_; (with_reducible refine (espalierref30_form.calls kj7 t243 t245 _ A14.out).mono ?_); rintro e w' ⟨rfl, ⟨nd, rfl⟩⟩; refine ⟨_, rfl, ?_⟩) | ((with_reducible refine gate_callee (f := 10) rfl ?_); refine goesL_ (some 44) rfl rfl Tryd.func10 (by kernel_rfl) rfl #[.string t244, .string t245] rfl rf_ ?_; (with_reducible refine (espalierref30_args.calls kj7 t244 t245 t246 true _ A15.out).mono ?_); rintro e w23 ⟨v248, rfl, ho0, hb⟩; refine ⟨_, rfl, ?_⟩; have n0_ := Aside0.mk (Kd.S_elder' (by (with_reducible repeat (first | apply Kd.S_alloc | apply Kd.S_drewN | apply Kd.S_drew)); exact HO_5.out) (Kd.R_base ho0) hb); have n1_ := Aside0.mk (Kd.R_elder' (by (with_reducible repeat (first | apply Kd.R_alloc | apply Kd.R_drewN | apply Kd.R_drew)); exact HO_6.out) (Kd.R_base ho0) hb); have n2_ := Aside0.mk (Kd.R_lower (Kd.R_new' ho0 (Kd.R_lt (by (with_reducible repeat (first | apply Kd.R_alloc | apply Kd.R_drewN | apply Kd.R_drew)); exact HO_6.out))) (below_size hb_)); have n3_ := Aside0.mk (below_step hb_ hb); clear HO_5; clear HO_6; clear HB; have HO_5 := n0_; have HO_6 := n1_; have HO249 := n2_; have HB := n3_; clear n0_ n1_ n2_ n3_; (try clear hb); (try clear hb2); (try clear hk); (try clear hi); (try clear ho0); obtain ⟨Ao24, co24, eo24⟩ := Kd.S_slice HO_5.out; subst eo24))
             go_ret3
             exact ⟨_, er_, by first | exact Kd.S_nil _ _ _ _ _ | exact Kd.N_nil _ _ _ _ _ | exact Kd.V_nil _ _ _ _ _ | exact Kd.Q_nil _ _ _ _ _ | exact Kd.R_nil _ _ _ _ _, by repeat (first | (with_reducible first | exact HB.out | apply below_alloc | apply pw_below_drewN | apply below_drew1) | exact HB.out)⟩
            ·rw [if_neg c22] at H
             have c22b0 : ((x5_1.length : Int) == 300) = false := beq_eq_false_iff_ne.mpr c22
             have c22b1 : ((x5_1.length : Int) != 300) = true := bne_iff_ne.mpr c22
             by_cases c25 : x5_1.length < 2932031007402
             ·rw [if_pos c25] at H
              have LMc25 := Aside0.mk c25
              clear c25
              obtain ⟨y250, hy250⟩ : ∃ y_ : List (S28), y_ = (x5_1 ++ [(⟨wrap64 (x7_1 + 1), t243, t246⟩ : S28)]) := ⟨_, rfl⟩
              replace H : (espalierref30_Parse.l0 kj7 y250 t239 (wrap64 (x7_1 + 1))) = some (r1, r2, r3) := by first | (rw [hy250]; with_reducible exact H) | (have H2_ := (Option.bind_some _ _).symm.trans H; rw [hy250]; with_reducible exact H2_) | (have H2_ := (Option.bind_some _ _).symm.trans H; with_reducible exact H2_) | with_reducible exact H | (rw [hy250]; exact H) | exact H
              have Ny250 := Aside0.mk hy250
              clear hy250
              have H' := Aside0.mk H
              clear H
              go_wp2_with (first | ((with_reducible refine gate_callee (f := 9) rfl ?_); refine goesL_ (some 40) rfl rfl Tryd.func9 (by kernel_rfl) rfl #[.string t243] rfl rf_ ?_; (with_reducible refine (espalierref30_form.calls kj7 t243 t245 _ A14.out).mono ?_); rintro e w' ⟨rfl, ⟨nd, rfl⟩⟩; refine ⟨_, rfl, ?_⟩) | ((with_reducible refine gate_callee (f := 10) rfl ?_); refine goesL_ (some 44) rfl rfl Tryd.func10 (by kernel_rfl) rfl #[.string t244, .string t245] rfl rf_ ?_; (with_reducible refine (espalierref30_args.calls kj7 t244 t245 t246 true _ A15.out).mono ?_); rintro e w26 ⟨v248, rfl, ho0, hb⟩; refine ⟨_, rfl, ?_⟩; have n0_ := Aside0.mk (Kd.S_elder' (by (with_reducible repeat (first | apply Kd.S_alloc | apply Kd.S_drewN | apply Kd.S_drew)); exact HO_5.out) (Kd.R_base ho0) hb); have n1_ := Aside0.mk (Kd.R_elder' (by (with_reducible repeat (first | apply Kd.R_alloc | apply Kd.R_drewN | apply Kd.R_drew)); exact HO_6.out) (Kd.R_base ho0) hb); have n2_ := Aside0.mk (Kd.R_lower (Kd.R_new' ho0 (Kd.R_lt (by (with_reducible repeat (first | apply Kd.R_alloc | apply Kd.R_drewN | apply Kd.R_drew)); exact HO_6.out))) (below_size hb_)); have n3_ := Aside0.mk (below_step hb_ hb); clear HO_5; clear HO_6; clear HB; have HO_5 := n0_; have HO_6 := n1_; have HO249 := n2_; have HB := n3_; clear n0_ n1_ n2_ n3_; (try clear hb); (try clear hb2); (try clear hk); (try clear hi); (try clear ho0); obtain ⟨Ao27, co27, eo27⟩ := Kd.S_slice HO_5.out; subst eo27; obtain ⟨Ao28, co28, eo28⟩ := Kd.R_slice HO249.out; subst eo28) | ((with_reducible refine gate_builtin (b := .append) (xs := #[.tmp 68, .tmp 74]) rfl ?_); (try (refine gate_guard (by rfl) ?_; dsimp only)); at_builtin; refine Kd.S_append k28 (w0 := w) w.heap.size rfl (.tmp 68) (.tmp 74) 22 28 (.agg #[(.int .i64 0), (.string ⟨#[]⟩), (.slice none 0 0)]) 48 rfl Tryd.underlying22 info28 rfl (by decide) (by omega) (.slice Ao27 x5_1.length co27) x5_1 (⟨wrap64 (x7_1 + 1), t243, t246⟩ : S28) [.int .i64 (wrap64 (x7_1 + 1)), .string t243, .slice Ao28 t246.length co28] (fun k_ => some k_ ≠ (.slice (some ad242) t239.length co9 : Value).ownBlock) (fun k_ => some k_ = (.slice Ao28 t246.length co28 : Value).ownBlock) rfl rfl ?aP (fun k_ hk_ => ((Kd.R_mono (ok' := fun k_ => ((fun k_ => some k_ ≠ (.slice (some ad242) t239.length co9 : Value).ownBlock)) k_ ∧ some k_ ≠ (.slice Ao27 x5_1.length co27 : Value).ownBlock) (Kd.R_apart' (HO249.out) (Kd.S_typed HO_5.out) (by decide)) (fun k_ hk => ⟨hk.1.2, hk.2⟩))).1 k_ hk_.symm) ?aF ?aO ?aB ?aS ?aL ?_; (case aP => exact k28_mkM _ _ _ (⟨wrap64 (x7_1 + 1), t243, t246⟩ : S28) (Kd.R_mono (Kd.R_tight rfl (Kd.R_mono (ok' := fun k_ => ((fun k_ => some k_ ≠ (.slice (some ad242) t239.length co9 : Value).ownBlock)) k_ ∧ some k_ ≠ (.slice Ao27 x5_1.length co27 : Value).ownBlock) (Kd.R_apart' (HO249.out) (Kd.S_typed HO_5.out) (by decide)) (fun k_ hk => ⟨hk.1.2, hk.2⟩))) (fun _ h_ => h_))); (case aB => exact hb_); (case aF => exact (fun k_ hk => Kd.fresh' (Kd.R_lt (by (with_reducible repeat (first | apply Kd.R_alloc | apply Kd.R_drewN | apply Kd.R_drew)); exact HO_6.out)) k_ hk)); (case aO => exact (by (with_reducible repeat (first | apply Kd.S_alloc | apply Kd.S_drewN | apply Kd.S_drew)); exact Kd.S_mono HO_5.out (fun k_ hk => ⟨hk.1, fun e_ => hk.2 e_⟩))); (case aS => exact (below_size hb_)); (case aL => have := LMc25.out; omega); intro v251 w29 ho hb hg hat; rw [← Ny250.out] at ho; have n0_ := Aside0.mk (Kd.R_over' (by (with_reducible repeat (first | apply Kd.R_alloc | apply Kd.R_drewN | apply Kd.R_drew)); exact HO_6.out) (Kd.S_typed (by (with_reducible repeat (first | apply Kd.S_alloc | apply Kd.S_drewN | apply Kd.S_drew)); exact HO_5.out)) (by decide) hg); have n1_ := Aside0.mk (hb); have n2_ := Aside0.mk (ho); clear HO_6; clear HB; clear HO_5; clear HO249; have HO_6 := n0_; have HB := n1_; have HO252 := n2_; clear n0_ n1_ n2_; clear ho hb hg hat))
              go_roundg kj7
              case measure => have := HK1.out; have := HJ7.out; omega
              case rel => exact ⟨(y250), (wrap64 (x7_1 + 1)), (by first | rfl | (simp; done) | (simp [*]; done)), H', ⟨by have := HK1.out; have := HJ7.out; omega⟩, ⟨by (with_reducible repeat (first | apply Kd.S_alloc | apply Kd.S_drewN | apply Kd.S_drew)); exact HO252.out⟩, ⟨by (with_reducible repeat (first | apply Kd.R_alloc | apply Kd.R_drewN | apply Kd.R_drew)); exact Kd.R_mono HO_6.out (fun _ hk => trivial)⟩, ⟨by repeat (first | (with_reducible first | exact HB.out | apply below_alloc | apply pw_below_drewN | apply below_drew1) | exact HB.out)⟩⟩
             ·rw [if_neg c25] at H
              exact absurd H (by simp)
          ·replace c18 := Bool.eq_false_iff.mpr c18
           subst c18
           have H1 : (some (([] : List (S28)), wrap64 (x7_1 + 1), 300)) = some (r1, r2, r3) := by rw [if_neg (show ¬ (false = true) by decide)] at H; exact H
           clear H
           have H := H1
           clear H1
           simp only [Option.some.injEq, Prod.mk.injEq] at H
           obtain ⟨rfl, rfl, rfl⟩ := H
           go_wp2_with (first | ((with_reducible refine gate_callee (f := 9) rfl ?_); refine goesL_ (some 40) rfl rfl Tryd.func9 (by kernel_rfl) rfl #[.string t243] rfl rf_ ?_; (with_reducible refine (espalierref30_form.calls kj7 t243 t245 _ A14.out).mono ?_); rintro e w' ⟨rfl, ⟨nd, rfl⟩⟩; refine ⟨_, rfl, ?_⟩) | ((with_reducible refine gate_callee (f := 10) rfl ?_); refine goesL_ (some 44) rfl rfl Tryd.func10 (by kernel_rfl) rfl #[.string t244, .string t245] rfl rf_ ?_; (with_reducible refine (espalierref30_args.calls kj7 t244 t245 t246 false _ A15.out).mono ?_); rintro e w30 ⟨v248, rfl, ho0, hb⟩; refine ⟨_, rfl, ?_⟩; have n0_ := Aside0.mk (Kd.S_elder' (by (with_reducible repeat (first | apply Kd.S_alloc | apply Kd.S_drewN | apply Kd.S_drew)); exact HO_5.out) (Kd.R_base ho0) hb); have n1_ := Aside0.mk (Kd.R_elder' (by (with_reducible repeat (first | apply Kd.R_alloc | apply Kd.R_drewN | apply Kd.R_drew)); exact HO_6.out) (Kd.R_base ho0) hb); have n2_ := Aside0.mk (Kd.R_lower (Kd.R_new' ho0 (Kd.R_lt (by (with_reducible repeat (first | apply Kd.R_alloc | apply Kd.R_drewN | apply Kd.R_drew)); exact HO_6.out))) (below_size hb_)); have n3_ := Aside0.mk (below_step hb_ hb); clear HO_5; clear HO_6; clear HB; have HO_5 := n0_; have HO_6 := n1_; have HO249 := n2_; have HB := n3_; clear n0_ n1_ n2_ n3_; (try clear hb); (try clear hb2); (try clear hk); (try clear hi); (try clear ho0)))
           go_ret3
           exact ⟨_, er_, by first | exact Kd.S_nil _ _ _ _ _ | exact Kd.N_nil _ _ _ _ _ | exact Kd.V_nil _ _ _ _ _ | exact Kd.Q_nil _ _ _ _ _ | exact Kd.R_nil _ _ _ _ _, by repeat (first | (with_reducible first | exact HB.out | apply below_alloc | apply pw_below_drewN | apply below_drew1) | exact HB.out)⟩
     ·rw [if_neg c6] at H
      exact absurd H (by simp)
    ·rw [if_neg c5] at H
     have c5b0 : decide (x7_1 < (t239.length : Int)) = false := decide_eq_false c5
     clear c5
     simp only [Option.some.injEq, Prod.mk.injEq] at H
     obtain ⟨rfl, rfl, rfl⟩ := H
     obtain ⟨Ao31, co31, eo31⟩ := Kd.R_slice HO_6.out
     subst eo31
     go_wp2
     go_ret3
     exact ⟨_, er_, by (with_reducible repeat (first | apply Kd.S_alloc | apply Kd.S_drewN | apply Kd.S_drew)); exact Kd.S_mono HO_5.out (fun _ hk => trivial), by repeat (first | (with_reducible first | exact HB.out | apply below_alloc | apply pw_below_drewN | apply below_drew1) | exact HB.out)⟩

end Go.Proofs.YtggdffgoffmlpaaDoor.PA
