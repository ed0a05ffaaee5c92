-- Written by a program of this session (wip/tools/xprint.py: the kit's print, with given functions). Not trusted: Lean checks it.
-- squeezed
import Derived.Test.YtealmfcimoomlaaDoorPA0
namespace Go.Proofs.YtealmfcimoomlaaDoor.PA
open Go.RowKit Go.Proofs.YtealmfcimoomlaaDoorW.PrintWords Go.Proofs.YtealmfcimoomlaaDoorW.PrintLast Go.Proofs.YtealmfcimoomlaaDoorW.PrintMore
attribute [local go_sem] max2_int min2_int max_two min_two max_three min_three max_four min_four   -- for this text's walks alone
set_option linter.unusedVariables false
set_option linter.unusedSimpArgs false

/-! ### espalierref04_normal: function 22 -/
mutual
def espalierref04_normal.l0 : Nat → List (S36) → List (S36) → Int → Option ((List (S36)) × Bool)
 | 0, _, _, _ => none
 | k + 1, x0, x4, x5 => if x5 < (x0.length : Int) then (if 0 ≤ x5 then (if ((rd_T36 x0 x5).f0) = 2 then (if ((rd_T36 x0 x5).f3).toList = ([] : List UInt8) then (espalierref04_normal.l0 k x0 x4 (wrap64 (x5 + 1))) else (if (wrap64 ((x4.length : Int) - 1)) ≥ 0 then (if 0 ≤ (wrap64 ((x4.length : Int) - 1)) then (if (wrap64 ((x4.length : Int) - 1)) < (x4.length : Int) then (espalierref04_normal.j1 k x0 x4 x5 (wrap64 ((x4.length : Int) - 1)) (((rd_T36 x4 (wrap64 ((x4.length : Int) - 1))).f0) == 2) ((rd_T36 x0 x5).f0) ((rd_T36 x0 x5).f1) ((rd_T36 x0 x5).f2) ((rd_T36 x0 x5).f3) ((rd_T36 x0 x5).f4)) else (none)) else (none)) else (espalierref04_normal.j1 k x0 x4 x5 (wrap64 ((x4.length : Int) - 1)) false ((rd_T36 x0 x5).f0) ((rd_T36 x0 x5).f1) ((rd_T36 x0 x5).f2) ((rd_T36 x0 x5).f3) ((rd_T36 x0 x5).f4)))) else ((espalierref04_normal.f k ((rd_T36 x0 x5).f4)).bind fun bt266 => (if bt266.2 = true then ((some (([] : List (S54)) : List (S54))).bind fun y270 => (if y270.length + ((rd_T36 x0 x5).f2).length < 4398046511104 then (if x4.length < 1599289640401 then (espalierref04_normal.l0 k x0 (x4 ++ [(⟨1, (rd_T36 x0 x5).f1, (y270 ++ ((rd_T36 x0 x5).f2)), (⟨#[]⟩ : ByteArray), bt266.1⟩ : S36)]) (wrap64 (x5 + 1))) else (none)) else (none))) else (some (([] : List (S36)), false))))) else (none)) else (some (x4, true))
def espalierref04_normal.j1 : Nat → List (S36) → List (S36) → Int → Int → Bool → Int → ByteArray → List (S54) → ByteArray → List (S36) → Option ((List (S36)) × Bool)
 | 0, _, _, _, _, _, _, _, _, _, _ => none
 | k + 1, x0, x4, x5, x7, x36, x259000, x259001, x259002, x259003, x259004 => if x36 = true then (if 0 ≤ x7 then (if x7 < (x4.length : Int) then (if (wrap64 ((((rd_T36 x4 x7).f3).size : Int) + (x259003.size : Int))) > 16384 then (some (([] : List (S36)), false)) else (if ((rd_T36 x4 x7).f3).size + x259003.size ≤ 9223372036854775807 then (espalierref04_normal.l0 k x0 (x4.set (x7 : Int).toNat (⟨(rd_T36 x4 x7).f0, (rd_T36 x4 x7).f1, (rd_T36 x4 x7).f2, ((rd_T36 x4 x7).f3) ++ x259003, (rd_T36 x4 x7).f4⟩ : S36)) (wrap64 (x5 + 1))) else (none))) else (none)) else (none)) else (if x4.length < 1599289640401 then (espalierref04_normal.l0 k x0 (x4 ++ [(⟨2, (⟨#[]⟩ : ByteArray), ([] : List (S54)), x259003, ([] : List (S36))⟩ : S36)]) (wrap64 (x5 + 1))) else (none))
def espalierref04_normal.f : Nat → List (S36) → Option ((List (S36)) × Bool)
 | 0, _ => none
 | k + 1, l0 => espalierref04_normal.l0 k l0 ([] : List (S36)) 0
end
theorem espalierref04_normal.mono_l : ∀ k, (∀ y0, LeO (espalierref04_normal.f k y0) (espalierref04_normal.f (k + 1) y0)) ∧ (∀ y0 y1 y2, LeO (espalierref04_normal.l0 k y0 y1 y2) (espalierref04_normal.l0 (k + 1) y0 y1 y2)) ∧ (∀ y0 y1 y2 y3 y4 y5 y6 y7 y8 y9, LeO (espalierref04_normal.j1 k y0 y1 y2 y3 y4 y5 y6 y7 y8 y9) (espalierref04_normal.j1 (k + 1) y0 y1 y2 y3 y4 y5 y6 y7 y8 y9))
 | 0 => ⟨fun _ r h => by simp [espalierref04_normal.f] at h, fun _ _ _ r h => by simp [espalierref04_normal.l0] at h, fun _ _ _ _ _ _ _ _ _ _ r h => by simp [espalierref04_normal.j1] at h⟩
 | k + 1 => by
  obtain ⟨ih0, ih1, ih2⟩ := espalierref04_normal.mono_l k
  refine ⟨?_, ?_, ?_⟩
  ·intro y0
   unfold espalierref04_normal.f
   repeat' first
   | (with_reducible exact ih0 _)
   | (with_reducible exact ih1 _ _ _)
   | (with_reducible exact ih2 _ _ _ _ _ _ _ _ _ _)
   | (with_reducible exact LeO.refl _)
   | (with_reducible exact LeO.none _)
   | (with_reducible refine LeO.ite ?_ ?_)
   | (with_reducible refine LeO.bind ?_ (fun _ => ?_))
   | exact ih0 _
   | exact ih1 _ _ _
   | exact ih2 _ _ _ _ _ _ _ _ _ _
   | exact LeO.none _
   | refine LeO.ite ?_ ?_
   | refine LeO.bind ?_ (fun _ => ?_)
  ·intro y0 y1 y2
   unfold espalierref04_normal.l0
   repeat' first
   | (with_reducible exact ih0 _)
   | (with_reducible exact ih1 _ _ _)
   | (with_reducible exact ih2 _ _ _ _ _ _ _ _ _ _)
   | (with_reducible exact LeO.refl _)
   | (with_reducible exact LeO.none _)
   | (with_reducible refine LeO.ite ?_ ?_)
   | (with_reducible refine LeO.bind ?_ (fun _ => ?_))
   | exact ih0 _
   | exact ih1 _ _ _
   | exact ih2 _ _ _ _ _ _ _ _ _ _
   | exact LeO.none _
   | refine LeO.ite ?_ ?_
   | refine LeO.bind ?_ (fun _ => ?_)
  ·intro y0 y1 y2 y3 y4 y5 y6 y7 y8 y9
   unfold espalierref04_normal.j1
   repeat' first
   | (with_reducible exact ih0 _)
   | (with_reducible exact ih1 _ _ _)
   | (with_reducible exact ih2 _ _ _ _ _ _ _ _ _ _)
   | (with_reducible exact LeO.refl _)
   | (with_reducible exact LeO.none _)
   | (with_reducible refine LeO.ite ?_ ?_)
   | (with_reducible refine LeO.bind ?_ (fun _ => ?_))
   | exact ih0 _
   | exact ih1 _ _ _
   | exact ih2 _ _ _ _ _ _ _ _ _ _
   | exact LeO.none _
   | refine LeO.ite ?_ ?_
   | refine LeO.bind ?_ (fun _ => ?_)
theorem espalierref04_normal.mono : ∀ a0 k, LeO (espalierref04_normal.f k a0) (espalierref04_normal.f (k + 1) a0) := by
 intro a0 k
 obtain ⟨ih0, ih1, ih2⟩ := espalierref04_normal.mono_l k
 exact ih0 a0
def espalierref04_normal.T11 : Bool × List (List Nat × List Nat) := (true, [([], []), ([], []), ([0, 1], [0, 1]), ([2], [2]), ([3], [3]), ([4], [4]), ([], []), ([6], [6]), ([7], [7]), ([5, 8], [5, 8]), ([9], [9])])
def espalierref04_normal.B11 : List Nat := [0, 0, 3, 7, 15, 31, 0, 64, 192, 511, 1023]
theorem espalierref04_normal.tab11 : rtab .any (opsOf Tryd.f22 11) = espalierref04_normal.T11 := by kernel_rfl
theorem espalierref04_normal.bits11 : waitsOk espalierref04_normal.T11.2 espalierref04_normal.B11 = true := by kernel_rfl
def espalierref04_normal.T13 : Bool × List (List Nat × List Nat) := (true, [([], []), ([], []), ([], []), ([], []), ([2, 3], [2, 3]), ([4], [4]), ([5], [5]), ([], []), ([7], [7]), ([6, 8], [6, 8]), ([0, 1, 0, 1, 2, 3, 4, 5, 6, 7, 8, 9], [0, 1]), ([10, 0, 1, 2, 3, 4, 5, 6, 7, 8, 9], [10]), ([11, 9, 0, 1, 2, 3, 4, 5, 6, 7, 8, 9], [9, 11])])
def espalierref04_normal.B13 : List Nat := [0, 0, 0, 0, 12, 28, 60, 0, 128, 508, 1023, 2047, 4095]
theorem espalierref04_normal.tab13 : rtab .any (opsOf Tryd.f22 13) = espalierref04_normal.T13 := by kernel_rfl
theorem espalierref04_normal.bits13 : waitsOk espalierref04_normal.T13.2 espalierref04_normal.B13 = true := by kernel_rfl
def espalierref04_normal.T17 : Bool × List (List Nat × List Nat) := (true, [([], []), ([], []), ([1], [1]), ([], []), ([], []), ([4], [4]), ([3, 5], [3, 5]), ([], []), ([2, 6, 7], [2, 6, 7]), ([8], [8]), ([0, 9, 6], [0, 9]), ([10, 10, 0, 1, 2, 3, 4, 5, 6, 7, 8, 9, 10], [0, 10])])
def espalierref04_normal.B17 : List Nat := [0, 0, 2, 0, 0, 16, 56, 0, 254, 510, 1023, 2047]
theorem espalierref04_normal.tab17 : rtab .any (opsOf Tryd.f22 17) = espalierref04_normal.T17 := by kernel_rfl
theorem espalierref04_normal.bits17 : waitsOk espalierref04_normal.T17.2 espalierref04_normal.B17 = true := by kernel_rfl
set_option maxHeartbeats 8000000 in
set_option maxRecDepth 100000 in
theorem espalierref04_normal.calls (k : Nat) : ∀ (A0 : Option Addr) (c0 : Nat) (l0 : List (S36)) (r1 : List (S36)) (r2 : Bool) (w : World) (hr0 : Kd.C k36 w A0 l0.length l0) (hc0 : l0.length ≤ c0) (h : espalierref04_normal.f k l0 = some (r1, r2)),
  Calls Tryd.prog 22 #[.slice A0 l0.length c0] w fun e w' => ∃ v0_ : Value, e = .returned (.tuple #[v0_, .bool r2]) ∧ Kd.R k36 36 w' w.heap.size (fun _ => True) v0_ r1 ∧ Below w.heap.size w w' := by
 induction k using Nat.strongRecOn with
 | _ k ih =>
 intro A0 c0 l0 r1 r2 w hr0 hc0 h
 cases k with
 | zero => exact absurd h (by simp [espalierref04_normal.f])
 | succ k =>
 simp only [espalierref04_normal.f] at h
 have hu36 := Tryd.underlying36
 have HR0 := Aside0.mk hr0
 have HC0 := Aside0.mk hc0
 clear hr0 hc0
 have HB := Aside0.mk (Below.refl w.heap.size w)
 have H : (espalierref04_normal.l0 k l0 ([] : List (S36)) 0) = some (r1, r2) := h
 clear h
 have H' := Aside0.mk H
 clear H
 go_enter Tryd.func22, Tryd.ntmps22
 go_wp2
 go_loopg [4, 5] k (fun kq v4 v5 w' => ∃ (x4_1 : List (S36)) (x5_1 : Int), v5 = .int .i64 x5_1 ∧ Aside0 (espalierref04_normal.l0 kq l0 x4_1 x5_1 = some (r1, r2)) ∧ Aside0 (kq ≤ k) ∧ Aside0 (Kd.R k36 36 w' w.heap.size (fun _ => True) v4 x4_1) ∧ Aside0 (Below w.heap.size w w'))
 case atStart => exact ⟨(([] : List (S36))), (0), (by first | rfl | (simp; done) | (simp [*]; done)), H', ⟨Nat.le_refl _⟩, ⟨by first | exact Kd.R_nil _ _ _ _ _ | exact Kd.N_nil _ _ _ _ _ | exact Kd.V_nil _ _ _ _ _ | exact Kd.Q_nil _ _ _ _ _ | exact Kd.S_nil _ _ _ _ _⟩, ⟨hb_⟩⟩
 case round =>
  clear H'
  obtain ⟨x4_1, x5_1, rfl, HA, HK1, HO_4, HB⟩ := hrel
  cases gk with
  | zero => exact absurd HA.out (by simp [espalierref04_normal.l0])
  | succ k1 =>
   have H := HA.out
   clear HA
   simp only [espalierref04_normal.l0] at H
   by_cases c2 : x5_1 < (l0.length : Int)
   ·rw [if_pos c2] at H
    have c2b0 : decide (x5_1 < (l0.length : Int)) = true := decide_eq_true c2
    clear c2
    by_cases c3 : 0 ≤ x5_1
    ·rw [if_pos c3] at H
     have c3b0 : decide (0 ≤ x5_1) = true := decide_eq_true c3
     clear c3
     by_cases c4 : ((rd_T36 l0 x5_1).f0) = 2
     ·rw [if_pos c4] at H
      have c4b0 := beq_iff_eq.mpr c4
      have c4b1 := bne_eq_false_iff_eq.mpr c4
      clear c4
      by_cases c5 : ((rd_T36 l0 x5_1).f3).toList = ([] : List UInt8)
      ·rw [if_pos c5] at H
       have c5b0 := beq_iff_eq.mpr c5
       have c5b1 := bne_eq_false_iff_eq.mpr c5
       clear c5
       have H' := Aside0.mk H
       clear H
       have p257 : 0 ≤ (x5_1 : Int) := of_decide_eq_true (by first | (with_reducible assumption) | assumption)
       have q257 : x5_1 < (l0.length : Int) := of_decide_eq_true (by first | (with_reducible assumption) | assumption)
       obtain ⟨ad257, A257_2, c257_2, A257_4, c257_4, e257, hx257_0, hx257_1, hx257_2, hx257_3, hx257_4, hl257_2, hi257_2, hl257_4, hi257_4⟩ := at_T36 HR0.out x5_1 p257 q257
       cases e257
       replace hx257_0 := hc_ HB.out hx257_0
       replace hx257_1 := hc_ HB.out hx257_1
       replace hx257_2 := hc_ HB.out hx257_2
       replace hx257_3 := hc_ HB.out hx257_3
       replace hx257_4 := hc_ HB.out hx257_4
       have HR257_2 := Aside0.mk hi257_2
       have HC257_2 := Aside0.mk hl257_2
       clear hi257_2 hl257_2
       have HR257_4 := Aside0.mk hi257_4
       have HC257_4 := Aside0.mk hl257_4
       clear hi257_4 hl257_4
       replace p257 := eq_true p257
       replace q257 := eq_true q257
       go_wp2_with (first | ((with_reducible refine gate_dst (N := 6) rfl ?_); refine box_event ?hg (N := 6) ?hd (cs := #[.int .i64 0, .string (⟨#[]⟩ : ByteArray), .slice none 0 0, .string (⟨#[]⟩ : ByteArray), .slice none 0 0]) (t := 36) ?hr ?_; (case hd => rfl); (case hg => rfl); (case hr => first | (go_simp; done) | (go_simp; rfl)); intro gb258 hg w6 hbox hb; have n0_ := Aside0.mk (Kd.R_below (Kd.R_elderB (ra_ HO_4.out) gb258 (Nat.le_of_eq hg.symm)) hb); have n1_ := Aside0.mk (below_step hb_ hb); have n2_ := Aside0.mk (hbox); have n3_ := Aside0.mk ((by rw [hg]; exact (below_size hb_) : w.heap.size ≤ gb258)); have n4_ := Aside0.mk ((by rw [hg]; exact (below_size hb_) : w.heap.size ≤ gb258)); clear HO_4; clear HB; have HO_4 := n0_; have HB := n1_; have BK258 := n2_; have GW258 := n3_; have GE258 := n4_; clear n0_ n1_ n2_ n3_ n4_; clear hb hbox hg; obtain ⟨hcz7_0, hcz7_1, hcz7_2, hcz7_3, hcz7_4⟩ := ce5_ BK258.out; obtain ⟨hfz7_0, hfz7_1, hfz7_2, hfz7_3, hfz7_4⟩ := fr5_ BK258.out; obtain ⟨Ao8, co8, eo8⟩ := Kd.R_slice HO_4.out; subst eo8))
       go_roundg k1
       case measure => have := HK1.out; omega
       case rel => exact ⟨(x4_1), (wrap64 (x5_1 + 1)), (by first | rfl | (simp; done) | (simp [*]; done)), H', ⟨by have := HK1.out; omega⟩, ⟨rm_ (Kd.R_mono HO_4.out (fun k_ hk => (⟨hk, hk.2⟩ : _ ∧ k_ ≠ gb258))) (fun _ hk => hk.2)⟩, ⟨hb1_ GE258.out⟩⟩
      ·rw [if_neg c5] at H
       have c5b0 := beq_eq_false_iff_ne.mpr c5
       have c5b1 := bne_iff_ne.mpr c5
       have HC9 := Aside0.mk H
       clear H
       have p257 : 0 ≤ (x5_1 : Int) := of_decide_eq_true (by first | (with_reducible assumption) | assumption)
       have q257 : x5_1 < (l0.length : Int) := of_decide_eq_true (by first | (with_reducible assumption) | assumption)
       obtain ⟨ad257, A257_2, c257_2, A257_4, c257_4, e257, hx257_0, hx257_1, hx257_2, hx257_3, hx257_4, hl257_2, hi257_2, hl257_4, hi257_4⟩ := at_T36 HR0.out x5_1 p257 q257
       cases e257
       replace hx257_0 := hc_ HB.out hx257_0
       replace hx257_1 := hc_ HB.out hx257_1
       replace hx257_2 := hc_ HB.out hx257_2
       replace hx257_3 := hc_ HB.out hx257_3
       replace hx257_4 := hc_ HB.out hx257_4
       have HR257_2 := Aside0.mk hi257_2
       have HC257_2 := Aside0.mk hl257_2
       clear hi257_2 hl257_2
       have HR257_4 := Aside0.mk hi257_4
       have HC257_4 := Aside0.mk hl257_4
       clear hi257_4 hl257_4
       replace p257 := eq_true p257
       replace q257 := eq_true q257
       go_upto_region 10 with (first | ((with_reducible refine gate_dst (N := 6) rfl ?_); refine box_event ?hg (N := 6) ?hd (cs := #[.int .i64 0, .string (⟨#[]⟩ : ByteArray), .slice none 0 0, .string (⟨#[]⟩ : ByteArray), .slice none 0 0]) (t := 36) ?hr ?_; (case hd => rfl); (case hg => rfl); (case hr => first | (go_simp; done) | (go_simp; rfl)); intro gb258 hg w10 hbox hb; have n0_ := Aside0.mk (Kd.R_below (Kd.R_elderB (ra_ HO_4.out) gb258 (Nat.le_of_eq hg.symm)) hb); have n1_ := Aside0.mk (below_step hb_ hb); have n2_ := Aside0.mk (hbox); have n3_ := Aside0.mk ((by rw [hg]; exact (below_size hb_) : w.heap.size ≤ gb258)); have n4_ := Aside0.mk ((by rw [hg]; exact (below_size hb_) : w.heap.size ≤ gb258)); clear HO_4; clear HB; have HO_4 := n0_; have HB := n1_; have BK258 := n2_; have GW258 := n3_; have GE258 := n4_; clear n0_ n1_ n2_ n3_ n4_; clear hb hbox hg; obtain ⟨hcz11_0, hcz11_1, hcz11_2, hcz11_3, hcz11_4⟩ := ce5_ BK258.out; obtain ⟨hfz11_0, hfz11_1, hfz11_2, hfz11_3, hfz11_4⟩ := fr5_ BK258.out; obtain ⟨Ao12, co12, eo12⟩ := Kd.R_slice HO_4.out; subst eo12))
       (try simp only [Act.put, List.setIfInBounds_toArray, List.set_cons_zero, List.set_cons_succ])
       go_cut [36] (fun v36 wc => ∃ (kq : Nat) (x36_8 : Bool), v36 = .bool x36_8 ∧ Aside0 (espalierref04_normal.j1 kq l0 x4_1 x5_1 (wrap64 ((x4_1.length : Int) - 1)) x36_8 ((rd_T36 l0 x5_1).f0) ((rd_T36 l0 x5_1).f1) ((rd_T36 l0 x5_1).f2) ((rd_T36 l0 x5_1).f3) ((rd_T36 l0 x5_1).f4) = some (r1, r2)) ∧ Aside0 (kq ≤ k1) ∧ Aside0 (Kd.R k36 36 wc w.heap.size (fun k_ => k_ ≠ gb258) (.slice Ao12 x4_1.length co12) x4_1) ∧ Aside0 (wc.heap[gb258]? = some (.cells #[.int .i64 ((rd_T36 l0 x5_1).f0), .string ((rd_T36 l0 x5_1).f1), (.slice A257_2 ((rd_T36 l0 x5_1).f2).length c257_2), .string ((rd_T36 l0 x5_1).f3), (.slice A257_4 ((rd_T36 l0 x5_1).f4).length c257_4)] 36 (0, 0))) ∧ Aside0 (Below w.heap.size w wc))
       case first =>
        have H := HC9.out
        clear HC9
        by_cases c13 : (wrap64 ((x4_1.length : Int) - 1)) ≥ 0
        ·rw [if_pos c13] at H
         have c13b0 : decide (0 ≤ (wrap64 ((x4_1.length : Int) - 1))) = true := decide_eq_true c13
         clear c13
         (first | rw [c13b0] | (simp only [i64_w, i32_w]; rw [c13b0]) | skip)
         obtain ⟨ji14, hji14⟩ : ∃ j_ : Int, (wrap64 ((x4_1.length : Int) - 1)) = j_ := ⟨_, rfl⟩
         replace H : (if 0 ≤ (ji14) then (if (ji14) < (x4_1.length : Int) then (espalierref04_normal.j1 k1 l0 x4_1 x5_1 ji14 (((rd_T36 x4_1 (ji14)).f0) == 2) ((rd_T36 l0 x5_1).f0) ((rd_T36 l0 x5_1).f1) ((rd_T36 l0 x5_1).f2) ((rd_T36 l0 x5_1).f3) ((rd_T36 l0 x5_1).f4)) else (none)) else (none)) = some (r1, r2) := by first | (rw [hji14] at H; exact H) | (simp only [hji14] at H ⊢; exact H)
         (try rw [hji14] at c13b0)
         have hji14w : (IntKind.i64.wrap ((x4_1.length : Int) - 1)) = ji14 := (i64_w _).trans hji14
         by_cases c15 : 0 ≤ (ji14)
         ·rw [if_pos c15] at H
          have c15b0 : decide (0 ≤ (ji14)) = true := decide_eq_true c15
          clear c15
          by_cases c16 : (ji14) < (x4_1.length : Int)
          ·rw [if_pos c16] at H
           have c16b0 : decide ((ji14) < (x4_1.length : Int)) = true := decide_eq_true c16
           clear c16
           have H' := Aside0.mk H
           clear H
           have p259 : 0 ≤ ((ji14) : Int) := of_decide_eq_true (by first | (with_reducible assumption) | assumption)
           have q259 : (ji14) < (x4_1.length : Int) := of_decide_eq_true (by first | (with_reducible assumption) | assumption)
           obtain ⟨ad259, A259_2, c259_2, A259_4, c259_4, e259, hx259_0, hx259_1, hx259_2, hx259_3, hx259_4, hl259_2, hi259_2, hl259_4, hi259_4⟩ := at_T36 (Kd.R_reads' HO_4.out).2.2 (ji14) p259 q259
           cases e259
           have hn259_0 : ad259.block ≠ gb258 := (fun e_ => (HO_4.out.1 _ rfl).2 e_)
           have hn259_1 : ad259.block ≠ gb258 := (fun e_ => (HO_4.out.1 _ rfl).2 e_)
           have hn259_2 : ad259.block ≠ gb258 := (fun e_ => (HO_4.out.1 _ rfl).2 e_)
           have hn259_3 : ad259.block ≠ gb258 := (fun e_ => (HO_4.out.1 _ rfl).2 e_)
           have hn259_4 : ad259.block ≠ gb258 := (fun e_ => (HO_4.out.1 _ rfl).2 e_)
           have HR259_2 := Aside0.mk hi259_2
           have HC259_2 := Aside0.mk hl259_2
           clear hi259_2 hl259_2
           have HR259_4 := Aside0.mk hi259_4
           have HC259_4 := Aside0.mk hl259_4
           clear hi259_4 hl259_4
           replace hx259_0 := (cell_far (p := ⟨gb258, 0, none⟩) (by first | (rw [add_block]; exact hn259_0) | (show (Addr.add _ _).block ≠ _; rw [add_block]; exact hn259_0) | exact hn259_0) (.int .i64 ((rd_T36 l0 x5_1).f0))).trans hx259_0
           replace hx259_1 := (cell_far (p := ⟨gb258, 0, none⟩) (by first | (rw [add_block]; exact hn259_0) | (show (Addr.add _ _).block ≠ _; rw [add_block]; exact hn259_0) | exact hn259_0) (.int .i64 ((rd_T36 l0 x5_1).f0))).trans hx259_1
           replace hx259_2 := (cell_far (p := ⟨gb258, 0, none⟩) (by first | (rw [add_block]; exact hn259_0) | (show (Addr.add _ _).block ≠ _; rw [add_block]; exact hn259_0) | exact hn259_0) (.int .i64 ((rd_T36 l0 x5_1).f0))).trans hx259_2
           replace hx259_3 := (cell_far (p := ⟨gb258, 0, none⟩) (by first | (rw [add_block]; exact hn259_0) | (show (Addr.add _ _).block ≠ _; rw [add_block]; exact hn259_0) | exact hn259_0) (.int .i64 ((rd_T36 l0 x5_1).f0))).trans hx259_3
           replace hx259_4 := (cell_far (p := ⟨gb258, 0, none⟩) (by first | (rw [add_block]; exact hn259_0) | (show (Addr.add _ _).block ≠ _; rw [add_block]; exact hn259_0) | exact hn259_0) (.int .i64 ((rd_T36 l0 x5_1).f0))).trans hx259_4
           replace hx259_0 := (cell_far (p := ⟨gb258, 1, none⟩) (by first | (rw [add_block]; exact hn259_1) | (show (Addr.add _ _).block ≠ _; rw [add_block]; exact hn259_1) | exact hn259_1) (.string ((rd_T36 l0 x5_1).f1))).trans hx259_0
           replace hx259_1 := (cell_far (p := ⟨gb258, 1, none⟩) (by first | (rw [add_block]; exact hn259_1) | (show (Addr.add _ _).block ≠ _; rw [add_block]; exact hn259_1) | exact hn259_1) (.string ((rd_T36 l0 x5_1).f1))).trans hx259_1
           replace hx259_2 := (cell_far (p := ⟨gb258, 1, none⟩) (by first | (rw [add_block]; exact hn259_1) | (show (Addr.add _ _).block ≠ _; rw [add_block]; exact hn259_1) | exact hn259_1) (.string ((rd_T36 l0 x5_1).f1))).trans hx259_2
           replace hx259_3 := (cell_far (p := ⟨gb258, 1, none⟩) (by first | (rw [add_block]; exact hn259_1) | (show (Addr.add _ _).block ≠ _; rw [add_block]; exact hn259_1) | exact hn259_1) (.string ((rd_T36 l0 x5_1).f1))).trans hx259_3
           replace hx259_4 := (cell_far (p := ⟨gb258, 1, none⟩) (by first | (rw [add_block]; exact hn259_1) | (show (Addr.add _ _).block ≠ _; rw [add_block]; exact hn259_1) | exact hn259_1) (.string ((rd_T36 l0 x5_1).f1))).trans hx259_4
           replace hx259_0 := (cell_far (p := ⟨gb258, 2, none⟩) (by first | (rw [add_block]; exact hn259_2) | (show (Addr.add _ _).block ≠ _; rw [add_block]; exact hn259_2) | exact hn259_2) (.slice A257_2 ((rd_T36 l0 x5_1).f2).length c257_2)).trans hx259_0
           replace hx259_1 := (cell_far (p := ⟨gb258, 2, none⟩) (by first | (rw [add_block]; exact hn259_2) | (show (Addr.add _ _).block ≠ _; rw [add_block]; exact hn259_2) | exact hn259_2) (.slice A257_2 ((rd_T36 l0 x5_1).f2).length c257_2)).trans hx259_1
           replace hx259_2 := (cell_far (p := ⟨gb258, 2, none⟩) (by first | (rw [add_block]; exact hn259_2) | (show (Addr.add _ _).block ≠ _; rw [add_block]; exact hn259_2) | exact hn259_2) (.slice A257_2 ((rd_T36 l0 x5_1).f2).length c257_2)).trans hx259_2
           replace hx259_3 := (cell_far (p := ⟨gb258, 2, none⟩) (by first | (rw [add_block]; exact hn259_2) | (show (Addr.add _ _).block ≠ _; rw [add_block]; exact hn259_2) | exact hn259_2) (.slice A257_2 ((rd_T36 l0 x5_1).f2).length c257_2)).trans hx259_3
           replace hx259_4 := (cell_far (p := ⟨gb258, 2, none⟩) (by first | (rw [add_block]; exact hn259_2) | (show (Addr.add _ _).block ≠ _; rw [add_block]; exact hn259_2) | exact hn259_2) (.slice A257_2 ((rd_T36 l0 x5_1).f2).length c257_2)).trans hx259_4
           replace hx259_0 := (cell_far (p := ⟨gb258, 3, none⟩) (by first | (rw [add_block]; exact hn259_3) | (show (Addr.add _ _).block ≠ _; rw [add_block]; exact hn259_3) | exact hn259_3) (.string ((rd_T36 l0 x5_1).f3))).trans hx259_0
           replace hx259_1 := (cell_far (p := ⟨gb258, 3, none⟩) (by first | (rw [add_block]; exact hn259_3) | (show (Addr.add _ _).block ≠ _; rw [add_block]; exact hn259_3) | exact hn259_3) (.string ((rd_T36 l0 x5_1).f3))).trans hx259_1
           replace hx259_2 := (cell_far (p := ⟨gb258, 3, none⟩) (by first | (rw [add_block]; exact hn259_3) | (show (Addr.add _ _).block ≠ _; rw [add_block]; exact hn259_3) | exact hn259_3) (.string ((rd_T36 l0 x5_1).f3))).trans hx259_2
           replace hx259_3 := (cell_far (p := ⟨gb258, 3, none⟩) (by first | (rw [add_block]; exact hn259_3) | (show (Addr.add _ _).block ≠ _; rw [add_block]; exact hn259_3) | exact hn259_3) (.string ((rd_T36 l0 x5_1).f3))).trans hx259_3
           replace hx259_4 := (cell_far (p := ⟨gb258, 3, none⟩) (by first | (rw [add_block]; exact hn259_3) | (show (Addr.add _ _).block ≠ _; rw [add_block]; exact hn259_3) | exact hn259_3) (.string ((rd_T36 l0 x5_1).f3))).trans hx259_4
           replace hx259_0 := (cell_far (p := ⟨gb258, 4, none⟩) (by first | (rw [add_block]; exact hn259_4) | (show (Addr.add _ _).block ≠ _; rw [add_block]; exact hn259_4) | exact hn259_4) (.slice A257_4 ((rd_T36 l0 x5_1).f4).length c257_4)).trans hx259_0
           replace hx259_1 := (cell_far (p := ⟨gb258, 4, none⟩) (by first | (rw [add_block]; exact hn259_4) | (show (Addr.add _ _).block ≠ _; rw [add_block]; exact hn259_4) | exact hn259_4) (.slice A257_4 ((rd_T36 l0 x5_1).f4).length c257_4)).trans hx259_1
           replace hx259_2 := (cell_far (p := ⟨gb258, 4, none⟩) (by first | (rw [add_block]; exact hn259_4) | (show (Addr.add _ _).block ≠ _; rw [add_block]; exact hn259_4) | exact hn259_4) (.slice A257_4 ((rd_T36 l0 x5_1).f4).length c257_4)).trans hx259_2
           replace hx259_3 := (cell_far (p := ⟨gb258, 4, none⟩) (by first | (rw [add_block]; exact hn259_4) | (show (Addr.add _ _).block ≠ _; rw [add_block]; exact hn259_4) | exact hn259_4) (.slice A257_4 ((rd_T36 l0 x5_1).f4).length c257_4)).trans hx259_3
           replace hx259_4 := (cell_far (p := ⟨gb258, 4, none⟩) (by first | (rw [add_block]; exact hn259_4) | (show (Addr.add _ _).block ≠ _; rw [add_block]; exact hn259_4) | exact hn259_4) (.slice A257_4 ((rd_T36 l0 x5_1).f4).length c257_4)).trans hx259_4
           clear hn259_0
           clear hn259_1
           clear hn259_2
           clear hn259_3
           clear hn259_4
           replace p259 := eq_true p259
           replace q259 := eq_true q259
           go_wp2
           go_meet
           case rel => exact ⟨_, ((((rd_T36 x4_1 (ji14)).f0) == 2)), (by first | rfl | (simp; done) | (simp only [← hji14] <;> (first | rfl | simp)) | (simp [*]; done)), ⟨by have e_ := H'.out; first | exact e_ | (rw [hji14]; exact e_)⟩, ⟨by have := HK1.out; first | omega | exact Nat.le_refl _⟩, ⟨by (with_reducible repeat (first | apply Kd.R_alloc | apply Kd.R_drewN | apply Kd.R_drew)); exact Kd.R_mono (Kd.R_far (p := ⟨gb258, 4, none⟩) (Kd.R_far (p := ⟨gb258, 3, none⟩) (Kd.R_far (p := ⟨gb258, 2, none⟩) (Kd.R_far (p := ⟨gb258, 1, none⟩) (Kd.R_far (p := ⟨gb258, 0, none⟩) (Kd.R_mono HO_4.out (fun k_ hk => (⟨hk, hk.2⟩ : _ ∧ k_ ≠ gb258))) (fun _ hk => hk.2) (.int .i64 ((rd_T36 l0 x5_1).f0))) (fun _ hk => hk.2) (.string ((rd_T36 l0 x5_1).f1))) (fun _ hk => hk.2) (.slice A257_2 ((rd_T36 l0 x5_1).f2).length c257_2)) (fun _ hk => hk.2) (.string ((rd_T36 l0 x5_1).f3))) (fun _ hk => hk.2) (.slice A257_4 ((rd_T36 l0 x5_1).f4).length c257_4)) (fun _ hk => hk.1.2)⟩, ⟨by (with_reducible repeat (first | refine blk_drewN ?_ _ | refine blk_drew ?_ | refine blk_alloc ?_ _)); refine blk_put (cs := #[.int .i64 ((rd_T36 l0 x5_1).f0), .string ((rd_T36 l0 x5_1).f1), .slice A257_2 ((rd_T36 l0 x5_1).f2).length c257_2, .string ((rd_T36 l0 x5_1).f3), .slice none 0 0]) ?_ 4 _ rfl; (with_reducible repeat (first | refine blk_drewN ?_ _ | refine blk_drew ?_ | refine blk_alloc ?_ _)); refine blk_put (cs := #[.int .i64 ((rd_T36 l0 x5_1).f0), .string ((rd_T36 l0 x5_1).f1), .slice A257_2 ((rd_T36 l0 x5_1).f2).length c257_2, .string (⟨#[]⟩ : ByteArray), .slice none 0 0]) ?_ 3 _ rfl; (with_reducible repeat (first | refine blk_drewN ?_ _ | refine blk_drew ?_ | refine blk_alloc ?_ _)); refine blk_put (cs := #[.int .i64 ((rd_T36 l0 x5_1).f0), .string ((rd_T36 l0 x5_1).f1), .slice none 0 0, .string (⟨#[]⟩ : ByteArray), .slice none 0 0]) ?_ 2 _ rfl; (with_reducible repeat (first | refine blk_drewN ?_ _ | refine blk_drew ?_ | refine blk_alloc ?_ _)); refine blk_put (cs := #[.int .i64 ((rd_T36 l0 x5_1).f0), .string (⟨#[]⟩ : ByteArray), .slice none 0 0, .string (⟨#[]⟩ : ByteArray), .slice none 0 0]) ?_ 1 _ rfl; (with_reducible repeat (first | refine blk_drewN ?_ _ | refine blk_drew ?_ | refine blk_alloc ?_ _)); refine blk_put (cs := #[.int .i64 0, .string (⟨#[]⟩ : ByteArray), .slice none 0 0, .string (⟨#[]⟩ : ByteArray), .slice none 0 0]) ?_ 0 _ rfl; (with_reducible repeat (first | refine blk_drewN ?_ _ | refine blk_drew ?_ | refine blk_alloc ?_ _)); exact BK258.out⟩, ⟨hb1_ GE258.out⟩⟩
          ·rw [if_neg c16] at H
           exact absurd H (by simp)
         ·rw [if_neg c15] at H
          exact absurd H (by simp)
        ·rw [if_neg c13] at H
         have c13b0 : decide (0 ≤ (wrap64 ((x4_1.length : Int) - 1))) = false := decide_eq_false c13
         clear c13
         (first | rw [c13b0] | (simp only [i64_w, i32_w]; rw [c13b0]) | skip)
         have H' := Aside0.mk H
         clear H
         go_wp2
         go_meet
         case rel => exact ⟨_, (false), (by first | rfl | (simp; done) | (simp [*]; done)), H', ⟨by have := HK1.out; first | omega | exact Nat.le_refl _⟩, ⟨by (with_reducible repeat (first | apply Kd.R_alloc | apply Kd.R_drewN | apply Kd.R_drew)); exact Kd.R_mono (Kd.R_far (p := ⟨gb258, 4, none⟩) (Kd.R_far (p := ⟨gb258, 3, none⟩) (Kd.R_far (p := ⟨gb258, 2, none⟩) (Kd.R_far (p := ⟨gb258, 1, none⟩) (Kd.R_far (p := ⟨gb258, 0, none⟩) (Kd.R_mono HO_4.out (fun k_ hk => (⟨hk, hk.2⟩ : _ ∧ k_ ≠ gb258))) (fun _ hk => hk.2) (.int .i64 ((rd_T36 l0 x5_1).f0))) (fun _ hk => hk.2) (.string ((rd_T36 l0 x5_1).f1))) (fun _ hk => hk.2) (.slice A257_2 ((rd_T36 l0 x5_1).f2).length c257_2)) (fun _ hk => hk.2) (.string ((rd_T36 l0 x5_1).f3))) (fun _ hk => hk.2) (.slice A257_4 ((rd_T36 l0 x5_1).f4).length c257_4)) (fun _ hk => hk.1.2)⟩, ⟨by (with_reducible repeat (first | refine blk_drewN ?_ _ | refine blk_drew ?_ | refine blk_alloc ?_ _)); refine blk_put (cs := #[.int .i64 ((rd_T36 l0 x5_1).f0), .string ((rd_T36 l0 x5_1).f1), .slice A257_2 ((rd_T36 l0 x5_1).f2).length c257_2, .string ((rd_T36 l0 x5_1).f3), .slice none 0 0]) ?_ 4 _ rfl; (with_reducible repeat (first | refine blk_drewN ?_ _ | refine blk_drew ?_ | refine blk_alloc ?_ _)); refine blk_put (cs := #[.int .i64 ((rd_T36 l0 x5_1).f0), .string ((rd_T36 l0 x5_1).f1), .slice A257_2 ((rd_T36 l0 x5_1).f2).length c257_2, .string (⟨#[]⟩ : ByteArray), .slice none 0 0]) ?_ 3 _ rfl; (with_reducible repeat (first | refine blk_drewN ?_ _ | refine blk_drew ?_ | refine blk_alloc ?_ _)); refine blk_put (cs := #[.int .i64 ((rd_T36 l0 x5_1).f0), .string ((rd_T36 l0 x5_1).f1), .slice none 0 0, .string (⟨#[]⟩ : ByteArray), .slice none 0 0]) ?_ 2 _ rfl; (with_reducible repeat (first | refine blk_drewN ?_ _ | refine blk_drew ?_ | refine blk_alloc ?_ _)); refine blk_put (cs := #[.int .i64 ((rd_T36 l0 x5_1).f0), .string (⟨#[]⟩ : ByteArray), .slice none 0 0, .string (⟨#[]⟩ : ByteArray), .slice none 0 0]) ?_ 1 _ rfl; (with_reducible repeat (first | refine blk_drewN ?_ _ | refine blk_drew ?_ | refine blk_alloc ?_ _)); refine blk_put (cs := #[.int .i64 0, .string (⟨#[]⟩ : ByteArray), .slice none 0 0, .string (⟨#[]⟩ : ByteArray), .slice none 0 0]) ?_ 0 _ rfl; (with_reducible repeat (first | refine blk_drewN ?_ _ | refine blk_drew ?_ | refine blk_alloc ?_ _)); exact BK258.out⟩, ⟨hb1_ GE258.out⟩⟩
       case rest =>
        clear HC9
        try clear c1
        try clear c2
        try clear c2b0
        try clear p2
        try clear q2
        try clear hx2
        try clear c3
        try clear c3b0
        try clear c4
        try clear c4b0
        try clear c4b1
        try clear c5
        try clear c5b0
        try clear c5b1
        try clear p6
        try clear c13
        try clear c13b0
        try clear c15
        try clear c15b0
        try clear c16
        try clear c16b0
        try clear hcz11_0
        try clear hcz11_1
        try clear hcz11_2
        try clear hcz11_3
        try clear hcz11_4
        try clear hcz7_0
        try clear hcz7_1
        try clear hcz7_2
        try clear hcz7_3
        try clear hcz7_4
        try clear hfz11_0
        try clear hfz11_1
        try clear hfz11_2
        try clear hfz11_3
        try clear hfz11_4
        try clear hfz7_0
        try clear hfz7_1
        try clear hfz7_2
        try clear hfz7_3
        try clear hfz7_4
        try clear hx257_0
        try clear hx257_1
        try clear hx257_2
        try clear hx257_3
        try clear hx257_4
        try clear hx259_0
        try clear hx259_1
        try clear hx259_2
        try clear hx259_3
        try clear hx259_4
        try clear p257
        try clear p259
        try clear q257
        try clear q259
        obtain ⟨kq, x36_8, rfl, HA, HJ8, HO_4, BK258, HB⟩ := hcut
        cases kq with
        | zero => exact absurd HA.out (by simp [espalierref04_normal.j1])
        | succ kj8 =>
         have H := HA.out
         clear HA
         simp only [espalierref04_normal.j1] at H
         by_cases c17 : x36_8 = true
         ·subst c17
          rw [if_pos rfl] at H
          obtain ⟨ji18, hji18⟩ : ∃ j_ : Int, (wrap64 ((x4_1.length : Int) - 1)) = j_ := ⟨_, rfl⟩
          replace H : (if 0 ≤ (ji18) then (if (ji18) < (x4_1.length : Int) then (if (wrap64 ((((rd_T36 x4_1 (ji18)).f3).size : Int) + (((rd_T36 l0 x5_1).f3).size : Int))) > 16384 then (some (([] : List (S36)), false)) else (if ((rd_T36 x4_1 (ji18)).f3).size + ((rd_T36 l0 x5_1).f3).size ≤ 9223372036854775807 then (espalierref04_normal.l0 kj8 l0 (x4_1.set ((ji18) : Int).toNat (⟨(rd_T36 x4_1 (ji18)).f0, (rd_T36 x4_1 (ji18)).f1, (rd_T36 x4_1 (ji18)).f2, ((rd_T36 x4_1 (ji18)).f3) ++ ((rd_T36 l0 x5_1).f3), (rd_T36 x4_1 (ji18)).f4⟩ : S36)) (wrap64 (x5_1 + 1))) else (none))) else (none)) else (none)) = some (r1, r2) := by first | (rw [hji18] at H; exact H) | (simp only [hji18] at H ⊢; exact H)
          have hji18w : (IntKind.i64.wrap ((x4_1.length : Int) - 1)) = ji18 := (i64_w _).trans hji18
          by_cases c19 : 0 ≤ (ji18)
          ·rw [if_pos c19] at H
           have c19b0 : decide (0 ≤ (ji18)) = true := decide_eq_true c19
           clear c19
           by_cases c20 : (ji18) < (x4_1.length : Int)
           ·rw [if_pos c20] at H
            have c20b0 : decide ((ji18) < (x4_1.length : Int)) = true := decide_eq_true c20
            clear c20
            by_cases c21 : (wrap64 ((((rd_T36 x4_1 (ji18)).f3).size : Int) + (((rd_T36 l0 x5_1).f3).size : Int))) > 16384
            ·rw [if_pos c21] at H
             have c21b0 : decide (16384 < (wrap64 ((((rd_T36 x4_1 (ji18)).f3).size : Int) + (((rd_T36 l0 x5_1).f3).size : Int)))) = true := decide_eq_true c21
             clear c21
             simp only [Option.some.injEq, Prod.mk.injEq] at H
             obtain ⟨rfl, rfl⟩ := H
             try go_wp2
             replace HO_4 := Aside0.mk (Kd.R_drew HO_4.out)
             replace BK258 := Aside0.mk (blk_drew BK258.out)
             replace HB := Aside0.mk (below_drew1 HB.out)
             have p260 : 0 ≤ ((ji18) : Int) := of_decide_eq_true (by first | (with_reducible assumption) | assumption)
             have q260 : (ji18) < (x4_1.length : Int) := of_decide_eq_true (by first | (with_reducible assumption) | assumption)
             obtain ⟨ad260, A260_2, c260_2, A260_4, c260_4, e260, hx260_0, hx260_1, hx260_2, hx260_3, hx260_4, hl260_2, hi260_2, hl260_4, hi260_4⟩ := at_T36 (Kd.R_reads' HO_4.out).2.2 (ji18) p260 q260
             cases e260
             obtain ⟨ce260, hce260, hMe260, hcc260⟩ := Kd.R_get HO_4.out z36 (ji18) p260 (by first | exact q260 | exact of_decide_eq_true (by first | (with_reducible assumption) | assumption) | (have e_ := (Kd.R_reads' HO_4.out).1; omega))
             obtain ⟨ve260_2, ve260_4, rfl, ge260_2, ge260_4⟩ := k36_openM hMe260
             have hv260_2 := hcc260 2 _ rfl
             rw [add_field _ _ 2 (by omega)] at hv260_2
             replace hv260_2 := Option.some.inj (hv260_2.symm.trans hx260_2)
             rw [hv260_2] at ge260_2
             have HL260_2 := Aside0.mk (show Kd.R k54 54 _ _ _ _ ((rd_T36 x4_1 (ji18)).f2) from ge260_2)
             clear hv260_2 ge260_2
             have hv260_4 := hcc260 4 _ rfl
             rw [add_field _ _ 4 (by omega)] at hv260_4
             replace hv260_4 := Option.some.inj (hv260_4.symm.trans hx260_4)
             rw [hv260_4] at ge260_4
             have HL260_4 := Aside0.mk (show Kd.R k36 36 _ _ _ _ ((rd_T36 x4_1 (ji18)).f4) from ge260_4)
             clear hv260_4 ge260_4
             clear hcc260 hce260
             have HR260_2 := Aside0.mk hi260_2
             have HC260_2 := Aside0.mk hl260_2
             clear hi260_2 hl260_2
             have HR260_4 := Aside0.mk hi260_4
             have HC260_4 := Aside0.mk hl260_4
             clear hi260_4 hl260_4
             replace p260 := eq_true p260
             replace q260 := eq_true q260
             refine start_ (n := 11) (S := fun w' => w'.cell? ⟨gb258, 0, none⟩ = some (.int .i64 ((rd_T36 l0 x5_1).f0)) ∧ w'.cell? ⟨gb258, 1, none⟩ = some (.string ((rd_T36 l0 x5_1).f1)) ∧ w'.cell? ⟨gb258, 2, none⟩ = some (.slice A257_2 ((rd_T36 l0 x5_1).f2).length c257_2) ∧ w'.cell? ⟨gb258, 3, none⟩ = some (.string ((rd_T36 l0 x5_1).f3)) ∧ w'.cell? ⟨gb258, 4, none⟩ = some (.slice A257_4 ((rd_T36 l0 x5_1).f4).length c257_4) ∧ w'.cell? (ad260.add (((ji18)).toNat * 5)) = some (.int .i64 ((rd_T36 x4_1 (ji18)).f0)) ∧ w'.cell? ⟨(ad260.add (((ji18)).toNat * 5)).block, (ad260.add (((ji18)).toNat * 5)).off + 1, none⟩ = some (.string ((rd_T36 x4_1 (ji18)).f1)) ∧ w'.cell? ⟨(ad260.add (((ji18)).toNat * 5)).block, (ad260.add (((ji18)).toNat * 5)).off + 2, none⟩ = some (.slice A260_2 ((rd_T36 x4_1 (ji18)).f2).length c260_2) ∧ w'.cell? ⟨(ad260.add (((ji18)).toNat * 5)).block, (ad260.add (((ji18)).toNat * 5)).off + 3, none⟩ = some (.string ((rd_T36 x4_1 (ji18)).f3)) ∧ w'.cell? ⟨(ad260.add (((ji18)).toNat * 5)).block, (ad260.add (((ji18)).toNat * 5)).off + 4, none⟩ = some (.slice A260_4 ((rd_T36 x4_1 (ji18)).f4).length c260_4)) (ds := []) #[false, false, false, false, false, false, false, false, false, false, false] (by kernel_rfl) rfl rfl ⟨(blk_cell BK258.out 0).trans rfl, (blk_cell BK258.out 1).trans rfl, (blk_cell BK258.out 2).trans rfl, (blk_cell BK258.out 3).trans rfl, (blk_cell BK258.out 4).trans rfl, hx260_0, hx260_1, hx260_2, hx260_3, hx260_4⟩ (fun hHeld => ?_); refine with_tabW espalierref04_normal.tab11 espalierref04_normal.bits11 (fun HT_ HW_ => ?_)
             generalize wc.drew = w22 at HO_4 BK258 HB HL260_2 HL260_4 HR260_2 HR260_4 hx260_0 hx260_1 hx260_2 hx260_3 hx260_4 hHeld ⊢
             refine pu_ 0 (some 47) #[true, false, false, false, false, false, false, false, false, false, false] (any_of HT_.out (by kernel_rfl)) ?_
             refine pu_ 1 (some 48) #[true, true, false, false, false, false, false, false, false, false, false] (any_of HT_.out (by kernel_rfl)) ?_
             refine pu_ 2 (some 49) #[true, true, true, false, false, false, false, false, false, false, false] (any_of HT_.out (by kernel_rfl)) ?_
             refine pu_ 3 (some 50) #[true, true, true, true, false, false, false, false, false, false, false] (any_of HT_.out (by kernel_rfl)) ?_
             refine pu_ 6 (some 53) #[true, true, true, true, false, false, true, false, false, false, false] (any_of HT_.out (by kernel_rfl)) ?_
             refine take_ (i := 4) (N := some 51) (v := ?_) (a' := ?_) #[true, true, true, true, true, false, true, false, false, false, false] rfl rfl (take_ofW HT_.out HW_.out (by kernel_rfl)) (fun _ _ _ h => h) (Or.inl ⟨by rfl, ?_⟩) hHeld ?_ ?_
             rotate_left
             ·rintro w' ⟨s0, s1, s2, s3, s4, s5, s6, s7, s8, s9⟩
              go_simp
              with_reducible rfl
             rotate_left
             ·simp only [Act.put, List.setIfInBounds_toArray, List.set_cons_zero, List.set_cons_succ, i64_w, i32_w]
              rfl
             refine pu_ 5 (some 52) #[true, true, true, true, true, true, true, false, false, false, false] (any_of HT_.out (by kernel_rfl)) ?_
             refine take_ (i := 7) (N := some 54) (v := ?_) (a' := ?_) #[true, true, true, true, true, true, true, true, false, false, false] rfl rfl (take_ofW HT_.out HW_.out (by kernel_rfl)) (fun _ _ _ h => h) (Or.inl ⟨by rfl, ?_⟩) hHeld ?_ ?_
             rotate_left
             ·rintro w' ⟨s0, s1, s2, s3, s4, s5, s6, s7, s8, s9⟩
              go_simp
              with_reducible rfl
             rotate_left
             ·simp only [Act.put, List.setIfInBounds_toArray, List.set_cons_zero, List.set_cons_succ, i64_w, i32_w]
              rfl
             refine pu_ 8 (some 55) #[true, true, true, true, true, true, true, true, true, false, false] (any_of HT_.out (by kernel_rfl)) ?_
             refine pu_ 9 (some 56) #[true, true, true, true, true, true, true, true, true, true, false] (any_of HT_.out (by kernel_rfl)) ?_
             refine pu_ 10 (some 57) #[true, true, true, true, true, true, true, true, true, true, true] (any_of HT_.out (by kernel_rfl)) ?_
             refine done_ (done_of HT_.out (by kernel_rfl)) ?_
             try go_wp2
             go_ret2
             exact ⟨_, by first | rfl | (simp [errW_none, errW_some] <;> rfl) | (simp only [← hji18]; first | rfl | (simp [errW_none, errW_some] <;> rfl)) | (simp [*, errW_none, errW_some] <;> rfl), by first | exact Kd.R_nil _ _ _ _ _ | exact Kd.N_nil _ _ _ _ _ | exact Kd.V_nil _ _ _ _ _ | exact Kd.Q_nil _ _ _ _ _ | exact Kd.S_nil _ _ _ _ _, hb1_ GE258.out⟩
            ·rw [if_neg c21] at H
             have c21b0 : decide (16384 < (wrap64 ((((rd_T36 x4_1 (ji18)).f3).size : Int) + (((rd_T36 l0 x5_1).f3).size : Int)))) = false := decide_eq_false c21
             clear c21
             by_cases c23 : ((rd_T36 x4_1 (ji18)).f3).size + ((rd_T36 l0 x5_1).f3).size ≤ 9223372036854775807
             ·rw [if_pos c23] at H
              have c23b0 := eq_true c23
              have c23b1 : decide (((rd_T36 x4_1 (ji18)).f3).size + ((rd_T36 l0 x5_1).f3).size ≤ 9223372036854775807) = true := decide_eq_true c23
              try have c23b2 : (9223372036854775807 < ((rd_T36 x4_1 (ji18)).f3).size + ((rd_T36 l0 x5_1).f3).size) = False := eq_false (Nat.not_lt.2 c23)
              obtain ⟨y262, hy262⟩ : ∃ y_ : List (S36), y_ = (x4_1.set ((ji18) : Int).toNat (⟨(rd_T36 x4_1 (ji18)).f0, (rd_T36 x4_1 (ji18)).f1, (rd_T36 x4_1 (ji18)).f2, ((rd_T36 x4_1 (ji18)).f3) ++ ((rd_T36 l0 x5_1).f3), (rd_T36 x4_1 (ji18)).f4⟩ : S36)) := ⟨_, rfl⟩
              replace H : (espalierref04_normal.l0 kj8 l0 y262 (wrap64 (x5_1 + 1))) = some (r1, r2) := by first | (rw [hy262]; with_reducible exact H) | (have H2_ := (Option.bind_some _ _).symm.trans H; rw [hy262]; with_reducible exact H2_) | (have H2_ := (Option.bind_some _ _).symm.trans H; with_reducible exact H2_) | with_reducible exact H | (rw [hy262]; exact H) | exact H
              have Ny262 := Aside0.mk hy262
              clear hy262
              have H' := Aside0.mk H
              clear H
              try go_wp2
              replace HO_4 := Aside0.mk (Kd.R_drew HO_4.out)
              replace BK258 := Aside0.mk (blk_drew BK258.out)
              replace HB := Aside0.mk (below_drew1 HB.out)
              have p260 : 0 ≤ ((ji18) : Int) := of_decide_eq_true (by first | (with_reducible assumption) | assumption)
              have q260 : (ji18) < (x4_1.length : Int) := of_decide_eq_true (by first | (with_reducible assumption) | assumption)
              obtain ⟨ad260, A260_2, c260_2, A260_4, c260_4, e260, hx260_0, hx260_1, hx260_2, hx260_3, hx260_4, hl260_2, hi260_2, hl260_4, hi260_4⟩ := at_T36 (Kd.R_reads' HO_4.out).2.2 (ji18) p260 q260
              cases e260
              obtain ⟨ce260, hce260, hMe260, hcc260⟩ := Kd.R_get HO_4.out z36 (ji18) p260 (by first | exact q260 | exact of_decide_eq_true (by first | (with_reducible assumption) | assumption) | (have e_ := (Kd.R_reads' HO_4.out).1; omega))
              obtain ⟨ve260_2, ve260_4, rfl, ge260_2, ge260_4⟩ := k36_openM hMe260
              have hv260_2 := hcc260 2 _ rfl
              rw [add_field _ _ 2 (by omega)] at hv260_2
              replace hv260_2 := Option.some.inj (hv260_2.symm.trans hx260_2)
              rw [hv260_2] at ge260_2
              have HL260_2 := Aside0.mk (show Kd.R k54 54 _ _ _ _ ((rd_T36 x4_1 (ji18)).f2) from ge260_2)
              clear hv260_2 ge260_2
              have hv260_4 := hcc260 4 _ rfl
              rw [add_field _ _ 4 (by omega)] at hv260_4
              replace hv260_4 := Option.some.inj (hv260_4.symm.trans hx260_4)
              rw [hv260_4] at ge260_4
              have HL260_4 := Aside0.mk (show Kd.R k36 36 _ _ _ _ ((rd_T36 x4_1 (ji18)).f4) from ge260_4)
              clear hv260_4 ge260_4
              clear hcc260 hce260
              have HR260_2 := Aside0.mk hi260_2
              have HC260_2 := Aside0.mk hl260_2
              clear hi260_2 hl260_2
              have HR260_4 := Aside0.mk hi260_4
              have HC260_4 := Aside0.mk hl260_4
              clear hi260_4 hl260_4
              replace p260 := eq_true p260
              replace q260 := eq_true q260
              refine start_ (n := 11) (S := fun w' => w'.cell? ⟨gb258, 0, none⟩ = some (.int .i64 ((rd_T36 l0 x5_1).f0)) ∧ w'.cell? ⟨gb258, 1, none⟩ = some (.string ((rd_T36 l0 x5_1).f1)) ∧ w'.cell? ⟨gb258, 2, none⟩ = some (.slice A257_2 ((rd_T36 l0 x5_1).f2).length c257_2) ∧ w'.cell? ⟨gb258, 3, none⟩ = some (.string ((rd_T36 l0 x5_1).f3)) ∧ w'.cell? ⟨gb258, 4, none⟩ = some (.slice A257_4 ((rd_T36 l0 x5_1).f4).length c257_4) ∧ w'.cell? (ad260.add (((ji18)).toNat * 5)) = some (.int .i64 ((rd_T36 x4_1 (ji18)).f0)) ∧ w'.cell? ⟨(ad260.add (((ji18)).toNat * 5)).block, (ad260.add (((ji18)).toNat * 5)).off + 1, none⟩ = some (.string ((rd_T36 x4_1 (ji18)).f1)) ∧ w'.cell? ⟨(ad260.add (((ji18)).toNat * 5)).block, (ad260.add (((ji18)).toNat * 5)).off + 2, none⟩ = some (.slice A260_2 ((rd_T36 x4_1 (ji18)).f2).length c260_2) ∧ w'.cell? ⟨(ad260.add (((ji18)).toNat * 5)).block, (ad260.add (((ji18)).toNat * 5)).off + 3, none⟩ = some (.string ((rd_T36 x4_1 (ji18)).f3)) ∧ w'.cell? ⟨(ad260.add (((ji18)).toNat * 5)).block, (ad260.add (((ji18)).toNat * 5)).off + 4, none⟩ = some (.slice A260_4 ((rd_T36 x4_1 (ji18)).f4).length c260_4)) (ds := []) #[false, false, false, false, false, false, false, false, false, false, false] (by kernel_rfl) rfl rfl ⟨(blk_cell BK258.out 0).trans rfl, (blk_cell BK258.out 1).trans rfl, (blk_cell BK258.out 2).trans rfl, (blk_cell BK258.out 3).trans rfl, (blk_cell BK258.out 4).trans rfl, hx260_0, hx260_1, hx260_2, hx260_3, hx260_4⟩ (fun hHeld => ?_); refine with_tabW espalierref04_normal.tab11 espalierref04_normal.bits11 (fun HT_ HW_ => ?_)
              generalize wc.drew = w25 at HO_4 BK258 HB HL260_2 HL260_4 HR260_2 HR260_4 hx260_0 hx260_1 hx260_2 hx260_3 hx260_4 hHeld ⊢
              refine pu_ 0 (some 47) #[true, false, false, false, false, false, false, false, false, false, false] (any_of HT_.out (by kernel_rfl)) ?_
              refine pu_ 1 (some 48) #[true, true, false, false, false, false, false, false, false, false, false] (any_of HT_.out (by kernel_rfl)) ?_
              refine pu_ 2 (some 49) #[true, true, true, false, false, false, false, false, false, false, false] (any_of HT_.out (by kernel_rfl)) ?_
              refine pu_ 3 (some 50) #[true, true, true, true, false, false, false, false, false, false, false] (any_of HT_.out (by kernel_rfl)) ?_
              refine pu_ 6 (some 53) #[true, true, true, true, false, false, true, false, false, false, false] (any_of HT_.out (by kernel_rfl)) ?_
              refine take_ (i := 4) (N := some 51) (v := ?_) (a' := ?_) #[true, true, true, true, true, false, true, false, false, false, false] rfl rfl (take_ofW HT_.out HW_.out (by kernel_rfl)) (fun _ _ _ h => h) (Or.inl ⟨by rfl, ?_⟩) hHeld ?_ ?_
              rotate_left
              ·rintro w' ⟨s0, s1, s2, s3, s4, s5, s6, s7, s8, s9⟩
               go_simp
               with_reducible rfl
              rotate_left
              ·simp only [Act.put, List.setIfInBounds_toArray, List.set_cons_zero, List.set_cons_succ, i64_w, i32_w]
               rfl
              refine pu_ 5 (some 52) #[true, true, true, true, true, true, true, false, false, false, false] (any_of HT_.out (by kernel_rfl)) ?_
              refine take_ (i := 7) (N := some 54) (v := ?_) (a' := ?_) #[true, true, true, true, true, true, true, true, false, false, false] rfl rfl (take_ofW HT_.out HW_.out (by kernel_rfl)) (fun _ _ _ h => h) (Or.inl ⟨by rfl, ?_⟩) hHeld ?_ ?_
              rotate_left
              ·rintro w' ⟨s0, s1, s2, s3, s4, s5, s6, s7, s8, s9⟩
               go_simp
               with_reducible rfl
              rotate_left
              ·simp only [Act.put, List.setIfInBounds_toArray, List.set_cons_zero, List.set_cons_succ, i64_w, i32_w]
               rfl
              refine pu_ 8 (some 55) #[true, true, true, true, true, true, true, true, true, false, false] (any_of HT_.out (by kernel_rfl)) ?_
              refine pu_ 9 (some 56) #[true, true, true, true, true, true, true, true, true, true, false] (any_of HT_.out (by kernel_rfl)) ?_
              refine pu_ 10 (some 57) #[true, true, true, true, true, true, true, true, true, true, true] (any_of HT_.out (by kernel_rfl)) ?_
              refine done_ (done_of HT_.out (by kernel_rfl)) ?_
              try go_wp2
              replace HO_4 := Aside0.mk (Kd.R_drew HO_4.out)
              replace HL260_2 := Aside0.mk (Kd.R_drew HL260_2.out)
              replace HL260_4 := Aside0.mk (Kd.R_drew HL260_4.out)
              replace BK258 := Aside0.mk (blk_drew BK258.out)
              replace HR260_2 := Aside0.mk (Kd.C_drew HR260_2.out)
              replace HR260_4 := Aside0.mk (Kd.C_drew HR260_4.out)
              replace HB := Aside0.mk (below_drew1 HB.out)
              have p261 : 0 ≤ ((ji18) : Int) := of_decide_eq_true (by first | (with_reducible assumption) | assumption)
              have q261 : (ji18) < (x4_1.length : Int) := of_decide_eq_true (by first | (with_reducible assumption) | assumption)
              obtain ⟨ad261, A261_2, c261_2, A261_4, c261_4, e261, hx261_0, hx261_1, hx261_2, hx261_3, hx261_4, hl261_2, hi261_2, hl261_4, hi261_4⟩ := at_T36 (Kd.R_reads' HO_4.out).2.2 (ji18) p261 q261
              obtain rfl : ad260 = ad261 := (by injection e261)
              obtain ⟨ce261, hce261, hMe261, hcc261⟩ := Kd.R_get HO_4.out z36 (ji18) p261 (by first | exact q261 | exact of_decide_eq_true (by first | (with_reducible assumption) | assumption) | (have e_ := (Kd.R_reads' HO_4.out).1; omega))
              obtain ⟨ve261_2, ve261_4, rfl, ge261_2, ge261_4⟩ := k36_openM hMe261
              have hv261_2 := hcc261 2 _ rfl
              rw [add_field _ _ 2 (by omega)] at hv261_2
              replace hv261_2 := Option.some.inj (hv261_2.symm.trans hx261_2)
              rw [hv261_2] at ge261_2
              have HL261_2 := Aside0.mk (show Kd.R k54 54 _ _ _ _ ((rd_T36 x4_1 (ji18)).f2) from ge261_2)
              clear hv261_2 ge261_2
              have hv261_4 := hcc261 4 _ rfl
              rw [add_field _ _ 4 (by omega)] at hv261_4
              replace hv261_4 := Option.some.inj (hv261_4.symm.trans hx261_4)
              rw [hv261_4] at ge261_4
              have HL261_4 := Aside0.mk (show Kd.R k36 36 _ _ _ _ ((rd_T36 x4_1 (ji18)).f4) from ge261_4)
              clear hv261_4 ge261_4
              clear hcc261 hce261
              have HR261_2 := Aside0.mk hi261_2
              have HC261_2 := Aside0.mk hl261_2
              clear hi261_2 hl261_2
              have HR261_4 := Aside0.mk hi261_4
              have HC261_4 := Aside0.mk hl261_4
              clear hi261_4 hl261_4
              replace p261 := eq_true p261
              replace q261 := eq_true q261
              have p24 : 0 ≤ ((ji18) : Int) := of_decide_eq_true (by first | (with_reducible assumption) | assumption)
              have q24 : ((ji18) : Int) < ((x4_1.length : Int) : Int) := of_decide_eq_true (by first | (with_reducible assumption) | assumption)
              obtain ⟨go24, co24, eo24, gb24, gl24, cl24, HG24⟩ := Kd.R_form HO_4.out (by omega)
              (first | cases eo24 | (injection eo24 with ea_ en_ ec_; (first | subst ea_ | (injection ea_ with ea_; subst ea_)); subst ec_; clear en_))
              have GB24 := Aside0.mk gb24
              have GG24 := Aside0.mk HG24
              clear gb24 gl24 HG24
              (first | simp only [add_plain] at hx260_0 | skip)
              (first | simp only [add_plain] at hx260_1 | skip)
              (first | simp only [add_plain] at hx260_2 | skip)
              (first | simp only [add_plain] at hx260_3 | skip)
              (first | simp only [add_plain] at hx260_4 | skip)
              (first | simp only [add_plain] at hx261_0 | skip)
              (first | simp only [add_plain] at hx261_1 | skip)
              (first | simp only [add_plain] at hx261_2 | skip)
              (first | simp only [add_plain] at hx261_3 | skip)
              (first | simp only [add_plain] at hx261_4 | skip)
              obtain ⟨ce24, hcl24, hM24, hcc24, hfr24⟩ := Kd.R_elem HO_4.out z36 ((ji18) : Int) p24 q24
              obtain ⟨ve24_2, ve24_4, rfl, ge24_2, ge24_4⟩ := k36_openM hM24
              have hx24_0 : World.cell? _ ⟨go24, ((ji18) : Int).toNat * 5, none⟩ = some (.int .i64 ((rd_T36 x4_1 (ji18)).f0)) := hcc24 0 _ rfl
              have hx24_1 : World.cell? _ ⟨go24, ((ji18) : Int).toNat * 5 + 1, none⟩ = some (.string ((rd_T36 x4_1 (ji18)).f1)) := hcc24 1 _ rfl
              have hx24_2 : World.cell? _ ⟨go24, ((ji18) : Int).toNat * 5 + 2, none⟩ = some (ve24_2) := hcc24 2 _ rfl
              have hx24_3 : World.cell? _ ⟨go24, ((ji18) : Int).toNat * 5 + 3, none⟩ = some (.string ((rd_T36 x4_1 (ji18)).f3)) := hcc24 3 _ rfl
              have hx24_4 : World.cell? _ ⟨go24, ((ji18) : Int).toNat * 5 + 4, none⟩ = some (ve24_4) := hcc24 4 _ rfl
              have hf24_0 : World.frozen? _ ⟨go24, ((ji18) : Int).toNat * 5, none⟩ = false := hfr24 0
              have hf24_1 : World.frozen? _ ⟨go24, ((ji18) : Int).toNat * 5 + 1, none⟩ = false := hfr24 1
              have hf24_2 : World.frozen? _ ⟨go24, ((ji18) : Int).toNat * 5 + 2, none⟩ = false := hfr24 2
              have hf24_3 : World.frozen? _ ⟨go24, ((ji18) : Int).toNat * 5 + 3, none⟩ = false := hfr24 3
              have hf24_4 : World.frozen? _ ⟨go24, ((ji18) : Int).toNat * 5 + 4, none⟩ = false := hfr24 4
              clear hcl24 hcc24 hfr24 hM24
              replace p24 := eq_true p24
              replace q24 := eq_true q24
              obtain ⟨ce27, hcl27, hM27, hcc27, hfr27⟩ := Kd.R_elem HO_4.out z36 ((ji18) : Int) (of_decide_eq_true (by first | (with_reducible assumption) | assumption)) (by have h_ : ((ji18) : Int) < ((x4_1.length : Int) : Int) := of_decide_eq_true (by first | (with_reducible assumption) | assumption); first | exact h_ | (have e_ := (Kd.R_reads' HO_4.out).1; omega) | simpa using h_)
              obtain ⟨ve27_2, ve27_4, rfl, ge27_2, ge27_4⟩ := k36_openM hM27
              have HP27 := (Kd.R_seg HO_4.out ((ji18) : Int) (of_decide_eq_true (by first | (with_reducible assumption) | assumption)) (by have h_ : ((ji18) : Int) < ((x4_1.length : Int) : Int) := of_decide_eq_true (by first | (with_reducible assumption) | assumption); first | exact h_ | (have e_ := (Kd.R_reads' HO_4.out).1; omega) | simpa using h_) (seg := [.string (((rd_T36 x4_1 (ji18)).f3) ++ ((rd_T36 l0 x5_1).f3))]) (j := 3) hcl27 hcc27 (show 4 ≤ 5 from by decide) (x' := (⟨(rd_T36 x4_1 (ji18)).f0, (rd_T36 x4_1 (ji18)).f1, (rd_T36 x4_1 (ji18)).f2, ((rd_T36 x4_1 (ji18)).f3) ++ ((rd_T36 l0 x5_1).f3), (rd_T36 x4_1 (ji18)).f4⟩ : S36)) (k36_mkM _ _ _ (⟨(rd_T36 x4_1 (ji18)).f0, (rd_T36 x4_1 (ji18)).f1, (rd_T36 x4_1 (ji18)).f2, ((rd_T36 x4_1 (ji18)).f3) ++ ((rd_T36 l0 x5_1).f3), (rd_T36 x4_1 (ji18)).f4⟩ : S36) ge27_2 ge27_4) (fun _ hk => hk)).1
              rw [← Ny262.out] at HP27
              have HQ27 := Aside0.mk HP27
              clear hcl27 hcc27 hfr27 hM27 HP27
              refine start_ (n := 13) (S := fun w' => w'.cell? ⟨gb258, 0, none⟩ = some (.int .i64 ((rd_T36 l0 x5_1).f0)) ∧ w'.cell? ⟨gb258, 1, none⟩ = some (.string ((rd_T36 l0 x5_1).f1)) ∧ w'.cell? ⟨gb258, 2, none⟩ = some (.slice A257_2 ((rd_T36 l0 x5_1).f2).length c257_2) ∧ w'.cell? ⟨gb258, 3, none⟩ = some (.string ((rd_T36 l0 x5_1).f3)) ∧ w'.cell? ⟨gb258, 4, none⟩ = some (.slice A257_4 ((rd_T36 l0 x5_1).f4).length c257_4) ∧ w'.cell? ⟨go24, ((ji18)).toNat * 5, none⟩ = some (.int .i64 ((rd_T36 x4_1 (ji18)).f0)) ∧ w'.cell? ⟨go24, ((ji18)).toNat * 5 + 1, none⟩ = some (.string ((rd_T36 x4_1 (ji18)).f1)) ∧ w'.cell? ⟨go24, ((ji18)).toNat * 5 + 2, none⟩ = some (.slice A261_2 ((rd_T36 x4_1 (ji18)).f2).length c261_2) ∧ w'.cell? ⟨go24, ((ji18)).toNat * 5 + 3, none⟩ = some (.string ((rd_T36 x4_1 (ji18)).f3)) ∧ w'.cell? ⟨go24, ((ji18)).toNat * 5 + 4, none⟩ = some (.slice A261_4 ((rd_T36 x4_1 (ji18)).f4).length c261_4)) (ds := [12]) #[false, false, false, false, false, false, false, false, false, false, false, false, false] (by kernel_rfl) rfl rfl ⟨(blk_cell BK258.out 0).trans rfl, (blk_cell BK258.out 1).trans rfl, (blk_cell BK258.out 2).trans rfl, (blk_cell BK258.out 3).trans rfl, (blk_cell BK258.out 4).trans rfl, hx261_0, hx261_1, hx261_2, hx261_3, hx261_4⟩ (fun hHeld => ?_); refine with_tabW espalierref04_normal.tab13 espalierref04_normal.bits13 (fun HT_ HW_ => ?_)
              generalize w25.drew = w26 at HO_4 HL260_2 HL260_4 BK258 HR260_2 HR260_4 HB GG24 HL261_2 HL261_4 HQ27 HR261_2 HR261_4 hf24_0 hf24_1 hf24_2 hf24_3 hf24_4 hx24_0 hx24_1 hx24_2 hx24_3 hx24_4 hx260_0 hx260_1 hx260_2 hx260_3 hx260_4 hx261_0 hx261_1 hx261_2 hx261_3 hx261_4 hHeld ⊢
              refine pu_ 0 (some 58) #[true, false, false, false, false, false, false, false, false, false, false, false, false] (any_of HT_.out (by kernel_rfl)) ?_
              refine pu_ 1 (some 59) #[true, true, false, false, false, false, false, false, false, false, false, false, false] (any_of HT_.out (by kernel_rfl)) ?_
              refine pu_ 2 (some 60) #[true, true, true, false, false, false, false, false, false, false, false, false, false] (any_of HT_.out (by kernel_rfl)) ?_
              refine pu_ 3 (some 61) #[true, true, true, true, false, false, false, false, false, false, false, false, false] (any_of HT_.out (by kernel_rfl)) ?_
              refine pu_ 4 (some 62) #[true, true, true, true, true, false, false, false, false, false, false, false, false] (any_of HT_.out (by kernel_rfl)) ?_
              refine pu_ 5 (some 63) #[true, true, true, true, true, true, false, false, false, false, false, false, false] (any_of HT_.out (by kernel_rfl)) ?_
              refine pu_ 7 (some 65) #[true, true, true, true, true, true, false, true, false, false, false, false, false] (any_of HT_.out (by kernel_rfl)) ?_
              refine take_ (i := 6) (N := some 64) (v := ?_) (a' := ?_) #[true, true, true, true, true, true, true, true, false, false, false, false, false] rfl rfl (take_ofW HT_.out HW_.out (by kernel_rfl)) (fun _ _ _ h => h) (Or.inl ⟨by rfl, ?_⟩) hHeld ?_ ?_
              rotate_left
              ·rintro w' ⟨s0, s1, s2, s3, s4, s5, s6, s7, s8, s9⟩
               go_simp
               with_reducible rfl
              rotate_left
              ·simp only [Act.put, List.setIfInBounds_toArray, List.set_cons_zero, List.set_cons_succ, i64_w, i32_w]
               rfl
              refine take_ (i := 8) (N := some 66) (v := ?_) (a' := ?_) #[true, true, true, true, true, true, true, true, true, false, false, false, false] rfl rfl (take_ofW HT_.out HW_.out (by kernel_rfl)) (fun _ _ _ h => h) (Or.inl ⟨by rfl, ?_⟩) hHeld ?_ ?_
              rotate_left
              ·rintro w' ⟨s0, s1, s2, s3, s4, s5, s6, s7, s8, s9⟩
               go_simp
               with_reducible rfl
              rotate_left
              ·simp only [Act.put, List.setIfInBounds_toArray, List.set_cons_zero, List.set_cons_succ, i64_w, i32_w]
               rfl
              refine pu_ 9 (some 67) #[true, true, true, true, true, true, true, true, true, true, false, false, false] (any_of HT_.out (by kernel_rfl)) ?_
              refine pu_ 10 (some 68) #[true, true, true, true, true, true, true, true, true, true, true, false, false] (any_of HT_.out (by kernel_rfl)) ?_
              refine pu_ 11 (some 69) #[true, true, true, true, true, true, true, true, true, true, true, true, false] (any_of HT_.out (by kernel_rfl)) ?_
              refine last_ (i := 12) (N := none) #[true, true, true, true, true, true, true, true, true, true, true, true, true] rfl rfl (one_of HT_.out (by kernel_rfl)) (by decide) (fun K hK => ?_)
              refine skip_ (w1 := ?_) (by rfl) rfl ?_ ?_
              rotate_left
              ·go_simp
               rfl
              refine hK.out _ _ ?_
              clear hK K
              refine done_ (done_of HT_.out (by kernel_rfl)) ?_
              try go_wp2
              go_roundg kj8
              case measure => have := HK1.out; have := HJ8.out; omega
              case rel => exact ⟨(y262), (wrap64 (x5_1 + 1)), (by first | rfl | (simp; done) | (simp [*]; done)), H', ⟨by have := HK1.out; have := HJ8.out; omega⟩, ⟨by (with_reducible repeat (first | apply Kd.R_alloc | apply Kd.R_drewN | apply Kd.R_drew)); exact Kd.R_mono HQ27.out (fun _ hk => trivial)⟩, ⟨by repeat (first | (with_reducible first | exact HB.out | apply below_alloc | apply pw_below_drewN | apply below_drew1 | refine below_set ?_ GB24.out | refine below_set ?_ GE258.out) | exact HB.out)⟩⟩
             ·rw [if_neg c23] at H
              exact absurd H (by simp)
           ·rw [if_neg c20] at H
            exact absurd H (by simp)
          ·rw [if_neg c19] at H
           exact absurd H (by simp)
         ·replace c17 := Bool.eq_false_iff.mpr c17
          subst c17
          rw [if_neg (show ¬ (false = true) by decide)] at H
          by_cases c28 : x4_1.length < 1599289640401
          ·rw [if_pos c28] at H
           have LMc28 := Aside0.mk c28
           clear c28
           obtain ⟨y263, hy263⟩ : ∃ y_ : List (S36), y_ = (x4_1 ++ [(⟨2, (⟨#[]⟩ : ByteArray), ([] : List (S54)), ((rd_T36 l0 x5_1).f3), ([] : List (S36))⟩ : S36)]) := ⟨_, rfl⟩
           replace H : (espalierref04_normal.l0 kj8 l0 y263 (wrap64 (x5_1 + 1))) = some (r1, r2) := by first | (rw [hy263]; with_reducible exact H) | (have H2_ := (Option.bind_some _ _).symm.trans H; rw [hy263]; with_reducible exact H2_) | (have H2_ := (Option.bind_some _ _).symm.trans H; with_reducible exact H2_) | with_reducible exact H | (rw [hy263]; exact H) | exact H
           have Ny263 := Aside0.mk hy263
           clear hy263
           have H' := Aside0.mk H
           clear H
           obtain ⟨hcz29_0, hcz29_1, hcz29_2, hcz29_3, hcz29_4⟩ := ce5_ BK258.out
           obtain ⟨hfz29_0, hfz29_1, hfz29_2, hfz29_3, hfz29_4⟩ := fr5_ BK258.out
           go_wp2_with (first | ((with_reducible refine gate_builtin (b := .append) (xs := #[.tmp 26, .tmp 30]) rfl ?_); at_builtin; refine Kd.R_append k36 (w0 := w) w.heap.size rfl (.tmp 26) (.tmp 30) 22 36 (.agg #[(.int .i64 0), (.string ⟨#[]⟩), (.slice none 0 0), (.string ⟨#[]⟩), (.slice none 0 0)]) 88 rfl Tryd.underlying22 info36 rfl (by decide) (by omega) (.slice Ao12 x4_1.length co12) x4_1 (⟨2, (⟨#[]⟩ : ByteArray), ([] : List (S54)), ((rd_T36 l0 x5_1).f3), ([] : List (S36))⟩ : S36) [.int .i64 2, .string (⟨#[]⟩ : ByteArray), .slice none 0 0, .string ((rd_T36 l0 x5_1).f3), .slice none 0 0] (fun k_ => k_ ≠ gb258) (fun k_ => ((fun k_ => k_ ≠ gb258)) k_ ∧ some k_ ≠ (.slice Ao12 x4_1.length co12 : Value).ownBlock) rfl rfl ?aP (fun _ hk => hk) ?aF ?aO ?aB ?aS ?aL ?_; (case aP => exact k36_mkM _ _ _ (⟨2, (⟨#[]⟩ : ByteArray), ([] : List (S54)), ((rd_T36 l0 x5_1).f3), ([] : List (S36))⟩ : S36) (Kd.R_nil _ _ _ _ _) (Kd.R_nil _ _ _ _ _)); (case aB => exact (hb1_ GE258.out)); (case aF => exact (fun k_ hk => Kd.freshB (g := gb258) (o := .cells #[.int .i64 ((rd_T36 l0 x5_1).f0), .string ((rd_T36 l0 x5_1).f1), .slice A257_2 ((rd_T36 l0 x5_1).f2).length c257_2, .string ((rd_T36 l0 x5_1).f3), .slice A257_4 ((rd_T36 l0 x5_1).f4).length c257_4] 36 (0, 0)) (bk_ BK258.out) k_ hk)); (case aO => exact (ra_ HO_4.out)); (case aS => exact (below_size (hb1_ GE258.out))); (case aL => have := LMc28.out; omega); intro v264 w30 ho hb hg hat; rw [← Ny263.out] at ho; replace BK258 := Aside0.mk (blk_grown (g := gb258) (o := .cells #[.int .i64 ((rd_T36 l0 x5_1).f0), .string ((rd_T36 l0 x5_1).f1), .slice A257_2 ((rd_T36 l0 x5_1).f2).length c257_2, .string ((rd_T36 l0 x5_1).f3), .slice A257_4 ((rd_T36 l0 x5_1).f4).length c257_4] 36 (0, 0)) (bk_ BK258.out) hg (Kd.R_away HO_4.out (fun _ hk => hk))); replace HB := Aside0.mk (hb); have HO265 := Aside0.mk (ho); clear HO_4; clear ho hb hg hat))
           go_roundg kj8
           case measure => have := HK1.out; have := HJ8.out; omega
           case rel => exact ⟨(y263), (wrap64 (x5_1 + 1)), (by first | rfl | (simp; done) | (simp [*]; done)), H', ⟨by have := HK1.out; have := HJ8.out; omega⟩, ⟨by (with_reducible repeat (first | apply Kd.R_alloc | apply Kd.R_drewN | apply Kd.R_drew)); exact Kd.R_mono HO265.out (fun _ hk => trivial)⟩, ⟨hb1_ GE258.out⟩⟩
          ·rw [if_neg c28] at H
           exact absurd H (by simp)
     ·rw [if_neg c4] at H
      have c4b0 := beq_eq_false_iff_ne.mpr c4
      have c4b1 := bne_iff_ne.mpr c4
      replace H := Option.bind_eq_some_iff.mp H
      obtain ⟨⟨t266, t267⟩, A310, H⟩ := H
      replace H : (if t267 = true then ((some (([] : List (S54)) : List (S54))).bind fun y270 => (if y270.length + ((rd_T36 l0 x5_1).f2).length < 4398046511104 then (if x4_1.length < 1599289640401 then (espalierref04_normal.l0 k1 l0 (x4_1 ++ [(⟨1, (rd_T36 l0 x5_1).f1, (y270 ++ ((rd_T36 l0 x5_1).f2)), (⟨#[]⟩ : ByteArray), t266⟩ : S36)]) (wrap64 (x5_1 + 1))) else (none)) else (none))) else (some (([] : List (S36)), false))) = some (r1, r2) := H
      have A31 := Aside0.mk A310
      clear A310
      by_cases c32 : t267 = true
      ·subst c32
       rw [if_pos rfl] at H
       obtain ⟨y270, hy270⟩ : ∃ y_ : List (S54), y_ = (([] : List (S54))) := ⟨_, rfl⟩
       replace H : (if y270.length + ((rd_T36 l0 x5_1).f2).length < 4398046511104 then (if x4_1.length < 1599289640401 then (espalierref04_normal.l0 k1 l0 (x4_1 ++ [(⟨1, (rd_T36 l0 x5_1).f1, (y270 ++ ((rd_T36 l0 x5_1).f2)), (⟨#[]⟩ : ByteArray), t266⟩ : S36)]) (wrap64 (x5_1 + 1))) else (none)) else (none)) = some (r1, r2) := by first | (rw [hy270]; with_reducible exact H) | (have H2_ := (Option.bind_some _ _).symm.trans H; rw [hy270]; with_reducible exact H2_) | (have H2_ := (Option.bind_some _ _).symm.trans H; with_reducible exact H2_) | with_reducible exact H | (rw [hy270]; exact H) | exact H
       have Ny270 := Aside0.mk hy270
       clear hy270
       by_cases c33 : y270.length + ((rd_T36 l0 x5_1).f2).length < 4398046511104
       ·rw [if_pos c33] at H
        have LMc33 := Aside0.mk c33
        clear c33
        obtain ⟨y273, hy273⟩ : ∃ y_ : List (S54), y_ = (y270 ++ ((rd_T36 l0 x5_1).f2)) := ⟨_, rfl⟩
        replace H : (if x4_1.length < 1599289640401 then (espalierref04_normal.l0 k1 l0 (x4_1 ++ [(⟨1, (rd_T36 l0 x5_1).f1, y273, (⟨#[]⟩ : ByteArray), t266⟩ : S36)]) (wrap64 (x5_1 + 1))) else (none)) = some (r1, r2) := by first | (rw [hy273]; with_reducible exact H) | (have H2_ := (Option.bind_some _ _).symm.trans H; rw [hy273]; with_reducible exact H2_) | (have H2_ := (Option.bind_some _ _).symm.trans H; with_reducible exact H2_) | with_reducible exact H | (rw [hy273]; exact H) | exact H
        have Ny273 := Aside0.mk hy273
        clear hy273
        by_cases c34 : x4_1.length < 1599289640401
        ·rw [if_pos c34] at H
         have LMc34 := Aside0.mk c34
         clear c34
         obtain ⟨y276, hy276⟩ : ∃ y_ : List (S36), y_ = (x4_1 ++ [(⟨1, (rd_T36 l0 x5_1).f1, y273, (⟨#[]⟩ : ByteArray), t266⟩ : S36)]) := ⟨_, rfl⟩
         replace H : (espalierref04_normal.l0 k1 l0 y276 (wrap64 (x5_1 + 1))) = some (r1, r2) := by first | (rw [hy276]; with_reducible exact H) | (have H2_ := (Option.bind_some _ _).symm.trans H; rw [hy276]; with_reducible exact H2_) | (have H2_ := (Option.bind_some _ _).symm.trans H; with_reducible exact H2_) | with_reducible exact H | (rw [hy276]; exact H) | exact H
         have Ny276 := Aside0.mk hy276
         clear hy276
         have H' := Aside0.mk H
         clear H
         have p257 : 0 ≤ (x5_1 : Int) := of_decide_eq_true (by first | (with_reducible assumption) | assumption)
         have q257 : x5_1 < (l0.length : Int) := of_decide_eq_true (by first | (with_reducible assumption) | assumption)
         obtain ⟨ad257, A257_2, c257_2, A257_4, c257_4, e257, hx257_0, hx257_1, hx257_2, hx257_3, hx257_4, hl257_2, hi257_2, hl257_4, hi257_4⟩ := at_T36 HR0.out x5_1 p257 q257
         cases e257
         replace hx257_0 := hc_ HB.out hx257_0
         replace hx257_1 := hc_ HB.out hx257_1
         replace hx257_2 := hc_ HB.out hx257_2
         replace hx257_3 := hc_ HB.out hx257_3
         replace hx257_4 := hc_ HB.out hx257_4
         have HR257_2 := Aside0.mk hi257_2
         have HC257_2 := Aside0.mk hl257_2
         clear hi257_2 hl257_2
         have HR257_4 := Aside0.mk hi257_4
         have HC257_4 := Aside0.mk hl257_4
         clear hi257_4 hl257_4
         replace p257 := eq_true p257
         replace q257 := eq_true q257
         try go_wp2_with (first | ((with_reducible refine gate_dst (N := 6) rfl ?_); refine box_event ?hg (N := 6) ?hd (cs := #[.int .i64 0, .string (⟨#[]⟩ : ByteArray), .slice none 0 0, .string (⟨#[]⟩ : ByteArray), .slice none 0 0]) (t := 36) ?hr ?_; (case hd => rfl); (case hg => rfl); (case hr => first | (go_simp; done) | (go_simp; rfl)); intro gb258 hg w35 hbox hb; have n0_ := Aside0.mk (Kd.R_below (Kd.R_elderB (ra_ HO_4.out) gb258 (Nat.le_of_eq hg.symm)) hb); have n1_ := Aside0.mk (below_step hb_ hb); have n2_ := Aside0.mk (hbox); have n3_ := Aside0.mk ((by rw [hg]; exact (below_size hb_) : w.heap.size ≤ gb258)); have n4_ := Aside0.mk ((by rw [hg]; exact (below_size hb_) : w.heap.size ≤ gb258)); clear HO_4; clear HB; have HO_4 := n0_; have HB := n1_; have BK258 := n2_; have GW258 := n3_; have GE258 := n4_; clear n0_ n1_ n2_ n3_ n4_; clear hb hbox hg; obtain ⟨hcz36_0, hcz36_1, hcz36_2, hcz36_3, hcz36_4⟩ := ce5_ BK258.out; obtain ⟨hfz36_0, hfz36_1, hfz36_2, hfz36_3, hfz36_4⟩ := fr5_ BK258.out) | ((with_reducible refine gate_callee (f := 22) rfl ?_); refine goesL_ (some 73) rfl rfl Tryd.func22 (by kernel_rfl) rfl #[.slice A257_4 ((rd_T36 l0 x5_1).f4).length c257_4] rfl rf_ ?_; (with_reducible refine (ih k1 (by have := HK1.out; omega) _ _ ((rd_T36 l0 x5_1).f4) t266 true _ ?side1 ?side2 A31.out).mono ?_); (case side1 => exact Kd.C_below HR257_4.out (hb1_ GE258.out)); (case side2 => exact HC257_4.out); rintro e w37 ⟨v268, rfl, ho0, hb⟩; refine ⟨_, rfl, ?_⟩; have n0_ := Aside0.mk (Kd.R_elder' (by (with_reducible repeat (first | apply Kd.R_alloc | apply Kd.R_drewN | apply Kd.R_drew)); exact (Kd.R_mono (Kd.R_far (p := ⟨gb258, 4, none⟩) (Kd.R_far (p := ⟨gb258, 3, none⟩) (Kd.R_far (p := ⟨gb258, 2, none⟩) (Kd.R_far (p := ⟨gb258, 1, none⟩) (Kd.R_far (p := ⟨gb258, 0, none⟩) (Kd.R_mono HO_4.out (fun k_ hk => (⟨hk, hk.2⟩ : _ ∧ k_ ≠ gb258))) (fun _ hk => hk.2) (.int .i64 ((rd_T36 l0 x5_1).f0))) (fun _ hk => hk.2) (.string ((rd_T36 l0 x5_1).f1))) (fun _ hk => hk.2) (.slice A257_2 ((rd_T36 l0 x5_1).f2).length c257_2)) (fun _ hk => hk.2) (.string ((rd_T36 l0 x5_1).f3))) (fun _ hk => hk.2) (.slice A257_4 ((rd_T36 l0 x5_1).f4).length c257_4)) (fun _ h_ => h_.1))) (Kd.R_base ho0) hb); have n1_ := Aside0.mk (Kd.R_lower (Kd.R_newB (Kd.R_new' ho0 (Kd.R_lt (by (with_reducible repeat (first | apply Kd.R_alloc | apply Kd.R_drewN | apply Kd.R_drew)); exact (Kd.R_mono (Kd.R_far (p := ⟨gb258, 4, none⟩) (Kd.R_far (p := ⟨gb258, 3, none⟩) (Kd.R_far (p := ⟨gb258, 2, none⟩) (Kd.R_far (p := ⟨gb258, 1, none⟩) (Kd.R_far (p := ⟨gb258, 0, none⟩) (Kd.R_mono HO_4.out (fun k_ hk => (⟨hk, hk.2⟩ : _ ∧ k_ ≠ gb258))) (fun _ hk => hk.2) (.int .i64 ((rd_T36 l0 x5_1).f0))) (fun _ hk => hk.2) (.string ((rd_T36 l0 x5_1).f1))) (fun _ hk => hk.2) (.slice A257_2 ((rd_T36 l0 x5_1).f2).length c257_2)) (fun _ hk => hk.2) (.string ((rd_T36 l0 x5_1).f3))) (fun _ hk => hk.2) (.slice A257_4 ((rd_T36 l0 x5_1).f4).length c257_4)) (fun _ h_ => h_.1))))) (g := gb258) (o := .cells #[.int .i64 ((rd_T36 l0 x5_1).f0), .string ((rd_T36 l0 x5_1).f1), .slice A257_2 ((rd_T36 l0 x5_1).f2).length c257_2, .string ((rd_T36 l0 x5_1).f3), .slice A257_4 ((rd_T36 l0 x5_1).f4).length c257_4] 36 (0, 0)) (bp_ BK258.out)) (below_size (hb1_ GE258.out))); have n2_ := Aside0.mk (blk_below (g := gb258) (o := .cells #[.int .i64 ((rd_T36 l0 x5_1).f0), .string ((rd_T36 l0 x5_1).f1), .slice A257_2 ((rd_T36 l0 x5_1).f2).length c257_2, .string ((rd_T36 l0 x5_1).f3), .slice A257_4 ((rd_T36 l0 x5_1).f4).length c257_4] 36 (0, 0)) (bp_ BK258.out) hb); have n3_ := Aside0.mk (below_step (hb1_ GE258.out) hb); clear HO_4; clear BK258; clear HB; have HO_4 := n0_; have HO269 := n1_; have BK258 := n2_; have HB := n3_; clear n0_ n1_ n2_ n3_; (try clear hb); (try clear hb2); (try clear hk); (try clear hi); (try clear ho0)))
         have n0_ := Aside0.mk (Kd.R_drew HO_4.out)
         have n1_ := Aside0.mk (Kd.R_drew HO269.out)
         have n2_ := Aside0.mk (blk_drew BK258.out)
         have n3_ := Aside0.mk (below_drew1 HB.out)
         clear HO_4
         clear HO269
         clear BK258
         clear HB
         have HO_4 := n0_
         have HO269 := n1_
         have BK258 := n2_
         have HB := n3_
         clear n0_ n1_ n2_ n3_
         refine start_ (n := 12) (S := fun w' => w'.cell? ⟨gb258, 0, none⟩ = some (.int .i64 ((rd_T36 l0 x5_1).f0)) ∧ w'.cell? ⟨gb258, 1, none⟩ = some (.string ((rd_T36 l0 x5_1).f1)) ∧ w'.cell? ⟨gb258, 2, none⟩ = some (.slice A257_2 ((rd_T36 l0 x5_1).f2).length c257_2) ∧ w'.cell? ⟨gb258, 3, none⟩ = some (.string ((rd_T36 l0 x5_1).f3)) ∧ w'.cell? ⟨gb258, 4, none⟩ = some (.slice A257_4 ((rd_T36 l0 x5_1).f4).length c257_4)) (ds := []) #[false, false, false, false, false, false, false, false, false, false, false, false] (by kernel_rfl) rfl rfl ⟨(blk_cell BK258.out 0).trans rfl, (blk_cell BK258.out 1).trans rfl, (blk_cell BK258.out 2).trans rfl, (blk_cell BK258.out 3).trans rfl, (blk_cell BK258.out 4).trans rfl⟩ (fun hHeld => ?_); refine with_tabW espalierref04_normal.tab17 espalierref04_normal.bits17 (fun HT_ HW_ => ?_)
         generalize w37.drew = w38 at HO_4 HO269 BK258 HB hHeld ⊢
         refine pu_ 0 (some 78) #[true, false, false, false, false, false, false, false, false, false, false, false] (any_of HT_.out (by kernel_rfl)) ?_
         refine pu_ 1 (some 79) #[true, true, false, false, false, false, false, false, false, false, false, false] (any_of HT_.out (by kernel_rfl)) ?_
         refine pu_ 4 (some 82) #[true, true, false, false, true, false, false, false, false, false, false, false] (any_of HT_.out (by kernel_rfl)) ?_
         refine pu_ 7 (some 85) #[true, true, false, false, true, false, false, true, false, false, false, false] (any_of HT_.out (by kernel_rfl)) ?_
         refine take_ (i := 2) (N := some 80) (v := ?_) (a' := ?_) #[true, true, true, false, true, false, false, true, false, false, false, false] rfl rfl (take_ofW HT_.out HW_.out (by kernel_rfl)) (fun _ _ _ h => h) (Or.inl ⟨by rfl, ?_⟩) hHeld ?_ ?_
         rotate_left
         ·rintro w' ⟨s0, s1, s2, s3, s4⟩
          go_simp
          with_reducible rfl
         rotate_left
         ·simp only [Act.put, List.setIfInBounds_toArray, List.set_cons_zero, List.set_cons_succ, i64_w, i32_w]
          rfl
         refine take_ (i := 5) (N := some 83) (v := ?_) (a' := ?_) #[true, true, true, false, true, true, false, true, false, false, false, false] rfl rfl (take_ofW HT_.out HW_.out (by kernel_rfl)) (fun _ _ _ h => h) (Or.inl ⟨by rfl, ?_⟩) hHeld ?_ ?_
         rotate_left
         ·rintro w' ⟨s0, s1, s2, s3, s4⟩
          go_simp
          with_reducible rfl
         rotate_left
         ·simp only [Act.put, List.setIfInBounds_toArray, List.set_cons_zero, List.set_cons_succ, i64_w, i32_w]
          rfl
         refine one_ (i := 3) (N := some 81) #[true, true, true, true, true, true, false, true, false, false, false, false] rfl rfl (one_of HT_.out (by kernel_rfl)) (by decide) (fun K hK => ?_)
         refine Kd.R_lit_step k54 _ 54 ?hg (N := 81) ?hd (xs := ([] : List (S54))) (inner := []) (ok := fun _ => True) (okp := fun _ => True) ?hr ?hp (fun _ hk => hk) trivial (Below.refl _ _) (Nat.le_refl _) (by simp) ?_; (case hd => rfl); (case hg => rfl); (case hr => first | (go_simp; done) | (go_simp; rfl)); (case hp => exact (Reps.none _ _))
         intro v271 w39 ho40 hb hg_ hnew_
         clear hg_ hnew_
         (first | rw [← Ny270.out] at ho40 | (simp only [Int.reduceToNat] at ho40; rw [← Ny270.out] at ho40))
         replace HO_4 := Aside0.mk (Kd.R_elder' (ra_ HO_4.out) (Kd.R_base ho40) hb)
         replace HO269 := Aside0.mk (Kd.R_elder' (ra_ HO269.out) (Kd.R_base ho40) hb)
         have HO272 := Aside0.mk (Kd.R_lower ho40 (below_size (hb1_ GE258.out)))
         replace BK258 := Aside0.mk (blk_below (g := gb258) (o := .cells #[.int .i64 ((rd_T36 l0 x5_1).f0), .string ((rd_T36 l0 x5_1).f1), .slice A257_2 ((rd_T36 l0 x5_1).f2).length c257_2, .string ((rd_T36 l0 x5_1).f3), .slice A257_4 ((rd_T36 l0 x5_1).f4).length c257_4] 36 (0, 0)) (bk_ BK258.out) hb)
         replace HB := Aside0.mk (below_step (hb1_ GE258.out) hb)
         clear hb ho40
         refine hK.out _ _ ⟨(blk_cell BK258.out 0).trans rfl, (blk_cell BK258.out 1).trans rfl, (blk_cell BK258.out 2).trans rfl, (blk_cell BK258.out 3).trans rfl, (blk_cell BK258.out 4).trans rfl⟩ (fun hHeld => ?_)
         clear hK K
         refine norm_ (a' := ?_) ?_ ?_
         rotate_left
         ·show Act.put _ (some 81) _ = _
          simp only [Act.put, List.setIfInBounds_toArray, List.set_cons_zero, List.set_cons_succ, i64_w, i32_w]
          rfl
         refine one_ (i := 6) (N := some 84) #[true, true, true, true, true, true, true, true, false, false, false, false] rfl rfl (one_of HT_.out (by kernel_rfl)) (by decide) (fun K hK => ?_)
         refine Kd.R_append_rows_step k54 (w0 := w) w.heap.size (by rfl) (.tmp 81) (.tmp 83) 34 54 (.agg #[(.string ⟨#[]⟩), (.string ⟨#[]⟩)]) 32 rfl Tryd.underlying34 info54 rfl (by decide) (by omega) v271 y270 ((rd_T36 l0 x5_1).f2) _ _ _ (fun _ => True) (fun _ => False) rfl rfl ?aO ?aR (fun _ _ h => h) (fun _ h => h.elim) ?aF ?aB ?aS ?aL ?_
         (case aR => repeat (first | exact (Kd.C_below HR257_2.out HB.out) | (with_reducible refine Kd.C_alloc ?_ _) | (with_reducible refine Kd.C_drewN ?_ _) | (with_reducible refine Kd.C_drew ?_)))
         (case aB => exact (hb1_ GE258.out))
         (case aF => exact (fun _ _ => trivial))
         (case aO => exact (ra_ HO272.out))
         (case aS => exact (below_size (hb1_ GE258.out)))
         (case aL => have := LMc33.out; omega)
         intro v274 w41 ho hb hg hat
         rw [← Ny273.out] at ho
         have n0_ := Aside0.mk (Kd.R_after (ok := (fun k_ => some k_ ≠ (v268 : Value).ownBlock ∧ k_ ≠ gb258)) (by (with_reducible repeat (first | apply Kd.R_alloc | apply Kd.R_drewN | apply Kd.R_drew)); exact Kd.R_mono HO_4.out (fun _ hk => ⟨⟨hk.1.2, hk.1.1.2⟩, hk.2⟩)) hg hat)
         have n1_ := Aside0.mk (blk_grown (g := gb258) (o := .cells #[.int .i64 ((rd_T36 l0 x5_1).f0), .string ((rd_T36 l0 x5_1).f1), .slice A257_2 ((rd_T36 l0 x5_1).f2).length c257_2, .string ((rd_T36 l0 x5_1).f3), .slice A257_4 ((rd_T36 l0 x5_1).f4).length c257_4] 36 (0, 0)) (bk_ BK258.out) hg (Kd.R_ne HO272.out BK258.out (by decide)))
         have n2_ := Aside0.mk (Kd.R_after (ok := (fun k_ => some k_ ≠ (u4 : Value).ownBlock ∧ k_ ≠ gb258)) (by (with_reducible repeat (first | apply Kd.R_alloc | apply Kd.R_drewN | apply Kd.R_drew)); exact Kd.R_mono HO269.out (fun _ hk => ⟨⟨hk.1.1.2, hk.1.2⟩, hk.2⟩)) hg hat)
         have n3_ := Aside0.mk (hb)
         have n4_ := Aside0.mk (ho)
         clear HO_4
         clear BK258
         clear HO269
         clear HB
         clear HO272
         have HO_4 := n0_
         have BK258 := n1_
         have HO269 := n2_
         have HB := n3_
         have HO275 := n4_
         clear n0_ n1_ n2_ n3_ n4_
         clear ho hb hg hat
         obtain ⟨Ao42, co42, eo42⟩ := Kd.R_slice HO269.out
         (first | subst eo42 | (injection eo42 with f1_ f2_ f3_; have f4_ := f1_.symm; have f5_ := f3_.symm; clear f1_ f2_ f3_; subst f4_; subst f5_))
         obtain ⟨Ao43, co43, eo43⟩ := Kd.R_slice HO275.out
         (first | subst eo43 | (injection eo43 with f1_ f2_ f3_; have f4_ := f1_.symm; have f5_ := f3_.symm; clear f1_ f2_ f3_; subst f4_; subst f5_))
         refine hK.out _ _ ⟨(blk_cell BK258.out 0).trans rfl, (blk_cell BK258.out 1).trans rfl, (blk_cell BK258.out 2).trans rfl, (blk_cell BK258.out 3).trans rfl, (blk_cell BK258.out 4).trans rfl⟩ (fun hHeld => ?_)
         clear hK K
         refine norm_ (a' := ?_) ?_ ?_
         rotate_left
         ·show Act.put _ (some 84) _ = _
          simp only [Act.put, List.setIfInBounds_toArray, List.set_cons_zero, List.set_cons_succ, i64_w, i32_w]
          rfl
         refine pu_ 8 (some 86) #[true, true, true, true, true, true, true, true, true, false, false, false] (any_of HT_.out (by kernel_rfl)) ?_
         refine one_ (i := 9) (N := some 87) #[true, true, true, true, true, true, true, true, true, true, false, false] rfl rfl (one_of HT_.out (by kernel_rfl)) (by decide) (fun K hK => ?_)
         refine value_ (w1 := ?_) (v := ?_) (by rfl) rfl ?_ ?_
         rotate_left 2
         ·go_simp
          constructor
          ·rfl
          ·rfl
         refine hK.out _ _ ⟨(blk_cell (blk_alloc BK258.out _) 0).trans rfl, (blk_cell (blk_alloc BK258.out _) 1).trans rfl, (blk_cell (blk_alloc BK258.out _) 2).trans rfl, (blk_cell (blk_alloc BK258.out _) 3).trans rfl, (blk_cell (blk_alloc BK258.out _) 4).trans rfl⟩ (fun hHeld => ?_)
         clear hK K
         refine norm_ (a' := ?_) ?_ ?_
         rotate_left
         ·show Act.put _ (some 87) _ = _
          simp only [Act.put, List.setIfInBounds_toArray, List.set_cons_zero, List.set_cons_succ, i64_w, i32_w]
          rfl
         refine one_ (i := 10) (N := some 88) #[true, true, true, true, true, true, true, true, true, true, true, false] rfl rfl (one_of HT_.out (by kernel_rfl)) (by decide) (fun K hK => ?_)
         refine Kd.R_append_step k36 (w0 := w) w.heap.size (by rfl) (.tmp 78) (.tmp 87) 22 36 (.agg #[(.int .i64 0), (.string ⟨#[]⟩), (.slice none 0 0), (.string ⟨#[]⟩), (.slice none 0 0)]) 88 rfl Tryd.underlying22 info36 rfl (by decide) (by omega) u4 x4_1 (⟨1, (rd_T36 l0 x5_1).f1, y273, (⟨#[]⟩ : ByteArray), t266⟩ : S36) [.int .i64 1, .string ((rd_T36 l0 x5_1).f1), .slice Ao43 y273.length co43, .string (⟨#[]⟩ : ByteArray), .slice Ao42 t266.length co42] (fun k_ => k_ ≠ gb258) (fun k_ => ((fun k_ => k_ ≠ gb258)) k_ ∧ some k_ ≠ (u4 : Value).ownBlock) rfl rfl ?aP (fun _ hk => hk) ?aF ?aO ?aB ?aS ?aL ?_
         (case aP => exact k36_mkM _ _ _ (⟨1, (rd_T36 l0 x5_1).f1, y273, (⟨#[]⟩ : ByteArray), t266⟩ : S36) (Kd.R_mono (Kd.R_types (Kd.R_apart' (HO275.out) (Kd.R_typed HO_4.out) (by decide)) BK258.out (by decide)) (fun k_ hk => ⟨hk.2, hk.1.2⟩)) (Kd.R_mono (HO269.out) (fun k_ hk => ⟨hk.1.2, hk.1.1⟩)))
         (case aB => exact (hb1_ GE258.out))
         (case aF => exact (fun k_ hk => Kd.freshB (g := gb258) (o := .cells #[.int .i64 ((rd_T36 l0 x5_1).f0), .string ((rd_T36 l0 x5_1).f1), .slice A257_2 ((rd_T36 l0 x5_1).f2).length c257_2, .string ((rd_T36 l0 x5_1).f3), .slice A257_4 ((rd_T36 l0 x5_1).f4).length c257_4] 36 (0, 0)) (bk_ BK258.out) k_ hk))
         (case aO => exact (by (with_reducible repeat (first | apply Kd.R_alloc | apply Kd.R_drewN | apply Kd.R_drew)); exact Kd.R_mono HO_4.out (fun _ hk => hk.1.2)))
         (case aS => exact (below_size (hb1_ GE258.out)))
         (case aL => have := LMc34.out; omega)
         intro v277 w44 ho hb hg hat
         rw [← Ny276.out] at ho
         replace BK258 := Aside0.mk (blk_grown (g := gb258) (o := .cells #[.int .i64 ((rd_T36 l0 x5_1).f0), .string ((rd_T36 l0 x5_1).f1), .slice A257_2 ((rd_T36 l0 x5_1).f2).length c257_2, .string ((rd_T36 l0 x5_1).f3), .slice A257_4 ((rd_T36 l0 x5_1).f4).length c257_4] 36 (0, 0)) (bk_ BK258.out) hg (Kd.R_away HO_4.out (fun _ hk => hk.1.2)))
         replace HB := Aside0.mk (hb)
         have HO278 := Aside0.mk (ho)
         clear HO_4 HO269 HO275
         clear ho hb hg hat
         refine hK.out _ _ ⟨(blk_cell BK258.out 0).trans rfl, (blk_cell BK258.out 1).trans rfl, (blk_cell BK258.out 2).trans rfl, (blk_cell BK258.out 3).trans rfl, (blk_cell BK258.out 4).trans rfl⟩ (fun hHeld => ?_)
         clear hK K
         refine norm_ (a' := ?_) ?_ ?_
         rotate_left
         ·show Act.put _ (some 88) _ = _
          simp only [Act.put, List.setIfInBounds_toArray, List.set_cons_zero, List.set_cons_succ, i64_w, i32_w]
          rfl
         refine pu_ 11 (some 4) #[true, true, true, true, true, true, true, true, true, true, true, true] (any_of HT_.out (by kernel_rfl)) ?_
         refine done_ (done_of HT_.out (by kernel_rfl)) ?_
         try go_wp2
         go_roundg k1
         case measure => have := HK1.out; omega
         case rel => exact ⟨(y276), (wrap64 (x5_1 + 1)), (by first | rfl | (simp; done) | (simp [*]; done)), H', ⟨by have := HK1.out; omega⟩, ⟨by (with_reducible repeat (first | apply Kd.R_alloc | apply Kd.R_drewN | apply Kd.R_drew)); exact Kd.R_mono HO278.out (fun _ hk => trivial)⟩, ⟨hb1_ GE258.out⟩⟩
        ·rw [if_neg c34] at H
         exact absurd H (by simp)
       ·rw [if_neg c33] at H
        exact absurd H (by simp)
      ·replace c32 := Bool.eq_false_iff.mpr c32
       subst c32
       rw [if_neg (show ¬ (false = true) by decide)] at H
       simp only [Option.some.injEq, Prod.mk.injEq] at H
       obtain ⟨rfl, rfl⟩ := H
       have p257 : 0 ≤ (x5_1 : Int) := of_decide_eq_true (by first | (with_reducible assumption) | assumption)
       have q257 : x5_1 < (l0.length : Int) := of_decide_eq_true (by first | (with_reducible assumption) | assumption)
       obtain ⟨ad257, A257_2, c257_2, A257_4, c257_4, e257, hx257_0, hx257_1, hx257_2, hx257_3, hx257_4, hl257_2, hi257_2, hl257_4, hi257_4⟩ := at_T36 HR0.out x5_1 p257 q257
       cases e257
       replace hx257_0 := hc_ HB.out hx257_0
       replace hx257_1 := hc_ HB.out hx257_1
       replace hx257_2 := hc_ HB.out hx257_2
       replace hx257_3 := hc_ HB.out hx257_3
       replace hx257_4 := hc_ HB.out hx257_4
       have HR257_2 := Aside0.mk hi257_2
       have HC257_2 := Aside0.mk hl257_2
       clear hi257_2 hl257_2
       have HR257_4 := Aside0.mk hi257_4
       have HC257_4 := Aside0.mk hl257_4
       clear hi257_4 hl257_4
       replace p257 := eq_true p257
       replace q257 := eq_true q257
       go_wp2_with (first | ((with_reducible refine gate_dst (N := 6) rfl ?_); refine box_event ?hg (N := 6) ?hd (cs := #[.int .i64 0, .string (⟨#[]⟩ : ByteArray), .slice none 0 0, .string (⟨#[]⟩ : ByteArray), .slice none 0 0]) (t := 36) ?hr ?_; (case hd => rfl); (case hg => rfl); (case hr => first | (go_simp; done) | (go_simp; rfl)); intro gb258 hg w45 hbox hb; have n0_ := Aside0.mk (Kd.R_below (Kd.R_elderB (ra_ HO_4.out) gb258 (Nat.le_of_eq hg.symm)) hb); have n1_ := Aside0.mk (below_step hb_ hb); have n2_ := Aside0.mk (hbox); have n3_ := Aside0.mk ((by rw [hg]; exact (below_size hb_) : w.heap.size ≤ gb258)); have n4_ := Aside0.mk ((by rw [hg]; exact (below_size hb_) : w.heap.size ≤ gb258)); clear HO_4; clear HB; have HO_4 := n0_; have HB := n1_; have BK258 := n2_; have GW258 := n3_; have GE258 := n4_; clear n0_ n1_ n2_ n3_ n4_; clear hb hbox hg; obtain ⟨hcz46_0, hcz46_1, hcz46_2, hcz46_3, hcz46_4⟩ := ce5_ BK258.out; obtain ⟨hfz46_0, hfz46_1, hfz46_2, hfz46_3, hfz46_4⟩ := fr5_ BK258.out) | ((with_reducible refine gate_callee (f := 22) rfl ?_); refine goesL_ (some 73) rfl rfl Tryd.func22 (by kernel_rfl) rfl #[.slice A257_4 ((rd_T36 l0 x5_1).f4).length c257_4] rfl rf_ ?_; (with_reducible refine (ih k1 (by have := HK1.out; omega) _ _ ((rd_T36 l0 x5_1).f4) t266 false _ ?side1 ?side2 A31.out).mono ?_); (case side1 => exact Kd.C_below HR257_4.out (hb1_ GE258.out)); (case side2 => exact HC257_4.out); rintro e w47 ⟨v268, rfl, ho0, hb⟩; refine ⟨_, rfl, ?_⟩; have n0_ := Aside0.mk (Kd.R_elder' (by (with_reducible repeat (first | apply Kd.R_alloc | apply Kd.R_drewN | apply Kd.R_drew)); exact (Kd.R_mono (Kd.R_far (p := ⟨gb258, 4, none⟩) (Kd.R_far (p := ⟨gb258, 3, none⟩) (Kd.R_far (p := ⟨gb258, 2, none⟩) (Kd.R_far (p := ⟨gb258, 1, none⟩) (Kd.R_far (p := ⟨gb258, 0, none⟩) (Kd.R_mono HO_4.out (fun k_ hk => (⟨hk, hk.2⟩ : _ ∧ k_ ≠ gb258))) (fun _ hk => hk.2) (.int .i64 ((rd_T36 l0 x5_1).f0))) (fun _ hk => hk.2) (.string ((rd_T36 l0 x5_1).f1))) (fun _ hk => hk.2) (.slice A257_2 ((rd_T36 l0 x5_1).f2).length c257_2)) (fun _ hk => hk.2) (.string ((rd_T36 l0 x5_1).f3))) (fun _ hk => hk.2) (.slice A257_4 ((rd_T36 l0 x5_1).f4).length c257_4)) (fun _ h_ => h_.1))) (Kd.R_base ho0) hb); have n1_ := Aside0.mk (Kd.R_lower (Kd.R_newB (Kd.R_new' ho0 (Kd.R_lt (by (with_reducible repeat (first | apply Kd.R_alloc | apply Kd.R_drewN | apply Kd.R_drew)); exact (Kd.R_mono (Kd.R_far (p := ⟨gb258, 4, none⟩) (Kd.R_far (p := ⟨gb258, 3, none⟩) (Kd.R_far (p := ⟨gb258, 2, none⟩) (Kd.R_far (p := ⟨gb258, 1, none⟩) (Kd.R_far (p := ⟨gb258, 0, none⟩) (Kd.R_mono HO_4.out (fun k_ hk => (⟨hk, hk.2⟩ : _ ∧ k_ ≠ gb258))) (fun _ hk => hk.2) (.int .i64 ((rd_T36 l0 x5_1).f0))) (fun _ hk => hk.2) (.string ((rd_T36 l0 x5_1).f1))) (fun _ hk => hk.2) (.slice A257_2 ((rd_T36 l0 x5_1).f2).length c257_2)) (fun _ hk => hk.2) (.string ((rd_T36 l0 x5_1).f3))) (fun _ hk => hk.2) (.slice A257_4 ((rd_T36 l0 x5_1).f4).length c257_4)) (fun _ h_ => h_.1))))) (g := gb258) (o := .cells #[.int .i64 ((rd_T36 l0 x5_1).f0), .string ((rd_T36 l0 x5_1).f1), .slice A257_2 ((rd_T36 l0 x5_1).f2).length c257_2, .string ((rd_T36 l0 x5_1).f3), .slice A257_4 ((rd_T36 l0 x5_1).f4).length c257_4] 36 (0, 0)) (bp_ BK258.out)) (below_size (hb1_ GE258.out))); have n2_ := Aside0.mk (blk_below (g := gb258) (o := .cells #[.int .i64 ((rd_T36 l0 x5_1).f0), .string ((rd_T36 l0 x5_1).f1), .slice A257_2 ((rd_T36 l0 x5_1).f2).length c257_2, .string ((rd_T36 l0 x5_1).f3), .slice A257_4 ((rd_T36 l0 x5_1).f4).length c257_4] 36 (0, 0)) (bp_ BK258.out) hb); have n3_ := Aside0.mk (below_step (hb1_ GE258.out) hb); clear HO_4; clear BK258; clear HB; have HO_4 := n0_; have HO269 := n1_; have BK258 := n2_; have HB := n3_; clear n0_ n1_ n2_ n3_; (try clear hb); (try clear hb2); (try clear hk); (try clear hi); (try clear ho0)))
       go_ret2
       exact ⟨_, er_, by first | exact Kd.R_nil _ _ _ _ _ | exact Kd.N_nil _ _ _ _ _ | exact Kd.V_nil _ _ _ _ _ | exact Kd.Q_nil _ _ _ _ _ | exact Kd.S_nil _ _ _ _ _, hb1_ GE258.out⟩
    ·rw [if_neg c3] at H
     exact absurd H (by simp)
   ·rw [if_neg c2] at H
    have c2b0 : decide (x5_1 < (l0.length : Int)) = false := decide_eq_false c2
    clear c2
    simp only [Option.some.injEq, Prod.mk.injEq] at H
    obtain ⟨rfl, rfl⟩ := H
    go_wp2
    go_ret2
    exact ⟨_, er_, by (with_reducible repeat (first | apply Kd.R_alloc | apply Kd.R_drewN | apply Kd.R_drew)); exact HO_4.out, hb_⟩

end Go.Proofs.YtealmfcimoomlaaDoor.PA
