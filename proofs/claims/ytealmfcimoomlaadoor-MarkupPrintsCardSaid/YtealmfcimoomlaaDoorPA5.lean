-- Written by a program of this session (wip/tools/xprint.py: the kit's print, with given functions). Not trusted: Lean checks it.
-- squeezed
import Derived.Test.YtealmfcimoomlaaDoorPA0
import Derived.Test.YtealmfcimoomlaaDoorPA4
import Derived.Test.YtealmfcimoomlaaDoorUTreeCheck
namespace Go.Proofs.YtealmfcimoomlaaDoor.PA
open Go.RowKit Go.Proofs.YtealmfcimoomlaaDoorW.PrintWords Go.Proofs.YtealmfcimoomlaaDoorW.PrintLast Go.Proofs.YtealmfcimoomlaaDoorW.PrintMore
attribute [local go_sem] max2_int min2_int max_two min_two max_three min_three max_four min_four   -- for this text's walks alone
set_option linter.unusedVariables false
set_option linter.unusedSimpArgs false

/-! ### markup_can: function 15 -/
mutual
def markup_can.j1 : Nat → List (S36) → Int → Option (Int)
 | 0, _, _ => none
 | k + 1, x0, x3 => if x3 ≤ 4096 then (some 0) else (markup_can.l1 k x0 (x0.length : Int) 0)
def markup_can.l1 : Nat → List (S36) → Int → Int → Option (Int)
 | 0, _, _, _ => none
 | k + 1, x30, x31, x32 => if x32 < x31 then (if 0 ≤ x32 then (if x32 < (x30.length : Int) then ((tree_Check.f k ((rd_T36 x30 x32).f0) ((rd_T36 x30 x32).f1) ((rd_T36 x30 x32).f2) ((rd_T36 x30 x32).f3) ((rd_T36 x30 x32).f4)).bind fun t133 => (if t133 = 0 then (markup_can.l1 k x30 x31 (wrap64 (x32 + 1))) else (some t133))) else (none)) else (none)) else (some 2)
def markup_can.l0 : Nat → List (S36) → Int → List (S36) → Int → Int → Option (Int)
 | 0, _, _, _, _, _ => none
 | k + 1, x0, x3, x10, x11, x12 => if x12 < x11 then (if 0 ≤ x12 then (if x12 < (x10.length : Int) then ((tree_Check.f k ((rd_T36 x10 x12).f0) ((rd_T36 x10 x12).f1) ((rd_T36 x10 x12).f2) ((rd_T36 x10 x12).f3) ((rd_T36 x10 x12).f4)).bind fun t129 => (if t129 = 0 then ((markup_count.f k ((rd_T36 x10 x12).f0) ((rd_T36 x10 x12).f1) ((rd_T36 x10 x12).f2) ((rd_T36 x10 x12).f3) ((rd_T36 x10 x12).f4)).bind fun t130 => (if (wrap64 (x3 + t130)) > 4096 then (markup_can.j1 k x0 (wrap64 (x3 + t130))) else (markup_can.l0 k x0 (wrap64 (x3 + t130)) x10 x11 (wrap64 (x12 + 1))))) else (some t129))) else (none)) else (none)) else (markup_can.j1 k x0 x3)
end
def markup_can.f (k : Nat) (l0 : List (S36)) : Option (Int) := markup_can.l0 k l0 0 l0 (l0.length : Int) 0
theorem markup_can.mono_l : ∀ k, (∀ y0 y1, LeO (markup_can.j1 k y0 y1) (markup_can.j1 (k + 1) y0 y1)) ∧ (∀ y0 y1 y2, LeO (markup_can.l1 k y0 y1 y2) (markup_can.l1 (k + 1) y0 y1 y2)) ∧ (∀ y0 y1 y2 y3 y4, LeO (markup_can.l0 k y0 y1 y2 y3 y4) (markup_can.l0 (k + 1) y0 y1 y2 y3 y4))
 | 0 => ⟨fun _ _ r h => by simp [markup_can.j1] at h, fun _ _ _ r h => by simp [markup_can.l1] at h, fun _ _ _ _ _ r h => by simp [markup_can.l0] at h⟩
 | k + 1 => by
  obtain ⟨ih0, ih1, ih2⟩ := markup_can.mono_l k
  refine ⟨?_, ?_, ?_⟩
  ·intro y0 y1
   unfold markup_can.j1
   repeat' first
   | (with_reducible exact ih0 _ _)
   | (with_reducible exact ih1 _ _ _)
   | (with_reducible exact ih2 _ _ _ _ _)
   | (with_reducible exact markup_count.mono _ _ _ _ _ _)
   | (with_reducible exact tree_Check.mono _ _ _ _ _ _)
   | (with_reducible exact LeO.refl _)
   | (with_reducible exact LeO.none _)
   | (with_reducible refine LeO.ite ?_ ?_)
   | (with_reducible refine LeO.bind ?_ (fun _ => ?_))
   | exact ih0 _ _
   | exact ih1 _ _ _
   | exact ih2 _ _ _ _ _
   | exact markup_count.mono _ _ _ _ _ _
   | exact tree_Check.mono _ _ _ _ _ _
   | exact LeO.none _
   | refine LeO.ite ?_ ?_
   | refine LeO.bind ?_ (fun _ => ?_)
  ·intro y0 y1 y2
   unfold markup_can.l1
   repeat' first
   | (with_reducible exact ih0 _ _)
   | (with_reducible exact ih1 _ _ _)
   | (with_reducible exact ih2 _ _ _ _ _)
   | (with_reducible exact markup_count.mono _ _ _ _ _ _)
   | (with_reducible exact tree_Check.mono _ _ _ _ _ _)
   | (with_reducible exact LeO.refl _)
   | (with_reducible exact LeO.none _)
   | (with_reducible refine LeO.ite ?_ ?_)
   | (with_reducible refine LeO.bind ?_ (fun _ => ?_))
   | exact ih0 _ _
   | exact ih1 _ _ _
   | exact ih2 _ _ _ _ _
   | exact markup_count.mono _ _ _ _ _ _
   | exact tree_Check.mono _ _ _ _ _ _
   | exact LeO.none _
   | refine LeO.ite ?_ ?_
   | refine LeO.bind ?_ (fun _ => ?_)
  ·intro y0 y1 y2 y3 y4
   unfold markup_can.l0
   repeat' first
   | (with_reducible exact ih0 _ _)
   | (with_reducible exact ih1 _ _ _)
   | (with_reducible exact ih2 _ _ _ _ _)
   | (with_reducible exact markup_count.mono _ _ _ _ _ _)
   | (with_reducible exact tree_Check.mono _ _ _ _ _ _)
   | (with_reducible exact LeO.refl _)
   | (with_reducible exact LeO.none _)
   | (with_reducible refine LeO.ite ?_ ?_)
   | (with_reducible refine LeO.bind ?_ (fun _ => ?_))
   | exact ih0 _ _
   | exact ih1 _ _ _
   | exact ih2 _ _ _ _ _
   | exact markup_count.mono _ _ _ _ _ _
   | exact tree_Check.mono _ _ _ _ _ _
   | exact LeO.none _
   | refine LeO.ite ?_ ?_
   | refine LeO.bind ?_ (fun _ => ?_)
theorem markup_can.mono : ∀ a0 k, LeO (markup_can.f k a0) (markup_can.f (k + 1) a0) := by
 intro a0 k
 obtain ⟨ih0, ih1, ih2⟩ := markup_can.mono_l k
 unfold markup_can.f
 repeat' first
   | (with_reducible exact ih0 _ _)
   | (with_reducible exact ih1 _ _ _)
   | (with_reducible exact ih2 _ _ _ _ _)
   | (with_reducible exact markup_count.mono _ _ _ _ _ _)
   | (with_reducible exact tree_Check.mono _ _ _ _ _ _)
   | (with_reducible exact LeO.refl _)
   | (with_reducible exact LeO.none _)
   | (with_reducible refine LeO.ite ?_ ?_)
   | (with_reducible refine LeO.bind ?_ (fun _ => ?_))
   | exact ih0 _ _
   | exact ih1 _ _ _
   | exact ih2 _ _ _ _ _
   | exact markup_count.mono _ _ _ _ _ _
   | exact tree_Check.mono _ _ _ _ _ _
   | exact LeO.none _
   | refine LeO.ite ?_ ?_
   | refine LeO.bind ?_ (fun _ => ?_)
set_option maxHeartbeats 8000000 in
set_option maxRecDepth 100000 in
theorem markup_can.calls (k : Nat) (A0 : Option Addr) (c0 : Nat) (l0 : List (S36)) (r : Int) (w : World) (hr0 : Kd.C k36 w A0 l0.length l0) (hc0 : l0.length ≤ c0) (h : markup_can.f k l0 = some r) (hG : Glob w := by first | exact Glob.step HG.out (by repeat (first | (with_reducible first | exact HB.out | apply below_alloc | apply pw_below_drewN | apply below_drew1) | exact HB.out | (refine below_set ?_ (Aside0.out (by assumption))))) | exact HG.out | assumption) :
  Calls Tryd.prog 15 #[.slice A0 l0.length c0] w fun e w' => e = .returned (.int .i64 r) ∧ Below w.heap.size w w' := by
 have HG := Aside0.mk hG
 clear hG
 have hu36 := Tryd.underlying36
 have HR0 := Aside0.mk hr0
 have HC0 := Aside0.mk hc0
 clear hr0 hc0
 have HB := Aside0.mk (Below.refl w.heap.size w)
 have H : (markup_can.l0 k l0 0 l0 (l0.length : Int) 0) = some r := h
 clear h
 have HC2 := Aside0.mk H
 clear H
 go_enter Tryd.func15, Tryd.ntmps15
 go_upto_block 0 with (fail)
 go_cut [3] (fun v3 wc => ∃ (kq : Nat) (x3_1 : Int), v3 = .int .i64 x3_1 ∧ Aside0 (markup_can.j1 kq l0 x3_1 = some r) ∧ Aside0 (kq ≤ k) ∧ Aside0 (Below w.heap.size w wc))
 case first =>
  have H := HC2.out
  clear HC2
  have H' := Aside0.mk H
  clear H
  go_wp2
  go_loopg [3, 12] k (fun kq v3 v12 w' => ∃ (x3_1 : Int) (x12_1 : Int), v3 = .int .i64 x3_1 ∧ v12 = .int .i64 x12_1 ∧ Aside0 (markup_can.l0 kq l0 x3_1 l0 (l0.length : Int) x12_1 = some r) ∧ Aside0 (kq ≤ k) ∧ Aside0 (Below w.heap.size w w'))
  case atStart => exact ⟨(0), (0), (by first | rfl | (simp; done) | (simp [*]; done)), (by first | rfl | (simp; done) | (simp [*]; done)), H', ⟨Nat.le_refl _⟩, ⟨hb_⟩⟩
  case round =>
   clear H'
   try clear c1
   try clear p2
   obtain ⟨x3_1, x12_1, rfl, rfl, HA, HK1, HB⟩ := hrel
   cases gk with
   | zero => exact absurd HA.out (by simp [markup_can.l0])
   | succ k1 =>
    have H := HA.out
    clear HA
    simp only [markup_can.l0] at H
    by_cases c3 : x12_1 < (l0.length : Int)
    ·rw [if_pos c3] at H
     have c3b0 : decide (x12_1 < (l0.length : Int)) = true := decide_eq_true c3
     clear c3
     (first | rw [c3b0] | (simp only [i64_w, i32_w]; rw [c3b0]) | skip)
     by_cases c4 : 0 ≤ x12_1
     ·rw [if_pos c4] at H
      have c4b0 : decide (0 ≤ x12_1) = true := decide_eq_true c4
      clear c4
      by_cases c5 : x12_1 < (l0.length : Int)
      ·rw [if_pos c5] at H
       have c5b0 : decide (x12_1 < (l0.length : Int)) = true := decide_eq_true c5
       clear c5
       replace H := Option.bind_eq_some_iff.mp H
       obtain ⟨t129, A60, H⟩ := H
       replace H : (if t129 = 0 then ((markup_count.f k1 ((rd_T36 l0 x12_1).f0) ((rd_T36 l0 x12_1).f1) ((rd_T36 l0 x12_1).f2) ((rd_T36 l0 x12_1).f3) ((rd_T36 l0 x12_1).f4)).bind fun t130 => (if (wrap64 (x3_1 + t130)) > 4096 then (markup_can.j1 k1 l0 (wrap64 (x3_1 + t130))) else (markup_can.l0 k1 l0 (wrap64 (x3_1 + t130)) l0 (l0.length : Int) (wrap64 (x12_1 + 1))))) else (some t129)) = some r := H
       have A6 := Aside0.mk A60
       clear A60
       by_cases c7 : t129 = 0
       ·rw [if_pos c7] at H
        have c7b0 := beq_iff_eq.mpr c7
        have c7b1 := bne_eq_false_iff_eq.mpr c7
        clear c7
        replace H := Option.bind_eq_some_iff.mp H
        obtain ⟨t130, A80, H⟩ := H
        replace H : (if (wrap64 (x3_1 + t130)) > 4096 then (markup_can.j1 k1 l0 (wrap64 (x3_1 + t130))) else (markup_can.l0 k1 l0 (wrap64 (x3_1 + t130)) l0 (l0.length : Int) (wrap64 (x12_1 + 1)))) = some r := H
        have A8 := Aside0.mk A80
        clear A80
        by_cases c9 : (wrap64 (x3_1 + t130)) > 4096
        ·rw [if_pos c9] at H
         have c9b0 : decide (4096 < (wrap64 (x3_1 + t130))) = true := decide_eq_true c9
         clear c9
         have H' := Aside0.mk H
         clear H
         have p127 : 0 ≤ (x12_1 : Int) := of_decide_eq_true (by first | (with_reducible assumption) | assumption)
         have q127 : x12_1 < (l0.length : Int) := of_decide_eq_true (by first | (with_reducible assumption) | assumption)
         obtain ⟨ad127, A127_2, c127_2, A127_4, c127_4, e127, hx127_0, hx127_1, hx127_2, hx127_3, hx127_4, hl127_2, hi127_2, hl127_4, hi127_4⟩ := at_T36 HR0.out x12_1 p127 q127
         cases e127
         replace hx127_0 := hc_ HB.out hx127_0
         replace hx127_1 := hc_ HB.out hx127_1
         replace hx127_2 := hc_ HB.out hx127_2
         replace hx127_3 := hc_ HB.out hx127_3
         replace hx127_4 := hc_ HB.out hx127_4
         have HR127_2 := Aside0.mk hi127_2
         have HC127_2 := Aside0.mk hl127_2
         clear hi127_2 hl127_2
         have HR127_4 := Aside0.mk hi127_4
         have HC127_4 := Aside0.mk hl127_4
         clear hi127_4 hl127_4
         replace p127 := eq_true p127
         replace q127 := eq_true q127
         go_wp2_with (first | ((with_reducible refine gate_dst (N := 5) rfl ?_); refine box_event ?hg (N := 5) ?hd (cs := #[.int .i64 0, .string (⟨#[]⟩ : ByteArray), .slice none 0 0, .string (⟨#[]⟩ : ByteArray), .slice none 0 0]) (t := 36) ?hr ?_; (case hd => rfl); (case hg => rfl); (case hr => first | (go_simp; done) | (go_simp; rfl)); intro gb128 hg w10 hbox hb; have n0_ := Aside0.mk (below_step hb_ hb); have n1_ := Aside0.mk (hbox); have n2_ := Aside0.mk ((by rw [hg]; exact (below_size hb_) : w.heap.size ≤ gb128)); have n3_ := Aside0.mk ((by rw [hg]; exact (below_size hb_) : w.heap.size ≤ gb128)); clear HB; have HB := n0_; have BK128 := n1_; have GW128 := n2_; have GE128 := n3_; clear n0_ n1_ n2_ n3_; clear hb hbox hg; obtain ⟨hcz11_0, hcz11_1, hcz11_2, hcz11_3, hcz11_4⟩ := ce5_ BK128.out; obtain ⟨hfz11_0, hfz11_1, hfz11_2, hfz11_3, hfz11_4⟩ := fr5_ BK128.out) | ((with_reducible refine gate_callee (f := 28) rfl ?_); refine goesL_ (some 17) rfl rfl Tryd.func28 (by kernel_rfl) rfl #[.agg #[.int .i64 ((rd_T36 l0 x12_1).f0), .string ((rd_T36 l0 x12_1).f1), .slice A127_2 ((rd_T36 l0 x12_1).f2).length c127_2, .string ((rd_T36 l0 x12_1).f3), .slice A127_4 ((rd_T36 l0 x12_1).f4).length c127_4]] rfl rf_ ?_; (with_reducible refine (tree_Check.calls k1 ((rd_T36 l0 x12_1).f0) ((rd_T36 l0 x12_1).f1) _ _ ((rd_T36 l0 x12_1).f2) ((rd_T36 l0 x12_1).f3) _ _ ((rd_T36 l0 x12_1).f4) t129 _ ?side1 ?side2 ?side3 ?side4 A6.out).mono ?_); (case side1 => exact Kd.C_below HR127_2.out (hb1_ GE128.out)); (case side2 => exact HC127_2.out); (case side3 => exact Kd.C_below HR127_4.out (hb1_ GE128.out)); (case side4 => exact HC127_4.out); rintro e w12 ⟨rfl, hb⟩; refine ⟨_, rfl, ?_⟩; replace BK128 := Aside0.mk (blk_below (g := gb128) (o := .cells #[.int .i64 ((rd_T36 l0 x12_1).f0), .string ((rd_T36 l0 x12_1).f1), .slice A127_2 ((rd_T36 l0 x12_1).f2).length c127_2, .string ((rd_T36 l0 x12_1).f3), .slice A127_4 ((rd_T36 l0 x12_1).f4).length c127_4] 36 (0, 0)) (bp_ BK128.out) hb); replace HB := Aside0.mk (below_step (hb1_ GE128.out) hb); (try clear hb); (try clear hb2); (try clear hk); (try clear hi); obtain ⟨hcz13_0, hcz13_1, hcz13_2, hcz13_3, hcz13_4⟩ := ce5_ BK128.out; obtain ⟨hfz13_0, hfz13_1, hfz13_2, hfz13_3, hfz13_4⟩ := fr5_ BK128.out) | ((with_reducible refine gate_callee (f := 29) rfl ?_); refine goesL_ (some 23) rfl rfl Tryd.func29 (by kernel_rfl) rfl #[.agg #[.int .i64 ((rd_T36 l0 x12_1).f0), .string ((rd_T36 l0 x12_1).f1), .slice A127_2 ((rd_T36 l0 x12_1).f2).length c127_2, .string ((rd_T36 l0 x12_1).f3), .slice A127_4 ((rd_T36 l0 x12_1).f4).length c127_4]] rfl rf_ ?_; (with_reducible refine (markup_count.calls k1 ((rd_T36 l0 x12_1).f0) ((rd_T36 l0 x12_1).f1) _ _ ((rd_T36 l0 x12_1).f2) ((rd_T36 l0 x12_1).f3) _ _ ((rd_T36 l0 x12_1).f4) t130 _ ?side1 ?side2 ?side3 ?side4 A8.out).mono ?_); (case side1 => exact sc_ (Kd.C_below HR127_2.out HB.out)); (case side2 => exact HC127_2.out); (case side3 => exact sc_ (Kd.C_below HR127_4.out HB.out)); (case side4 => exact HC127_4.out); rintro e w14 ⟨rfl, hb⟩; refine ⟨_, rfl, ?_⟩; replace BK128 := Aside0.mk (blk_below (g := gb128) (o := .cells #[.int .i64 ((rd_T36 l0 x12_1).f0), .string ((rd_T36 l0 x12_1).f1), .slice A127_2 ((rd_T36 l0 x12_1).f2).length c127_2, .string ((rd_T36 l0 x12_1).f3), .slice A127_4 ((rd_T36 l0 x12_1).f4).length c127_4] 36 (0, 0)) (bk_ BK128.out) hb); replace HB := Aside0.mk (below_step (hb1_ GE128.out) hb); (try clear hb); (try clear hb2); (try clear hk); (try clear hi)))
         go_meet
         case rel => exact ⟨_, (wrap64 (x3_1 + t130)), (by first | rfl | (simp; done) | (simp [*]; done)), H', ⟨by have := HK1.out; first | omega | exact Nat.le_refl _⟩, ⟨hb1_ GE128.out⟩⟩
        ·rw [if_neg c9] at H
         have c9b0 : decide (4096 < (wrap64 (x3_1 + t130))) = false := decide_eq_false c9
         clear c9
         have H' := Aside0.mk H
         clear H
         have p127 : 0 ≤ (x12_1 : Int) := of_decide_eq_true (by first | (with_reducible assumption) | assumption)
         have q127 : x12_1 < (l0.length : Int) := of_decide_eq_true (by first | (with_reducible assumption) | assumption)
         obtain ⟨ad127, A127_2, c127_2, A127_4, c127_4, e127, hx127_0, hx127_1, hx127_2, hx127_3, hx127_4, hl127_2, hi127_2, hl127_4, hi127_4⟩ := at_T36 HR0.out x12_1 p127 q127
         cases e127
         replace hx127_0 := hc_ HB.out hx127_0
         replace hx127_1 := hc_ HB.out hx127_1
         replace hx127_2 := hc_ HB.out hx127_2
         replace hx127_3 := hc_ HB.out hx127_3
         replace hx127_4 := hc_ HB.out hx127_4
         have HR127_2 := Aside0.mk hi127_2
         have HC127_2 := Aside0.mk hl127_2
         clear hi127_2 hl127_2
         have HR127_4 := Aside0.mk hi127_4
         have HC127_4 := Aside0.mk hl127_4
         clear hi127_4 hl127_4
         replace p127 := eq_true p127
         replace q127 := eq_true q127
         go_wp2_with (first | ((with_reducible refine gate_dst (N := 5) rfl ?_); refine box_event ?hg (N := 5) ?hd (cs := #[.int .i64 0, .string (⟨#[]⟩ : ByteArray), .slice none 0 0, .string (⟨#[]⟩ : ByteArray), .slice none 0 0]) (t := 36) ?hr ?_; (case hd => rfl); (case hg => rfl); (case hr => first | (go_simp; done) | (go_simp; rfl)); intro gb128 hg w15 hbox hb; have n0_ := Aside0.mk (below_step hb_ hb); have n1_ := Aside0.mk (hbox); have n2_ := Aside0.mk ((by rw [hg]; exact (below_size hb_) : w.heap.size ≤ gb128)); have n3_ := Aside0.mk ((by rw [hg]; exact (below_size hb_) : w.heap.size ≤ gb128)); clear HB; have HB := n0_; have BK128 := n1_; have GW128 := n2_; have GE128 := n3_; clear n0_ n1_ n2_ n3_; clear hb hbox hg; obtain ⟨hcz16_0, hcz16_1, hcz16_2, hcz16_3, hcz16_4⟩ := ce5_ BK128.out; obtain ⟨hfz16_0, hfz16_1, hfz16_2, hfz16_3, hfz16_4⟩ := fr5_ BK128.out) | ((with_reducible refine gate_callee (f := 28) rfl ?_); refine goesL_ (some 17) rfl rfl Tryd.func28 (by kernel_rfl) rfl #[.agg #[.int .i64 ((rd_T36 l0 x12_1).f0), .string ((rd_T36 l0 x12_1).f1), .slice A127_2 ((rd_T36 l0 x12_1).f2).length c127_2, .string ((rd_T36 l0 x12_1).f3), .slice A127_4 ((rd_T36 l0 x12_1).f4).length c127_4]] rfl rf_ ?_; (with_reducible refine (tree_Check.calls k1 ((rd_T36 l0 x12_1).f0) ((rd_T36 l0 x12_1).f1) _ _ ((rd_T36 l0 x12_1).f2) ((rd_T36 l0 x12_1).f3) _ _ ((rd_T36 l0 x12_1).f4) t129 _ ?side1 ?side2 ?side3 ?side4 A6.out).mono ?_); (case side1 => exact Kd.C_below HR127_2.out (hb1_ GE128.out)); (case side2 => exact HC127_2.out); (case side3 => exact Kd.C_below HR127_4.out (hb1_ GE128.out)); (case side4 => exact HC127_4.out); rintro e w17 ⟨rfl, hb⟩; refine ⟨_, rfl, ?_⟩; replace BK128 := Aside0.mk (blk_below (g := gb128) (o := .cells #[.int .i64 ((rd_T36 l0 x12_1).f0), .string ((rd_T36 l0 x12_1).f1), .slice A127_2 ((rd_T36 l0 x12_1).f2).length c127_2, .string ((rd_T36 l0 x12_1).f3), .slice A127_4 ((rd_T36 l0 x12_1).f4).length c127_4] 36 (0, 0)) (bp_ BK128.out) hb); replace HB := Aside0.mk (below_step (hb1_ GE128.out) hb); (try clear hb); (try clear hb2); (try clear hk); (try clear hi); obtain ⟨hcz18_0, hcz18_1, hcz18_2, hcz18_3, hcz18_4⟩ := ce5_ BK128.out; obtain ⟨hfz18_0, hfz18_1, hfz18_2, hfz18_3, hfz18_4⟩ := fr5_ BK128.out) | ((with_reducible refine gate_callee (f := 29) rfl ?_); refine goesL_ (some 23) rfl rfl Tryd.func29 (by kernel_rfl) rfl #[.agg #[.int .i64 ((rd_T36 l0 x12_1).f0), .string ((rd_T36 l0 x12_1).f1), .slice A127_2 ((rd_T36 l0 x12_1).f2).length c127_2, .string ((rd_T36 l0 x12_1).f3), .slice A127_4 ((rd_T36 l0 x12_1).f4).length c127_4]] rfl rf_ ?_; (with_reducible refine (markup_count.calls k1 ((rd_T36 l0 x12_1).f0) ((rd_T36 l0 x12_1).f1) _ _ ((rd_T36 l0 x12_1).f2) ((rd_T36 l0 x12_1).f3) _ _ ((rd_T36 l0 x12_1).f4) t130 _ ?side1 ?side2 ?side3 ?side4 A8.out).mono ?_); (case side1 => exact sc_ (Kd.C_below HR127_2.out HB.out)); (case side2 => exact HC127_2.out); (case side3 => exact sc_ (Kd.C_below HR127_4.out HB.out)); (case side4 => exact HC127_4.out); rintro e w19 ⟨rfl, hb⟩; refine ⟨_, rfl, ?_⟩; replace BK128 := Aside0.mk (blk_below (g := gb128) (o := .cells #[.int .i64 ((rd_T36 l0 x12_1).f0), .string ((rd_T36 l0 x12_1).f1), .slice A127_2 ((rd_T36 l0 x12_1).f2).length c127_2, .string ((rd_T36 l0 x12_1).f3), .slice A127_4 ((rd_T36 l0 x12_1).f4).length c127_4] 36 (0, 0)) (bk_ BK128.out) hb); replace HB := Aside0.mk (below_step (hb1_ GE128.out) hb); (try clear hb); (try clear hb2); (try clear hk); (try clear hi)))
         go_roundg k1
         case measure => have := HK1.out; omega
         case rel => exact ⟨(wrap64 (x3_1 + t130)), (wrap64 (x12_1 + 1)), (by first | rfl | (simp; done) | (simp [*]; done)), (by first | rfl | (simp; done) | (simp [*]; done)), H', ⟨by have := HK1.out; omega⟩, ⟨hb1_ GE128.out⟩⟩
       ·rw [if_neg c7] at H
        have c7b0 := beq_eq_false_iff_ne.mpr c7
        have c7b1 := bne_iff_ne.mpr c7
        obtain rfl := Option.some.inj H
        have p127 : 0 ≤ (x12_1 : Int) := of_decide_eq_true (by first | (with_reducible assumption) | assumption)
        have q127 : x12_1 < (l0.length : Int) := of_decide_eq_true (by first | (with_reducible assumption) | assumption)
        obtain ⟨ad127, A127_2, c127_2, A127_4, c127_4, e127, hx127_0, hx127_1, hx127_2, hx127_3, hx127_4, hl127_2, hi127_2, hl127_4, hi127_4⟩ := at_T36 HR0.out x12_1 p127 q127
        cases e127
        replace hx127_0 := hc_ HB.out hx127_0
        replace hx127_1 := hc_ HB.out hx127_1
        replace hx127_2 := hc_ HB.out hx127_2
        replace hx127_3 := hc_ HB.out hx127_3
        replace hx127_4 := hc_ HB.out hx127_4
        have HR127_2 := Aside0.mk hi127_2
        have HC127_2 := Aside0.mk hl127_2
        clear hi127_2 hl127_2
        have HR127_4 := Aside0.mk hi127_4
        have HC127_4 := Aside0.mk hl127_4
        clear hi127_4 hl127_4
        replace p127 := eq_true p127
        replace q127 := eq_true q127
        go_wp2_with (first | ((with_reducible refine gate_dst (N := 5) rfl ?_); refine box_event ?hg (N := 5) ?hd (cs := #[.int .i64 0, .string (⟨#[]⟩ : ByteArray), .slice none 0 0, .string (⟨#[]⟩ : ByteArray), .slice none 0 0]) (t := 36) ?hr ?_; (case hd => rfl); (case hg => rfl); (case hr => first | (go_simp; done) | (go_simp; rfl)); intro gb128 hg w20 hbox hb; have n0_ := Aside0.mk (below_step hb_ hb); have n1_ := Aside0.mk (hbox); have n2_ := Aside0.mk ((by rw [hg]; exact (below_size hb_) : w.heap.size ≤ gb128)); have n3_ := Aside0.mk ((by rw [hg]; exact (below_size hb_) : w.heap.size ≤ gb128)); clear HB; have HB := n0_; have BK128 := n1_; have GW128 := n2_; have GE128 := n3_; clear n0_ n1_ n2_ n3_; clear hb hbox hg; obtain ⟨hcz21_0, hcz21_1, hcz21_2, hcz21_3, hcz21_4⟩ := ce5_ BK128.out; obtain ⟨hfz21_0, hfz21_1, hfz21_2, hfz21_3, hfz21_4⟩ := fr5_ BK128.out) | ((with_reducible refine gate_callee (f := 28) rfl ?_); refine goesL_ (some 17) rfl rfl Tryd.func28 (by kernel_rfl) rfl #[.agg #[.int .i64 ((rd_T36 l0 x12_1).f0), .string ((rd_T36 l0 x12_1).f1), .slice A127_2 ((rd_T36 l0 x12_1).f2).length c127_2, .string ((rd_T36 l0 x12_1).f3), .slice A127_4 ((rd_T36 l0 x12_1).f4).length c127_4]] rfl rf_ ?_; (with_reducible refine (tree_Check.calls k1 ((rd_T36 l0 x12_1).f0) ((rd_T36 l0 x12_1).f1) _ _ ((rd_T36 l0 x12_1).f2) ((rd_T36 l0 x12_1).f3) _ _ ((rd_T36 l0 x12_1).f4) t129 _ ?side1 ?side2 ?side3 ?side4 A6.out).mono ?_); (case side1 => exact Kd.C_below HR127_2.out (hb1_ GE128.out)); (case side2 => exact HC127_2.out); (case side3 => exact Kd.C_below HR127_4.out (hb1_ GE128.out)); (case side4 => exact HC127_4.out); rintro e w22 ⟨rfl, hb⟩; refine ⟨_, rfl, ?_⟩; replace BK128 := Aside0.mk (blk_below (g := gb128) (o := .cells #[.int .i64 ((rd_T36 l0 x12_1).f0), .string ((rd_T36 l0 x12_1).f1), .slice A127_2 ((rd_T36 l0 x12_1).f2).length c127_2, .string ((rd_T36 l0 x12_1).f3), .slice A127_4 ((rd_T36 l0 x12_1).f4).length c127_4] 36 (0, 0)) (bp_ BK128.out) hb); replace HB := Aside0.mk (below_step (hb1_ GE128.out) hb); (try clear hb); (try clear hb2); (try clear hk); (try clear hi)))
        go_ret
        exact ⟨er_, hb1_ GE128.out⟩
      ·rw [if_neg c5] at H
       exact absurd H (by simp)
     ·rw [if_neg c4] at H
      exact absurd H (by simp)
    ·rw [if_neg c3] at H
     have c3b0 : decide (x12_1 < (l0.length : Int)) = false := decide_eq_false c3
     clear c3
     (first | rw [c3b0] | (simp only [i64_w, i32_w]; rw [c3b0]) | skip)
     have H' := Aside0.mk H
     clear H
     go_wp2
     go_meet
     case rel => exact ⟨_, (x3_1), (by first | rfl | (simp; done) | (simp [*]; done)), H', ⟨by have := HK1.out; first | omega | exact Nat.le_refl _⟩, ⟨hb_⟩⟩
 case rest =>
  clear HC2
  try clear c1
  try clear p1
  try clear q1
  try clear hx1
  try clear c2
  try clear p2
  try clear c3
  try clear c3b0
  try clear c4
  try clear c4b0
  try clear c5
  try clear c5b0
  try clear p6
  try clear c7
  try clear c7b0
  try clear c7b1
  try clear c9
  try clear c9b0
  try clear c12
  try clear p12
  try clear q12
  try clear hx12
  try clear c15
  try clear hcz11_0
  try clear hcz11_1
  try clear hcz11_2
  try clear hcz11_3
  try clear hcz11_4
  try clear hcz13_0
  try clear hcz13_1
  try clear hcz13_2
  try clear hcz13_3
  try clear hcz13_4
  try clear hcz16_0
  try clear hcz16_1
  try clear hcz16_2
  try clear hcz16_3
  try clear hcz16_4
  try clear hcz18_0
  try clear hcz18_1
  try clear hcz18_2
  try clear hcz18_3
  try clear hcz18_4
  try clear hcz21_0
  try clear hcz21_1
  try clear hcz21_2
  try clear hcz21_3
  try clear hcz21_4
  try clear hfz11_0
  try clear hfz11_1
  try clear hfz11_2
  try clear hfz11_3
  try clear hfz11_4
  try clear hfz13_0
  try clear hfz13_1
  try clear hfz13_2
  try clear hfz13_3
  try clear hfz13_4
  try clear hfz16_0
  try clear hfz16_1
  try clear hfz16_2
  try clear hfz16_3
  try clear hfz16_4
  try clear hfz18_0
  try clear hfz18_1
  try clear hfz18_2
  try clear hfz18_3
  try clear hfz18_4
  try clear hfz21_0
  try clear hfz21_1
  try clear hfz21_2
  try clear hfz21_3
  try clear hfz21_4
  try clear hx127_0
  try clear hx127_1
  try clear hx127_2
  try clear hx127_3
  try clear hx127_4
  try clear p127
  try clear p2
  try clear q127
  obtain ⟨kq, x3_1, rfl, HA, HJ1, HB⟩ := hcut
  cases kq with
  | zero => exact absurd HA.out (by simp [markup_can.j1])
  | succ kj1 =>
   have H := HA.out
   clear HA
   simp only [markup_can.j1] at H
   by_cases c23 : x3_1 ≤ 4096
   ·rw [if_pos c23] at H
    have c23b0 : decide (x3_1 ≤ 4096) = true := decide_eq_true c23
    clear c23
    obtain rfl := Option.some.inj H
    go_wp2
    go_ret
    exact ⟨er_, hb_⟩
   ·rw [if_neg c23] at H
    have c23b0 : decide (x3_1 ≤ 4096) = false := decide_eq_false c23
    clear c23
    have H' := Aside0.mk H
    clear H
    go_wp2
    go_loopg [32] kj1 (fun kq v32 w' => ∃ (x32_2 : Int), v32 = .int .i64 x32_2 ∧ Aside0 (markup_can.l1 kq l0 (l0.length : Int) x32_2 = some r) ∧ Aside0 (kq ≤ kj1) ∧ Aside0 (Below w.heap.size w w'))
    case atStart => exact ⟨(0), (by first | rfl | (simp; done) | (simp [*]; done)), H', ⟨Nat.le_refl _⟩, ⟨hb_⟩⟩
    case round =>
     clear H'
     try clear c1
     try clear p1
     try clear q1
     try clear hx1
     try clear c2
     try clear p2
     try clear c3
     try clear c3b0
     try clear c4
     try clear c4b0
     try clear c5
     try clear c5b0
     try clear p6
     try clear c7
     try clear c7b0
     try clear c7b1
     try clear c9
     try clear c9b0
     try clear c12
     try clear p12
     try clear q12
     try clear hx12
     try clear c15
     try clear c23
     try clear c23b0
     try clear hcz11_0
     try clear hcz11_1
     try clear hcz11_2
     try clear hcz11_3
     try clear hcz11_4
     try clear hcz13_0
     try clear hcz13_1
     try clear hcz13_2
     try clear hcz13_3
     try clear hcz13_4
     try clear hcz16_0
     try clear hcz16_1
     try clear hcz16_2
     try clear hcz16_3
     try clear hcz16_4
     try clear hcz18_0
     try clear hcz18_1
     try clear hcz18_2
     try clear hcz18_3
     try clear hcz18_4
     try clear hcz21_0
     try clear hcz21_1
     try clear hcz21_2
     try clear hcz21_3
     try clear hcz21_4
     try clear hfz11_0
     try clear hfz11_1
     try clear hfz11_2
     try clear hfz11_3
     try clear hfz11_4
     try clear hfz13_0
     try clear hfz13_1
     try clear hfz13_2
     try clear hfz13_3
     try clear hfz13_4
     try clear hfz16_0
     try clear hfz16_1
     try clear hfz16_2
     try clear hfz16_3
     try clear hfz16_4
     try clear hfz18_0
     try clear hfz18_1
     try clear hfz18_2
     try clear hfz18_3
     try clear hfz18_4
     try clear hfz21_0
     try clear hfz21_1
     try clear hfz21_2
     try clear hfz21_3
     try clear hfz21_4
     try clear hx127_0
     try clear hx127_1
     try clear hx127_2
     try clear hx127_3
     try clear hx127_4
     try clear p1
     try clear p12
     try clear p127
     try clear p2
     try clear p6
     try clear q1
     try clear q12
     try clear q127
     obtain ⟨x32_2, rfl, HA, HK2, HB⟩ := hrel
     cases gk with
     | zero => exact absurd HA.out (by simp [markup_can.l1])
     | succ k2 =>
      have H := HA.out
      clear HA
      simp only [markup_can.l1] at H
      by_cases c24 : x32_2 < (l0.length : Int)
      ·rw [if_pos c24] at H
       have c24b0 : decide (x32_2 < (l0.length : Int)) = true := decide_eq_true c24
       clear c24
       by_cases c25 : 0 ≤ x32_2
       ·rw [if_pos c25] at H
        have c25b0 : decide (0 ≤ x32_2) = true := decide_eq_true c25
        clear c25
        by_cases c26 : x32_2 < (l0.length : Int)
        ·rw [if_pos c26] at H
         have c26b0 : decide (x32_2 < (l0.length : Int)) = true := decide_eq_true c26
         clear c26
         replace H := Option.bind_eq_some_iff.mp H
         obtain ⟨t133, A270, H⟩ := H
         replace H : (if t133 = 0 then (markup_can.l1 k2 l0 (l0.length : Int) (wrap64 (x32_2 + 1))) else (some t133)) = some r := H
         have A27 := Aside0.mk A270
         clear A270
         by_cases c28 : t133 = 0
         ·rw [if_pos c28] at H
          have c28b0 := beq_iff_eq.mpr c28
          have c28b1 := bne_eq_false_iff_eq.mpr c28
          clear c28
          have H' := Aside0.mk H
          clear H
          have p131 : 0 ≤ (x32_2 : Int) := of_decide_eq_true (by first | (with_reducible assumption) | assumption)
          have q131 : x32_2 < (l0.length : Int) := of_decide_eq_true (by first | (with_reducible assumption) | assumption)
          obtain ⟨ad131, A131_2, c131_2, A131_4, c131_4, e131, hx131_0, hx131_1, hx131_2, hx131_3, hx131_4, hl131_2, hi131_2, hl131_4, hi131_4⟩ := at_T36 HR0.out x32_2 p131 q131
          cases e131
          replace hx131_0 := hc_ HB.out hx131_0
          replace hx131_1 := hc_ HB.out hx131_1
          replace hx131_2 := hc_ HB.out hx131_2
          replace hx131_3 := hc_ HB.out hx131_3
          replace hx131_4 := hc_ HB.out hx131_4
          have HR131_2 := Aside0.mk hi131_2
          have HC131_2 := Aside0.mk hl131_2
          clear hi131_2 hl131_2
          have HR131_4 := Aside0.mk hi131_4
          have HC131_4 := Aside0.mk hl131_4
          clear hi131_4 hl131_4
          replace p131 := eq_true p131
          replace q131 := eq_true q131
          go_wp2_with (first | ((with_reducible refine gate_dst (N := 8) rfl ?_); refine box_event ?hg (N := 8) ?hd (cs := #[.int .i64 0, .string (⟨#[]⟩ : ByteArray), .slice none 0 0, .string (⟨#[]⟩ : ByteArray), .slice none 0 0]) (t := 36) ?hr ?_; (case hd => rfl); (case hg => rfl); (case hr => first | (go_simp; done) | (go_simp; rfl)); intro gb132 hg w29 hbox hb; have n0_ := Aside0.mk (below_step hb_ hb); have n1_ := Aside0.mk (hbox); have n2_ := Aside0.mk ((by rw [hg]; exact (below_size hb_) : w.heap.size ≤ gb132)); have n3_ := Aside0.mk ((by rw [hg]; exact (below_size hb_) : w.heap.size ≤ gb132)); clear HB; have HB := n0_; have BK132 := n1_; have GW132 := n2_; have GE132 := n3_; clear n0_ n1_ n2_ n3_; clear hb hbox hg; obtain ⟨hcz30_0, hcz30_1, hcz30_2, hcz30_3, hcz30_4⟩ := ce5_ BK132.out; obtain ⟨hfz30_0, hfz30_1, hfz30_2, hfz30_3, hfz30_4⟩ := fr5_ BK132.out) | ((with_reducible refine gate_callee (f := 28) rfl ?_); refine goesL_ (some 37) rfl rfl Tryd.func28 (by kernel_rfl) rfl #[.agg #[.int .i64 ((rd_T36 l0 x32_2).f0), .string ((rd_T36 l0 x32_2).f1), .slice A131_2 ((rd_T36 l0 x32_2).f2).length c131_2, .string ((rd_T36 l0 x32_2).f3), .slice A131_4 ((rd_T36 l0 x32_2).f4).length c131_4]] rfl rf_ ?_; (with_reducible refine (tree_Check.calls k2 ((rd_T36 l0 x32_2).f0) ((rd_T36 l0 x32_2).f1) _ _ ((rd_T36 l0 x32_2).f2) ((rd_T36 l0 x32_2).f3) _ _ ((rd_T36 l0 x32_2).f4) t133 _ ?side1 ?side2 ?side3 ?side4 A27.out).mono ?_); (case side1 => exact Kd.C_below HR131_2.out (hb1_ GE132.out)); (case side2 => exact HC131_2.out); (case side3 => exact Kd.C_below HR131_4.out (hb1_ GE132.out)); (case side4 => exact HC131_4.out); rintro e w31 ⟨rfl, hb⟩; refine ⟨_, rfl, ?_⟩; replace BK132 := Aside0.mk (blk_below (g := gb132) (o := .cells #[.int .i64 ((rd_T36 l0 x32_2).f0), .string ((rd_T36 l0 x32_2).f1), .slice A131_2 ((rd_T36 l0 x32_2).f2).length c131_2, .string ((rd_T36 l0 x32_2).f3), .slice A131_4 ((rd_T36 l0 x32_2).f4).length c131_4] 36 (0, 0)) (bp_ BK132.out) hb); replace HB := Aside0.mk (below_step (hb1_ GE132.out) hb); (try clear hb); (try clear hb2); (try clear hk); (try clear hi)))
          go_roundg k2
          case measure => have := HJ1.out; have := HK2.out; omega
          case rel => exact ⟨(wrap64 (x32_2 + 1)), (by first | rfl | (simp; done) | (simp [*]; done)), H', ⟨by have := HJ1.out; have := HK2.out; omega⟩, ⟨hb1_ GE132.out⟩⟩
         ·rw [if_neg c28] at H
          have c28b0 := beq_eq_false_iff_ne.mpr c28
          have c28b1 := bne_iff_ne.mpr c28
          obtain rfl := Option.some.inj H
          have p131 : 0 ≤ (x32_2 : Int) := of_decide_eq_true (by first | (with_reducible assumption) | assumption)
          have q131 : x32_2 < (l0.length : Int) := of_decide_eq_true (by first | (with_reducible assumption) | assumption)
          obtain ⟨ad131, A131_2, c131_2, A131_4, c131_4, e131, hx131_0, hx131_1, hx131_2, hx131_3, hx131_4, hl131_2, hi131_2, hl131_4, hi131_4⟩ := at_T36 HR0.out x32_2 p131 q131
          cases e131
          replace hx131_0 := hc_ HB.out hx131_0
          replace hx131_1 := hc_ HB.out hx131_1
          replace hx131_2 := hc_ HB.out hx131_2
          replace hx131_3 := hc_ HB.out hx131_3
          replace hx131_4 := hc_ HB.out hx131_4
          have HR131_2 := Aside0.mk hi131_2
          have HC131_2 := Aside0.mk hl131_2
          clear hi131_2 hl131_2
          have HR131_4 := Aside0.mk hi131_4
          have HC131_4 := Aside0.mk hl131_4
          clear hi131_4 hl131_4
          replace p131 := eq_true p131
          replace q131 := eq_true q131
          go_wp2_with (first | ((with_reducible refine gate_dst (N := 8) rfl ?_); refine box_event ?hg (N := 8) ?hd (cs := #[.int .i64 0, .string (⟨#[]⟩ : ByteArray), .slice none 0 0, .string (⟨#[]⟩ : ByteArray), .slice none 0 0]) (t := 36) ?hr ?_; (case hd => rfl); (case hg => rfl); (case hr => first | (go_simp; done) | (go_simp; rfl)); intro gb132 hg w32 hbox hb; have n0_ := Aside0.mk (below_step hb_ hb); have n1_ := Aside0.mk (hbox); have n2_ := Aside0.mk ((by rw [hg]; exact (below_size hb_) : w.heap.size ≤ gb132)); have n3_ := Aside0.mk ((by rw [hg]; exact (below_size hb_) : w.heap.size ≤ gb132)); clear HB; have HB := n0_; have BK132 := n1_; have GW132 := n2_; have GE132 := n3_; clear n0_ n1_ n2_ n3_; clear hb hbox hg; obtain ⟨hcz33_0, hcz33_1, hcz33_2, hcz33_3, hcz33_4⟩ := ce5_ BK132.out; obtain ⟨hfz33_0, hfz33_1, hfz33_2, hfz33_3, hfz33_4⟩ := fr5_ BK132.out) | ((with_reducible refine gate_callee (f := 28) rfl ?_); refine goesL_ (some 37) rfl rfl Tryd.func28 (by kernel_rfl) rfl #[.agg #[.int .i64 ((rd_T36 l0 x32_2).f0), .string ((rd_T36 l0 x32_2).f1), .slice A131_2 ((rd_T36 l0 x32_2).f2).length c131_2, .string ((rd_T36 l0 x32_2).f3), .slice A131_4 ((rd_T36 l0 x32_2).f4).length c131_4]] rfl rf_ ?_; (with_reducible refine (tree_Check.calls k2 ((rd_T36 l0 x32_2).f0) ((rd_T36 l0 x32_2).f1) _ _ ((rd_T36 l0 x32_2).f2) ((rd_T36 l0 x32_2).f3) _ _ ((rd_T36 l0 x32_2).f4) t133 _ ?side1 ?side2 ?side3 ?side4 A27.out).mono ?_); (case side1 => exact Kd.C_below HR131_2.out (hb1_ GE132.out)); (case side2 => exact HC131_2.out); (case side3 => exact Kd.C_below HR131_4.out (hb1_ GE132.out)); (case side4 => exact HC131_4.out); rintro e w34 ⟨rfl, hb⟩; refine ⟨_, rfl, ?_⟩; replace BK132 := Aside0.mk (blk_below (g := gb132) (o := .cells #[.int .i64 ((rd_T36 l0 x32_2).f0), .string ((rd_T36 l0 x32_2).f1), .slice A131_2 ((rd_T36 l0 x32_2).f2).length c131_2, .string ((rd_T36 l0 x32_2).f3), .slice A131_4 ((rd_T36 l0 x32_2).f4).length c131_4] 36 (0, 0)) (bp_ BK132.out) hb); replace HB := Aside0.mk (below_step (hb1_ GE132.out) hb); (try clear hb); (try clear hb2); (try clear hk); (try clear hi)))
          go_ret
          exact ⟨er_, hb1_ GE132.out⟩
        ·rw [if_neg c26] at H
         exact absurd H (by simp)
       ·rw [if_neg c25] at H
        exact absurd H (by simp)
      ·rw [if_neg c24] at H
       have c24b0 : decide (x32_2 < (l0.length : Int)) = false := decide_eq_false c24
       clear c24
       obtain rfl := Option.some.inj H
       go_wp2
       go_ret
       exact ⟨er_, hb_⟩

-- NOT PRINTED: function 34 (strings_Builder_Len)

-- NOT PRINTED: function 17 (markup_writer_full)

-- NOT PRINTED: function 68 (abi_NoEscape)

-- NOT PRINTED: function 56 (strings_Builder_copyCheck)

-- NOT PRINTED: function 47 (strings_Builder_WriteString)

-- NOT PRINTED: function 31 (markup_writer_put)

-- GIVEN: function 46 (chars_Escape)

-- NOT PRINTED: function 30 (markup_writer_escaped)

-- NOT PRINTED: function 48 (api_Tree_48)

-- NOT PRINTED: function 32 (api_Tree_32)

-- NOT PRINTED: function 16 (markup_writer_tree)

-- NOT PRINTED: function 18 (strings_Builder_String)

-- NOT PRINTED: function 5 (markup_Print)

end Go.Proofs.YtealmfcimoomlaaDoor.PA
