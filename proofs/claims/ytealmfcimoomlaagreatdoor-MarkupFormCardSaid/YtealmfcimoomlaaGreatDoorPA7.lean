-- Written by a program of this session (wip/tools/xprint.py: the kit's print, with given functions). Not trusted: Lean checks it.
-- squeezed
import Derived.Test.YtealmfcimoomlaaGreatDoorUBuild
import Derived.Test.YtealmfcimoomlaaGreatDoorPA6
import Derived.Test.YtealmfcimoomlaaGreatDoorUScan11
namespace Go.Proofs.YtealmfcimoomlaaGreatDoor.PA
open Go.RowKit Go.Proofs.YtealmfcimoomlaaGreatDoorW.PrintWords Go.Proofs.YtealmfcimoomlaaGreatDoorW.PrintLast Go.Proofs.YtealmfcimoomlaaGreatDoorW.PrintMore
attribute [local go_sem] max2_int min2_int max_two min_two max_three min_three max_four min_four   -- for this text's walks alone
set_option linter.unusedVariables false
set_option linter.unusedSimpArgs false

/-! ### markup_can: function 28 -/
mutual
def markup_can.j1 : Nat → List (S35) → Int → Option (Int)
 | 0, _, _ => none
 | k + 1, x0, x3 => if x3 ≤ 4096 then (some 0) else (markup_can.l1 k x0 (x0.length : Int) 0)
def markup_can.l1 : Nat → List (S35) → Int → Int → Option (Int)
 | 0, _, _, _ => none
 | k + 1, x30, x31, x32 => if x32 < x31 then (if 0 ≤ x32 then (if x32 < (x30.length : Int) then ((tree_Check.f k ((rd_T35 x30 x32).f0) ((rd_T35 x30 x32).f1) ((rd_T35 x30 x32).f2) ((rd_T35 x30 x32).f3) ((rd_T35 x30 x32).f4)).bind fun t148 => (if t148 = 0 then (markup_can.l1 k x30 x31 (wrap64 (x32 + 1))) else (some t148))) else (none)) else (none)) else (some 2)
def markup_can.l0 : Nat → List (S35) → Int → List (S35) → Int → Int → Option (Int)
 | 0, _, _, _, _, _ => none
 | k + 1, x0, x3, x10, x11, x12 => if x12 < x11 then (if 0 ≤ x12 then (if x12 < (x10.length : Int) then ((tree_Check.f k ((rd_T35 x10 x12).f0) ((rd_T35 x10 x12).f1) ((rd_T35 x10 x12).f2) ((rd_T35 x10 x12).f3) ((rd_T35 x10 x12).f4)).bind fun t144 => (if t144 = 0 then ((markup_count.f k ((rd_T35 x10 x12).f0) ((rd_T35 x10 x12).f1) ((rd_T35 x10 x12).f2) ((rd_T35 x10 x12).f3) ((rd_T35 x10 x12).f4)).bind fun t145 => (if (wrap64 (x3 + t145)) > 4096 then (markup_can.j1 k x0 (wrap64 (x3 + t145))) else (markup_can.l0 k x0 (wrap64 (x3 + t145)) x10 x11 (wrap64 (x12 + 1))))) else (some t144))) else (none)) else (none)) else (markup_can.j1 k x0 x3)
end
def markup_can.f (k : Nat) (l0 : List (S35)) : Option (Int) := markup_can.l0 k l0 0 l0 (l0.length : Int) 0
theorem markup_can.mono_l : ∀ k, (∀ y0 y1, LeO (markup_can.j1 k y0 y1) (markup_can.j1 (k + 1) y0 y1)) ∧ (∀ y0 y1 y2, LeO (markup_can.l1 k y0 y1 y2) (markup_can.l1 (k + 1) y0 y1 y2)) ∧ (∀ y0 y1 y2 y3 y4, LeO (markup_can.l0 k y0 y1 y2 y3 y4) (markup_can.l0 (k + 1) y0 y1 y2 y3 y4))
 | 0 => ⟨fun _ _ r h => by simp [markup_can.j1] at h, fun _ _ _ r h => by simp [markup_can.l1] at h, fun _ _ _ _ _ r h => by simp [markup_can.l0] at h⟩
 | k + 1 => by
  obtain ⟨ih0, ih1, ih2⟩ := markup_can.mono_l k
  refine ⟨?_, ?_, ?_⟩
  ·intro y0 y1
   unfold markup_can.j1
   repeat' first
   | (with_reducible exact ih0 _ _)
   | (with_reducible exact ih1 _ _ _)
   | (with_reducible exact ih2 _ _ _ _ _)
   | (with_reducible exact markup_count.mono _ _ _ _ _ _)
   | (with_reducible exact tree_Check.mono _ _ _ _ _ _)
   | (with_reducible exact LeO.refl _)
   | (with_reducible exact LeO.none _)
   | (with_reducible refine LeO.ite ?_ ?_)
   | (with_reducible refine LeO.bind ?_ (fun _ => ?_))
   | exact ih0 _ _
   | exact ih1 _ _ _
   | exact ih2 _ _ _ _ _
   | exact markup_count.mono _ _ _ _ _ _
   | exact tree_Check.mono _ _ _ _ _ _
   | exact LeO.none _
   | refine LeO.ite ?_ ?_
   | refine LeO.bind ?_ (fun _ => ?_)
  ·intro y0 y1 y2
   unfold markup_can.l1
   repeat' first
   | (with_reducible exact ih0 _ _)
   | (with_reducible exact ih1 _ _ _)
   | (with_reducible exact ih2 _ _ _ _ _)
   | (with_reducible exact markup_count.mono _ _ _ _ _ _)
   | (with_reducible exact tree_Check.mono _ _ _ _ _ _)
   | (with_reducible exact LeO.refl _)
   | (with_reducible exact LeO.none _)
   | (with_reducible refine LeO.ite ?_ ?_)
   | (with_reducible refine LeO.bind ?_ (fun _ => ?_))
   | exact ih0 _ _
   | exact ih1 _ _ _
   | exact ih2 _ _ _ _ _
   | exact markup_count.mono _ _ _ _ _ _
   | exact tree_Check.mono _ _ _ _ _ _
   | exact LeO.none _
   | refine LeO.ite ?_ ?_
   | refine LeO.bind ?_ (fun _ => ?_)
  ·intro y0 y1 y2 y3 y4
   unfold markup_can.l0
   repeat' first
   | (with_reducible exact ih0 _ _)
   | (with_reducible exact ih1 _ _ _)
   | (with_reducible exact ih2 _ _ _ _ _)
   | (with_reducible exact markup_count.mono _ _ _ _ _ _)
   | (with_reducible exact tree_Check.mono _ _ _ _ _ _)
   | (with_reducible exact LeO.refl _)
   | (with_reducible exact LeO.none _)
   | (with_reducible refine LeO.ite ?_ ?_)
   | (with_reducible refine LeO.bind ?_ (fun _ => ?_))
   | exact ih0 _ _
   | exact ih1 _ _ _
   | exact ih2 _ _ _ _ _
   | exact markup_count.mono _ _ _ _ _ _
   | exact tree_Check.mono _ _ _ _ _ _
   | exact LeO.none _
   | refine LeO.ite ?_ ?_
   | refine LeO.bind ?_ (fun _ => ?_)
theorem markup_can.mono : ∀ a0 k, LeO (markup_can.f k a0) (markup_can.f (k + 1) a0) := by
 intro a0 k
 obtain ⟨ih0, ih1, ih2⟩ := markup_can.mono_l k
 unfold markup_can.f
 repeat' first
   | (with_reducible exact ih0 _ _)
   | (with_reducible exact ih1 _ _ _)
   | (with_reducible exact ih2 _ _ _ _ _)
   | (with_reducible exact markup_count.mono _ _ _ _ _ _)
   | (with_reducible exact tree_Check.mono _ _ _ _ _ _)
   | (with_reducible exact LeO.refl _)
   | (with_reducible exact LeO.none _)
   | (with_reducible refine LeO.ite ?_ ?_)
   | (with_reducible refine LeO.bind ?_ (fun _ => ?_))
   | exact ih0 _ _
   | exact ih1 _ _ _
   | exact ih2 _ _ _ _ _
   | exact markup_count.mono _ _ _ _ _ _
   | exact tree_Check.mono _ _ _ _ _ _
   | exact LeO.none _
   | refine LeO.ite ?_ ?_
   | refine LeO.bind ?_ (fun _ => ?_)
set_option maxHeartbeats 8000000 in
set_option maxRecDepth 100000 in
theorem markup_can.calls (k : Nat) (A0 : Option Addr) (c0 : Nat) (l0 : List (S35)) (r : Int) (w : World) (hr0 : Kd.C k35 w A0 l0.length l0) (hc0 : l0.length ≤ c0) (h : markup_can.f k l0 = some r) (hG : Glob w := by first | exact Glob.step HG.out (by repeat (first | (with_reducible first | exact HB.out | apply below_alloc | apply pw_below_drewN | apply below_drew1) | exact HB.out | (refine below_set ?_ (Aside0.out (by assumption))))) | exact HG.out | assumption) :
  Calls Tryz.prog 28 #[.slice A0 l0.length c0] w fun e w' => e = .returned (.int .i64 r) ∧ Below w.heap.size w w' := by
 have HG := Aside0.mk hG
 clear hG
 have hu35 := Tryz.underlying35
 have HR0 := Aside0.mk hr0
 have HC0 := Aside0.mk hc0
 clear hr0 hc0
 have HB := Aside0.mk (Below.refl w.heap.size w)
 have H : (markup_can.l0 k l0 0 l0 (l0.length : Int) 0) = some r := h
 clear h
 have HC2 := Aside0.mk H
 clear H
 go_enter Tryz.func28, Tryz.ntmps28
 go_upto_block 0 with (fail)
 go_cut [3] (fun v3 wc => ∃ (kq : Nat) (x3_1 : Int), v3 = .int .i64 x3_1 ∧ Aside0 (markup_can.j1 kq l0 x3_1 = some r) ∧ Aside0 (kq ≤ k) ∧ Aside0 (Below w.heap.size w wc))
 case first =>
  have H := HC2.out
  clear HC2
  have H' := Aside0.mk H
  clear H
  go_wp2
  go_loopg [3, 12] k (fun kq v3 v12 w' => ∃ (x3_1 : Int) (x12_1 : Int), v3 = .int .i64 x3_1 ∧ v12 = .int .i64 x12_1 ∧ Aside0 (markup_can.l0 kq l0 x3_1 l0 (l0.length : Int) x12_1 = some r) ∧ Aside0 (kq ≤ k) ∧ Aside0 (Below w.heap.size w w'))
  case atStart => exact ⟨(0), (0), (by first | rfl | (simp; done) | (simp [*]; done)), (by first | rfl | (simp; done) | (simp [*]; done)), H', ⟨Nat.le_refl _⟩, ⟨hb_⟩⟩
  case round =>
   clear H'
   try clear c2
   try clear p2
   obtain ⟨x3_1, x12_1, rfl, rfl, HA, HK1, HB⟩ := hrel
   cases gk with
   | zero => exact absurd HA.out (by simp [markup_can.l0])
   | succ k1 =>
    have H := HA.out
    clear HA
    simp only [markup_can.l0] at H
    by_cases c3 : x12_1 < (l0.length : Int)
    ·rw [if_pos c3] at H
     have c3b0 : decide (x12_1 < (l0.length : Int)) = true := decide_eq_true c3
     clear c3
     (first | rw [c3b0] | (simp only [i64_w, i32_w]; rw [c3b0]) | skip)
     by_cases c4 : 0 ≤ x12_1
     ·rw [if_pos c4] at H
      have c4b0 : decide (0 ≤ x12_1) = true := decide_eq_true c4
      clear c4
      by_cases c5 : x12_1 < (l0.length : Int)
      ·rw [if_pos c5] at H
       have c5b0 : decide (x12_1 < (l0.length : Int)) = true := decide_eq_true c5
       clear c5
       replace H := Option.bind_eq_some_iff.mp H
       obtain ⟨t144, A60, H⟩ := H
       replace H : (if t144 = 0 then ((markup_count.f k1 ((rd_T35 l0 x12_1).f0) ((rd_T35 l0 x12_1).f1) ((rd_T35 l0 x12_1).f2) ((rd_T35 l0 x12_1).f3) ((rd_T35 l0 x12_1).f4)).bind fun t145 => (if (wrap64 (x3_1 + t145)) > 4096 then (markup_can.j1 k1 l0 (wrap64 (x3_1 + t145))) else (markup_can.l0 k1 l0 (wrap64 (x3_1 + t145)) l0 (l0.length : Int) (wrap64 (x12_1 + 1))))) else (some t144)) = some r := H
       have A6 := Aside0.mk A60
       clear A60
       by_cases c7 : t144 = 0
       ·rw [if_pos c7] at H
        have c7b0 := beq_iff_eq.mpr c7
        have c7b1 := bne_eq_false_iff_eq.mpr c7
        clear c7
        replace H := Option.bind_eq_some_iff.mp H
        obtain ⟨t145, A80, H⟩ := H
        replace H : (if (wrap64 (x3_1 + t145)) > 4096 then (markup_can.j1 k1 l0 (wrap64 (x3_1 + t145))) else (markup_can.l0 k1 l0 (wrap64 (x3_1 + t145)) l0 (l0.length : Int) (wrap64 (x12_1 + 1)))) = some r := H
        have A8 := Aside0.mk A80
        clear A80
        by_cases c9 : (wrap64 (x3_1 + t145)) > 4096
        ·rw [if_pos c9] at H
         have c9b0 : decide (4096 < (wrap64 (x3_1 + t145))) = true := decide_eq_true c9
         clear c9
         have H' := Aside0.mk H
         clear H
         have p142 : 0 ≤ (x12_1 : Int) := of_decide_eq_true (by first | (with_reducible assumption) | assumption)
         have q142 : x12_1 < (l0.length : Int) := of_decide_eq_true (by first | (with_reducible assumption) | assumption)
         obtain ⟨ad142, A142_2, c142_2, A142_4, c142_4, e142, hx142_0, hx142_1, hx142_2, hx142_3, hx142_4, hl142_2, hi142_2, hl142_4, hi142_4⟩ := at_T35 HR0.out x12_1 p142 q142
         cases e142
         replace hx142_0 := hc_ HB.out hx142_0
         replace hx142_1 := hc_ HB.out hx142_1
         replace hx142_2 := hc_ HB.out hx142_2
         replace hx142_3 := hc_ HB.out hx142_3
         replace hx142_4 := hc_ HB.out hx142_4
         have HR142_2 := Aside0.mk hi142_2
         have HC142_2 := Aside0.mk hl142_2
         clear hi142_2 hl142_2
         have HR142_4 := Aside0.mk hi142_4
         have HC142_4 := Aside0.mk hl142_4
         clear hi142_4 hl142_4
         replace p142 := eq_true p142
         replace q142 := eq_true q142
         go_wp2_with (first | ((with_reducible refine gate_dst (N := 5) rfl ?_); refine box_event ?hg (N := 5) ?hd (cs := #[.int .i64 0, .string (⟨#[]⟩ : ByteArray), .slice none 0 0, .string (⟨#[]⟩ : ByteArray), .slice none 0 0]) (t := 35) ?hr ?_; (case hd => rfl); (case hg => rfl); (case hr => first | (go_simp; done) | (go_simp; rfl)); intro gb143 hg w10 hbox hb; have n0_ := Aside0.mk (below_step hb_ hb); have n1_ := Aside0.mk (hbox); have n2_ := Aside0.mk ((by rw [hg]; exact (below_size hb_) : w.heap.size ≤ gb143)); have n3_ := Aside0.mk ((by rw [hg]; exact (below_size hb_) : w.heap.size ≤ gb143)); clear HB; have HB := n0_; have BK143 := n1_; have GW143 := n2_; have GE143 := n3_; clear n0_ n1_ n2_ n3_; clear hb hbox hg; obtain ⟨hcz11_0, hcz11_1, hcz11_2, hcz11_3, hcz11_4⟩ := ce5_ BK143.out; obtain ⟨hfz11_0, hfz11_1, hfz11_2, hfz11_3, hfz11_4⟩ := fr5_ BK143.out) | ((with_reducible refine gate_callee (f := 16) rfl ?_); refine goesL_ (some 17) rfl rfl Tryz.func16 (by kernel_rfl) rfl #[.agg #[.int .i64 ((rd_T35 l0 x12_1).f0), .string ((rd_T35 l0 x12_1).f1), .slice A142_2 ((rd_T35 l0 x12_1).f2).length c142_2, .string ((rd_T35 l0 x12_1).f3), .slice A142_4 ((rd_T35 l0 x12_1).f4).length c142_4]] rfl rf_ ?_; (with_reducible refine (tree_Check.calls k1 ((rd_T35 l0 x12_1).f0) ((rd_T35 l0 x12_1).f1) _ _ ((rd_T35 l0 x12_1).f2) ((rd_T35 l0 x12_1).f3) _ _ ((rd_T35 l0 x12_1).f4) t144 _ ?side1 ?side2 ?side3 ?side4 A6.out).mono ?_); (case side1 => exact Kd.C_below HR142_2.out (hb1_ GE143.out)); (case side2 => exact HC142_2.out); (case side3 => exact Kd.C_below HR142_4.out (hb1_ GE143.out)); (case side4 => exact HC142_4.out); rintro e w12 ⟨rfl, hb⟩; refine ⟨_, rfl, ?_⟩; replace BK143 := Aside0.mk (blk_below (g := gb143) (o := .cells #[.int .i64 ((rd_T35 l0 x12_1).f0), .string ((rd_T35 l0 x12_1).f1), .slice A142_2 ((rd_T35 l0 x12_1).f2).length c142_2, .string ((rd_T35 l0 x12_1).f3), .slice A142_4 ((rd_T35 l0 x12_1).f4).length c142_4] 35 (0, 0)) (bp_ BK143.out) hb); replace HB := Aside0.mk (below_step (hb1_ GE143.out) hb); (try clear hb); (try clear hb2); (try clear hk); (try clear hi); obtain ⟨hcz13_0, hcz13_1, hcz13_2, hcz13_3, hcz13_4⟩ := ce5_ BK143.out; obtain ⟨hfz13_0, hfz13_1, hfz13_2, hfz13_3, hfz13_4⟩ := fr5_ BK143.out) | ((with_reducible refine gate_callee (f := 45) rfl ?_); refine goesL_ (some 23) rfl rfl Tryz.func45 (by kernel_rfl) rfl #[.agg #[.int .i64 ((rd_T35 l0 x12_1).f0), .string ((rd_T35 l0 x12_1).f1), .slice A142_2 ((rd_T35 l0 x12_1).f2).length c142_2, .string ((rd_T35 l0 x12_1).f3), .slice A142_4 ((rd_T35 l0 x12_1).f4).length c142_4]] rfl rf_ ?_; (with_reducible refine (markup_count.calls k1 ((rd_T35 l0 x12_1).f0) ((rd_T35 l0 x12_1).f1) _ _ ((rd_T35 l0 x12_1).f2) ((rd_T35 l0 x12_1).f3) _ _ ((rd_T35 l0 x12_1).f4) t145 _ ?side1 ?side2 ?side3 ?side4 A8.out).mono ?_); (case side1 => exact sc_ (Kd.C_below HR142_2.out HB.out)); (case side2 => exact HC142_2.out); (case side3 => exact sc_ (Kd.C_below HR142_4.out HB.out)); (case side4 => exact HC142_4.out); rintro e w14 ⟨rfl, hb⟩; refine ⟨_, rfl, ?_⟩; replace BK143 := Aside0.mk (blk_below (g := gb143) (o := .cells #[.int .i64 ((rd_T35 l0 x12_1).f0), .string ((rd_T35 l0 x12_1).f1), .slice A142_2 ((rd_T35 l0 x12_1).f2).length c142_2, .string ((rd_T35 l0 x12_1).f3), .slice A142_4 ((rd_T35 l0 x12_1).f4).length c142_4] 35 (0, 0)) (bk_ BK143.out) hb); replace HB := Aside0.mk (below_step (hb1_ GE143.out) hb); (try clear hb); (try clear hb2); (try clear hk); (try clear hi)))
         go_meet
         case rel => exact ⟨_, (wrap64 (x3_1 + t145)), (by first | rfl | (simp; done) | (simp [*]; done)), H', ⟨by have := HK1.out; first | omega | exact Nat.le_refl _⟩, ⟨hb1_ GE143.out⟩⟩
        ·rw [if_neg c9] at H
         have c9b0 : decide (4096 < (wrap64 (x3_1 + t145))) = false := decide_eq_false c9
         clear c9
         have H' := Aside0.mk H
         clear H
         have p142 : 0 ≤ (x12_1 : Int) := of_decide_eq_true (by first | (with_reducible assumption) | assumption)
         have q142 : x12_1 < (l0.length : Int) := of_decide_eq_true (by first | (with_reducible assumption) | assumption)
         obtain ⟨ad142, A142_2, c142_2, A142_4, c142_4, e142, hx142_0, hx142_1, hx142_2, hx142_3, hx142_4, hl142_2, hi142_2, hl142_4, hi142_4⟩ := at_T35 HR0.out x12_1 p142 q142
         cases e142
         replace hx142_0 := hc_ HB.out hx142_0
         replace hx142_1 := hc_ HB.out hx142_1
         replace hx142_2 := hc_ HB.out hx142_2
         replace hx142_3 := hc_ HB.out hx142_3
         replace hx142_4 := hc_ HB.out hx142_4
         have HR142_2 := Aside0.mk hi142_2
         have HC142_2 := Aside0.mk hl142_2
         clear hi142_2 hl142_2
         have HR142_4 := Aside0.mk hi142_4
         have HC142_4 := Aside0.mk hl142_4
         clear hi142_4 hl142_4
         replace p142 := eq_true p142
         replace q142 := eq_true q142
         go_wp2_with (first | ((with_reducible refine gate_dst (N := 5) rfl ?_); refine box_event ?hg (N := 5) ?hd (cs := #[.int .i64 0, .string (⟨#[]⟩ : ByteArray), .slice none 0 0, .string (⟨#[]⟩ : ByteArray), .slice none 0 0]) (t := 35) ?hr ?_; (case hd => rfl); (case hg => rfl); (case hr => first | (go_simp; done) | (go_simp; rfl)); intro gb143 hg w15 hbox hb; have n0_ := Aside0.mk (below_step hb_ hb); have n1_ := Aside0.mk (hbox); have n2_ := Aside0.mk ((by rw [hg]; exact (below_size hb_) : w.heap.size ≤ gb143)); have n3_ := Aside0.mk ((by rw [hg]; exact (below_size hb_) : w.heap.size ≤ gb143)); clear HB; have HB := n0_; have BK143 := n1_; have GW143 := n2_; have GE143 := n3_; clear n0_ n1_ n2_ n3_; clear hb hbox hg; obtain ⟨hcz16_0, hcz16_1, hcz16_2, hcz16_3, hcz16_4⟩ := ce5_ BK143.out; obtain ⟨hfz16_0, hfz16_1, hfz16_2, hfz16_3, hfz16_4⟩ := fr5_ BK143.out) | ((with_reducible refine gate_callee (f := 16) rfl ?_); refine goesL_ (some 17) rfl rfl Tryz.func16 (by kernel_rfl) rfl #[.agg #[.int .i64 ((rd_T35 l0 x12_1).f0), .string ((rd_T35 l0 x12_1).f1), .slice A142_2 ((rd_T35 l0 x12_1).f2).length c142_2, .string ((rd_T35 l0 x12_1).f3), .slice A142_4 ((rd_T35 l0 x12_1).f4).length c142_4]] rfl rf_ ?_; (with_reducible refine (tree_Check.calls k1 ((rd_T35 l0 x12_1).f0) ((rd_T35 l0 x12_1).f1) _ _ ((rd_T35 l0 x12_1).f2) ((rd_T35 l0 x12_1).f3) _ _ ((rd_T35 l0 x12_1).f4) t144 _ ?side1 ?side2 ?side3 ?side4 A6.out).mono ?_); (case side1 => exact Kd.C_below HR142_2.out (hb1_ GE143.out)); (case side2 => exact HC142_2.out); (case side3 => exact Kd.C_below HR142_4.out (hb1_ GE143.out)); (case side4 => exact HC142_4.out); rintro e w17 ⟨rfl, hb⟩; refine ⟨_, rfl, ?_⟩; replace BK143 := Aside0.mk (blk_below (g := gb143) (o := .cells #[.int .i64 ((rd_T35 l0 x12_1).f0), .string ((rd_T35 l0 x12_1).f1), .slice A142_2 ((rd_T35 l0 x12_1).f2).length c142_2, .string ((rd_T35 l0 x12_1).f3), .slice A142_4 ((rd_T35 l0 x12_1).f4).length c142_4] 35 (0, 0)) (bp_ BK143.out) hb); replace HB := Aside0.mk (below_step (hb1_ GE143.out) hb); (try clear hb); (try clear hb2); (try clear hk); (try clear hi); obtain ⟨hcz18_0, hcz18_1, hcz18_2, hcz18_3, hcz18_4⟩ := ce5_ BK143.out; obtain ⟨hfz18_0, hfz18_1, hfz18_2, hfz18_3, hfz18_4⟩ := fr5_ BK143.out) | ((with_reducible refine gate_callee (f := 45) rfl ?_); refine goesL_ (some 23) rfl rfl Tryz.func45 (by kernel_rfl) rfl #[.agg #[.int .i64 ((rd_T35 l0 x12_1).f0), .string ((rd_T35 l0 x12_1).f1), .slice A142_2 ((rd_T35 l0 x12_1).f2).length c142_2, .string ((rd_T35 l0 x12_1).f3), .slice A142_4 ((rd_T35 l0 x12_1).f4).length c142_4]] rfl rf_ ?_; (with_reducible refine (markup_count.calls k1 ((rd_T35 l0 x12_1).f0) ((rd_T35 l0 x12_1).f1) _ _ ((rd_T35 l0 x12_1).f2) ((rd_T35 l0 x12_1).f3) _ _ ((rd_T35 l0 x12_1).f4) t145 _ ?side1 ?side2 ?side3 ?side4 A8.out).mono ?_); (case side1 => exact sc_ (Kd.C_below HR142_2.out HB.out)); (case side2 => exact HC142_2.out); (case side3 => exact sc_ (Kd.C_below HR142_4.out HB.out)); (case side4 => exact HC142_4.out); rintro e w19 ⟨rfl, hb⟩; refine ⟨_, rfl, ?_⟩; replace BK143 := Aside0.mk (blk_below (g := gb143) (o := .cells #[.int .i64 ((rd_T35 l0 x12_1).f0), .string ((rd_T35 l0 x12_1).f1), .slice A142_2 ((rd_T35 l0 x12_1).f2).length c142_2, .string ((rd_T35 l0 x12_1).f3), .slice A142_4 ((rd_T35 l0 x12_1).f4).length c142_4] 35 (0, 0)) (bk_ BK143.out) hb); replace HB := Aside0.mk (below_step (hb1_ GE143.out) hb); (try clear hb); (try clear hb2); (try clear hk); (try clear hi)))
         go_roundg k1
         case measure => have := HK1.out; omega
         case rel => exact ⟨(wrap64 (x3_1 + t145)), (wrap64 (x12_1 + 1)), (by first | rfl | (simp; done) | (simp [*]; done)), (by first | rfl | (simp; done) | (simp [*]; done)), H', ⟨by have := HK1.out; omega⟩, ⟨hb1_ GE143.out⟩⟩
       ·rw [if_neg c7] at H
        have c7b0 := beq_eq_false_iff_ne.mpr c7
        have c7b1 := bne_iff_ne.mpr c7
        obtain rfl := Option.some.inj H
        have p142 : 0 ≤ (x12_1 : Int) := of_decide_eq_true (by first | (with_reducible assumption) | assumption)
        have q142 : x12_1 < (l0.length : Int) := of_decide_eq_true (by first | (with_reducible assumption) | assumption)
        obtain ⟨ad142, A142_2, c142_2, A142_4, c142_4, e142, hx142_0, hx142_1, hx142_2, hx142_3, hx142_4, hl142_2, hi142_2, hl142_4, hi142_4⟩ := at_T35 HR0.out x12_1 p142 q142
        cases e142
        replace hx142_0 := hc_ HB.out hx142_0
        replace hx142_1 := hc_ HB.out hx142_1
        replace hx142_2 := hc_ HB.out hx142_2
        replace hx142_3 := hc_ HB.out hx142_3
        replace hx142_4 := hc_ HB.out hx142_4
        have HR142_2 := Aside0.mk hi142_2
        have HC142_2 := Aside0.mk hl142_2
        clear hi142_2 hl142_2
        have HR142_4 := Aside0.mk hi142_4
        have HC142_4 := Aside0.mk hl142_4
        clear hi142_4 hl142_4
        replace p142 := eq_true p142
        replace q142 := eq_true q142
        go_wp2_with (first | ((with_reducible refine gate_dst (N := 5) rfl ?_); refine box_event ?hg (N := 5) ?hd (cs := #[.int .i64 0, .string (⟨#[]⟩ : ByteArray), .slice none 0 0, .string (⟨#[]⟩ : ByteArray), .slice none 0 0]) (t := 35) ?hr ?_; (case hd => rfl); (case hg => rfl); (case hr => first | (go_simp; done) | (go_simp; rfl)); intro gb143 hg w20 hbox hb; have n0_ := Aside0.mk (below_step hb_ hb); have n1_ := Aside0.mk (hbox); have n2_ := Aside0.mk ((by rw [hg]; exact (below_size hb_) : w.heap.size ≤ gb143)); have n3_ := Aside0.mk ((by rw [hg]; exact (below_size hb_) : w.heap.size ≤ gb143)); clear HB; have HB := n0_; have BK143 := n1_; have GW143 := n2_; have GE143 := n3_; clear n0_ n1_ n2_ n3_; clear hb hbox hg; obtain ⟨hcz21_0, hcz21_1, hcz21_2, hcz21_3, hcz21_4⟩ := ce5_ BK143.out; obtain ⟨hfz21_0, hfz21_1, hfz21_2, hfz21_3, hfz21_4⟩ := fr5_ BK143.out) | ((with_reducible refine gate_callee (f := 16) rfl ?_); refine goesL_ (some 17) rfl rfl Tryz.func16 (by kernel_rfl) rfl #[.agg #[.int .i64 ((rd_T35 l0 x12_1).f0), .string ((rd_T35 l0 x12_1).f1), .slice A142_2 ((rd_T35 l0 x12_1).f2).length c142_2, .string ((rd_T35 l0 x12_1).f3), .slice A142_4 ((rd_T35 l0 x12_1).f4).length c142_4]] rfl rf_ ?_; (with_reducible refine (tree_Check.calls k1 ((rd_T35 l0 x12_1).f0) ((rd_T35 l0 x12_1).f1) _ _ ((rd_T35 l0 x12_1).f2) ((rd_T35 l0 x12_1).f3) _ _ ((rd_T35 l0 x12_1).f4) t144 _ ?side1 ?side2 ?side3 ?side4 A6.out).mono ?_); (case side1 => exact Kd.C_below HR142_2.out (hb1_ GE143.out)); (case side2 => exact HC142_2.out); (case side3 => exact Kd.C_below HR142_4.out (hb1_ GE143.out)); (case side4 => exact HC142_4.out); rintro e w22 ⟨rfl, hb⟩; refine ⟨_, rfl, ?_⟩; replace BK143 := Aside0.mk (blk_below (g := gb143) (o := .cells #[.int .i64 ((rd_T35 l0 x12_1).f0), .string ((rd_T35 l0 x12_1).f1), .slice A142_2 ((rd_T35 l0 x12_1).f2).length c142_2, .string ((rd_T35 l0 x12_1).f3), .slice A142_4 ((rd_T35 l0 x12_1).f4).length c142_4] 35 (0, 0)) (bp_ BK143.out) hb); replace HB := Aside0.mk (below_step (hb1_ GE143.out) hb); (try clear hb); (try clear hb2); (try clear hk); (try clear hi)))
        go_ret
        exact ⟨er_, hb1_ GE143.out⟩
      ·rw [if_neg c5] at H
       exact absurd H (by simp)
     ·rw [if_neg c4] at H
      exact absurd H (by simp)
    ·rw [if_neg c3] at H
     have c3b0 : decide (x12_1 < (l0.length : Int)) = false := decide_eq_false c3
     clear c3
     (first | rw [c3b0] | (simp only [i64_w, i32_w]; rw [c3b0]) | skip)
     have H' := Aside0.mk H
     clear H
     go_wp2
     go_meet
     case rel => exact ⟨_, (x3_1), (by first | rfl | (simp; done) | (simp [*]; done)), H', ⟨by have := HK1.out; first | omega | exact Nat.le_refl _⟩, ⟨hb_⟩⟩
 case rest =>
  clear HC2
  try clear c1
  try clear p1
  try clear q1
  try clear hx1
  try clear c2
  try clear p2
  try clear c3
  try clear c3b0
  try clear c4
  try clear c4b0
  try clear c5
  try clear c5b0
  try clear p6
  try clear c7
  try clear c7b0
  try clear c7b1
  try clear c9
  try clear c9b0
  try clear c14
  try clear p14
  try clear q14
  try clear hx14
  try clear c16
  try clear hcz11_0
  try clear hcz11_1
  try clear hcz11_2
  try clear hcz11_3
  try clear hcz11_4
  try clear hcz13_0
  try clear hcz13_1
  try clear hcz13_2
  try clear hcz13_3
  try clear hcz13_4
  try clear hcz16_0
  try clear hcz16_1
  try clear hcz16_2
  try clear hcz16_3
  try clear hcz16_4
  try clear hcz18_0
  try clear hcz18_1
  try clear hcz18_2
  try clear hcz18_3
  try clear hcz18_4
  try clear hcz21_0
  try clear hcz21_1
  try clear hcz21_2
  try clear hcz21_3
  try clear hcz21_4
  try clear hfz11_0
  try clear hfz11_1
  try clear hfz11_2
  try clear hfz11_3
  try clear hfz11_4
  try clear hfz13_0
  try clear hfz13_1
  try clear hfz13_2
  try clear hfz13_3
  try clear hfz13_4
  try clear hfz16_0
  try clear hfz16_1
  try clear hfz16_2
  try clear hfz16_3
  try clear hfz16_4
  try clear hfz18_0
  try clear hfz18_1
  try clear hfz18_2
  try clear hfz18_3
  try clear hfz18_4
  try clear hfz21_0
  try clear hfz21_1
  try clear hfz21_2
  try clear hfz21_3
  try clear hfz21_4
  try clear hx142_0
  try clear hx142_1
  try clear hx142_2
  try clear hx142_3
  try clear hx142_4
  try clear p142
  try clear p2
  try clear q142
  obtain ⟨kq, x3_1, rfl, HA, HJ1, HB⟩ := hcut
  cases kq with
  | zero => exact absurd HA.out (by simp [markup_can.j1])
  | succ kj1 =>
   have H := HA.out
   clear HA
   simp only [markup_can.j1] at H
   by_cases c23 : x3_1 ≤ 4096
   ·rw [if_pos c23] at H
    have c23b0 : decide (x3_1 ≤ 4096) = true := decide_eq_true c23
    clear c23
    obtain rfl := Option.some.inj H
    go_wp2
    go_ret
    exact ⟨er_, hb_⟩
   ·rw [if_neg c23] at H
    have c23b0 : decide (x3_1 ≤ 4096) = false := decide_eq_false c23
    clear c23
    have H' := Aside0.mk H
    clear H
    go_wp2
    go_loopg [32] kj1 (fun kq v32 w' => ∃ (x32_2 : Int), v32 = .int .i64 x32_2 ∧ Aside0 (markup_can.l1 kq l0 (l0.length : Int) x32_2 = some r) ∧ Aside0 (kq ≤ kj1) ∧ Aside0 (Below w.heap.size w w'))
    case atStart => exact ⟨(0), (by first | rfl | (simp; done) | (simp [*]; done)), H', ⟨Nat.le_refl _⟩, ⟨hb_⟩⟩
    case round =>
     clear H'
     try clear c1
     try clear p1
     try clear q1
     try clear hx1
     try clear c2
     try clear p2
     try clear c3
     try clear c3b0
     try clear c4
     try clear c4b0
     try clear c5
     try clear c5b0
     try clear p6
     try clear c7
     try clear c7b0
     try clear c7b1
     try clear c9
     try clear c9b0
     try clear c14
     try clear p14
     try clear q14
     try clear hx14
     try clear c16
     try clear c23
     try clear c23b0
     try clear hcz11_0
     try clear hcz11_1
     try clear hcz11_2
     try clear hcz11_3
     try clear hcz11_4
     try clear hcz13_0
     try clear hcz13_1
     try clear hcz13_2
     try clear hcz13_3
     try clear hcz13_4
     try clear hcz16_0
     try clear hcz16_1
     try clear hcz16_2
     try clear hcz16_3
     try clear hcz16_4
     try clear hcz18_0
     try clear hcz18_1
     try clear hcz18_2
     try clear hcz18_3
     try clear hcz18_4
     try clear hcz21_0
     try clear hcz21_1
     try clear hcz21_2
     try clear hcz21_3
     try clear hcz21_4
     try clear hfz11_0
     try clear hfz11_1
     try clear hfz11_2
     try clear hfz11_3
     try clear hfz11_4
     try clear hfz13_0
     try clear hfz13_1
     try clear hfz13_2
     try clear hfz13_3
     try clear hfz13_4
     try clear hfz16_0
     try clear hfz16_1
     try clear hfz16_2
     try clear hfz16_3
     try clear hfz16_4
     try clear hfz18_0
     try clear hfz18_1
     try clear hfz18_2
     try clear hfz18_3
     try clear hfz18_4
     try clear hfz21_0
     try clear hfz21_1
     try clear hfz21_2
     try clear hfz21_3
     try clear hfz21_4
     try clear hx142_0
     try clear hx142_1
     try clear hx142_2
     try clear hx142_3
     try clear hx142_4
     try clear p1
     try clear p14
     try clear p142
     try clear p2
     try clear p6
     try clear q1
     try clear q14
     try clear q142
     obtain ⟨x32_2, rfl, HA, HK2, HB⟩ := hrel
     cases gk with
     | zero => exact absurd HA.out (by simp [markup_can.l1])
     | succ k2 =>
      have H := HA.out
      clear HA
      simp only [markup_can.l1] at H
      by_cases c24 : x32_2 < (l0.length : Int)
      ·rw [if_pos c24] at H
       have c24b0 : decide (x32_2 < (l0.length : Int)) = true := decide_eq_true c24
       clear c24
       by_cases c25 : 0 ≤ x32_2
       ·rw [if_pos c25] at H
        have c25b0 : decide (0 ≤ x32_2) = true := decide_eq_true c25
        clear c25
        by_cases c26 : x32_2 < (l0.length : Int)
        ·rw [if_pos c26] at H
         have c26b0 : decide (x32_2 < (l0.length : Int)) = true := decide_eq_true c26
         clear c26
         replace H := Option.bind_eq_some_iff.mp H
         obtain ⟨t148, A270, H⟩ := H
         replace H : (if t148 = 0 then (markup_can.l1 k2 l0 (l0.length : Int) (wrap64 (x32_2 + 1))) else (some t148)) = some r := H
         have A27 := Aside0.mk A270
         clear A270
         by_cases c28 : t148 = 0
         ·rw [if_pos c28] at H
          have c28b0 := beq_iff_eq.mpr c28
          have c28b1 := bne_eq_false_iff_eq.mpr c28
          clear c28
          have H' := Aside0.mk H
          clear H
          have p146 : 0 ≤ (x32_2 : Int) := of_decide_eq_true (by first | (with_reducible assumption) | assumption)
          have q146 : x32_2 < (l0.length : Int) := of_decide_eq_true (by first | (with_reducible assumption) | assumption)
          obtain ⟨ad146, A146_2, c146_2, A146_4, c146_4, e146, hx146_0, hx146_1, hx146_2, hx146_3, hx146_4, hl146_2, hi146_2, hl146_4, hi146_4⟩ := at_T35 HR0.out x32_2 p146 q146
          cases e146
          replace hx146_0 := hc_ HB.out hx146_0
          replace hx146_1 := hc_ HB.out hx146_1
          replace hx146_2 := hc_ HB.out hx146_2
          replace hx146_3 := hc_ HB.out hx146_3
          replace hx146_4 := hc_ HB.out hx146_4
          have HR146_2 := Aside0.mk hi146_2
          have HC146_2 := Aside0.mk hl146_2
          clear hi146_2 hl146_2
          have HR146_4 := Aside0.mk hi146_4
          have HC146_4 := Aside0.mk hl146_4
          clear hi146_4 hl146_4
          replace p146 := eq_true p146
          replace q146 := eq_true q146
          go_wp2_with (first | ((with_reducible refine gate_dst (N := 8) rfl ?_); refine box_event ?hg (N := 8) ?hd (cs := #[.int .i64 0, .string (⟨#[]⟩ : ByteArray), .slice none 0 0, .string (⟨#[]⟩ : ByteArray), .slice none 0 0]) (t := 35) ?hr ?_; (case hd => rfl); (case hg => rfl); (case hr => first | (go_simp; done) | (go_simp; rfl)); intro gb147 hg w29 hbox hb; have n0_ := Aside0.mk (below_step hb_ hb); have n1_ := Aside0.mk (hbox); have n2_ := Aside0.mk ((by rw [hg]; exact (below_size hb_) : w.heap.size ≤ gb147)); have n3_ := Aside0.mk ((by rw [hg]; exact (below_size hb_) : w.heap.size ≤ gb147)); clear HB; have HB := n0_; have BK147 := n1_; have GW147 := n2_; have GE147 := n3_; clear n0_ n1_ n2_ n3_; clear hb hbox hg; obtain ⟨hcz30_0, hcz30_1, hcz30_2, hcz30_3, hcz30_4⟩ := ce5_ BK147.out; obtain ⟨hfz30_0, hfz30_1, hfz30_2, hfz30_3, hfz30_4⟩ := fr5_ BK147.out) | ((with_reducible refine gate_callee (f := 16) rfl ?_); refine goesL_ (some 37) rfl rfl Tryz.func16 (by kernel_rfl) rfl #[.agg #[.int .i64 ((rd_T35 l0 x32_2).f0), .string ((rd_T35 l0 x32_2).f1), .slice A146_2 ((rd_T35 l0 x32_2).f2).length c146_2, .string ((rd_T35 l0 x32_2).f3), .slice A146_4 ((rd_T35 l0 x32_2).f4).length c146_4]] rfl rf_ ?_; (with_reducible refine (tree_Check.calls k2 ((rd_T35 l0 x32_2).f0) ((rd_T35 l0 x32_2).f1) _ _ ((rd_T35 l0 x32_2).f2) ((rd_T35 l0 x32_2).f3) _ _ ((rd_T35 l0 x32_2).f4) t148 _ ?side1 ?side2 ?side3 ?side4 A27.out).mono ?_); (case side1 => exact Kd.C_below HR146_2.out (hb1_ GE147.out)); (case side2 => exact HC146_2.out); (case side3 => exact Kd.C_below HR146_4.out (hb1_ GE147.out)); (case side4 => exact HC146_4.out); rintro e w31 ⟨rfl, hb⟩; refine ⟨_, rfl, ?_⟩; replace BK147 := Aside0.mk (blk_below (g := gb147) (o := .cells #[.int .i64 ((rd_T35 l0 x32_2).f0), .string ((rd_T35 l0 x32_2).f1), .slice A146_2 ((rd_T35 l0 x32_2).f2).length c146_2, .string ((rd_T35 l0 x32_2).f3), .slice A146_4 ((rd_T35 l0 x32_2).f4).length c146_4] 35 (0, 0)) (bp_ BK147.out) hb); replace HB := Aside0.mk (below_step (hb1_ GE147.out) hb); (try clear hb); (try clear hb2); (try clear hk); (try clear hi)))
          go_roundg k2
          case measure => have := HJ1.out; have := HK2.out; omega
          case rel => exact ⟨(wrap64 (x32_2 + 1)), (by first | rfl | (simp; done) | (simp [*]; done)), H', ⟨by have := HJ1.out; have := HK2.out; omega⟩, ⟨hb1_ GE147.out⟩⟩
         ·rw [if_neg c28] at H
          have c28b0 := beq_eq_false_iff_ne.mpr c28
          have c28b1 := bne_iff_ne.mpr c28
          obtain rfl := Option.some.inj H
          have p146 : 0 ≤ (x32_2 : Int) := of_decide_eq_true (by first | (with_reducible assumption) | assumption)
          have q146 : x32_2 < (l0.length : Int) := of_decide_eq_true (by first | (with_reducible assumption) | assumption)
          obtain ⟨ad146, A146_2, c146_2, A146_4, c146_4, e146, hx146_0, hx146_1, hx146_2, hx146_3, hx146_4, hl146_2, hi146_2, hl146_4, hi146_4⟩ := at_T35 HR0.out x32_2 p146 q146
          cases e146
          replace hx146_0 := hc_ HB.out hx146_0
          replace hx146_1 := hc_ HB.out hx146_1
          replace hx146_2 := hc_ HB.out hx146_2
          replace hx146_3 := hc_ HB.out hx146_3
          replace hx146_4 := hc_ HB.out hx146_4
          have HR146_2 := Aside0.mk hi146_2
          have HC146_2 := Aside0.mk hl146_2
          clear hi146_2 hl146_2
          have HR146_4 := Aside0.mk hi146_4
          have HC146_4 := Aside0.mk hl146_4
          clear hi146_4 hl146_4
          replace p146 := eq_true p146
          replace q146 := eq_true q146
          go_wp2_with (first | ((with_reducible refine gate_dst (N := 8) rfl ?_); refine box_event ?hg (N := 8) ?hd (cs := #[.int .i64 0, .string (⟨#[]⟩ : ByteArray), .slice none 0 0, .string (⟨#[]⟩ : ByteArray), .slice none 0 0]) (t := 35) ?hr ?_; (case hd => rfl); (case hg => rfl); (case hr => first | (go_simp; done) | (go_simp; rfl)); intro gb147 hg w32 hbox hb; have n0_ := Aside0.mk (below_step hb_ hb); have n1_ := Aside0.mk (hbox); have n2_ := Aside0.mk ((by rw [hg]; exact (below_size hb_) : w.heap.size ≤ gb147)); have n3_ := Aside0.mk ((by rw [hg]; exact (below_size hb_) : w.heap.size ≤ gb147)); clear HB; have HB := n0_; have BK147 := n1_; have GW147 := n2_; have GE147 := n3_; clear n0_ n1_ n2_ n3_; clear hb hbox hg; obtain ⟨hcz33_0, hcz33_1, hcz33_2, hcz33_3, hcz33_4⟩ := ce5_ BK147.out; obtain ⟨hfz33_0, hfz33_1, hfz33_2, hfz33_3, hfz33_4⟩ := fr5_ BK147.out) | ((with_reducible refine gate_callee (f := 16) rfl ?_); refine goesL_ (some 37) rfl rfl Tryz.func16 (by kernel_rfl) rfl #[.agg #[.int .i64 ((rd_T35 l0 x32_2).f0), .string ((rd_T35 l0 x32_2).f1), .slice A146_2 ((rd_T35 l0 x32_2).f2).length c146_2, .string ((rd_T35 l0 x32_2).f3), .slice A146_4 ((rd_T35 l0 x32_2).f4).length c146_4]] rfl rf_ ?_; (with_reducible refine (tree_Check.calls k2 ((rd_T35 l0 x32_2).f0) ((rd_T35 l0 x32_2).f1) _ _ ((rd_T35 l0 x32_2).f2) ((rd_T35 l0 x32_2).f3) _ _ ((rd_T35 l0 x32_2).f4) t148 _ ?side1 ?side2 ?side3 ?side4 A27.out).mono ?_); (case side1 => exact Kd.C_below HR146_2.out (hb1_ GE147.out)); (case side2 => exact HC146_2.out); (case side3 => exact Kd.C_below HR146_4.out (hb1_ GE147.out)); (case side4 => exact HC146_4.out); rintro e w34 ⟨rfl, hb⟩; refine ⟨_, rfl, ?_⟩; replace BK147 := Aside0.mk (blk_below (g := gb147) (o := .cells #[.int .i64 ((rd_T35 l0 x32_2).f0), .string ((rd_T35 l0 x32_2).f1), .slice A146_2 ((rd_T35 l0 x32_2).f2).length c146_2, .string ((rd_T35 l0 x32_2).f3), .slice A146_4 ((rd_T35 l0 x32_2).f4).length c146_4] 35 (0, 0)) (bp_ BK147.out) hb); replace HB := Aside0.mk (below_step (hb1_ GE147.out) hb); (try clear hb); (try clear hb2); (try clear hk); (try clear hi)))
          go_ret
          exact ⟨er_, hb1_ GE147.out⟩
        ·rw [if_neg c26] at H
         exact absurd H (by simp)
       ·rw [if_neg c25] at H
        exact absurd H (by simp)
      ·rw [if_neg c24] at H
       have c24b0 : decide (x32_2 < (l0.length : Int)) = false := decide_eq_false c24
       clear c24
       obtain rfl := Option.some.inj H
       go_wp2
       go_ret
       exact ⟨er_, hb_⟩

-- NOT PRINTED: function 30 (markup_writer_full)

-- GIVEN: function 37 (chars_Escape)

-- NOT PRINTED: function 47 (markup_writer_put)

-- NOT PRINTED: function 46 (markup_writer_escaped)

-- NOT PRINTED: function 74 (api_Tree_74)

-- NOT PRINTED: function 48 (api_Tree_48)

-- NOT PRINTED: function 29 (markup_writer_tree)

-- NOT PRINTED: function 17 (markup_Print)

-- NOT PRINTED: function 13 (espalierlaw04_lives)

-- NOT PRINTED: function 32 (api_Tree_32)

end Go.Proofs.YtealmfcimoomlaaGreatDoor.PA
