-- Written by a program of this session (wip/tools/xprint.py: the kit's print, with given functions). Not trusted: Lean checks it.
-- squeezed
import Derived.Test.YtealmfcimoomlaaGreatDoorUBuild
import Derived.Test.YtealmfcimoomlaaGreatDoorUClone
namespace Go.Proofs.YtealmfcimoomlaaGreatDoor.PA
open Go.RowKit Go.Proofs.YtealmfcimoomlaaGreatDoorW.PrintWords Go.Proofs.YtealmfcimoomlaaGreatDoorW.PrintLast Go.Proofs.YtealmfcimoomlaaGreatDoorW.PrintMore
attribute [local go_sem] max2_int min2_int max_two min_two max_three min_three max_four min_four   -- for this text's walks alone
set_option linter.unusedVariables false
set_option linter.unusedSimpArgs false

/-! ### markup_normal: function 36 -/
mutual
def markup_normal.l0 : Nat → List (S35) → List (S35) → Int → Int → Option ((List (S35)) × Int)
 | 0, _, _, _, _ => none
 | k + 1, x4, x10, x11, x12 => if x12 < x11 then (if 0 ≤ x12 then (if x12 < (x10.length : Int) then (if ((rd_T35 x10 x12).f0) = 1 then ((markup_normal.f k ((rd_T35 x10 x12).f4)).bind fun bt168 => (if bt168.2 = 0 then ((api_Attr_56.f ((rd_T35 x10 x12).f2)).bind fun t172 => (if x4.length < 1599289640401 then (markup_normal.l0 k (x4 ++ [(⟨1, (rd_T35 x10 x12).f1, t172, (⟨#[]⟩ : ByteArray), bt168.1⟩ : S35)]) x10 x11 (wrap64 (x12 + 1))) else (none))) else (some (([] : List (S35)), bt168.2)))) else (if ((rd_T35 x10 x12).f3).toList = ([] : List UInt8) then (markup_normal.l0 k x4 x10 x11 (wrap64 (x12 + 1))) else (if (wrap64 ((x4.length : Int) - 1)) < 0 then (markup_normal.j1 k x4 (wrap64 ((x4.length : Int) - 1)) x10 x11 x12 true ((rd_T35 x10 x12).f0) ((rd_T35 x10 x12).f1) ((rd_T35 x10 x12).f2) ((rd_T35 x10 x12).f3) ((rd_T35 x10 x12).f4)) else (if 0 ≤ (wrap64 ((x4.length : Int) - 1)) then (if (wrap64 ((x4.length : Int) - 1)) < (x4.length : Int) then (markup_normal.j1 k x4 (wrap64 ((x4.length : Int) - 1)) x10 x11 x12 (((rd_T35 x4 (wrap64 ((x4.length : Int) - 1))).f0) != 2) ((rd_T35 x10 x12).f0) ((rd_T35 x10 x12).f1) ((rd_T35 x10 x12).f2) ((rd_T35 x10 x12).f3) ((rd_T35 x10 x12).f4)) else (none)) else (none))))) else (none)) else (none)) else (some (x4, 0))
def markup_normal.j1 : Nat → List (S35) → Int → List (S35) → Int → Int → Bool → Int → ByteArray → List (S61) → ByteArray → List (S35) → Option ((List (S35)) × Int)
 | 0, _, _, _, _, _, _, _, _, _, _, _ => none
 | k + 1, x4, x9, x10, x11, x12, x53, x168000, x168001, x168002, x168003, x168004 => if x53 = true then (if x4.length < 1599289640401 then (markup_normal.l0 k (x4 ++ [(⟨2, (⟨#[]⟩ : ByteArray), ([] : List (S61)), x168003, ([] : List (S35))⟩ : S35)]) x10 x11 (wrap64 (x12 + 1))) else (none)) else (if 0 ≤ x9 then (if x9 < (x4.length : Int) then (if (wrap64 ((((rd_T35 x4 x9).f3).size : Int) + (x168003.size : Int))) > 16384 then (some (([] : List (S35)), 2)) else (if ((rd_T35 x4 x9).f3).size + x168003.size ≤ 9223372036854775807 then (markup_normal.l0 k (x4.set (x9 : Int).toNat (⟨(rd_T35 x4 x9).f0, (rd_T35 x4 x9).f1, (rd_T35 x4 x9).f2, ((rd_T35 x4 x9).f3) ++ x168003, (rd_T35 x4 x9).f4⟩ : S35)) x10 x11 (wrap64 (x12 + 1))) else (none))) else (none)) else (none))
def markup_normal.f : Nat → List (S35) → Option ((List (S35)) × Int)
 | 0, _ => none
 | k + 1, l0 => markup_normal.l0 k ([] : List (S35)) l0 (l0.length : Int) 0
end
theorem markup_normal.mono_l : ∀ k, (∀ y0, LeO (markup_normal.f k y0) (markup_normal.f (k + 1) y0)) ∧ (∀ y0 y1 y2 y3, LeO (markup_normal.l0 k y0 y1 y2 y3) (markup_normal.l0 (k + 1) y0 y1 y2 y3)) ∧ (∀ y0 y1 y2 y3 y4 y5 y6 y7 y8 y9 y10, LeO (markup_normal.j1 k y0 y1 y2 y3 y4 y5 y6 y7 y8 y9 y10) (markup_normal.j1 (k + 1) y0 y1 y2 y3 y4 y5 y6 y7 y8 y9 y10))
 | 0 => ⟨fun _ r h => by simp [markup_normal.f] at h, fun _ _ _ _ r h => by simp [markup_normal.l0] at h, fun _ _ _ _ _ _ _ _ _ _ _ r h => by simp [markup_normal.j1] at h⟩
 | k + 1 => by
  obtain ⟨ih0, ih1, ih2⟩ := markup_normal.mono_l k
  refine ⟨?_, ?_, ?_⟩
  ·intro y0
   unfold markup_normal.f
   repeat' first
   | (with_reducible exact ih0 _)
   | (with_reducible exact ih1 _ _ _ _)
   | (with_reducible exact ih2 _ _ _ _ _ _ _ _ _ _ _)
   | (with_reducible exact LeO.refl _)
   | (with_reducible exact LeO.none _)
   | (with_reducible refine LeO.ite ?_ ?_)
   | (with_reducible refine LeO.bind ?_ (fun _ => ?_))
   | exact ih0 _
   | exact ih1 _ _ _ _
   | exact ih2 _ _ _ _ _ _ _ _ _ _ _
   | exact LeO.none _
   | refine LeO.ite ?_ ?_
   | refine LeO.bind ?_ (fun _ => ?_)
  ·intro y0 y1 y2 y3
   unfold markup_normal.l0
   repeat' first
   | (with_reducible exact ih0 _)
   | (with_reducible exact ih1 _ _ _ _)
   | (with_reducible exact ih2 _ _ _ _ _ _ _ _ _ _ _)
   | (with_reducible exact LeO.refl _)
   | (with_reducible exact LeO.none _)
   | (with_reducible refine LeO.ite ?_ ?_)
   | (with_reducible refine LeO.bind ?_ (fun _ => ?_))
   | exact ih0 _
   | exact ih1 _ _ _ _
   | exact ih2 _ _ _ _ _ _ _ _ _ _ _
   | exact LeO.none _
   | refine LeO.ite ?_ ?_
   | refine LeO.bind ?_ (fun _ => ?_)
  ·intro y0 y1 y2 y3 y4 y5 y6 y7 y8 y9 y10
   unfold markup_normal.j1
   repeat' first
   | (with_reducible exact ih0 _)
   | (with_reducible exact ih1 _ _ _ _)
   | (with_reducible exact ih2 _ _ _ _ _ _ _ _ _ _ _)
   | (with_reducible exact LeO.refl _)
   | (with_reducible exact LeO.none _)
   | (with_reducible refine LeO.ite ?_ ?_)
   | (with_reducible refine LeO.bind ?_ (fun _ => ?_))
   | exact ih0 _
   | exact ih1 _ _ _ _
   | exact ih2 _ _ _ _ _ _ _ _ _ _ _
   | exact LeO.none _
   | refine LeO.ite ?_ ?_
   | refine LeO.bind ?_ (fun _ => ?_)
theorem markup_normal.mono : ∀ a0 k, LeO (markup_normal.f k a0) (markup_normal.f (k + 1) a0) := by
 intro a0 k
 obtain ⟨ih0, ih1, ih2⟩ := markup_normal.mono_l k
 exact ih0 a0
def markup_normal.T9 : Bool × List (List Nat × List Nat) := (true, [([], []), ([], []), ([1], [1]), ([], []), ([3], [3]), ([4], [4]), ([], []), ([2, 5, 6], [2, 5, 6]), ([7], [7]), ([0, 8, 5], [0, 8]), ([9, 9, 0, 1, 2, 3, 4, 5, 6, 7, 8, 9], [0, 9])])
def markup_normal.B9 : List Nat := [0, 0, 2, 0, 8, 24, 0, 126, 254, 511, 1023]
theorem markup_normal.tab9 : rtab .any (opsOf Tryz.f36 9) = markup_normal.T9 := by kernel_rfl
theorem markup_normal.bits9 : waitsOk markup_normal.T9.2 markup_normal.B9 = true := by kernel_rfl
def markup_normal.T14 : Bool × List (List Nat × List Nat) := (true, [([], []), ([], []), ([0, 1], [0, 1]), ([2], [2]), ([3], [3]), ([4], [4]), ([], []), ([6], [6]), ([7], [7]), ([5, 8], [5, 8]), ([9], [9])])
def markup_normal.B14 : List Nat := [0, 0, 3, 7, 15, 31, 0, 64, 192, 511, 1023]
theorem markup_normal.tab14 : rtab .any (opsOf Tryz.f36 14) = markup_normal.T14 := by kernel_rfl
theorem markup_normal.bits14 : waitsOk markup_normal.T14.2 markup_normal.B14 = true := by kernel_rfl
def markup_normal.T16 : Bool × List (List Nat × List Nat) := (true, [([], []), ([], []), ([0, 1], [0, 1]), ([2], [2]), ([3], [3]), ([], []), ([5], [5]), ([4, 6], [4, 6]), ([0, 1, 0, 1, 2, 3, 4, 5, 6, 7], [0, 1]), ([8, 0, 1, 2, 3, 4, 5, 6, 7], [8]), ([9, 7, 0, 1, 2, 3, 4, 5, 6, 7], [7, 9])])
def markup_normal.B16 : List Nat := [0, 0, 3, 7, 15, 0, 32, 127, 255, 511, 1023]
theorem markup_normal.tab16 : rtab .any (opsOf Tryz.f36 16) = markup_normal.T16 := by kernel_rfl
theorem markup_normal.bits16 : waitsOk markup_normal.T16.2 markup_normal.B16 = true := by kernel_rfl
set_option maxHeartbeats 8000000 in
set_option maxRecDepth 100000 in
theorem markup_normal.calls (k : Nat) : ∀ (A0 : Option Addr) (c0 : Nat) (l0 : List (S35)) (r1 : List (S35)) (r2 : Int) (w : World) (hr0 : Kd.C k35 w A0 l0.length l0) (hc0 : l0.length ≤ c0) (h : markup_normal.f k l0 = some (r1, r2)),
  Calls Tryz.prog 36 #[.slice A0 l0.length c0] w fun e w' => ∃ v0_ : Value, e = .returned (.tuple #[v0_, .int .i64 r2]) ∧ Kd.R k35 35 w' w.heap.size (fun _ => True) v0_ r1 ∧ Below w.heap.size w w' := by
 induction k using Nat.strongRecOn with
 | _ k ih =>
 intro A0 c0 l0 r1 r2 w hr0 hc0 h
 cases k with
 | zero => exact absurd h (by simp [markup_normal.f])
 | succ k =>
 simp only [markup_normal.f] at h
 have hu35 := Tryz.underlying35
 have HR0 := Aside0.mk hr0
 have HC0 := Aside0.mk hc0
 clear hr0 hc0
 have HB := Aside0.mk (Below.refl w.heap.size w)
 have H : (markup_normal.l0 k ([] : List (S35)) l0 (l0.length : Int) 0) = some (r1, r2) := h
 clear h
 have H' := Aside0.mk H
 clear H
 go_enter Tryz.func36, Tryz.ntmps36
 go_wp2
 go_loopg [4, 12] k (fun kq v4 v12 w' => ∃ (x4_1 : List (S35)) (x12_1 : Int), v12 = .int .i64 x12_1 ∧ Aside0 (markup_normal.l0 kq x4_1 l0 (l0.length : Int) x12_1 = some (r1, r2)) ∧ Aside0 (kq ≤ k) ∧ Aside0 (Kd.R k35 35 w' w.heap.size (fun _ => True) v4 x4_1) ∧ Aside0 (Below w.heap.size w w'))
 case atStart => exact ⟨(([] : List (S35))), (0), (by first | rfl | (simp; done) | (simp [*]; done)), H', ⟨Nat.le_refl _⟩, ⟨by first | exact Kd.R_nil _ _ _ _ _ | exact Kd.N_nil _ _ _ _ _ | exact Kd.V_nil _ _ _ _ _ | exact Kd.Q_nil _ _ _ _ _ | exact Kd.S_nil _ _ _ _ _⟩, ⟨hb_⟩⟩
 case round =>
  clear H'
  obtain ⟨x4_1, x12_1, rfl, HA, HK1, HO_4, HB⟩ := hrel
  cases gk with
  | zero => exact absurd HA.out (by simp [markup_normal.l0])
  | succ k1 =>
   have H := HA.out
   clear HA
   simp only [markup_normal.l0] at H
   by_cases c2 : x12_1 < (l0.length : Int)
   ·rw [if_pos c2] at H
    have c2b0 : decide (x12_1 < (l0.length : Int)) = true := decide_eq_true c2
    clear c2
    by_cases c3 : 0 ≤ x12_1
    ·rw [if_pos c3] at H
     have c3b0 : decide (0 ≤ x12_1) = true := decide_eq_true c3
     clear c3
     by_cases c4 : x12_1 < (l0.length : Int)
     ·rw [if_pos c4] at H
      have c4b0 : decide (x12_1 < (l0.length : Int)) = true := decide_eq_true c4
      clear c4
      by_cases c5 : ((rd_T35 l0 x12_1).f0) = 1
      ·rw [if_pos c5] at H
       have c5b0 := beq_iff_eq.mpr c5
       have c5b1 := bne_eq_false_iff_eq.mpr c5
       clear c5
       replace H := Option.bind_eq_some_iff.mp H
       obtain ⟨⟨t168, t169⟩, A60, H⟩ := H
       replace H : (if t169 = 0 then ((api_Attr_56.f ((rd_T35 l0 x12_1).f2)).bind fun t172 => (if x4_1.length < 1599289640401 then (markup_normal.l0 k1 (x4_1 ++ [(⟨1, (rd_T35 l0 x12_1).f1, t172, (⟨#[]⟩ : ByteArray), t168⟩ : S35)]) l0 (l0.length : Int) (wrap64 (x12_1 + 1))) else (none))) else (some (([] : List (S35)), t169))) = some (r1, r2) := H
       have A6 := Aside0.mk A60
       clear A60
       by_cases c7 : t169 = 0
       ·rw [if_pos c7] at H
        have c7b0 := beq_iff_eq.mpr c7
        have c7b1 := bne_eq_false_iff_eq.mpr c7
        clear c7
        replace H := Option.bind_eq_some_iff.mp H
        obtain ⟨t172, A80, H⟩ := H
        replace H : (if x4_1.length < 1599289640401 then (markup_normal.l0 k1 (x4_1 ++ [(⟨1, (rd_T35 l0 x12_1).f1, t172, (⟨#[]⟩ : ByteArray), t168⟩ : S35)]) l0 (l0.length : Int) (wrap64 (x12_1 + 1))) else (none)) = some (r1, r2) := H
        have A8 := Aside0.mk A80
        clear A80
        by_cases c9 : x4_1.length < 1599289640401
        ·rw [if_pos c9] at H
         have LMc9 := Aside0.mk c9
         clear c9
         obtain ⟨y175, hy175⟩ : ∃ y_ : List (S35), y_ = (x4_1 ++ [(⟨1, (rd_T35 l0 x12_1).f1, t172, (⟨#[]⟩ : ByteArray), t168⟩ : S35)]) := ⟨_, rfl⟩
         replace H : (markup_normal.l0 k1 y175 l0 (l0.length : Int) (wrap64 (x12_1 + 1))) = some (r1, r2) := by first | (rw [hy175]; with_reducible exact H) | (have H2_ := (Option.bind_some _ _).symm.trans H; rw [hy175]; with_reducible exact H2_) | (have H2_ := (Option.bind_some _ _).symm.trans H; with_reducible exact H2_) | with_reducible exact H | (rw [hy175]; exact H) | exact H
         have Ny175 := Aside0.mk hy175
         clear hy175
         have H' := Aside0.mk H
         clear H
         have p166 : 0 ≤ (x12_1 : Int) := of_decide_eq_true (by first | (with_reducible assumption) | assumption)
         have q166 : x12_1 < (l0.length : Int) := of_decide_eq_true (by first | (with_reducible assumption) | assumption)
         obtain ⟨ad166, A166_2, c166_2, A166_4, c166_4, e166, hx166_0, hx166_1, hx166_2, hx166_3, hx166_4, hl166_2, hi166_2, hl166_4, hi166_4⟩ := at_T35 HR0.out x12_1 p166 q166
         cases e166
         replace hx166_0 := hc_ HB.out hx166_0
         replace hx166_1 := hc_ HB.out hx166_1
         replace hx166_2 := hc_ HB.out hx166_2
         replace hx166_3 := hc_ HB.out hx166_3
         replace hx166_4 := hc_ HB.out hx166_4
         have HR166_2 := Aside0.mk hi166_2
         have HC166_2 := Aside0.mk hl166_2
         clear hi166_2 hl166_2
         have HR166_4 := Aside0.mk hi166_4
         have HC166_4 := Aside0.mk hl166_4
         clear hi166_4 hl166_4
         replace p166 := eq_true p166
         replace q166 := eq_true q166
         try go_wp2_with (first | ((with_reducible refine gate_dst (N := 6) rfl ?_); refine box_event ?hg (N := 6) ?hd (cs := #[.int .i64 0, .string (⟨#[]⟩ : ByteArray), .slice none 0 0, .string (⟨#[]⟩ : ByteArray), .slice none 0 0]) (t := 35) ?hr ?_; (case hd => rfl); (case hg => rfl); (case hr => first | (go_simp; done) | (go_simp; rfl)); intro gb167 hg w10 hbox hb; have n0_ := Aside0.mk (Kd.R_below (Kd.R_elderB (ra_ HO_4.out) gb167 (Nat.le_of_eq hg.symm)) hb); have n1_ := Aside0.mk (below_step hb_ hb); have n2_ := Aside0.mk (hbox); have n3_ := Aside0.mk ((by rw [hg]; exact (below_size hb_) : w.heap.size ≤ gb167)); have n4_ := Aside0.mk ((by rw [hg]; exact (below_size hb_) : w.heap.size ≤ gb167)); clear HO_4; clear HB; have HO_4 := n0_; have HB := n1_; have BK167 := n2_; have GW167 := n3_; have GE167 := n4_; clear n0_ n1_ n2_ n3_ n4_; clear hb hbox hg; obtain ⟨hcz11_0, hcz11_1, hcz11_2, hcz11_3, hcz11_4⟩ := ce5_ BK167.out; obtain ⟨hfz11_0, hfz11_1, hfz11_2, hfz11_3, hfz11_4⟩ := fr5_ BK167.out) | ((with_reducible refine gate_callee (f := 36) rfl ?_); refine goesL_ (some 22) rfl rfl Tryz.func36 (by kernel_rfl) rfl #[.slice A166_4 ((rd_T35 l0 x12_1).f4).length c166_4] rfl rf_ ?_; (with_reducible refine (ih k1 (by have := HK1.out; omega) _ _ ((rd_T35 l0 x12_1).f4) t168 t169 _ ?side1 ?side2 A6.out).mono ?_); (case side1 => exact Kd.C_below HR166_4.out (hb1_ GE167.out)); (case side2 => exact HC166_4.out); rintro e w12 ⟨v170, rfl, ho0, hb⟩; refine ⟨_, rfl, ?_⟩; have n0_ := Aside0.mk (Kd.R_elder' (by (with_reducible repeat (first | apply Kd.R_alloc | apply Kd.R_drewN | apply Kd.R_drew)); exact (Kd.R_mono (Kd.R_far (p := ⟨gb167, 4, none⟩) (Kd.R_far (p := ⟨gb167, 3, none⟩) (Kd.R_far (p := ⟨gb167, 2, none⟩) (Kd.R_far (p := ⟨gb167, 1, none⟩) (Kd.R_far (p := ⟨gb167, 0, none⟩) (Kd.R_mono HO_4.out (fun k_ hk => (⟨hk, hk.2⟩ : _ ∧ k_ ≠ gb167))) (fun _ hk => hk.2) (.int .i64 ((rd_T35 l0 x12_1).f0))) (fun _ hk => hk.2) (.string ((rd_T35 l0 x12_1).f1))) (fun _ hk => hk.2) (.slice A166_2 ((rd_T35 l0 x12_1).f2).length c166_2)) (fun _ hk => hk.2) (.string ((rd_T35 l0 x12_1).f3))) (fun _ hk => hk.2) (.slice A166_4 ((rd_T35 l0 x12_1).f4).length c166_4)) (fun _ h_ => h_.1))) (Kd.R_base ho0) hb); have n1_ := Aside0.mk (Kd.R_lower (Kd.R_newB (Kd.R_new' ho0 (Kd.R_lt (by (with_reducible repeat (first | apply Kd.R_alloc | apply Kd.R_drewN | apply Kd.R_drew)); exact (Kd.R_mono (Kd.R_far (p := ⟨gb167, 4, none⟩) (Kd.R_far (p := ⟨gb167, 3, none⟩) (Kd.R_far (p := ⟨gb167, 2, none⟩) (Kd.R_far (p := ⟨gb167, 1, none⟩) (Kd.R_far (p := ⟨gb167, 0, none⟩) (Kd.R_mono HO_4.out (fun k_ hk => (⟨hk, hk.2⟩ : _ ∧ k_ ≠ gb167))) (fun _ hk => hk.2) (.int .i64 ((rd_T35 l0 x12_1).f0))) (fun _ hk => hk.2) (.string ((rd_T35 l0 x12_1).f1))) (fun _ hk => hk.2) (.slice A166_2 ((rd_T35 l0 x12_1).f2).length c166_2)) (fun _ hk => hk.2) (.string ((rd_T35 l0 x12_1).f3))) (fun _ hk => hk.2) (.slice A166_4 ((rd_T35 l0 x12_1).f4).length c166_4)) (fun _ h_ => h_.1))))) (g := gb167) (o := .cells #[.int .i64 ((rd_T35 l0 x12_1).f0), .string ((rd_T35 l0 x12_1).f1), .slice A166_2 ((rd_T35 l0 x12_1).f2).length c166_2, .string ((rd_T35 l0 x12_1).f3), .slice A166_4 ((rd_T35 l0 x12_1).f4).length c166_4] 35 (0, 0)) (bp_ BK167.out)) (below_size (hb1_ GE167.out))); have n2_ := Aside0.mk (blk_below (g := gb167) (o := .cells #[.int .i64 ((rd_T35 l0 x12_1).f0), .string ((rd_T35 l0 x12_1).f1), .slice A166_2 ((rd_T35 l0 x12_1).f2).length c166_2, .string ((rd_T35 l0 x12_1).f3), .slice A166_4 ((rd_T35 l0 x12_1).f4).length c166_4] 35 (0, 0)) (bp_ BK167.out) hb); have n3_ := Aside0.mk (below_step (hb1_ GE167.out) hb); clear HO_4; clear BK167; clear HB; have HO_4 := n0_; have HO171 := n1_; have BK167 := n2_; have HB := n3_; clear n0_ n1_ n2_ n3_; (try clear hb); (try clear hb2); (try clear hk); (try clear hi); (try clear ho0)))
         have n0_ := Aside0.mk (Kd.R_drew HO_4.out)
         have n1_ := Aside0.mk (Kd.R_drew HO171.out)
         have n2_ := Aside0.mk (blk_drew BK167.out)
         have n3_ := Aside0.mk (below_drew1 HB.out)
         clear HO_4
         clear HO171
         clear BK167
         clear HB
         have HO_4 := n0_
         have HO171 := n1_
         have BK167 := n2_
         have HB := n3_
         clear n0_ n1_ n2_ n3_
         refine start_ (n := 11) (S := fun w' => w'.cell? ⟨gb167, 0, none⟩ = some (.int .i64 ((rd_T35 l0 x12_1).f0)) ∧ w'.cell? ⟨gb167, 1, none⟩ = some (.string ((rd_T35 l0 x12_1).f1)) ∧ w'.cell? ⟨gb167, 2, none⟩ = some (.slice A166_2 ((rd_T35 l0 x12_1).f2).length c166_2) ∧ w'.cell? ⟨gb167, 3, none⟩ = some (.string ((rd_T35 l0 x12_1).f3)) ∧ w'.cell? ⟨gb167, 4, none⟩ = some (.slice A166_4 ((rd_T35 l0 x12_1).f4).length c166_4)) (ds := []) #[false, false, false, false, false, false, false, false, false, false, false] (by kernel_rfl) rfl rfl ⟨(blk_cell BK167.out 0).trans rfl, (blk_cell BK167.out 1).trans rfl, (blk_cell BK167.out 2).trans rfl, (blk_cell BK167.out 3).trans rfl, (blk_cell BK167.out 4).trans rfl⟩ (fun hHeld => ?_); refine with_tabW markup_normal.tab9 markup_normal.bits9 (fun HT_ HW_ => ?_)
         generalize w12.drew = w13 at HO_4 HO171 BK167 HB hHeld ⊢
         refine pu_ 0 (some 28) #[true, false, false, false, false, false, false, false, false, false, false] (any_of HT_.out (by kernel_rfl)) ?_
         refine pu_ 1 (some 29) #[true, true, false, false, false, false, false, false, false, false, false] (any_of HT_.out (by kernel_rfl)) ?_
         refine pu_ 3 (some 31) #[true, true, false, true, false, false, false, false, false, false, false] (any_of HT_.out (by kernel_rfl)) ?_
         refine pu_ 6 (some 34) #[true, true, false, true, false, false, true, false, false, false, false] (any_of HT_.out (by kernel_rfl)) ?_
         refine take_ (i := 2) (N := some 30) (v := ?_) (a' := ?_) #[true, true, true, true, false, false, true, false, false, false, false] rfl rfl (take_ofW HT_.out HW_.out (by kernel_rfl)) (fun _ _ _ h => h) (Or.inl ⟨by rfl, ?_⟩) hHeld ?_ ?_
         rotate_left
         ·rintro w' ⟨s0, s1, s2, s3, s4⟩
          go_simp
          with_reducible rfl
         rotate_left
         ·simp only [Act.put, List.setIfInBounds_toArray, List.set_cons_zero, List.set_cons_succ, i64_w, i32_w]
          rfl
         refine take_ (i := 4) (N := some 32) (v := ?_) (a' := ?_) #[true, true, true, true, true, false, true, false, false, false, false] rfl rfl (take_ofW HT_.out HW_.out (by kernel_rfl)) (fun _ _ _ h => h) (Or.inl ⟨by rfl, ?_⟩) hHeld ?_ ?_
         rotate_left
         ·rintro w' ⟨s0, s1, s2, s3, s4⟩
          go_simp
          with_reducible rfl
         rotate_left
         ·simp only [Act.put, List.setIfInBounds_toArray, List.set_cons_zero, List.set_cons_succ, i64_w, i32_w]
          rfl
         refine one_ (i := 5) (N := some 33) #[true, true, true, true, true, true, true, false, false, false, false] rfl rfl (one_of HT_.out (by kernel_rfl)) (by decide) (fun K hK => ?_)
         refine goes_ Tryz.func56 (by kernel_rfl) rfl #[.slice A166_2 ((rd_T35 l0 x12_1).f2).length c166_2] (by rfl) rfl rfl rf_ ?_
         with_reducible refine (api_Attr_56.calls _ _ ((rd_T35 l0 x12_1).f2) t172 _ ?side1 ?side2 A8.out).mono ?_
         (case side1 => exact sc_ (Kd.C_below HR166_2.out HB.out))
         (case side2 => exact HC166_2.out)
         rintro e w14 ⟨v173, rfl, ho0, hb⟩
         refine ⟨_, rfl, ?_⟩
         replace HO_4 := Aside0.mk (Kd.R_elder' (ra_ HO_4.out) (Kd.R_base ho0) hb)
         replace HO171 := Aside0.mk (Kd.R_elder' (ra_ HO171.out) (Kd.R_base ho0) hb)
         have HO174 := Aside0.mk (Kd.R_lower ho0 (below_size (hb1_ GE167.out)))
         replace BK167 := Aside0.mk (blk_below (g := gb167) (o := .cells #[.int .i64 ((rd_T35 l0 x12_1).f0), .string ((rd_T35 l0 x12_1).f1), .slice A166_2 ((rd_T35 l0 x12_1).f2).length c166_2, .string ((rd_T35 l0 x12_1).f3), .slice A166_4 ((rd_T35 l0 x12_1).f4).length c166_4] 35 (0, 0)) (bk_ BK167.out) hb)
         replace HB := Aside0.mk (below_step (hb1_ GE167.out) hb)
         (try clear hb)
         (try clear hb2)
         (try clear hk)
         (try clear hi)
         (try clear ho0)
         obtain ⟨Ao15, co15, eo15⟩ := Kd.R_slice HO171.out
         (first | subst eo15 | (injection eo15 with f1_ f2_ f3_; have f4_ := f1_.symm; have f5_ := f3_.symm; clear f1_ f2_ f3_; subst f4_; subst f5_))
         obtain ⟨Ao16, co16, eo16⟩ := Kd.R_slice HO174.out
         (first | subst eo16 | (injection eo16 with f1_ f2_ f3_; have f4_ := f1_.symm; have f5_ := f3_.symm; clear f1_ f2_ f3_; subst f4_; subst f5_))
         refine hK.out _ _ ⟨(blk_cell BK167.out 0).trans rfl, (blk_cell BK167.out 1).trans rfl, (blk_cell BK167.out 2).trans rfl, (blk_cell BK167.out 3).trans rfl, (blk_cell BK167.out 4).trans rfl⟩ (fun hHeld => ?_)
         clear hK K
         refine norm_ (a' := ?_) ?_ ?_
         rotate_left
         ·show Act.put _ (some 33) _ = _
          simp only [Act.put, List.setIfInBounds_toArray, List.set_cons_zero, List.set_cons_succ, i64_w, i32_w]
          rfl
         refine pu_ 7 (some 35) #[true, true, true, true, true, true, true, true, false, false, false] (any_of HT_.out (by kernel_rfl)) ?_
         refine one_ (i := 8) (N := some 36) #[true, true, true, true, true, true, true, true, true, false, false] rfl rfl (one_of HT_.out (by kernel_rfl)) (by decide) (fun K hK => ?_)
         refine value_ (w1 := ?_) (v := ?_) (by rfl) rfl ?_ ?_
         rotate_left 2
         ·go_simp
          constructor
          ·rfl
          ·rfl
         refine hK.out _ _ ⟨(blk_cell (blk_alloc BK167.out _) 0).trans rfl, (blk_cell (blk_alloc BK167.out _) 1).trans rfl, (blk_cell (blk_alloc BK167.out _) 2).trans rfl, (blk_cell (blk_alloc BK167.out _) 3).trans rfl, (blk_cell (blk_alloc BK167.out _) 4).trans rfl⟩ (fun hHeld => ?_)
         clear hK K
         refine norm_ (a' := ?_) ?_ ?_
         rotate_left
         ·show Act.put _ (some 36) _ = _
          simp only [Act.put, List.setIfInBounds_toArray, List.set_cons_zero, List.set_cons_succ, i64_w, i32_w]
          rfl
         refine one_ (i := 9) (N := some 37) #[true, true, true, true, true, true, true, true, true, true, false] rfl rfl (one_of HT_.out (by kernel_rfl)) (by decide) (fun K hK => ?_)
         refine Kd.R_append_step k35 (w0 := w) w.heap.size (by rfl) (.tmp 28) (.tmp 36) 22 35 (.agg #[(.int .i64 0), (.string ⟨#[]⟩), (.slice none 0 0), (.string ⟨#[]⟩), (.slice none 0 0)]) 88 rfl Tryz.underlying22 info35 rfl (by decide) (by omega) u4 x4_1 (⟨1, (rd_T35 l0 x12_1).f1, t172, (⟨#[]⟩ : ByteArray), t168⟩ : S35) [.int .i64 1, .string ((rd_T35 l0 x12_1).f1), .slice Ao16 t172.length co16, .string (⟨#[]⟩ : ByteArray), .slice Ao15 t168.length co15] (fun k_ => k_ ≠ gb167) (fun k_ => ((fun k_ => k_ ≠ gb167)) k_ ∧ some k_ ≠ (u4 : Value).ownBlock) rfl rfl ?aP (fun _ hk => hk) ?aF ?aO ?aB ?aS ?aL ?_
         (case aP => exact k35_mkM _ _ _ (⟨1, (rd_T35 l0 x12_1).f1, t172, (⟨#[]⟩ : ByteArray), t168⟩ : S35) (Kd.R_mono (Kd.R_types (Kd.R_apart' (HO174.out) (Kd.R_typed HO_4.out) (by decide)) BK167.out (by decide)) (fun k_ hk => ⟨hk.2, hk.1.2⟩)) (Kd.R_mono (HO171.out) (fun k_ hk => ⟨hk.1.2, hk.1.1.2⟩)))
         (case aB => exact (hb1_ GE167.out))
         (case aF => exact (fun k_ hk => Kd.freshB (g := gb167) (o := .cells #[.int .i64 ((rd_T35 l0 x12_1).f0), .string ((rd_T35 l0 x12_1).f1), .slice A166_2 ((rd_T35 l0 x12_1).f2).length c166_2, .string ((rd_T35 l0 x12_1).f3), .slice A166_4 ((rd_T35 l0 x12_1).f4).length c166_4] 35 (0, 0)) (bk_ BK167.out) k_ hk))
         (case aO => exact (by (with_reducible repeat (first | apply Kd.R_alloc | apply Kd.R_drewN | apply Kd.R_drew)); exact Kd.R_mono HO_4.out (fun _ hk => hk.1.1.2)))
         (case aS => exact (below_size (hb1_ GE167.out)))
         (case aL => have := LMc9.out; omega)
         intro v176 w17 ho hb hg hat
         rw [← Ny175.out] at ho
         replace BK167 := Aside0.mk (blk_grown (g := gb167) (o := .cells #[.int .i64 ((rd_T35 l0 x12_1).f0), .string ((rd_T35 l0 x12_1).f1), .slice A166_2 ((rd_T35 l0 x12_1).f2).length c166_2, .string ((rd_T35 l0 x12_1).f3), .slice A166_4 ((rd_T35 l0 x12_1).f4).length c166_4] 35 (0, 0)) (bk_ BK167.out) hg (Kd.R_away HO_4.out (fun _ hk => hk.1.1.2)))
         replace HB := Aside0.mk (hb)
         have HO177 := Aside0.mk (ho)
         clear HO_4 HO171 HO174
         clear ho hb hg hat
         refine hK.out _ _ ⟨(blk_cell BK167.out 0).trans rfl, (blk_cell BK167.out 1).trans rfl, (blk_cell BK167.out 2).trans rfl, (blk_cell BK167.out 3).trans rfl, (blk_cell BK167.out 4).trans rfl⟩ (fun hHeld => ?_)
         clear hK K
         refine norm_ (a' := ?_) ?_ ?_
         rotate_left
         ·show Act.put _ (some 37) _ = _
          simp only [Act.put, List.setIfInBounds_toArray, List.set_cons_zero, List.set_cons_succ, i64_w, i32_w]
          rfl
         refine pu_ 10 (some 4) #[true, true, true, true, true, true, true, true, true, true, true] (any_of HT_.out (by kernel_rfl)) ?_
         refine done_ (done_of HT_.out (by kernel_rfl)) ?_
         try go_wp2
         go_roundg k1
         case measure => have := HK1.out; omega
         case rel => exact ⟨(y175), (wrap64 (x12_1 + 1)), (by first | rfl | (simp; done) | (simp [*]; done)), H', ⟨by have := HK1.out; omega⟩, ⟨by (with_reducible repeat (first | apply Kd.R_alloc | apply Kd.R_drewN | apply Kd.R_drew)); exact Kd.R_mono HO177.out (fun _ hk => trivial)⟩, ⟨hb1_ GE167.out⟩⟩
        ·rw [if_neg c9] at H
         exact absurd H (by simp)
       ·rw [if_neg c7] at H
        have c7b0 := beq_eq_false_iff_ne.mpr c7
        have c7b1 := bne_iff_ne.mpr c7
        simp only [Option.some.injEq, Prod.mk.injEq] at H
        obtain ⟨rfl, rfl⟩ := H
        have p166 : 0 ≤ (x12_1 : Int) := of_decide_eq_true (by first | (with_reducible assumption) | assumption)
        have q166 : x12_1 < (l0.length : Int) := of_decide_eq_true (by first | (with_reducible assumption) | assumption)
        obtain ⟨ad166, A166_2, c166_2, A166_4, c166_4, e166, hx166_0, hx166_1, hx166_2, hx166_3, hx166_4, hl166_2, hi166_2, hl166_4, hi166_4⟩ := at_T35 HR0.out x12_1 p166 q166
        cases e166
        replace hx166_0 := hc_ HB.out hx166_0
        replace hx166_1 := hc_ HB.out hx166_1
        replace hx166_2 := hc_ HB.out hx166_2
        replace hx166_3 := hc_ HB.out hx166_3
        replace hx166_4 := hc_ HB.out hx166_4
        have HR166_2 := Aside0.mk hi166_2
        have HC166_2 := Aside0.mk hl166_2
        clear hi166_2 hl166_2
        have HR166_4 := Aside0.mk hi166_4
        have HC166_4 := Aside0.mk hl166_4
        clear hi166_4 hl166_4
        replace p166 := eq_true p166
        replace q166 := eq_true q166
        go_wp2_with (first | ((with_reducible refine gate_dst (N := 6) rfl ?_); refine box_event ?hg (N := 6) ?hd (cs := #[.int .i64 0, .string (⟨#[]⟩ : ByteArray), .slice none 0 0, .string (⟨#[]⟩ : ByteArray), .slice none 0 0]) (t := 35) ?hr ?_; (case hd => rfl); (case hg => rfl); (case hr => first | (go_simp; done) | (go_simp; rfl)); intro gb167 hg w18 hbox hb; have n0_ := Aside0.mk (Kd.R_below (Kd.R_elderB (ra_ HO_4.out) gb167 (Nat.le_of_eq hg.symm)) hb); have n1_ := Aside0.mk (below_step hb_ hb); have n2_ := Aside0.mk (hbox); have n3_ := Aside0.mk ((by rw [hg]; exact (below_size hb_) : w.heap.size ≤ gb167)); have n4_ := Aside0.mk ((by rw [hg]; exact (below_size hb_) : w.heap.size ≤ gb167)); clear HO_4; clear HB; have HO_4 := n0_; have HB := n1_; have BK167 := n2_; have GW167 := n3_; have GE167 := n4_; clear n0_ n1_ n2_ n3_ n4_; clear hb hbox hg; obtain ⟨hcz19_0, hcz19_1, hcz19_2, hcz19_3, hcz19_4⟩ := ce5_ BK167.out; obtain ⟨hfz19_0, hfz19_1, hfz19_2, hfz19_3, hfz19_4⟩ := fr5_ BK167.out) | ((with_reducible refine gate_callee (f := 36) rfl ?_); refine goesL_ (some 22) rfl rfl Tryz.func36 (by kernel_rfl) rfl #[.slice A166_4 ((rd_T35 l0 x12_1).f4).length c166_4] rfl rf_ ?_; (with_reducible refine (ih k1 (by have := HK1.out; omega) _ _ ((rd_T35 l0 x12_1).f4) t168 t169 _ ?side1 ?side2 A6.out).mono ?_); (case side1 => exact Kd.C_below HR166_4.out (hb1_ GE167.out)); (case side2 => exact HC166_4.out); rintro e w20 ⟨v170, rfl, ho0, hb⟩; refine ⟨_, rfl, ?_⟩; have n0_ := Aside0.mk (Kd.R_elder' (by (with_reducible repeat (first | apply Kd.R_alloc | apply Kd.R_drewN | apply Kd.R_drew)); exact (Kd.R_mono (Kd.R_far (p := ⟨gb167, 4, none⟩) (Kd.R_far (p := ⟨gb167, 3, none⟩) (Kd.R_far (p := ⟨gb167, 2, none⟩) (Kd.R_far (p := ⟨gb167, 1, none⟩) (Kd.R_far (p := ⟨gb167, 0, none⟩) (Kd.R_mono HO_4.out (fun k_ hk => (⟨hk, hk.2⟩ : _ ∧ k_ ≠ gb167))) (fun _ hk => hk.2) (.int .i64 ((rd_T35 l0 x12_1).f0))) (fun _ hk => hk.2) (.string ((rd_T35 l0 x12_1).f1))) (fun _ hk => hk.2) (.slice A166_2 ((rd_T35 l0 x12_1).f2).length c166_2)) (fun _ hk => hk.2) (.string ((rd_T35 l0 x12_1).f3))) (fun _ hk => hk.2) (.slice A166_4 ((rd_T35 l0 x12_1).f4).length c166_4)) (fun _ h_ => h_.1))) (Kd.R_base ho0) hb); have n1_ := Aside0.mk (Kd.R_lower (Kd.R_newB (Kd.R_new' ho0 (Kd.R_lt (by (with_reducible repeat (first | apply Kd.R_alloc | apply Kd.R_drewN | apply Kd.R_drew)); exact (Kd.R_mono (Kd.R_far (p := ⟨gb167, 4, none⟩) (Kd.R_far (p := ⟨gb167, 3, none⟩) (Kd.R_far (p := ⟨gb167, 2, none⟩) (Kd.R_far (p := ⟨gb167, 1, none⟩) (Kd.R_far (p := ⟨gb167, 0, none⟩) (Kd.R_mono HO_4.out (fun k_ hk => (⟨hk, hk.2⟩ : _ ∧ k_ ≠ gb167))) (fun _ hk => hk.2) (.int .i64 ((rd_T35 l0 x12_1).f0))) (fun _ hk => hk.2) (.string ((rd_T35 l0 x12_1).f1))) (fun _ hk => hk.2) (.slice A166_2 ((rd_T35 l0 x12_1).f2).length c166_2)) (fun _ hk => hk.2) (.string ((rd_T35 l0 x12_1).f3))) (fun _ hk => hk.2) (.slice A166_4 ((rd_T35 l0 x12_1).f4).length c166_4)) (fun _ h_ => h_.1))))) (g := gb167) (o := .cells #[.int .i64 ((rd_T35 l0 x12_1).f0), .string ((rd_T35 l0 x12_1).f1), .slice A166_2 ((rd_T35 l0 x12_1).f2).length c166_2, .string ((rd_T35 l0 x12_1).f3), .slice A166_4 ((rd_T35 l0 x12_1).f4).length c166_4] 35 (0, 0)) (bp_ BK167.out)) (below_size (hb1_ GE167.out))); have n2_ := Aside0.mk (blk_below (g := gb167) (o := .cells #[.int .i64 ((rd_T35 l0 x12_1).f0), .string ((rd_T35 l0 x12_1).f1), .slice A166_2 ((rd_T35 l0 x12_1).f2).length c166_2, .string ((rd_T35 l0 x12_1).f3), .slice A166_4 ((rd_T35 l0 x12_1).f4).length c166_4] 35 (0, 0)) (bp_ BK167.out) hb); have n3_ := Aside0.mk (below_step (hb1_ GE167.out) hb); clear HO_4; clear BK167; clear HB; have HO_4 := n0_; have HO171 := n1_; have BK167 := n2_; have HB := n3_; clear n0_ n1_ n2_ n3_; (try clear hb); (try clear hb2); (try clear hk); (try clear hi); (try clear ho0)))
        go_ret2
        exact ⟨_, er_, by first | exact Kd.R_nil _ _ _ _ _ | exact Kd.N_nil _ _ _ _ _ | exact Kd.V_nil _ _ _ _ _ | exact Kd.Q_nil _ _ _ _ _ | exact Kd.S_nil _ _ _ _ _, hb1_ GE167.out⟩
      ·rw [if_neg c5] at H
       have c5b0 := beq_eq_false_iff_ne.mpr c5
       have c5b1 := bne_iff_ne.mpr c5
       by_cases c21 : ((rd_T35 l0 x12_1).f3).toList = ([] : List UInt8)
       ·rw [if_pos c21] at H
        have c21b0 := beq_iff_eq.mpr c21
        have c21b1 := bne_eq_false_iff_eq.mpr c21
        clear c21
        have H' := Aside0.mk H
        clear H
        have p166 : 0 ≤ (x12_1 : Int) := of_decide_eq_true (by first | (with_reducible assumption) | assumption)
        have q166 : x12_1 < (l0.length : Int) := of_decide_eq_true (by first | (with_reducible assumption) | assumption)
        obtain ⟨ad166, A166_2, c166_2, A166_4, c166_4, e166, hx166_0, hx166_1, hx166_2, hx166_3, hx166_4, hl166_2, hi166_2, hl166_4, hi166_4⟩ := at_T35 HR0.out x12_1 p166 q166
        cases e166
        replace hx166_0 := hc_ HB.out hx166_0
        replace hx166_1 := hc_ HB.out hx166_1
        replace hx166_2 := hc_ HB.out hx166_2
        replace hx166_3 := hc_ HB.out hx166_3
        replace hx166_4 := hc_ HB.out hx166_4
        have HR166_2 := Aside0.mk hi166_2
        have HC166_2 := Aside0.mk hl166_2
        clear hi166_2 hl166_2
        have HR166_4 := Aside0.mk hi166_4
        have HC166_4 := Aside0.mk hl166_4
        clear hi166_4 hl166_4
        replace p166 := eq_true p166
        replace q166 := eq_true q166
        go_wp2_with (first | ((with_reducible refine gate_dst (N := 6) rfl ?_); refine box_event ?hg (N := 6) ?hd (cs := #[.int .i64 0, .string (⟨#[]⟩ : ByteArray), .slice none 0 0, .string (⟨#[]⟩ : ByteArray), .slice none 0 0]) (t := 35) ?hr ?_; (case hd => rfl); (case hg => rfl); (case hr => first | (go_simp; done) | (go_simp; rfl)); intro gb167 hg w22 hbox hb; have n0_ := Aside0.mk (Kd.R_below (Kd.R_elderB (ra_ HO_4.out) gb167 (Nat.le_of_eq hg.symm)) hb); have n1_ := Aside0.mk (below_step hb_ hb); have n2_ := Aside0.mk (hbox); have n3_ := Aside0.mk ((by rw [hg]; exact (below_size hb_) : w.heap.size ≤ gb167)); have n4_ := Aside0.mk ((by rw [hg]; exact (below_size hb_) : w.heap.size ≤ gb167)); clear HO_4; clear HB; have HO_4 := n0_; have HB := n1_; have BK167 := n2_; have GW167 := n3_; have GE167 := n4_; clear n0_ n1_ n2_ n3_ n4_; clear hb hbox hg; obtain ⟨hcz23_0, hcz23_1, hcz23_2, hcz23_3, hcz23_4⟩ := ce5_ BK167.out; obtain ⟨hfz23_0, hfz23_1, hfz23_2, hfz23_3, hfz23_4⟩ := fr5_ BK167.out))
        go_roundg k1
        case measure => have := HK1.out; omega
        case rel => exact ⟨(x4_1), (wrap64 (x12_1 + 1)), (by first | rfl | (simp; done) | (simp [*]; done)), H', ⟨by have := HK1.out; omega⟩, ⟨rm_ (Kd.R_mono HO_4.out (fun k_ hk => (⟨hk, hk.2⟩ : _ ∧ k_ ≠ gb167))) (fun _ hk => hk.2)⟩, ⟨hb1_ GE167.out⟩⟩
       ·rw [if_neg c21] at H
        have c21b0 := beq_eq_false_iff_ne.mpr c21
        have c21b1 := bne_iff_ne.mpr c21
        have HC24 := Aside0.mk H
        clear H
        have p166 : 0 ≤ (x12_1 : Int) := of_decide_eq_true (by first | (with_reducible assumption) | assumption)
        have q166 : x12_1 < (l0.length : Int) := of_decide_eq_true (by first | (with_reducible assumption) | assumption)
        obtain ⟨ad166, A166_2, c166_2, A166_4, c166_4, e166, hx166_0, hx166_1, hx166_2, hx166_3, hx166_4, hl166_2, hi166_2, hl166_4, hi166_4⟩ := at_T35 HR0.out x12_1 p166 q166
        cases e166
        replace hx166_0 := hc_ HB.out hx166_0
        replace hx166_1 := hc_ HB.out hx166_1
        replace hx166_2 := hc_ HB.out hx166_2
        replace hx166_3 := hc_ HB.out hx166_3
        replace hx166_4 := hc_ HB.out hx166_4
        have HR166_2 := Aside0.mk hi166_2
        have HC166_2 := Aside0.mk hl166_2
        clear hi166_2 hl166_2
        have HR166_4 := Aside0.mk hi166_4
        have HC166_4 := Aside0.mk hl166_4
        clear hi166_4 hl166_4
        replace p166 := eq_true p166
        replace q166 := eq_true q166
        go_upto_region 12 with (first | ((with_reducible refine gate_dst (N := 6) rfl ?_); refine box_event ?hg (N := 6) ?hd (cs := #[.int .i64 0, .string (⟨#[]⟩ : ByteArray), .slice none 0 0, .string (⟨#[]⟩ : ByteArray), .slice none 0 0]) (t := 35) ?hr ?_; (case hd => rfl); (case hg => rfl); (case hr => first | (go_simp; done) | (go_simp; rfl)); intro gb167 hg w25 hbox hb; have n0_ := Aside0.mk (Kd.R_below (Kd.R_elderB (ra_ HO_4.out) gb167 (Nat.le_of_eq hg.symm)) hb); have n1_ := Aside0.mk (below_step hb_ hb); have n2_ := Aside0.mk (hbox); have n3_ := Aside0.mk ((by rw [hg]; exact (below_size hb_) : w.heap.size ≤ gb167)); have n4_ := Aside0.mk ((by rw [hg]; exact (below_size hb_) : w.heap.size ≤ gb167)); clear HO_4; clear HB; have HO_4 := n0_; have HB := n1_; have BK167 := n2_; have GW167 := n3_; have GE167 := n4_; clear n0_ n1_ n2_ n3_ n4_; clear hb hbox hg; obtain ⟨hcz26_0, hcz26_1, hcz26_2, hcz26_3, hcz26_4⟩ := ce5_ BK167.out; obtain ⟨hfz26_0, hfz26_1, hfz26_2, hfz26_3, hfz26_4⟩ := fr5_ BK167.out; obtain ⟨Ao27, co27, eo27⟩ := Kd.R_slice HO_4.out; subst eo27))
        (try simp only [Act.put, List.setIfInBounds_toArray, List.set_cons_zero, List.set_cons_succ])
        go_cut [53] (fun v53 wc => ∃ (kq : Nat) (x53_23 : Bool), v53 = .bool x53_23 ∧ Aside0 (markup_normal.j1 kq x4_1 (wrap64 ((x4_1.length : Int) - 1)) l0 (l0.length : Int) x12_1 x53_23 ((rd_T35 l0 x12_1).f0) ((rd_T35 l0 x12_1).f1) ((rd_T35 l0 x12_1).f2) ((rd_T35 l0 x12_1).f3) ((rd_T35 l0 x12_1).f4) = some (r1, r2)) ∧ Aside0 (kq ≤ k1) ∧ Aside0 (Kd.R k35 35 wc w.heap.size (fun k_ => k_ ≠ gb167) (.slice Ao27 x4_1.length co27) x4_1) ∧ Aside0 (wc.heap[gb167]? = some (.cells #[.int .i64 ((rd_T35 l0 x12_1).f0), .string ((rd_T35 l0 x12_1).f1), (.slice A166_2 ((rd_T35 l0 x12_1).f2).length c166_2), .string ((rd_T35 l0 x12_1).f3), (.slice A166_4 ((rd_T35 l0 x12_1).f4).length c166_4)] 35 (0, 0))) ∧ Aside0 (Below w.heap.size w wc))
        case first =>
         have H := HC24.out
         clear HC24
         by_cases c28 : (wrap64 ((x4_1.length : Int) - 1)) < 0
         ·rw [if_pos c28] at H
          have c28b0 : decide ((wrap64 ((x4_1.length : Int) - 1)) < 0) = true := decide_eq_true c28
          clear c28
          (first | rw [c28b0] | (simp only [i64_w, i32_w]; rw [c28b0]) | skip)
          have H' := Aside0.mk H
          clear H
          go_wp2
          go_meet
          case rel => exact ⟨_, (true), (by first | rfl | (simp; done) | (simp [*]; done)), H', ⟨by have := HK1.out; first | omega | exact Nat.le_refl _⟩, ⟨by (with_reducible repeat (first | apply Kd.R_alloc | apply Kd.R_drewN | apply Kd.R_drew)); exact Kd.R_mono (Kd.R_far (p := ⟨gb167, 4, none⟩) (Kd.R_far (p := ⟨gb167, 3, none⟩) (Kd.R_far (p := ⟨gb167, 2, none⟩) (Kd.R_far (p := ⟨gb167, 1, none⟩) (Kd.R_far (p := ⟨gb167, 0, none⟩) (Kd.R_mono HO_4.out (fun k_ hk => (⟨hk, hk.2⟩ : _ ∧ k_ ≠ gb167))) (fun _ hk => hk.2) (.int .i64 ((rd_T35 l0 x12_1).f0))) (fun _ hk => hk.2) (.string ((rd_T35 l0 x12_1).f1))) (fun _ hk => hk.2) (.slice A166_2 ((rd_T35 l0 x12_1).f2).length c166_2)) (fun _ hk => hk.2) (.string ((rd_T35 l0 x12_1).f3))) (fun _ hk => hk.2) (.slice A166_4 ((rd_T35 l0 x12_1).f4).length c166_4)) (fun _ hk => hk.1.2)⟩, ⟨by (with_reducible repeat (first | refine blk_drewN ?_ _ | refine blk_drew ?_ | refine blk_alloc ?_ _)); refine blk_put (cs := #[.int .i64 ((rd_T35 l0 x12_1).f0), .string ((rd_T35 l0 x12_1).f1), .slice A166_2 ((rd_T35 l0 x12_1).f2).length c166_2, .string ((rd_T35 l0 x12_1).f3), .slice none 0 0]) ?_ 4 _ rfl; (with_reducible repeat (first | refine blk_drewN ?_ _ | refine blk_drew ?_ | refine blk_alloc ?_ _)); refine blk_put (cs := #[.int .i64 ((rd_T35 l0 x12_1).f0), .string ((rd_T35 l0 x12_1).f1), .slice A166_2 ((rd_T35 l0 x12_1).f2).length c166_2, .string (⟨#[]⟩ : ByteArray), .slice none 0 0]) ?_ 3 _ rfl; (with_reducible repeat (first | refine blk_drewN ?_ _ | refine blk_drew ?_ | refine blk_alloc ?_ _)); refine blk_put (cs := #[.int .i64 ((rd_T35 l0 x12_1).f0), .string ((rd_T35 l0 x12_1).f1), .slice none 0 0, .string (⟨#[]⟩ : ByteArray), .slice none 0 0]) ?_ 2 _ rfl; (with_reducible repeat (first | refine blk_drewN ?_ _ | refine blk_drew ?_ | refine blk_alloc ?_ _)); refine blk_put (cs := #[.int .i64 ((rd_T35 l0 x12_1).f0), .string (⟨#[]⟩ : ByteArray), .slice none 0 0, .string (⟨#[]⟩ : ByteArray), .slice none 0 0]) ?_ 1 _ rfl; (with_reducible repeat (first | refine blk_drewN ?_ _ | refine blk_drew ?_ | refine blk_alloc ?_ _)); refine blk_put (cs := #[.int .i64 0, .string (⟨#[]⟩ : ByteArray), .slice none 0 0, .string (⟨#[]⟩ : ByteArray), .slice none 0 0]) ?_ 0 _ rfl; (with_reducible repeat (first | refine blk_drewN ?_ _ | refine blk_drew ?_ | refine blk_alloc ?_ _)); exact BK167.out⟩, ⟨hb1_ GE167.out⟩⟩
         ·rw [if_neg c28] at H
          have c28b0 : decide ((wrap64 ((x4_1.length : Int) - 1)) < 0) = false := decide_eq_false c28
          clear c28
          (first | rw [c28b0] | (simp only [i64_w, i32_w]; rw [c28b0]) | skip)
          obtain ⟨ji29, hji29⟩ : ∃ j_ : Int, (wrap64 ((x4_1.length : Int) - 1)) = j_ := ⟨_, rfl⟩
          replace H : (if 0 ≤ (ji29) then (if (ji29) < (x4_1.length : Int) then (markup_normal.j1 k1 x4_1 ji29 l0 (l0.length : Int) x12_1 (((rd_T35 x4_1 (ji29)).f0) != 2) ((rd_T35 l0 x12_1).f0) ((rd_T35 l0 x12_1).f1) ((rd_T35 l0 x12_1).f2) ((rd_T35 l0 x12_1).f3) ((rd_T35 l0 x12_1).f4)) else (none)) else (none)) = some (r1, r2) := by first | (rw [hji29] at H; exact H) | (simp only [hji29] at H ⊢; exact H)
          (try rw [hji29] at c28b0)
          have hji29w : (IntKind.i64.wrap ((x4_1.length : Int) - 1)) = ji29 := (i64_w _).trans hji29
          by_cases c30 : 0 ≤ (ji29)
          ·rw [if_pos c30] at H
           have c30b0 : decide (0 ≤ (ji29)) = true := decide_eq_true c30
           clear c30
           by_cases c31 : (ji29) < (x4_1.length : Int)
           ·rw [if_pos c31] at H
            have c31b0 : decide ((ji29) < (x4_1.length : Int)) = true := decide_eq_true c31
            clear c31
            have H' := Aside0.mk H
            clear H
            have p178 : 0 ≤ ((ji29) : Int) := of_decide_eq_true (by first | (with_reducible assumption) | assumption)
            have q178 : (ji29) < (x4_1.length : Int) := of_decide_eq_true (by first | (with_reducible assumption) | assumption)
            obtain ⟨ad178, A178_2, c178_2, A178_4, c178_4, e178, hx178_0, hx178_1, hx178_2, hx178_3, hx178_4, hl178_2, hi178_2, hl178_4, hi178_4⟩ := at_T35 (Kd.R_reads' HO_4.out).2.2 (ji29) p178 q178
            cases e178
            have hn178_0 : ad178.block ≠ gb167 := (fun e_ => (HO_4.out.1 _ rfl).2 e_)
            have hn178_1 : ad178.block ≠ gb167 := (fun e_ => (HO_4.out.1 _ rfl).2 e_)
            have hn178_2 : ad178.block ≠ gb167 := (fun e_ => (HO_4.out.1 _ rfl).2 e_)
            have hn178_3 : ad178.block ≠ gb167 := (fun e_ => (HO_4.out.1 _ rfl).2 e_)
            have hn178_4 : ad178.block ≠ gb167 := (fun e_ => (HO_4.out.1 _ rfl).2 e_)
            have HR178_2 := Aside0.mk hi178_2
            have HC178_2 := Aside0.mk hl178_2
            clear hi178_2 hl178_2
            have HR178_4 := Aside0.mk hi178_4
            have HC178_4 := Aside0.mk hl178_4
            clear hi178_4 hl178_4
            replace hx178_0 := (cell_far (p := ⟨gb167, 0, none⟩) (by first | (rw [add_block]; exact hn178_0) | (show (Addr.add _ _).block ≠ _; rw [add_block]; exact hn178_0) | exact hn178_0) (.int .i64 ((rd_T35 l0 x12_1).f0))).trans hx178_0
            replace hx178_1 := (cell_far (p := ⟨gb167, 0, none⟩) (by first | (rw [add_block]; exact hn178_0) | (show (Addr.add _ _).block ≠ _; rw [add_block]; exact hn178_0) | exact hn178_0) (.int .i64 ((rd_T35 l0 x12_1).f0))).trans hx178_1
            replace hx178_2 := (cell_far (p := ⟨gb167, 0, none⟩) (by first | (rw [add_block]; exact hn178_0) | (show (Addr.add _ _).block ≠ _; rw [add_block]; exact hn178_0) | exact hn178_0) (.int .i64 ((rd_T35 l0 x12_1).f0))).trans hx178_2
            replace hx178_3 := (cell_far (p := ⟨gb167, 0, none⟩) (by first | (rw [add_block]; exact hn178_0) | (show (Addr.add _ _).block ≠ _; rw [add_block]; exact hn178_0) | exact hn178_0) (.int .i64 ((rd_T35 l0 x12_1).f0))).trans hx178_3
            replace hx178_4 := (cell_far (p := ⟨gb167, 0, none⟩) (by first | (rw [add_block]; exact hn178_0) | (show (Addr.add _ _).block ≠ _; rw [add_block]; exact hn178_0) | exact hn178_0) (.int .i64 ((rd_T35 l0 x12_1).f0))).trans hx178_4
            replace hx178_0 := (cell_far (p := ⟨gb167, 1, none⟩) (by first | (rw [add_block]; exact hn178_1) | (show (Addr.add _ _).block ≠ _; rw [add_block]; exact hn178_1) | exact hn178_1) (.string ((rd_T35 l0 x12_1).f1))).trans hx178_0
            replace hx178_1 := (cell_far (p := ⟨gb167, 1, none⟩) (by first | (rw [add_block]; exact hn178_1) | (show (Addr.add _ _).block ≠ _; rw [add_block]; exact hn178_1) | exact hn178_1) (.string ((rd_T35 l0 x12_1).f1))).trans hx178_1
            replace hx178_2 := (cell_far (p := ⟨gb167, 1, none⟩) (by first | (rw [add_block]; exact hn178_1) | (show (Addr.add _ _).block ≠ _; rw [add_block]; exact hn178_1) | exact hn178_1) (.string ((rd_T35 l0 x12_1).f1))).trans hx178_2
            replace hx178_3 := (cell_far (p := ⟨gb167, 1, none⟩) (by first | (rw [add_block]; exact hn178_1) | (show (Addr.add _ _).block ≠ _; rw [add_block]; exact hn178_1) | exact hn178_1) (.string ((rd_T35 l0 x12_1).f1))).trans hx178_3
            replace hx178_4 := (cell_far (p := ⟨gb167, 1, none⟩) (by first | (rw [add_block]; exact hn178_1) | (show (Addr.add _ _).block ≠ _; rw [add_block]; exact hn178_1) | exact hn178_1) (.string ((rd_T35 l0 x12_1).f1))).trans hx178_4
            replace hx178_0 := (cell_far (p := ⟨gb167, 2, none⟩) (by first | (rw [add_block]; exact hn178_2) | (show (Addr.add _ _).block ≠ _; rw [add_block]; exact hn178_2) | exact hn178_2) (.slice A166_2 ((rd_T35 l0 x12_1).f2).length c166_2)).trans hx178_0
            replace hx178_1 := (cell_far (p := ⟨gb167, 2, none⟩) (by first | (rw [add_block]; exact hn178_2) | (show (Addr.add _ _).block ≠ _; rw [add_block]; exact hn178_2) | exact hn178_2) (.slice A166_2 ((rd_T35 l0 x12_1).f2).length c166_2)).trans hx178_1
            replace hx178_2 := (cell_far (p := ⟨gb167, 2, none⟩) (by first | (rw [add_block]; exact hn178_2) | (show (Addr.add _ _).block ≠ _; rw [add_block]; exact hn178_2) | exact hn178_2) (.slice A166_2 ((rd_T35 l0 x12_1).f2).length c166_2)).trans hx178_2
            replace hx178_3 := (cell_far (p := ⟨gb167, 2, none⟩) (by first | (rw [add_block]; exact hn178_2) | (show (Addr.add _ _).block ≠ _; rw [add_block]; exact hn178_2) | exact hn178_2) (.slice A166_2 ((rd_T35 l0 x12_1).f2).length c166_2)).trans hx178_3
            replace hx178_4 := (cell_far (p := ⟨gb167, 2, none⟩) (by first | (rw [add_block]; exact hn178_2) | (show (Addr.add _ _).block ≠ _; rw [add_block]; exact hn178_2) | exact hn178_2) (.slice A166_2 ((rd_T35 l0 x12_1).f2).length c166_2)).trans hx178_4
            replace hx178_0 := (cell_far (p := ⟨gb167, 3, none⟩) (by first | (rw [add_block]; exact hn178_3) | (show (Addr.add _ _).block ≠ _; rw [add_block]; exact hn178_3) | exact hn178_3) (.string ((rd_T35 l0 x12_1).f3))).trans hx178_0
            replace hx178_1 := (cell_far (p := ⟨gb167, 3, none⟩) (by first | (rw [add_block]; exact hn178_3) | (show (Addr.add _ _).block ≠ _; rw [add_block]; exact hn178_3) | exact hn178_3) (.string ((rd_T35 l0 x12_1).f3))).trans hx178_1
            replace hx178_2 := (cell_far (p := ⟨gb167, 3, none⟩) (by first | (rw [add_block]; exact hn178_3) | (show (Addr.add _ _).block ≠ _; rw [add_block]; exact hn178_3) | exact hn178_3) (.string ((rd_T35 l0 x12_1).f3))).trans hx178_2
            replace hx178_3 := (cell_far (p := ⟨gb167, 3, none⟩) (by first | (rw [add_block]; exact hn178_3) | (show (Addr.add _ _).block ≠ _; rw [add_block]; exact hn178_3) | exact hn178_3) (.string ((rd_T35 l0 x12_1).f3))).trans hx178_3
            replace hx178_4 := (cell_far (p := ⟨gb167, 3, none⟩) (by first | (rw [add_block]; exact hn178_3) | (show (Addr.add _ _).block ≠ _; rw [add_block]; exact hn178_3) | exact hn178_3) (.string ((rd_T35 l0 x12_1).f3))).trans hx178_4
            replace hx178_0 := (cell_far (p := ⟨gb167, 4, none⟩) (by first | (rw [add_block]; exact hn178_4) | (show (Addr.add _ _).block ≠ _; rw [add_block]; exact hn178_4) | exact hn178_4) (.slice A166_4 ((rd_T35 l0 x12_1).f4).length c166_4)).trans hx178_0
            replace hx178_1 := (cell_far (p := ⟨gb167, 4, none⟩) (by first | (rw [add_block]; exact hn178_4) | (show (Addr.add _ _).block ≠ _; rw [add_block]; exact hn178_4) | exact hn178_4) (.slice A166_4 ((rd_T35 l0 x12_1).f4).length c166_4)).trans hx178_1
            replace hx178_2 := (cell_far (p := ⟨gb167, 4, none⟩) (by first | (rw [add_block]; exact hn178_4) | (show (Addr.add _ _).block ≠ _; rw [add_block]; exact hn178_4) | exact hn178_4) (.slice A166_4 ((rd_T35 l0 x12_1).f4).length c166_4)).trans hx178_2
            replace hx178_3 := (cell_far (p := ⟨gb167, 4, none⟩) (by first | (rw [add_block]; exact hn178_4) | (show (Addr.add _ _).block ≠ _; rw [add_block]; exact hn178_4) | exact hn178_4) (.slice A166_4 ((rd_T35 l0 x12_1).f4).length c166_4)).trans hx178_3
            replace hx178_4 := (cell_far (p := ⟨gb167, 4, none⟩) (by first | (rw [add_block]; exact hn178_4) | (show (Addr.add _ _).block ≠ _; rw [add_block]; exact hn178_4) | exact hn178_4) (.slice A166_4 ((rd_T35 l0 x12_1).f4).length c166_4)).trans hx178_4
            clear hn178_0
            clear hn178_1
            clear hn178_2
            clear hn178_3
            clear hn178_4
            replace p178 := eq_true p178
            replace q178 := eq_true q178
            go_wp2
            go_meet
            case rel => exact ⟨_, ((((rd_T35 x4_1 (ji29)).f0) != 2)), (by first | rfl | (simp; done) | (simp only [← hji29] <;> (first | rfl | simp)) | (simp [*]; done)), ⟨by have e_ := H'.out; first | exact e_ | (rw [hji29]; exact e_)⟩, ⟨by have := HK1.out; first | omega | exact Nat.le_refl _⟩, ⟨by (with_reducible repeat (first | apply Kd.R_alloc | apply Kd.R_drewN | apply Kd.R_drew)); exact Kd.R_mono (Kd.R_far (p := ⟨gb167, 4, none⟩) (Kd.R_far (p := ⟨gb167, 3, none⟩) (Kd.R_far (p := ⟨gb167, 2, none⟩) (Kd.R_far (p := ⟨gb167, 1, none⟩) (Kd.R_far (p := ⟨gb167, 0, none⟩) (Kd.R_mono HO_4.out (fun k_ hk => (⟨hk, hk.2⟩ : _ ∧ k_ ≠ gb167))) (fun _ hk => hk.2) (.int .i64 ((rd_T35 l0 x12_1).f0))) (fun _ hk => hk.2) (.string ((rd_T35 l0 x12_1).f1))) (fun _ hk => hk.2) (.slice A166_2 ((rd_T35 l0 x12_1).f2).length c166_2)) (fun _ hk => hk.2) (.string ((rd_T35 l0 x12_1).f3))) (fun _ hk => hk.2) (.slice A166_4 ((rd_T35 l0 x12_1).f4).length c166_4)) (fun _ hk => hk.1.2)⟩, ⟨by (with_reducible repeat (first | refine blk_drewN ?_ _ | refine blk_drew ?_ | refine blk_alloc ?_ _)); refine blk_put (cs := #[.int .i64 ((rd_T35 l0 x12_1).f0), .string ((rd_T35 l0 x12_1).f1), .slice A166_2 ((rd_T35 l0 x12_1).f2).length c166_2, .string ((rd_T35 l0 x12_1).f3), .slice none 0 0]) ?_ 4 _ rfl; (with_reducible repeat (first | refine blk_drewN ?_ _ | refine blk_drew ?_ | refine blk_alloc ?_ _)); refine blk_put (cs := #[.int .i64 ((rd_T35 l0 x12_1).f0), .string ((rd_T35 l0 x12_1).f1), .slice A166_2 ((rd_T35 l0 x12_1).f2).length c166_2, .string (⟨#[]⟩ : ByteArray), .slice none 0 0]) ?_ 3 _ rfl; (with_reducible repeat (first | refine blk_drewN ?_ _ | refine blk_drew ?_ | refine blk_alloc ?_ _)); refine blk_put (cs := #[.int .i64 ((rd_T35 l0 x12_1).f0), .string ((rd_T35 l0 x12_1).f1), .slice none 0 0, .string (⟨#[]⟩ : ByteArray), .slice none 0 0]) ?_ 2 _ rfl; (with_reducible repeat (first | refine blk_drewN ?_ _ | refine blk_drew ?_ | refine blk_alloc ?_ _)); refine blk_put (cs := #[.int .i64 ((rd_T35 l0 x12_1).f0), .string (⟨#[]⟩ : ByteArray), .slice none 0 0, .string (⟨#[]⟩ : ByteArray), .slice none 0 0]) ?_ 1 _ rfl; (with_reducible repeat (first | refine blk_drewN ?_ _ | refine blk_drew ?_ | refine blk_alloc ?_ _)); refine blk_put (cs := #[.int .i64 0, .string (⟨#[]⟩ : ByteArray), .slice none 0 0, .string (⟨#[]⟩ : ByteArray), .slice none 0 0]) ?_ 0 _ rfl; (with_reducible repeat (first | refine blk_drewN ?_ _ | refine blk_drew ?_ | refine blk_alloc ?_ _)); exact BK167.out⟩, ⟨hb1_ GE167.out⟩⟩
           ·rw [if_neg c31] at H
            exact absurd H (by simp)
          ·rw [if_neg c30] at H
           exact absurd H (by simp)
        case rest =>
         clear HC24
         try clear c1
         try clear p1
         try clear q1
         try clear hx1
         try clear c2
         try clear c2b0
         try clear p2
         try clear c3
         try clear c3b0
         try clear c4
         try clear c4b0
         try clear c5
         try clear c5b0
         try clear c5b1
         try clear p6
         try clear c7
         try clear c7b0
         try clear c7b1
         try clear c9
         try clear c16
         try clear p16
         try clear q16
         try clear hx16
         try clear c17
         try clear p17
         try clear q17
         try clear hx17
         try clear c21
         try clear c21b0
         try clear c21b1
         try clear c28
         try clear c28b0
         try clear c30
         try clear c30b0
         try clear c31
         try clear c31b0
         try clear hcz11_0
         try clear hcz11_1
         try clear hcz11_2
         try clear hcz11_3
         try clear hcz11_4
         try clear hcz19_0
         try clear hcz19_1
         try clear hcz19_2
         try clear hcz19_3
         try clear hcz19_4
         try clear hcz23_0
         try clear hcz23_1
         try clear hcz23_2
         try clear hcz23_3
         try clear hcz23_4
         try clear hcz26_0
         try clear hcz26_1
         try clear hcz26_2
         try clear hcz26_3
         try clear hcz26_4
         try clear hfz11_0
         try clear hfz11_1
         try clear hfz11_2
         try clear hfz11_3
         try clear hfz11_4
         try clear hfz19_0
         try clear hfz19_1
         try clear hfz19_2
         try clear hfz19_3
         try clear hfz19_4
         try clear hfz23_0
         try clear hfz23_1
         try clear hfz23_2
         try clear hfz23_3
         try clear hfz23_4
         try clear hfz26_0
         try clear hfz26_1
         try clear hfz26_2
         try clear hfz26_3
         try clear hfz26_4
         try clear hx166_0
         try clear hx166_1
         try clear hx166_2
         try clear hx166_3
         try clear hx166_4
         try clear hx178_0
         try clear hx178_1
         try clear hx178_2
         try clear hx178_3
         try clear hx178_4
         try clear p166
         try clear p178
         try clear q166
         try clear q178
         obtain ⟨kq, x53_23, rfl, HA, HJ23, HO_4, BK167, HB⟩ := hcut
         cases kq with
         | zero => exact absurd HA.out (by simp [markup_normal.j1])
         | succ kj23 =>
          have H := HA.out
          clear HA
          simp only [markup_normal.j1] at H
          by_cases c32 : x53_23 = true
          ·subst c32
           rw [if_pos rfl] at H
           by_cases c33 : x4_1.length < 1599289640401
           ·rw [if_pos c33] at H
            have LMc33 := Aside0.mk c33
            clear c33
            obtain ⟨y179, hy179⟩ : ∃ y_ : List (S35), y_ = (x4_1 ++ [(⟨2, (⟨#[]⟩ : ByteArray), ([] : List (S61)), ((rd_T35 l0 x12_1).f3), ([] : List (S35))⟩ : S35)]) := ⟨_, rfl⟩
            replace H : (markup_normal.l0 kj23 y179 l0 (l0.length : Int) (wrap64 (x12_1 + 1))) = some (r1, r2) := by first | (rw [hy179]; with_reducible exact H) | (have H2_ := (Option.bind_some _ _).symm.trans H; rw [hy179]; with_reducible exact H2_) | (have H2_ := (Option.bind_some _ _).symm.trans H; with_reducible exact H2_) | with_reducible exact H | (rw [hy179]; exact H) | exact H
            have Ny179 := Aside0.mk hy179
            clear hy179
            have H' := Aside0.mk H
            clear H
            obtain ⟨hcz34_0, hcz34_1, hcz34_2, hcz34_3, hcz34_4⟩ := ce5_ BK167.out
            obtain ⟨hfz34_0, hfz34_1, hfz34_2, hfz34_3, hfz34_4⟩ := fr5_ BK167.out
            go_wp2_with (first | ((with_reducible refine gate_builtin (b := .append) (xs := #[.tmp 54, .tmp 58]) rfl ?_); at_builtin; refine Kd.R_append k35 (w0 := w) w.heap.size rfl (.tmp 54) (.tmp 58) 22 35 (.agg #[(.int .i64 0), (.string ⟨#[]⟩), (.slice none 0 0), (.string ⟨#[]⟩), (.slice none 0 0)]) 88 rfl Tryz.underlying22 info35 rfl (by decide) (by omega) (.slice Ao27 x4_1.length co27) x4_1 (⟨2, (⟨#[]⟩ : ByteArray), ([] : List (S61)), ((rd_T35 l0 x12_1).f3), ([] : List (S35))⟩ : S35) [.int .i64 2, .string (⟨#[]⟩ : ByteArray), .slice none 0 0, .string ((rd_T35 l0 x12_1).f3), .slice none 0 0] (fun k_ => k_ ≠ gb167) (fun k_ => ((fun k_ => k_ ≠ gb167)) k_ ∧ some k_ ≠ (.slice Ao27 x4_1.length co27 : Value).ownBlock) rfl rfl ?aP (fun _ hk => hk) ?aF ?aO ?aB ?aS ?aL ?_; (case aP => exact k35_mkM _ _ _ (⟨2, (⟨#[]⟩ : ByteArray), ([] : List (S61)), ((rd_T35 l0 x12_1).f3), ([] : List (S35))⟩ : S35) (Kd.R_nil _ _ _ _ _) (Kd.R_nil _ _ _ _ _)); (case aB => exact (hb1_ GE167.out)); (case aF => exact (fun k_ hk => Kd.freshB (g := gb167) (o := .cells #[.int .i64 ((rd_T35 l0 x12_1).f0), .string ((rd_T35 l0 x12_1).f1), .slice A166_2 ((rd_T35 l0 x12_1).f2).length c166_2, .string ((rd_T35 l0 x12_1).f3), .slice A166_4 ((rd_T35 l0 x12_1).f4).length c166_4] 35 (0, 0)) (bk_ BK167.out) k_ hk)); (case aO => exact (ra_ HO_4.out)); (case aS => exact (below_size (hb1_ GE167.out))); (case aL => have := LMc33.out; omega); intro v180 w35 ho hb hg hat; rw [← Ny179.out] at ho; replace BK167 := Aside0.mk (blk_grown (g := gb167) (o := .cells #[.int .i64 ((rd_T35 l0 x12_1).f0), .string ((rd_T35 l0 x12_1).f1), .slice A166_2 ((rd_T35 l0 x12_1).f2).length c166_2, .string ((rd_T35 l0 x12_1).f3), .slice A166_4 ((rd_T35 l0 x12_1).f4).length c166_4] 35 (0, 0)) (bk_ BK167.out) hg (Kd.R_away HO_4.out (fun _ hk => hk))); replace HB := Aside0.mk (hb); have HO181 := Aside0.mk (ho); clear HO_4; clear ho hb hg hat))
            go_roundg kj23
            case measure => have := HK1.out; have := HJ23.out; omega
            case rel => exact ⟨(y179), (wrap64 (x12_1 + 1)), (by first | rfl | (simp; done) | (simp [*]; done)), H', ⟨by have := HK1.out; have := HJ23.out; omega⟩, ⟨by (with_reducible repeat (first | apply Kd.R_alloc | apply Kd.R_drewN | apply Kd.R_drew)); exact Kd.R_mono HO181.out (fun _ hk => trivial)⟩, ⟨hb1_ GE167.out⟩⟩
           ·rw [if_neg c33] at H
            exact absurd H (by simp)
          ·replace c32 := Bool.eq_false_iff.mpr c32
           subst c32
           rw [if_neg (show ¬ (false = true) by decide)] at H
           obtain ⟨ji36, hji36⟩ : ∃ j_ : Int, (wrap64 ((x4_1.length : Int) - 1)) = j_ := ⟨_, rfl⟩
           replace H : (if 0 ≤ (ji36) then (if (ji36) < (x4_1.length : Int) then (if (wrap64 ((((rd_T35 x4_1 (ji36)).f3).size : Int) + (((rd_T35 l0 x12_1).f3).size : Int))) > 16384 then (some (([] : List (S35)), 2)) else (if ((rd_T35 x4_1 (ji36)).f3).size + ((rd_T35 l0 x12_1).f3).size ≤ 9223372036854775807 then (markup_normal.l0 kj23 (x4_1.set ((ji36) : Int).toNat (⟨(rd_T35 x4_1 (ji36)).f0, (rd_T35 x4_1 (ji36)).f1, (rd_T35 x4_1 (ji36)).f2, ((rd_T35 x4_1 (ji36)).f3) ++ ((rd_T35 l0 x12_1).f3), (rd_T35 x4_1 (ji36)).f4⟩ : S35)) l0 (l0.length : Int) (wrap64 (x12_1 + 1))) else (none))) else (none)) else (none)) = some (r1, r2) := by first | (rw [hji36] at H; exact H) | (simp only [hji36] at H ⊢; exact H)
           have hji36w : (IntKind.i64.wrap ((x4_1.length : Int) - 1)) = ji36 := (i64_w _).trans hji36
           by_cases c37 : 0 ≤ (ji36)
           ·rw [if_pos c37] at H
            have c37b0 : decide (0 ≤ (ji36)) = true := decide_eq_true c37
            clear c37
            by_cases c38 : (ji36) < (x4_1.length : Int)
            ·rw [if_pos c38] at H
             have c38b0 : decide ((ji36) < (x4_1.length : Int)) = true := decide_eq_true c38
             clear c38
             by_cases c39 : (wrap64 ((((rd_T35 x4_1 (ji36)).f3).size : Int) + (((rd_T35 l0 x12_1).f3).size : Int))) > 16384
             ·rw [if_pos c39] at H
              have c39b0 : decide (16384 < (wrap64 ((((rd_T35 x4_1 (ji36)).f3).size : Int) + (((rd_T35 l0 x12_1).f3).size : Int)))) = true := decide_eq_true c39
              clear c39
              simp only [Option.some.injEq, Prod.mk.injEq] at H
              obtain ⟨rfl, rfl⟩ := H
              try go_wp2
              replace HO_4 := Aside0.mk (Kd.R_drew HO_4.out)
              replace BK167 := Aside0.mk (blk_drew BK167.out)
              replace HB := Aside0.mk (below_drew1 HB.out)
              have p182 : 0 ≤ ((ji36) : Int) := of_decide_eq_true (by first | (with_reducible assumption) | assumption)
              have q182 : (ji36) < (x4_1.length : Int) := of_decide_eq_true (by first | (with_reducible assumption) | assumption)
              obtain ⟨ad182, A182_2, c182_2, A182_4, c182_4, e182, hx182_0, hx182_1, hx182_2, hx182_3, hx182_4, hl182_2, hi182_2, hl182_4, hi182_4⟩ := at_T35 (Kd.R_reads' HO_4.out).2.2 (ji36) p182 q182
              cases e182
              obtain ⟨ce182, hce182, hMe182, hcc182⟩ := Kd.R_get HO_4.out z35 (ji36) p182 (by first | exact q182 | exact of_decide_eq_true (by first | (with_reducible assumption) | assumption) | (have e_ := (Kd.R_reads' HO_4.out).1; omega))
              obtain ⟨ve182_2, ve182_4, rfl, ge182_2, ge182_4⟩ := k35_openM hMe182
              have hv182_2 := hcc182 2 _ rfl
              rw [add_field _ _ 2 (by omega)] at hv182_2
              replace hv182_2 := Option.some.inj (hv182_2.symm.trans hx182_2)
              rw [hv182_2] at ge182_2
              have HL182_2 := Aside0.mk (show Kd.R k61 61 _ _ _ _ ((rd_T35 x4_1 (ji36)).f2) from ge182_2)
              clear hv182_2 ge182_2
              have hv182_4 := hcc182 4 _ rfl
              rw [add_field _ _ 4 (by omega)] at hv182_4
              replace hv182_4 := Option.some.inj (hv182_4.symm.trans hx182_4)
              rw [hv182_4] at ge182_4
              have HL182_4 := Aside0.mk (show Kd.R k35 35 _ _ _ _ ((rd_T35 x4_1 (ji36)).f4) from ge182_4)
              clear hv182_4 ge182_4
              clear hcc182 hce182
              have HR182_2 := Aside0.mk hi182_2
              have HC182_2 := Aside0.mk hl182_2
              clear hi182_2 hl182_2
              have HR182_4 := Aside0.mk hi182_4
              have HC182_4 := Aside0.mk hl182_4
              clear hi182_4 hl182_4
              replace p182 := eq_true p182
              replace q182 := eq_true q182
              refine start_ (n := 11) (S := fun w' => w'.cell? ⟨gb167, 0, none⟩ = some (.int .i64 ((rd_T35 l0 x12_1).f0)) ∧ w'.cell? ⟨gb167, 1, none⟩ = some (.string ((rd_T35 l0 x12_1).f1)) ∧ w'.cell? ⟨gb167, 2, none⟩ = some (.slice A166_2 ((rd_T35 l0 x12_1).f2).length c166_2) ∧ w'.cell? ⟨gb167, 3, none⟩ = some (.string ((rd_T35 l0 x12_1).f3)) ∧ w'.cell? ⟨gb167, 4, none⟩ = some (.slice A166_4 ((rd_T35 l0 x12_1).f4).length c166_4) ∧ w'.cell? (ad182.add (((ji36)).toNat * 5)) = some (.int .i64 ((rd_T35 x4_1 (ji36)).f0)) ∧ w'.cell? ⟨(ad182.add (((ji36)).toNat * 5)).block, (ad182.add (((ji36)).toNat * 5)).off + 1, none⟩ = some (.string ((rd_T35 x4_1 (ji36)).f1)) ∧ w'.cell? ⟨(ad182.add (((ji36)).toNat * 5)).block, (ad182.add (((ji36)).toNat * 5)).off + 2, none⟩ = some (.slice A182_2 ((rd_T35 x4_1 (ji36)).f2).length c182_2) ∧ w'.cell? ⟨(ad182.add (((ji36)).toNat * 5)).block, (ad182.add (((ji36)).toNat * 5)).off + 3, none⟩ = some (.string ((rd_T35 x4_1 (ji36)).f3)) ∧ w'.cell? ⟨(ad182.add (((ji36)).toNat * 5)).block, (ad182.add (((ji36)).toNat * 5)).off + 4, none⟩ = some (.slice A182_4 ((rd_T35 x4_1 (ji36)).f4).length c182_4)) (ds := []) #[false, false, false, false, false, false, false, false, false, false, false] (by kernel_rfl) rfl rfl ⟨(blk_cell BK167.out 0).trans rfl, (blk_cell BK167.out 1).trans rfl, (blk_cell BK167.out 2).trans rfl, (blk_cell BK167.out 3).trans rfl, (blk_cell BK167.out 4).trans rfl, hx182_0, hx182_1, hx182_2, hx182_3, hx182_4⟩ (fun hHeld => ?_); refine with_tabW markup_normal.tab14 markup_normal.bits14 (fun HT_ HW_ => ?_)
              generalize wc.drew = w40 at HO_4 BK167 HB HL182_2 HL182_4 HR182_2 HR182_4 hx182_0 hx182_1 hx182_2 hx182_3 hx182_4 hHeld ⊢
              refine pu_ 0 (some 60) #[true, false, false, false, false, false, false, false, false, false, false] (any_of HT_.out (by kernel_rfl)) ?_
              refine pu_ 1 (some 61) #[true, true, false, false, false, false, false, false, false, false, false] (any_of HT_.out (by kernel_rfl)) ?_
              refine pu_ 2 (some 62) #[true, true, true, false, false, false, false, false, false, false, false] (any_of HT_.out (by kernel_rfl)) ?_
              refine pu_ 3 (some 63) #[true, true, true, true, false, false, false, false, false, false, false] (any_of HT_.out (by kernel_rfl)) ?_
              refine pu_ 6 (some 66) #[true, true, true, true, false, false, true, false, false, false, false] (any_of HT_.out (by kernel_rfl)) ?_
              refine take_ (i := 4) (N := some 64) (v := ?_) (a' := ?_) #[true, true, true, true, true, false, true, false, false, false, false] rfl rfl (take_ofW HT_.out HW_.out (by kernel_rfl)) (fun _ _ _ h => h) (Or.inl ⟨by rfl, ?_⟩) hHeld ?_ ?_
              rotate_left
              ·rintro w' ⟨s0, s1, s2, s3, s4, s5, s6, s7, s8, s9⟩
               go_simp
               with_reducible rfl
              rotate_left
              ·simp only [Act.put, List.setIfInBounds_toArray, List.set_cons_zero, List.set_cons_succ, i64_w, i32_w]
               rfl
              refine pu_ 5 (some 65) #[true, true, true, true, true, true, true, false, false, false, false] (any_of HT_.out (by kernel_rfl)) ?_
              refine take_ (i := 7) (N := some 67) (v := ?_) (a' := ?_) #[true, true, true, true, true, true, true, true, false, false, false] rfl rfl (take_ofW HT_.out HW_.out (by kernel_rfl)) (fun _ _ _ h => h) (Or.inl ⟨by rfl, ?_⟩) hHeld ?_ ?_
              rotate_left
              ·rintro w' ⟨s0, s1, s2, s3, s4, s5, s6, s7, s8, s9⟩
               go_simp
               with_reducible rfl
              rotate_left
              ·simp only [Act.put, List.setIfInBounds_toArray, List.set_cons_zero, List.set_cons_succ, i64_w, i32_w]
               rfl
              refine pu_ 8 (some 68) #[true, true, true, true, true, true, true, true, true, false, false] (any_of HT_.out (by kernel_rfl)) ?_
              refine pu_ 9 (some 69) #[true, true, true, true, true, true, true, true, true, true, false] (any_of HT_.out (by kernel_rfl)) ?_
              refine pu_ 10 (some 70) #[true, true, true, true, true, true, true, true, true, true, true] (any_of HT_.out (by kernel_rfl)) ?_
              refine done_ (done_of HT_.out (by kernel_rfl)) ?_
              try go_wp2
              go_ret2
              exact ⟨_, by first | rfl | (simp [errW_none, errW_some] <;> rfl) | (simp only [← hji36]; first | rfl | (simp [errW_none, errW_some] <;> rfl)) | (simp [*, errW_none, errW_some] <;> rfl), by first | exact Kd.R_nil _ _ _ _ _ | exact Kd.N_nil _ _ _ _ _ | exact Kd.V_nil _ _ _ _ _ | exact Kd.Q_nil _ _ _ _ _ | exact Kd.S_nil _ _ _ _ _, hb1_ GE167.out⟩
             ·rw [if_neg c39] at H
              have c39b0 : decide (16384 < (wrap64 ((((rd_T35 x4_1 (ji36)).f3).size : Int) + (((rd_T35 l0 x12_1).f3).size : Int)))) = false := decide_eq_false c39
              clear c39
              by_cases c41 : ((rd_T35 x4_1 (ji36)).f3).size + ((rd_T35 l0 x12_1).f3).size ≤ 9223372036854775807
              ·rw [if_pos c41] at H
               have c41b0 := eq_true c41
               have c41b1 : decide (((rd_T35 x4_1 (ji36)).f3).size + ((rd_T35 l0 x12_1).f3).size ≤ 9223372036854775807) = true := decide_eq_true c41
               try have c41b2 : (9223372036854775807 < ((rd_T35 x4_1 (ji36)).f3).size + ((rd_T35 l0 x12_1).f3).size) = False := eq_false (Nat.not_lt.2 c41)
               obtain ⟨y184, hy184⟩ : ∃ y_ : List (S35), y_ = (x4_1.set ((ji36) : Int).toNat (⟨(rd_T35 x4_1 (ji36)).f0, (rd_T35 x4_1 (ji36)).f1, (rd_T35 x4_1 (ji36)).f2, ((rd_T35 x4_1 (ji36)).f3) ++ ((rd_T35 l0 x12_1).f3), (rd_T35 x4_1 (ji36)).f4⟩ : S35)) := ⟨_, rfl⟩
               replace H : (markup_normal.l0 kj23 y184 l0 (l0.length : Int) (wrap64 (x12_1 + 1))) = some (r1, r2) := by first | (rw [hy184]; with_reducible exact H) | (have H2_ := (Option.bind_some _ _).symm.trans H; rw [hy184]; with_reducible exact H2_) | (have H2_ := (Option.bind_some _ _).symm.trans H; with_reducible exact H2_) | with_reducible exact H | (rw [hy184]; exact H) | exact H
               have Ny184 := Aside0.mk hy184
               clear hy184
               have H' := Aside0.mk H
               clear H
               try go_wp2
               replace HO_4 := Aside0.mk (Kd.R_drew HO_4.out)
               replace BK167 := Aside0.mk (blk_drew BK167.out)
               replace HB := Aside0.mk (below_drew1 HB.out)
               have p182 : 0 ≤ ((ji36) : Int) := of_decide_eq_true (by first | (with_reducible assumption) | assumption)
               have q182 : (ji36) < (x4_1.length : Int) := of_decide_eq_true (by first | (with_reducible assumption) | assumption)
               obtain ⟨ad182, A182_2, c182_2, A182_4, c182_4, e182, hx182_0, hx182_1, hx182_2, hx182_3, hx182_4, hl182_2, hi182_2, hl182_4, hi182_4⟩ := at_T35 (Kd.R_reads' HO_4.out).2.2 (ji36) p182 q182
               cases e182
               obtain ⟨ce182, hce182, hMe182, hcc182⟩ := Kd.R_get HO_4.out z35 (ji36) p182 (by first | exact q182 | exact of_decide_eq_true (by first | (with_reducible assumption) | assumption) | (have e_ := (Kd.R_reads' HO_4.out).1; omega))
               obtain ⟨ve182_2, ve182_4, rfl, ge182_2, ge182_4⟩ := k35_openM hMe182
               have hv182_2 := hcc182 2 _ rfl
               rw [add_field _ _ 2 (by omega)] at hv182_2
               replace hv182_2 := Option.some.inj (hv182_2.symm.trans hx182_2)
               rw [hv182_2] at ge182_2
               have HL182_2 := Aside0.mk (show Kd.R k61 61 _ _ _ _ ((rd_T35 x4_1 (ji36)).f2) from ge182_2)
               clear hv182_2 ge182_2
               have hv182_4 := hcc182 4 _ rfl
               rw [add_field _ _ 4 (by omega)] at hv182_4
               replace hv182_4 := Option.some.inj (hv182_4.symm.trans hx182_4)
               rw [hv182_4] at ge182_4
               have HL182_4 := Aside0.mk (show Kd.R k35 35 _ _ _ _ ((rd_T35 x4_1 (ji36)).f4) from ge182_4)
               clear hv182_4 ge182_4
               clear hcc182 hce182
               have HR182_2 := Aside0.mk hi182_2
               have HC182_2 := Aside0.mk hl182_2
               clear hi182_2 hl182_2
               have HR182_4 := Aside0.mk hi182_4
               have HC182_4 := Aside0.mk hl182_4
               clear hi182_4 hl182_4
               replace p182 := eq_true p182
               replace q182 := eq_true q182
               refine start_ (n := 11) (S := fun w' => w'.cell? ⟨gb167, 0, none⟩ = some (.int .i64 ((rd_T35 l0 x12_1).f0)) ∧ w'.cell? ⟨gb167, 1, none⟩ = some (.string ((rd_T35 l0 x12_1).f1)) ∧ w'.cell? ⟨gb167, 2, none⟩ = some (.slice A166_2 ((rd_T35 l0 x12_1).f2).length c166_2) ∧ w'.cell? ⟨gb167, 3, none⟩ = some (.string ((rd_T35 l0 x12_1).f3)) ∧ w'.cell? ⟨gb167, 4, none⟩ = some (.slice A166_4 ((rd_T35 l0 x12_1).f4).length c166_4) ∧ w'.cell? (ad182.add (((ji36)).toNat * 5)) = some (.int .i64 ((rd_T35 x4_1 (ji36)).f0)) ∧ w'.cell? ⟨(ad182.add (((ji36)).toNat * 5)).block, (ad182.add (((ji36)).toNat * 5)).off + 1, none⟩ = some (.string ((rd_T35 x4_1 (ji36)).f1)) ∧ w'.cell? ⟨(ad182.add (((ji36)).toNat * 5)).block, (ad182.add (((ji36)).toNat * 5)).off + 2, none⟩ = some (.slice A182_2 ((rd_T35 x4_1 (ji36)).f2).length c182_2) ∧ w'.cell? ⟨(ad182.add (((ji36)).toNat * 5)).block, (ad182.add (((ji36)).toNat * 5)).off + 3, none⟩ = some (.string ((rd_T35 x4_1 (ji36)).f3)) ∧ w'.cell? ⟨(ad182.add (((ji36)).toNat * 5)).block, (ad182.add (((ji36)).toNat * 5)).off + 4, none⟩ = some (.slice A182_4 ((rd_T35 x4_1 (ji36)).f4).length c182_4)) (ds := []) #[false, false, false, false, false, false, false, false, false, false, false] (by kernel_rfl) rfl rfl ⟨(blk_cell BK167.out 0).trans rfl, (blk_cell BK167.out 1).trans rfl, (blk_cell BK167.out 2).trans rfl, (blk_cell BK167.out 3).trans rfl, (blk_cell BK167.out 4).trans rfl, hx182_0, hx182_1, hx182_2, hx182_3, hx182_4⟩ (fun hHeld => ?_); refine with_tabW markup_normal.tab14 markup_normal.bits14 (fun HT_ HW_ => ?_)
               generalize wc.drew = w43 at HO_4 BK167 HB HL182_2 HL182_4 HR182_2 HR182_4 hx182_0 hx182_1 hx182_2 hx182_3 hx182_4 hHeld ⊢
               refine pu_ 0 (some 60) #[true, false, false, false, false, false, false, false, false, false, false] (any_of HT_.out (by kernel_rfl)) ?_
               refine pu_ 1 (some 61) #[true, true, false, false, false, false, false, false, false, false, false] (any_of HT_.out (by kernel_rfl)) ?_
               refine pu_ 2 (some 62) #[true, true, true, false, false, false, false, false, false, false, false] (any_of HT_.out (by kernel_rfl)) ?_
               refine pu_ 3 (some 63) #[true, true, true, true, false, false, false, false, false, false, false] (any_of HT_.out (by kernel_rfl)) ?_
               refine pu_ 6 (some 66) #[true, true, true, true, false, false, true, false, false, false, false] (any_of HT_.out (by kernel_rfl)) ?_
               refine take_ (i := 4) (N := some 64) (v := ?_) (a' := ?_) #[true, true, true, true, true, false, true, false, false, false, false] rfl rfl (take_ofW HT_.out HW_.out (by kernel_rfl)) (fun _ _ _ h => h) (Or.inl ⟨by rfl, ?_⟩) hHeld ?_ ?_
               rotate_left
               ·rintro w' ⟨s0, s1, s2, s3, s4, s5, s6, s7, s8, s9⟩
                go_simp
                with_reducible rfl
               rotate_left
               ·simp only [Act.put, List.setIfInBounds_toArray, List.set_cons_zero, List.set_cons_succ, i64_w, i32_w]
                rfl
               refine pu_ 5 (some 65) #[true, true, true, true, true, true, true, false, false, false, false] (any_of HT_.out (by kernel_rfl)) ?_
               refine take_ (i := 7) (N := some 67) (v := ?_) (a' := ?_) #[true, true, true, true, true, true, true, true, false, false, false] rfl rfl (take_ofW HT_.out HW_.out (by kernel_rfl)) (fun _ _ _ h => h) (Or.inl ⟨by rfl, ?_⟩) hHeld ?_ ?_
               rotate_left
               ·rintro w' ⟨s0, s1, s2, s3, s4, s5, s6, s7, s8, s9⟩
                go_simp
                with_reducible rfl
               rotate_left
               ·simp only [Act.put, List.setIfInBounds_toArray, List.set_cons_zero, List.set_cons_succ, i64_w, i32_w]
                rfl
               refine pu_ 8 (some 68) #[true, true, true, true, true, true, true, true, true, false, false] (any_of HT_.out (by kernel_rfl)) ?_
               refine pu_ 9 (some 69) #[true, true, true, true, true, true, true, true, true, true, false] (any_of HT_.out (by kernel_rfl)) ?_
               refine pu_ 10 (some 70) #[true, true, true, true, true, true, true, true, true, true, true] (any_of HT_.out (by kernel_rfl)) ?_
               refine done_ (done_of HT_.out (by kernel_rfl)) ?_
               try go_wp2
               replace HO_4 := Aside0.mk (Kd.R_drew HO_4.out)
               replace HL182_2 := Aside0.mk (Kd.R_drew HL182_2.out)
               replace HL182_4 := Aside0.mk (Kd.R_drew HL182_4.out)
               replace BK167 := Aside0.mk (blk_drew BK167.out)
               replace HR182_2 := Aside0.mk (Kd.C_drew HR182_2.out)
               replace HR182_4 := Aside0.mk (Kd.C_drew HR182_4.out)
               replace HB := Aside0.mk (below_drew1 HB.out)
               have p183 : 0 ≤ ((ji36) : Int) := of_decide_eq_true (by first | (with_reducible assumption) | assumption)
               have q183 : (ji36) < (x4_1.length : Int) := of_decide_eq_true (by first | (with_reducible assumption) | assumption)
               obtain ⟨ad183, A183_2, c183_2, A183_4, c183_4, e183, hx183_0, hx183_1, hx183_2, hx183_3, hx183_4, hl183_2, hi183_2, hl183_4, hi183_4⟩ := at_T35 (Kd.R_reads' HO_4.out).2.2 (ji36) p183 q183
               obtain rfl : ad182 = ad183 := (by injection e183)
               obtain ⟨ce183, hce183, hMe183, hcc183⟩ := Kd.R_get HO_4.out z35 (ji36) p183 (by first | exact q183 | exact of_decide_eq_true (by first | (with_reducible assumption) | assumption) | (have e_ := (Kd.R_reads' HO_4.out).1; omega))
               obtain ⟨ve183_2, ve183_4, rfl, ge183_2, ge183_4⟩ := k35_openM hMe183
               have hv183_2 := hcc183 2 _ rfl
               rw [add_field _ _ 2 (by omega)] at hv183_2
               replace hv183_2 := Option.some.inj (hv183_2.symm.trans hx183_2)
               rw [hv183_2] at ge183_2
               have HL183_2 := Aside0.mk (show Kd.R k61 61 _ _ _ _ ((rd_T35 x4_1 (ji36)).f2) from ge183_2)
               clear hv183_2 ge183_2
               have hv183_4 := hcc183 4 _ rfl
               rw [add_field _ _ 4 (by omega)] at hv183_4
               replace hv183_4 := Option.some.inj (hv183_4.symm.trans hx183_4)
               rw [hv183_4] at ge183_4
               have HL183_4 := Aside0.mk (show Kd.R k35 35 _ _ _ _ ((rd_T35 x4_1 (ji36)).f4) from ge183_4)
               clear hv183_4 ge183_4
               clear hcc183 hce183
               have HR183_2 := Aside0.mk hi183_2
               have HC183_2 := Aside0.mk hl183_2
               clear hi183_2 hl183_2
               have HR183_4 := Aside0.mk hi183_4
               have HC183_4 := Aside0.mk hl183_4
               clear hi183_4 hl183_4
               replace p183 := eq_true p183
               replace q183 := eq_true q183
               have p42 : 0 ≤ ((ji36) : Int) := of_decide_eq_true (by first | (with_reducible assumption) | assumption)
               have q42 : ((ji36) : Int) < ((x4_1.length : Int) : Int) := of_decide_eq_true (by first | (with_reducible assumption) | assumption)
               obtain ⟨go42, co42, eo42, gb42, gl42, cl42, HG42⟩ := Kd.R_form HO_4.out (by omega)
               (first | cases eo42 | (injection eo42 with ea_ en_ ec_; (first | subst ea_ | (injection ea_ with ea_; subst ea_)); subst ec_; clear en_))
               have GB42 := Aside0.mk gb42
               have GG42 := Aside0.mk HG42
               clear gb42 gl42 HG42
               (first | simp only [add_plain] at hx182_0 | skip)
               (first | simp only [add_plain] at hx182_1 | skip)
               (first | simp only [add_plain] at hx182_2 | skip)
               (first | simp only [add_plain] at hx182_3 | skip)
               (first | simp only [add_plain] at hx182_4 | skip)
               (first | simp only [add_plain] at hx183_0 | skip)
               (first | simp only [add_plain] at hx183_1 | skip)
               (first | simp only [add_plain] at hx183_2 | skip)
               (first | simp only [add_plain] at hx183_3 | skip)
               (first | simp only [add_plain] at hx183_4 | skip)
               obtain ⟨ce42, hcl42, hM42, hcc42, hfr42⟩ := Kd.R_elem HO_4.out z35 ((ji36) : Int) p42 q42
               obtain ⟨ve42_2, ve42_4, rfl, ge42_2, ge42_4⟩ := k35_openM hM42
               have hx42_0 : World.cell? _ ⟨go42, ((ji36) : Int).toNat * 5, none⟩ = some (.int .i64 ((rd_T35 x4_1 (ji36)).f0)) := hcc42 0 _ rfl
               have hx42_1 : World.cell? _ ⟨go42, ((ji36) : Int).toNat * 5 + 1, none⟩ = some (.string ((rd_T35 x4_1 (ji36)).f1)) := hcc42 1 _ rfl
               have hx42_2 : World.cell? _ ⟨go42, ((ji36) : Int).toNat * 5 + 2, none⟩ = some (ve42_2) := hcc42 2 _ rfl
               have hx42_3 : World.cell? _ ⟨go42, ((ji36) : Int).toNat * 5 + 3, none⟩ = some (.string ((rd_T35 x4_1 (ji36)).f3)) := hcc42 3 _ rfl
               have hx42_4 : World.cell? _ ⟨go42, ((ji36) : Int).toNat * 5 + 4, none⟩ = some (ve42_4) := hcc42 4 _ rfl
               have hf42_0 : World.frozen? _ ⟨go42, ((ji36) : Int).toNat * 5, none⟩ = false := hfr42 0
               have hf42_1 : World.frozen? _ ⟨go42, ((ji36) : Int).toNat * 5 + 1, none⟩ = false := hfr42 1
               have hf42_2 : World.frozen? _ ⟨go42, ((ji36) : Int).toNat * 5 + 2, none⟩ = false := hfr42 2
               have hf42_3 : World.frozen? _ ⟨go42, ((ji36) : Int).toNat * 5 + 3, none⟩ = false := hfr42 3
               have hf42_4 : World.frozen? _ ⟨go42, ((ji36) : Int).toNat * 5 + 4, none⟩ = false := hfr42 4
               clear hcl42 hcc42 hfr42 hM42
               replace p42 := eq_true p42
               replace q42 := eq_true q42
               obtain ⟨ce45, hcl45, hM45, hcc45, hfr45⟩ := Kd.R_elem HO_4.out z35 ((ji36) : Int) (of_decide_eq_true (by first | (with_reducible assumption) | assumption)) (by have h_ : ((ji36) : Int) < ((x4_1.length : Int) : Int) := of_decide_eq_true (by first | (with_reducible assumption) | assumption); first | exact h_ | (have e_ := (Kd.R_reads' HO_4.out).1; omega) | simpa using h_)
               obtain ⟨ve45_2, ve45_4, rfl, ge45_2, ge45_4⟩ := k35_openM hM45
               have HP45 := (Kd.R_seg HO_4.out ((ji36) : Int) (of_decide_eq_true (by first | (with_reducible assumption) | assumption)) (by have h_ : ((ji36) : Int) < ((x4_1.length : Int) : Int) := of_decide_eq_true (by first | (with_reducible assumption) | assumption); first | exact h_ | (have e_ := (Kd.R_reads' HO_4.out).1; omega) | simpa using h_) (seg := [.string (((rd_T35 x4_1 (ji36)).f3) ++ ((rd_T35 l0 x12_1).f3))]) (j := 3) hcl45 hcc45 (show 4 ≤ 5 from by decide) (x' := (⟨(rd_T35 x4_1 (ji36)).f0, (rd_T35 x4_1 (ji36)).f1, (rd_T35 x4_1 (ji36)).f2, ((rd_T35 x4_1 (ji36)).f3) ++ ((rd_T35 l0 x12_1).f3), (rd_T35 x4_1 (ji36)).f4⟩ : S35)) (k35_mkM _ _ _ (⟨(rd_T35 x4_1 (ji36)).f0, (rd_T35 x4_1 (ji36)).f1, (rd_T35 x4_1 (ji36)).f2, ((rd_T35 x4_1 (ji36)).f3) ++ ((rd_T35 l0 x12_1).f3), (rd_T35 x4_1 (ji36)).f4⟩ : S35) ge45_2 ge45_4) (fun _ hk => hk)).1
               rw [← Ny184.out] at HP45
               have HQ45 := Aside0.mk HP45
               clear hcl45 hcc45 hfr45 hM45 HP45
               refine start_ (n := 11) (S := fun w' => w'.cell? ⟨gb167, 0, none⟩ = some (.int .i64 ((rd_T35 l0 x12_1).f0)) ∧ w'.cell? ⟨gb167, 1, none⟩ = some (.string ((rd_T35 l0 x12_1).f1)) ∧ w'.cell? ⟨gb167, 2, none⟩ = some (.slice A166_2 ((rd_T35 l0 x12_1).f2).length c166_2) ∧ w'.cell? ⟨gb167, 3, none⟩ = some (.string ((rd_T35 l0 x12_1).f3)) ∧ w'.cell? ⟨gb167, 4, none⟩ = some (.slice A166_4 ((rd_T35 l0 x12_1).f4).length c166_4) ∧ w'.cell? ⟨go42, ((ji36)).toNat * 5, none⟩ = some (.int .i64 ((rd_T35 x4_1 (ji36)).f0)) ∧ w'.cell? ⟨go42, ((ji36)).toNat * 5 + 1, none⟩ = some (.string ((rd_T35 x4_1 (ji36)).f1)) ∧ w'.cell? ⟨go42, ((ji36)).toNat * 5 + 2, none⟩ = some (.slice A183_2 ((rd_T35 x4_1 (ji36)).f2).length c183_2) ∧ w'.cell? ⟨go42, ((ji36)).toNat * 5 + 3, none⟩ = some (.string ((rd_T35 x4_1 (ji36)).f3)) ∧ w'.cell? ⟨go42, ((ji36)).toNat * 5 + 4, none⟩ = some (.slice A183_4 ((rd_T35 x4_1 (ji36)).f4).length c183_4)) (ds := [10]) #[false, false, false, false, false, false, false, false, false, false, false] (by kernel_rfl) rfl rfl ⟨(blk_cell BK167.out 0).trans rfl, (blk_cell BK167.out 1).trans rfl, (blk_cell BK167.out 2).trans rfl, (blk_cell BK167.out 3).trans rfl, (blk_cell BK167.out 4).trans rfl, hx183_0, hx183_1, hx183_2, hx183_3, hx183_4⟩ (fun hHeld => ?_); refine with_tabW markup_normal.tab16 markup_normal.bits16 (fun HT_ HW_ => ?_)
               generalize w43.drew = w44 at HO_4 HL182_2 HL182_4 BK167 HR182_2 HR182_4 HB GG42 HL183_2 HL183_4 HQ45 HR183_2 HR183_4 hf42_0 hf42_1 hf42_2 hf42_3 hf42_4 hx182_0 hx182_1 hx182_2 hx182_3 hx182_4 hx183_0 hx183_1 hx183_2 hx183_3 hx183_4 hx42_0 hx42_1 hx42_2 hx42_3 hx42_4 hHeld ⊢
               refine pu_ 0 (some 71) #[true, false, false, false, false, false, false, false, false, false, false] (any_of HT_.out (by kernel_rfl)) ?_
               refine pu_ 1 (some 72) #[true, true, false, false, false, false, false, false, false, false, false] (any_of HT_.out (by kernel_rfl)) ?_
               refine pu_ 2 (some 73) #[true, true, true, false, false, false, false, false, false, false, false] (any_of HT_.out (by kernel_rfl)) ?_
               refine pu_ 3 (some 74) #[true, true, true, true, false, false, false, false, false, false, false] (any_of HT_.out (by kernel_rfl)) ?_
               refine pu_ 5 (some 76) #[true, true, true, true, false, true, false, false, false, false, false] (any_of HT_.out (by kernel_rfl)) ?_
               refine take_ (i := 4) (N := some 75) (v := ?_) (a' := ?_) #[true, true, true, true, true, true, false, false, false, false, false] rfl rfl (take_ofW HT_.out HW_.out (by kernel_rfl)) (fun _ _ _ h => h) (Or.inl ⟨by rfl, ?_⟩) hHeld ?_ ?_
               rotate_left
               ·rintro w' ⟨s0, s1, s2, s3, s4, s5, s6, s7, s8, s9⟩
                go_simp
                with_reducible rfl
               rotate_left
               ·simp only [Act.put, List.setIfInBounds_toArray, List.set_cons_zero, List.set_cons_succ, i64_w, i32_w]
                rfl
               refine take_ (i := 6) (N := some 77) (v := ?_) (a' := ?_) #[true, true, true, true, true, true, true, false, false, false, false] rfl rfl (take_ofW HT_.out HW_.out (by kernel_rfl)) (fun _ _ _ h => h) (Or.inl ⟨by rfl, ?_⟩) hHeld ?_ ?_
               rotate_left
               ·rintro w' ⟨s0, s1, s2, s3, s4, s5, s6, s7, s8, s9⟩
                go_simp
                with_reducible rfl
               rotate_left
               ·simp only [Act.put, List.setIfInBounds_toArray, List.set_cons_zero, List.set_cons_succ, i64_w, i32_w]
                rfl
               refine pu_ 7 (some 78) #[true, true, true, true, true, true, true, true, false, false, false] (any_of HT_.out (by kernel_rfl)) ?_
               refine pu_ 8 (some 79) #[true, true, true, true, true, true, true, true, true, false, false] (any_of HT_.out (by kernel_rfl)) ?_
               refine pu_ 9 (some 80) #[true, true, true, true, true, true, true, true, true, true, false] (any_of HT_.out (by kernel_rfl)) ?_
               refine last_ (i := 10) (N := none) #[true, true, true, true, true, true, true, true, true, true, true] rfl rfl (one_of HT_.out (by kernel_rfl)) (by decide) (fun K hK => ?_)
               refine skip_ (w1 := ?_) (by rfl) rfl ?_ ?_
               rotate_left
               ·go_simp
                rfl
               refine hK.out _ _ ?_
               clear hK K
               refine done_ (done_of HT_.out (by kernel_rfl)) ?_
               try go_wp2
               go_roundg kj23
               case measure => have := HK1.out; have := HJ23.out; omega
               case rel => exact ⟨(y184), (wrap64 (x12_1 + 1)), (by first | rfl | (simp; done) | (simp [*]; done)), H', ⟨by have := HK1.out; have := HJ23.out; omega⟩, ⟨by (with_reducible repeat (first | apply Kd.R_alloc | apply Kd.R_drewN | apply Kd.R_drew)); exact Kd.R_mono HQ45.out (fun _ hk => trivial)⟩, ⟨by repeat (first | (with_reducible first | exact HB.out | apply below_alloc | apply pw_below_drewN | apply below_drew1 | refine below_set ?_ GB42.out | refine below_set ?_ GE167.out) | exact HB.out)⟩⟩
              ·rw [if_neg c41] at H
               exact absurd H (by simp)
            ·rw [if_neg c38] at H
             exact absurd H (by simp)
           ·rw [if_neg c37] at H
            exact absurd H (by simp)
     ·rw [if_neg c4] at H
      exact absurd H (by simp)
    ·rw [if_neg c3] at H
     exact absurd H (by simp)
   ·rw [if_neg c2] at H
    have c2b0 : decide (x12_1 < (l0.length : Int)) = false := decide_eq_false c2
    clear c2
    simp only [Option.some.injEq, Prod.mk.injEq] at H
    obtain ⟨rfl, rfl⟩ := H
    go_wp2
    go_ret2
    exact ⟨_, er_, by (with_reducible repeat (first | apply Kd.R_alloc | apply Kd.R_drewN | apply Kd.R_drew)); exact HO_4.out, hb_⟩

end Go.Proofs.YtealmfcimoomlaaGreatDoor.PA
