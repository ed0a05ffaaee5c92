-- Written by a program of this session (wip/tools/xprint.py: the kit's print, with given functions). Not trusted: Lean checks it.
-- squeezed
import Derived.Test.YtealmfcimoomlaaDoorPA0
import Derived.Test.YtealmfcimoomlaaDoorPA17
namespace Go.Proofs.YtealmfcimoomlaaDoor.PA
open Go.RowKit Go.Proofs.YtealmfcimoomlaaDoorW.PrintWords Go.Proofs.YtealmfcimoomlaaDoorW.PrintLast Go.Proofs.YtealmfcimoomlaaDoorW.PrintMore
attribute [local go_sem] max2_int min2_int max_two min_two max_three min_three max_four min_four   -- for this text's walks alone
set_option linter.unusedVariables false
set_option linter.unusedSimpArgs false

/-! ### espalierref04_Same: function 13 -/
mutual
def espalierref04_Same.l0 : Nat → List (S36) → List (S36) → Int → Option (Bool)
 | 0, _, _, _ => none
 | k + 1, x0, x1, x5 => if x5 < (x0.length : Int) then (if 0 ≤ x5 then (if x5 < (x1.length : Int) then (if ((rd_T36 x0 x5).f0) = ((rd_T36 x1 x5).f0) then (if ((rd_T36 x0 x5).f0) = 2 then (espalierref04_Same.j1 k x0 x1 x5 (((rd_T36 x0 x5).f3).toList != ((rd_T36 x1 x5).f3).toList) ((rd_T36 x0 x5).f0) ((rd_T36 x0 x5).f1) ((rd_T36 x0 x5).f2) ((rd_T36 x0 x5).f3) ((rd_T36 x0 x5).f4) ((rd_T36 x1 x5).f0) ((rd_T36 x1 x5).f1) ((rd_T36 x1 x5).f2) ((rd_T36 x1 x5).f3) ((rd_T36 x1 x5).f4)) else (espalierref04_Same.j1 k x0 x1 x5 false ((rd_T36 x0 x5).f0) ((rd_T36 x0 x5).f1) ((rd_T36 x0 x5).f2) ((rd_T36 x0 x5).f3) ((rd_T36 x0 x5).f4) ((rd_T36 x1 x5).f0) ((rd_T36 x1 x5).f1) ((rd_T36 x1 x5).f2) ((rd_T36 x1 x5).f3) ((rd_T36 x1 x5).f4))) else (espalierref04_Same.j1 k x0 x1 x5 true ((rd_T36 x0 x5).f0) ((rd_T36 x0 x5).f1) ((rd_T36 x0 x5).f2) ((rd_T36 x0 x5).f3) ((rd_T36 x0 x5).f4) ((rd_T36 x1 x5).f0) ((rd_T36 x1 x5).f1) ((rd_T36 x1 x5).f2) ((rd_T36 x1 x5).f3) ((rd_T36 x1 x5).f4))) else (none)) else (none)) else (some true)
def espalierref04_Same.j1 : Nat → List (S36) → List (S36) → Int → Bool → Int → ByteArray → List (S54) → ByteArray → List (S36) → Int → ByteArray → List (S54) → ByteArray → List (S36) → Option (Bool)
 | 0, _, _, _, _, _, _, _, _, _, _, _, _, _, _ => none
 | k + 1, x0, x1, x5, x43, x303000, x303001, x303002, x303003, x303004, x304000, x304001, x304002, x304003, x304004 => if x43 = true then (some false) else (if x303000 = 1 then (if x303001.toList = x304001.toList then ((espalierref03_Attrs.f k x303002 x304002).bind fun t304 => (if t304 = true then ((espalierref04_Same.f k x303004 x304004).bind fun t305 => (if t305 = true then (espalierref04_Same.l0 k x0 x1 (wrap64 (x5 + 1))) else (some false))) else (some false))) else (some false)) else (espalierref04_Same.l0 k x0 x1 (wrap64 (x5 + 1))))
def espalierref04_Same.f : Nat → List (S36) → List (S36) → Option (Bool)
 | 0, _, _ => none
 | k + 1, l0, l1 => if (l0.length : Int) = (l1.length : Int) then (espalierref04_Same.l0 k l0 l1 0) else (some false)
end
theorem espalierref04_Same.mono_l : ∀ k, (∀ y0 y1, LeO (espalierref04_Same.f k y0 y1) (espalierref04_Same.f (k + 1) y0 y1)) ∧ (∀ y0 y1 y2, LeO (espalierref04_Same.l0 k y0 y1 y2) (espalierref04_Same.l0 (k + 1) y0 y1 y2)) ∧ (∀ y0 y1 y2 y3 y4 y5 y6 y7 y8 y9 y10 y11 y12 y13, LeO (espalierref04_Same.j1 k y0 y1 y2 y3 y4 y5 y6 y7 y8 y9 y10 y11 y12 y13) (espalierref04_Same.j1 (k + 1) y0 y1 y2 y3 y4 y5 y6 y7 y8 y9 y10 y11 y12 y13))
 | 0 => ⟨fun _ _ r h => by simp [espalierref04_Same.f] at h, fun _ _ _ r h => by simp [espalierref04_Same.l0] at h, fun _ _ _ _ _ _ _ _ _ _ _ _ _ _ r h => by simp [espalierref04_Same.j1] at h⟩
 | k + 1 => by
  obtain ⟨ih0, ih1, ih2⟩ := espalierref04_Same.mono_l k
  refine ⟨?_, ?_, ?_⟩
  ·intro y0 y1
   unfold espalierref04_Same.f
   repeat' first
   | (with_reducible exact ih0 _ _)
   | (with_reducible exact ih1 _ _ _)
   | (with_reducible exact ih2 _ _ _ _ _ _ _ _ _ _ _ _ _ _)
   | (with_reducible exact espalierref03_Attrs.mono _ _ _)
   | (with_reducible exact LeO.refl _)
   | (with_reducible exact LeO.none _)
   | (with_reducible refine LeO.ite ?_ ?_)
   | (with_reducible refine LeO.bind ?_ (fun _ => ?_))
   | exact ih0 _ _
   | exact ih1 _ _ _
   | exact ih2 _ _ _ _ _ _ _ _ _ _ _ _ _ _
   | exact espalierref03_Attrs.mono _ _ _
   | exact LeO.none _
   | refine LeO.ite ?_ ?_
   | refine LeO.bind ?_ (fun _ => ?_)
  ·intro y0 y1 y2
   unfold espalierref04_Same.l0
   repeat' first
   | (with_reducible exact ih0 _ _)
   | (with_reducible exact ih1 _ _ _)
   | (with_reducible exact ih2 _ _ _ _ _ _ _ _ _ _ _ _ _ _)
   | (with_reducible exact espalierref03_Attrs.mono _ _ _)
   | (with_reducible exact LeO.refl _)
   | (with_reducible exact LeO.none _)
   | (with_reducible refine LeO.ite ?_ ?_)
   | (with_reducible refine LeO.bind ?_ (fun _ => ?_))
   | exact ih0 _ _
   | exact ih1 _ _ _
   | exact ih2 _ _ _ _ _ _ _ _ _ _ _ _ _ _
   | exact espalierref03_Attrs.mono _ _ _
   | exact LeO.none _
   | refine LeO.ite ?_ ?_
   | refine LeO.bind ?_ (fun _ => ?_)
  ·intro y0 y1 y2 y3 y4 y5 y6 y7 y8 y9 y10 y11 y12 y13
   unfold espalierref04_Same.j1
   repeat' first
   | (with_reducible exact ih0 _ _)
   | (with_reducible exact ih1 _ _ _)
   | (with_reducible exact ih2 _ _ _ _ _ _ _ _ _ _ _ _ _ _)
   | (with_reducible exact espalierref03_Attrs.mono _ _ _)
   | (with_reducible exact LeO.refl _)
   | (with_reducible exact LeO.none _)
   | (with_reducible refine LeO.ite ?_ ?_)
   | (with_reducible refine LeO.bind ?_ (fun _ => ?_))
   | exact ih0 _ _
   | exact ih1 _ _ _
   | exact ih2 _ _ _ _ _ _ _ _ _ _ _ _ _ _
   | exact espalierref03_Attrs.mono _ _ _
   | exact LeO.none _
   | refine LeO.ite ?_ ?_
   | refine LeO.bind ?_ (fun _ => ?_)
theorem espalierref04_Same.mono : ∀ a0 a1 k, LeO (espalierref04_Same.f k a0 a1) (espalierref04_Same.f (k + 1) a0 a1) := by
 intro a0 a1 k
 obtain ⟨ih0, ih1, ih2⟩ := espalierref04_Same.mono_l k
 exact ih0 a0 a1
def espalierref04_Same.T6 : Bool × List (List Nat × List Nat) := (true, [([], []), ([], []), ([0, 1], [0, 1]), ([2], [2]), ([], []), ([], []), ([4, 5], [4, 5]), ([6], [6]), ([], []), ([], []), ([8, 3, 0, 1, 2, 3, 8, 9], [3, 8]), ([9, 7, 10, 0, 1, 2, 3, 4, 5, 6, 7, 8, 9, 10], [7, 9])])
def espalierref04_Same.B6 : List Nat := [0, 0, 3, 7, 0, 0, 48, 112, 0, 0, 783, 2047]
theorem espalierref04_Same.tab6 : rtab .any (opsOf Tryd.f13 6) = espalierref04_Same.T6 := by kernel_rfl
theorem espalierref04_Same.bits6 : waitsOk espalierref04_Same.T6.2 espalierref04_Same.B6 = true := by kernel_rfl
set_option maxHeartbeats 8000000 in
set_option maxRecDepth 100000 in
theorem espalierref04_Same.calls (k : Nat) : ∀ (A0 : Option Addr) (c0 : Nat) (l0 : List (S36)) (A1 : Option Addr) (c1 : Nat) (l1 : List (S36)) (r : Bool) (w : World) (hr0 : Kd.C k36 w A0 l0.length l0) (hc0 : l0.length ≤ c0) (hr1 : Kd.C k36 w A1 l1.length l1) (hc1 : l1.length ≤ c1) (h : espalierref04_Same.f k l0 l1 = some r),
  Calls Tryd.prog 13 #[.slice A0 l0.length c0, .slice A1 l1.length c1] w fun e w' => e = .returned (.bool r) ∧ Below w.heap.size w w' := by
 induction k using Nat.strongRecOn with
 | _ k ih =>
 intro A0 c0 l0 A1 c1 l1 r w hr0 hc0 hr1 hc1 h
 cases k with
 | zero => exact absurd h (by simp [espalierref04_Same.f])
 | succ k =>
 simp only [espalierref04_Same.f] at h
 have hu36 := Tryd.underlying36
 have HR0 := Aside0.mk hr0
 have HC0 := Aside0.mk hc0
 clear hr0 hc0
 have HR1 := Aside0.mk hr1
 have HC1 := Aside0.mk hc1
 clear hr1 hc1
 have HB := Aside0.mk (Below.refl w.heap.size w)
 have H : (if (l0.length : Int) = (l1.length : Int) then (espalierref04_Same.l0 k l0 l1 0) else (some false)) = some r := h
 clear h
 by_cases c3 : (l0.length : Int) = (l1.length : Int)
 ·rw [if_pos c3] at H
  have c3b0 := beq_iff_eq.mpr c3
  have c3b1 := bne_eq_false_iff_eq.mpr c3
  have c3b2 : (l0.length == l1.length) = true := by first | simpa using c3 | (simp at c3 ⊢; omega)
  clear c3
  have H' := Aside0.mk H
  clear H
  go_enter Tryd.func13, Tryd.ntmps13
  go_wp2
  go_loopg [5] k (fun kq v5 w' => ∃ (x5_1 : Int), v5 = .int .i64 x5_1 ∧ Aside0 (espalierref04_Same.l0 kq l0 l1 x5_1 = some r) ∧ Aside0 (kq ≤ k) ∧ Aside0 (Below w.heap.size w w'))
  case atStart => exact ⟨(0), (by first | rfl | (simp; done) | (simp [*]; done)), H', ⟨Nat.le_refl _⟩, ⟨hb_⟩⟩
  case round =>
   clear H'
   try clear c1
   try clear p2
   try clear c3
   try clear c3b0
   try clear c3b1
   try clear c3b2
   obtain ⟨x5_1, rfl, HA, HK1, HB⟩ := hrel
   cases gk with
   | zero => exact absurd HA.out (by simp [espalierref04_Same.l0])
   | succ k1 =>
    have H := HA.out
    clear HA
    simp only [espalierref04_Same.l0] at H
    by_cases c4 : x5_1 < (l0.length : Int)
    ·rw [if_pos c4] at H
     have c4b0 : decide (x5_1 < (l0.length : Int)) = true := decide_eq_true c4
     clear c4
     by_cases c5 : 0 ≤ x5_1
     ·rw [if_pos c5] at H
      have c5b0 : decide (0 ≤ x5_1) = true := decide_eq_true c5
      clear c5
      by_cases c6 : x5_1 < (l1.length : Int)
      ·rw [if_pos c6] at H
       have c6b0 : decide (x5_1 < (l1.length : Int)) = true := decide_eq_true c6
       clear c6
       have HC7 := Aside0.mk H
       clear H
       try go_wp2
       replace HB := Aside0.mk (below_drew1 HB.out)
       have p300 : 0 ≤ (x5_1 : Int) := of_decide_eq_true (by first | (with_reducible assumption) | assumption)
       have q300 : x5_1 < (l0.length : Int) := of_decide_eq_true (by first | (with_reducible assumption) | assumption)
       obtain ⟨ad300, A300_2, c300_2, A300_4, c300_4, e300, hx300_0, hx300_1, hx300_2, hx300_3, hx300_4, hl300_2, hi300_2, hl300_4, hi300_4⟩ := at_T36 HR0.out x5_1 p300 q300
       have hw300_4 := hx300_4
       have hw300_3 := hx300_3
       have hw300_2 := hx300_2
       have hw300_1 := hx300_1
       have hw300_0 := hx300_0
       cases e300
       replace hx300_0 := hc_ HB.out hx300_0
       replace hx300_1 := hc_ HB.out hx300_1
       replace hx300_2 := hc_ HB.out hx300_2
       replace hx300_3 := hc_ HB.out hx300_3
       replace hx300_4 := hc_ HB.out hx300_4
       have HR300_2 := Aside0.mk hi300_2
       have HC300_2 := Aside0.mk hl300_2
       clear hi300_2 hl300_2
       have HR300_4 := Aside0.mk hi300_4
       have HC300_4 := Aside0.mk hl300_4
       clear hi300_4 hl300_4
       replace p300 := eq_true p300
       replace q300 := eq_true q300
       have p301 : 0 ≤ (x5_1 : Int) := of_decide_eq_true (by first | (with_reducible assumption) | assumption)
       have q301 : x5_1 < (l1.length : Int) := of_decide_eq_true (by first | (with_reducible assumption) | assumption)
       obtain ⟨ad301, A301_2, c301_2, A301_4, c301_4, e301, hx301_0, hx301_1, hx301_2, hx301_3, hx301_4, hl301_2, hi301_2, hl301_4, hi301_4⟩ := at_T36 HR1.out x5_1 p301 q301
       have hw301_4 := hx301_4
       have hw301_3 := hx301_3
       have hw301_2 := hx301_2
       have hw301_1 := hx301_1
       have hw301_0 := hx301_0
       cases e301
       replace hx301_0 := hc_ HB.out hx301_0
       replace hx301_1 := hc_ HB.out hx301_1
       replace hx301_2 := hc_ HB.out hx301_2
       replace hx301_3 := hc_ HB.out hx301_3
       replace hx301_4 := hc_ HB.out hx301_4
       have HR301_2 := Aside0.mk hi301_2
       have HC301_2 := Aside0.mk hl301_2
       clear hi301_2 hl301_2
       have HR301_4 := Aside0.mk hi301_4
       have HC301_4 := Aside0.mk hl301_4
       clear hi301_4 hl301_4
       replace p301 := eq_true p301
       replace q301 := eq_true q301
       refine start_ (n := 12) (S := fun w' => w'.cell? (ad300.add ((x5_1).toNat * 5)) = some (.int .i64 ((rd_T36 l0 x5_1).f0)) ∧ w'.cell? ⟨(ad300.add ((x5_1).toNat * 5)).block, (ad300.add ((x5_1).toNat * 5)).off + 1, none⟩ = some (.string ((rd_T36 l0 x5_1).f1)) ∧ w'.cell? ⟨(ad300.add ((x5_1).toNat * 5)).block, (ad300.add ((x5_1).toNat * 5)).off + 2, none⟩ = some (.slice A300_2 ((rd_T36 l0 x5_1).f2).length c300_2) ∧ w'.cell? ⟨(ad300.add ((x5_1).toNat * 5)).block, (ad300.add ((x5_1).toNat * 5)).off + 3, none⟩ = some (.string ((rd_T36 l0 x5_1).f3)) ∧ w'.cell? ⟨(ad300.add ((x5_1).toNat * 5)).block, (ad300.add ((x5_1).toNat * 5)).off + 4, none⟩ = some (.slice A300_4 ((rd_T36 l0 x5_1).f4).length c300_4) ∧ w'.cell? (ad301.add ((x5_1).toNat * 5)) = some (.int .i64 ((rd_T36 l1 x5_1).f0)) ∧ w'.cell? ⟨(ad301.add ((x5_1).toNat * 5)).block, (ad301.add ((x5_1).toNat * 5)).off + 1, none⟩ = some (.string ((rd_T36 l1 x5_1).f1)) ∧ w'.cell? ⟨(ad301.add ((x5_1).toNat * 5)).block, (ad301.add ((x5_1).toNat * 5)).off + 2, none⟩ = some (.slice A301_2 ((rd_T36 l1 x5_1).f2).length c301_2) ∧ w'.cell? ⟨(ad301.add ((x5_1).toNat * 5)).block, (ad301.add ((x5_1).toNat * 5)).off + 3, none⟩ = some (.string ((rd_T36 l1 x5_1).f3)) ∧ w'.cell? ⟨(ad301.add ((x5_1).toNat * 5)).block, (ad301.add ((x5_1).toNat * 5)).off + 4, none⟩ = some (.slice A301_4 ((rd_T36 l1 x5_1).f4).length c301_4)) (ds := []) #[false, false, false, false, false, false, false, false, false, false, false, false] (by kernel_rfl) rfl rfl ⟨(hc_ HB.out hw300_0), (hc_ HB.out hw300_1), (hc_ HB.out hw300_2), (hc_ HB.out hw300_3), (hc_ HB.out hw300_4), (hc_ HB.out hw301_0), (hc_ HB.out hw301_1), (hc_ HB.out hw301_2), (hc_ HB.out hw301_3), (hc_ HB.out hw301_4)⟩ (fun hHeld => ?_); refine with_tabW espalierref04_Same.tab6 espalierref04_Same.bits6 (fun HT_ HW_ => ?_)
       generalize wr.drew = w8 at HB HR300_2 HR300_4 HR301_2 HR301_4 hx300_0 hx300_1 hx300_2 hx300_3 hx300_4 hx301_0 hx301_1 hx301_2 hx301_3 hx301_4 hHeld ⊢
       refine pu_ 0 (some 19) #[true, false, false, false, false, false, false, false, false, false, false, false] (any_of HT_.out (by kernel_rfl)) ?_
       refine pu_ 1 (some 20) #[true, true, false, false, false, false, false, false, false, false, false, false] (any_of HT_.out (by kernel_rfl)) ?_
       refine pu_ 2 (some 21) #[true, true, true, false, false, false, false, false, false, false, false, false] (any_of HT_.out (by kernel_rfl)) ?_
       refine pu_ 4 (some 23) #[true, true, true, false, true, false, false, false, false, false, false, false] (any_of HT_.out (by kernel_rfl)) ?_
       refine pu_ 5 (some 24) #[true, true, true, false, true, true, false, false, false, false, false, false] (any_of HT_.out (by kernel_rfl)) ?_
       refine pu_ 6 (some 25) #[true, true, true, false, true, true, true, false, false, false, false, false] (any_of HT_.out (by kernel_rfl)) ?_
       refine take_ (i := 3) (N := some 22) (v := ?_) (a' := ?_) #[true, true, true, true, true, true, true, false, false, false, false, false] rfl rfl (take_ofW HT_.out HW_.out (by kernel_rfl)) (fun _ _ _ h => h) (Or.inl ⟨by rfl, ?_⟩) hHeld ?_ ?_
       rotate_left
       ·rintro w' ⟨s0, s1, s2, s3, s4, s5, s6, s7, s8, s9⟩
        go_simp
        with_reducible rfl
       rotate_left
       ·simp only [Act.put, List.setIfInBounds_toArray, List.set_cons_zero, List.set_cons_succ, i64_w, i32_w]
        rfl
       refine take_ (i := 7) (N := some 26) (v := ?_) (a' := ?_) #[true, true, true, true, true, true, true, true, false, false, false, false] rfl rfl (take_ofW HT_.out HW_.out (by kernel_rfl)) (fun _ _ _ h => h) (Or.inl ⟨by rfl, ?_⟩) hHeld ?_ ?_
       rotate_left
       ·rintro w' ⟨s0, s1, s2, s3, s4, s5, s6, s7, s8, s9⟩
        go_simp
        with_reducible rfl
       rotate_left
       ·simp only [Act.put, List.setIfInBounds_toArray, List.set_cons_zero, List.set_cons_succ, i64_w, i32_w]
        rfl
       refine join_ (σ := Nat × Nat) 2 #[true, true, true, true, true, true, true, true, true, true, false, false] (fun s_ => [(6, .pointer (some ⟨s_.1, 0, none⟩)), (7, .pointer (some ⟨s_.2, 0, none⟩))]) (fun s_ w' => (w'.cell? (ad300.add ((x5_1).toNat * 5)) = some (.int .i64 ((rd_T36 l0 x5_1).f0)) ∧ w'.cell? ⟨(ad300.add ((x5_1).toNat * 5)).block, (ad300.add ((x5_1).toNat * 5)).off + 1, none⟩ = some (.string ((rd_T36 l0 x5_1).f1)) ∧ w'.cell? ⟨(ad300.add ((x5_1).toNat * 5)).block, (ad300.add ((x5_1).toNat * 5)).off + 2, none⟩ = some (.slice A300_2 ((rd_T36 l0 x5_1).f2).length c300_2) ∧ w'.cell? ⟨(ad300.add ((x5_1).toNat * 5)).block, (ad300.add ((x5_1).toNat * 5)).off + 3, none⟩ = some (.string ((rd_T36 l0 x5_1).f3)) ∧ w'.cell? ⟨(ad300.add ((x5_1).toNat * 5)).block, (ad300.add ((x5_1).toNat * 5)).off + 4, none⟩ = some (.slice A300_4 ((rd_T36 l0 x5_1).f4).length c300_4) ∧ w'.cell? (ad301.add ((x5_1).toNat * 5)) = some (.int .i64 ((rd_T36 l1 x5_1).f0)) ∧ w'.cell? ⟨(ad301.add ((x5_1).toNat * 5)).block, (ad301.add ((x5_1).toNat * 5)).off + 1, none⟩ = some (.string ((rd_T36 l1 x5_1).f1)) ∧ w'.cell? ⟨(ad301.add ((x5_1).toNat * 5)).block, (ad301.add ((x5_1).toNat * 5)).off + 2, none⟩ = some (.slice A301_2 ((rd_T36 l1 x5_1).f2).length c301_2) ∧ w'.cell? ⟨(ad301.add ((x5_1).toNat * 5)).block, (ad301.add ((x5_1).toNat * 5)).off + 3, none⟩ = some (.string ((rd_T36 l1 x5_1).f3)) ∧ w'.cell? ⟨(ad301.add ((x5_1).toNat * 5)).block, (ad301.add ((x5_1).toNat * 5)).off + 4, none⟩ = some (.slice A301_4 ((rd_T36 l1 x5_1).f4).length c301_4)) ∧ (w'.heap[s_.1]? = some (.cells #[.int .i64 0, .string (⟨#[]⟩ : ByteArray), .slice none 0 0, .string (⟨#[]⟩ : ByteArray), .slice none 0 0] 36 (0, 0))) ∧ (w'.heap[s_.2]? = some (.cells #[.int .i64 0, .string (⟨#[]⟩ : ByteArray), .slice none 0 0, .string (⟨#[]⟩ : ByteArray), .slice none 0 0] 36 (0, 0))) ∧ (w.heap.size ≤ s_.1) ∧ (w.heap.size ≤ s_.1) ∧ (s_.2 ≠ s_.1) ∧ (s_.1 ≠ s_.2) ∧ (w.heap.size ≤ s_.2) ∧ (w.heap.size ≤ s_.2) ∧ (Below w.heap.size w w')) ?_ ?_
       rotate_left
       ·intro hCont
        refine two_ (i := 8) (j := 9) (Ni := some 6) (Nj := some 7) #[true, true, true, true, true, true, true, true, true, false, false, false] #[true, true, true, true, true, true, true, true, false, true, false, false] rfl rfl rfl rfl (two_of HT_.out (by kernel_rfl)) (by decide) (by decide) (fun K hK => ?_) (fun K hK => ?_)
        ·skip
         refine box_step ?hg (N := 6) ?hd (cs := #[.int .i64 0, .string (⟨#[]⟩ : ByteArray), .slice none 0 0, .string (⟨#[]⟩ : ByteArray), .slice none 0 0]) (t := 36) ?hr ?_; (case hd => rfl); (case hg => rfl); (case hr => first | (go_simp; done) | (go_simp; rfl))
         intro gb302 hg w9 hbox hb
         have n0_ := Aside0.mk (below_step hb_ hb)
         have n1_ := Aside0.mk (hbox)
         have n2_ := Aside0.mk ((by rw [hg]; exact (below_size hb_) : w.heap.size ≤ gb302))
         have n3_ := Aside0.mk ((by rw [hg]; exact (below_size hb_) : w.heap.size ≤ gb302))
         clear HB
         have HB := n0_
         have BK302 := n1_
         have GW302 := n2_
         have GE302 := n3_
         clear n0_ n1_ n2_ n3_
         clear hb hbox hg
         refine hK.out _ _ ⟨(hc_ HB.out hw300_0), (hc_ HB.out hw300_1), (hc_ HB.out hw300_2), (hc_ HB.out hw300_3), (hc_ HB.out hw300_4), (hc_ HB.out hw301_0), (hc_ HB.out hw301_1), (hc_ HB.out hw301_2), (hc_ HB.out hw301_3), (hc_ HB.out hw301_4)⟩ (fun hHeld => ?_)
         clear hK K
         refine norm_ (a' := ?_) ?_ ?_
         rotate_left
         ·show Act.put _ (some 6) _ = _
          simp only [Act.put, List.setIfInBounds_toArray, List.set_cons_zero, List.set_cons_succ, i64_w, i32_w]
          rfl
         refine one_ (i := 9) (N := some 7) #[true, true, true, true, true, true, true, true, true, true, false, false] rfl rfl (one_of HT_.out (by kernel_rfl)) (by decide) (fun K hK => ?_)
         refine box_step ?hg (N := 7) ?hd (cs := #[.int .i64 0, .string (⟨#[]⟩ : ByteArray), .slice none 0 0, .string (⟨#[]⟩ : ByteArray), .slice none 0 0]) (t := 36) ?hr ?_; (case hd => rfl); (case hg => rfl); (case hr => first | (go_simp; done) | (go_simp; rfl))
         intro gb303 hg w10 hbox hb
         have n0_ := Aside0.mk (blk_below (g := gb302) (o := .cells #[.int .i64 0, .string (⟨#[]⟩ : ByteArray), .slice none 0 0, .string (⟨#[]⟩ : ByteArray), .slice none 0 0] 36 (0, 0)) (bk_ BK302.out) hb)
         have n1_ := Aside0.mk (below_step (hb1_ GE302.out) hb)
         have n2_ := Aside0.mk (hbox)
         have n3_ := Aside0.mk ((by rw [hg]; exact (below_size (hb1_ GE302.out)) : w.heap.size ≤ gb303))
         have n4_ := Aside0.mk ((by rw [hg]; exact (below_size (hb1_ GE302.out)) : w.heap.size ≤ gb303))
         have n5_ := Aside0.mk ((by rw [hg]; exact Nat.ne_of_lt (blk_lt (g := gb302) (o := .cells #[.int .i64 0, .string (⟨#[]⟩ : ByteArray), .slice none 0 0, .string (⟨#[]⟩ : ByteArray), .slice none 0 0] 36 (0, 0)) (bk_ BK302.out)) : gb302 ≠ gb303))
         have n6_ := Aside0.mk ((by rw [hg]; exact Nat.ne_of_gt (blk_lt (g := gb302) (o := .cells #[.int .i64 0, .string (⟨#[]⟩ : ByteArray), .slice none 0 0, .string (⟨#[]⟩ : ByteArray), .slice none 0 0] 36 (0, 0)) (bk_ BK302.out)) : gb303 ≠ gb302))
         clear BK302
         clear HB
         have BK302 := n0_
         have HB := n1_
         have BK303 := n2_
         have GW303 := n3_
         have GE303 := n4_
         have NB302_303 := n5_
         have NB303_302 := n6_
         clear n0_ n1_ n2_ n3_ n4_ n5_ n6_
         clear hb hbox hg
         refine hK.out _ _ ⟨(hc_ HB.out hw300_0), (hc_ HB.out hw300_1), (hc_ HB.out hw300_2), (hc_ HB.out hw300_3), (hc_ HB.out hw300_4), (hc_ HB.out hw301_0), (hc_ HB.out hw301_1), (hc_ HB.out hw301_2), (hc_ HB.out hw301_3), (hc_ HB.out hw301_4)⟩ (fun hHeld => ?_)
         clear hK K
         refine norm_ (a' := ?_) ?_ ?_
         rotate_left
         ·show Act.put _ (some 7) _ = _
          simp only [Act.put, List.setIfInBounds_toArray, List.set_cons_zero, List.set_cons_succ, i64_w, i32_w]
          rfl
         exact norm_ (by simp only [putAll, Act.put, List.setIfInBounds_toArray, List.set_cons_zero, List.set_cons_succ]) (hCont (gb302, gb303) _ ⟨hHeld, (bk_ BK302.out), (bk_ BK303.out), GW302.out, GE302.out, NB303_302.out, NB302_303.out, GW303.out, GE303.out, (hb2_ GE302.out GE303.out)⟩)
        ·skip
         refine box_step ?hg (N := 7) ?hd (cs := #[.int .i64 0, .string (⟨#[]⟩ : ByteArray), .slice none 0 0, .string (⟨#[]⟩ : ByteArray), .slice none 0 0]) (t := 36) ?hr ?_; (case hd => rfl); (case hg => rfl); (case hr => first | (go_simp; done) | (go_simp; rfl))
         intro gb303 hg w9 hbox hb
         have n0_ := Aside0.mk (below_step hb_ hb)
         have n1_ := Aside0.mk (hbox)
         have n2_ := Aside0.mk ((by rw [hg]; exact (below_size hb_) : w.heap.size ≤ gb303))
         have n3_ := Aside0.mk ((by rw [hg]; exact (below_size hb_) : w.heap.size ≤ gb303))
         clear HB
         have HB := n0_
         have BK303 := n1_
         have GW303 := n2_
         have GE303 := n3_
         clear n0_ n1_ n2_ n3_
         clear hb hbox hg
         refine hK.out _ _ ⟨(hc_ HB.out hw300_0), (hc_ HB.out hw300_1), (hc_ HB.out hw300_2), (hc_ HB.out hw300_3), (hc_ HB.out hw300_4), (hc_ HB.out hw301_0), (hc_ HB.out hw301_1), (hc_ HB.out hw301_2), (hc_ HB.out hw301_3), (hc_ HB.out hw301_4)⟩ (fun hHeld => ?_)
         clear hK K
         refine norm_ (a' := ?_) ?_ ?_
         rotate_left
         ·show Act.put _ (some 7) _ = _
          simp only [Act.put, List.setIfInBounds_toArray, List.set_cons_zero, List.set_cons_succ, i64_w, i32_w]
          rfl
         refine one_ (i := 8) (N := some 6) #[true, true, true, true, true, true, true, true, true, true, false, false] rfl rfl (one_of HT_.out (by kernel_rfl)) (by decide) (fun K hK => ?_)
         refine box_step ?hg (N := 6) ?hd (cs := #[.int .i64 0, .string (⟨#[]⟩ : ByteArray), .slice none 0 0, .string (⟨#[]⟩ : ByteArray), .slice none 0 0]) (t := 36) ?hr ?_; (case hd => rfl); (case hg => rfl); (case hr => first | (go_simp; done) | (go_simp; rfl))
         intro gb302 hg w10 hbox hb
         have n0_ := Aside0.mk (blk_below (g := gb303) (o := .cells #[.int .i64 0, .string (⟨#[]⟩ : ByteArray), .slice none 0 0, .string (⟨#[]⟩ : ByteArray), .slice none 0 0] 36 (0, 0)) (bk_ BK303.out) hb)
         have n1_ := Aside0.mk (below_step (hb1_ GE303.out) hb)
         have n2_ := Aside0.mk (hbox)
         have n3_ := Aside0.mk ((by rw [hg]; exact (below_size (hb1_ GE303.out)) : w.heap.size ≤ gb302))
         have n4_ := Aside0.mk ((by rw [hg]; exact (below_size (hb1_ GE303.out)) : w.heap.size ≤ gb302))
         have n5_ := Aside0.mk ((by rw [hg]; exact Nat.ne_of_lt (blk_lt (g := gb303) (o := .cells #[.int .i64 0, .string (⟨#[]⟩ : ByteArray), .slice none 0 0, .string (⟨#[]⟩ : ByteArray), .slice none 0 0] 36 (0, 0)) (bk_ BK303.out)) : gb303 ≠ gb302))
         have n6_ := Aside0.mk ((by rw [hg]; exact Nat.ne_of_gt (blk_lt (g := gb303) (o := .cells #[.int .i64 0, .string (⟨#[]⟩ : ByteArray), .slice none 0 0, .string (⟨#[]⟩ : ByteArray), .slice none 0 0] 36 (0, 0)) (bk_ BK303.out)) : gb302 ≠ gb303))
         clear BK303
         clear HB
         have BK303 := n0_
         have HB := n1_
         have BK302 := n2_
         have GW302 := n3_
         have GE302 := n4_
         have NB303_302 := n5_
         have NB302_303 := n6_
         clear n0_ n1_ n2_ n3_ n4_ n5_ n6_
         clear hb hbox hg
         refine hK.out _ _ ⟨(hc_ HB.out hw300_0), (hc_ HB.out hw300_1), (hc_ HB.out hw300_2), (hc_ HB.out hw300_3), (hc_ HB.out hw300_4), (hc_ HB.out hw301_0), (hc_ HB.out hw301_1), (hc_ HB.out hw301_2), (hc_ HB.out hw301_3), (hc_ HB.out hw301_4)⟩ (fun hHeld => ?_)
         clear hK K
         refine norm_ (a' := ?_) ?_ ?_
         rotate_left
         ·show Act.put _ (some 6) _ = _
          simp only [Act.put, List.setIfInBounds_toArray, List.set_cons_zero, List.set_cons_succ, i64_w, i32_w]
          rfl
         exact norm_ (by simp only [putAll, Act.put, List.setIfInBounds_toArray, List.set_cons_zero, List.set_cons_succ]) (hCont (gb302, gb303) _ ⟨hHeld, (bk_ BK302.out), (bk_ BK303.out), GW302.out, GE302.out, NB303_302.out, NB302_303.out, GW303.out, GE303.out, (hb2_ GE303.out GE302.out)⟩)
       rintro ⟨gb302, gb303⟩ w11 ⟨hS_, h0_, h1_, h2_, h3_, h4_, h5_, h6_, h7_, h8_⟩
       have n0_ : Aside0 (w11.heap[gb302]? = some (.cells #[.int .i64 0, .string (⟨#[]⟩ : ByteArray), .slice none 0 0, .string (⟨#[]⟩ : ByteArray), .slice none 0 0] 36 (0, 0))) := ⟨h0_⟩
       have n1_ : Aside0 (w11.heap[gb303]? = some (.cells #[.int .i64 0, .string (⟨#[]⟩ : ByteArray), .slice none 0 0, .string (⟨#[]⟩ : ByteArray), .slice none 0 0] 36 (0, 0))) := ⟨h1_⟩
       have n2_ : Aside0 (w.heap.size ≤ gb302) := ⟨h2_⟩
       have n3_ : Aside0 (w.heap.size ≤ gb302) := ⟨h3_⟩
       have n4_ : Aside0 (gb303 ≠ gb302) := ⟨h4_⟩
       have n5_ : Aside0 (gb302 ≠ gb303) := ⟨h5_⟩
       have n6_ : Aside0 (w.heap.size ≤ gb303) := ⟨h6_⟩
       have n7_ : Aside0 (w.heap.size ≤ gb303) := ⟨h7_⟩
       have n8_ : Aside0 (Below w.heap.size w w11) := ⟨h8_⟩
       clear HB
       clear h0_ h1_ h2_ h3_ h4_ h5_ h6_ h7_ h8_
       have BK302 := n0_
       have BK303 := n1_
       have GW302 := n2_
       have GE302 := n3_
       have NB303_302 := n4_
       have NB302_303 := n5_
       have GW303 := n6_
       have GE303 := n7_
       have HB := n8_
       clear n0_ n1_ n2_ n3_ n4_ n5_ n6_ n7_ n8_
       have hHeld : w11.cell? (ad300.add ((x5_1).toNat * 5)) = some (.int .i64 ((rd_T36 l0 x5_1).f0)) ∧ w11.cell? ⟨(ad300.add ((x5_1).toNat * 5)).block, (ad300.add ((x5_1).toNat * 5)).off + 1, none⟩ = some (.string ((rd_T36 l0 x5_1).f1)) ∧ w11.cell? ⟨(ad300.add ((x5_1).toNat * 5)).block, (ad300.add ((x5_1).toNat * 5)).off + 2, none⟩ = some (.slice A300_2 ((rd_T36 l0 x5_1).f2).length c300_2) ∧ w11.cell? ⟨(ad300.add ((x5_1).toNat * 5)).block, (ad300.add ((x5_1).toNat * 5)).off + 3, none⟩ = some (.string ((rd_T36 l0 x5_1).f3)) ∧ w11.cell? ⟨(ad300.add ((x5_1).toNat * 5)).block, (ad300.add ((x5_1).toNat * 5)).off + 4, none⟩ = some (.slice A300_4 ((rd_T36 l0 x5_1).f4).length c300_4) ∧ w11.cell? (ad301.add ((x5_1).toNat * 5)) = some (.int .i64 ((rd_T36 l1 x5_1).f0)) ∧ w11.cell? ⟨(ad301.add ((x5_1).toNat * 5)).block, (ad301.add ((x5_1).toNat * 5)).off + 1, none⟩ = some (.string ((rd_T36 l1 x5_1).f1)) ∧ w11.cell? ⟨(ad301.add ((x5_1).toNat * 5)).block, (ad301.add ((x5_1).toNat * 5)).off + 2, none⟩ = some (.slice A301_2 ((rd_T36 l1 x5_1).f2).length c301_2) ∧ w11.cell? ⟨(ad301.add ((x5_1).toNat * 5)).block, (ad301.add ((x5_1).toNat * 5)).off + 3, none⟩ = some (.string ((rd_T36 l1 x5_1).f3)) ∧ w11.cell? ⟨(ad301.add ((x5_1).toNat * 5)).block, (ad301.add ((x5_1).toNat * 5)).off + 4, none⟩ = some (.slice A301_4 ((rd_T36 l1 x5_1).f4).length c301_4) := hS_
       refine norm_ (a' := ?_) ?_ ?_
       rotate_left
       ·simp only [putAll, Act.put, List.setIfInBounds_toArray, List.set_cons_zero, List.set_cons_succ]
        rfl
       refine one_ (i := 10) (N := none) #[true, true, true, true, true, true, true, true, true, true, true, false] rfl rfl (one_of HT_.out (by kernel_rfl)) (by decide) (fun K hK => ?_)
       have hs12 : w11.cell? ⟨gb302, 0, none⟩ = some (.int .i64 0) := (blk_cell BK302.out 0).trans rfl
       have hfs12 := blk_frozen BK302.out 0
       have hns12_1 := NB303_302.out
       have hms12_1 := NB302_303.out
       have hs13 : w11.cell? ⟨gb302, 1, none⟩ = some (.string (⟨#[]⟩ : ByteArray)) := (blk_cell BK302.out 1).trans rfl
       have hfs13 := blk_frozen BK302.out 1
       have hns13_1 := NB303_302.out
       have hms13_1 := NB302_303.out
       have hs14 : w11.cell? ⟨gb302, 2, none⟩ = some (.slice none 0 0) := (blk_cell BK302.out 2).trans rfl
       have hfs14 := blk_frozen BK302.out 2
       have hns14_1 := NB303_302.out
       have hms14_1 := NB302_303.out
       have hs15 : w11.cell? ⟨gb302, 3, none⟩ = some (.string (⟨#[]⟩ : ByteArray)) := (blk_cell BK302.out 3).trans rfl
       have hfs15 := blk_frozen BK302.out 3
       have hns15_1 := NB303_302.out
       have hms15_1 := NB302_303.out
       have hs16 : w11.cell? ⟨gb302, 4, none⟩ = some (.slice none 0 0) := (blk_cell BK302.out 4).trans rfl
       have hfs16 := blk_frozen BK302.out 4
       have hns16_1 := NB303_302.out
       have hms16_1 := NB302_303.out
       refine skip_ (w1 := ?_) (by rfl) rfl ?_ ?_
       rotate_left
       ·go_simp
        rfl
       refine hK.out _ _ ⟨((far_ hw300_0 GW302.out _).trans (((far_ hw300_0 GW302.out _).trans (((far_ hw300_0 GW302.out _).trans (((far_ hw300_0 GW302.out _).trans (((far_ hw300_0 GW302.out _).trans (hHeld.1)))))))))), ((far_ hw300_1 GW302.out _).trans (((far_ hw300_1 GW302.out _).trans (((far_ hw300_1 GW302.out _).trans (((far_ hw300_1 GW302.out _).trans (((far_ hw300_1 GW302.out _).trans (hHeld.2.1)))))))))), ((far_ hw300_2 GW302.out _).trans (((far_ hw300_2 GW302.out _).trans (((far_ hw300_2 GW302.out _).trans (((far_ hw300_2 GW302.out _).trans (((far_ hw300_2 GW302.out _).trans (hHeld.2.2.1)))))))))), ((far_ hw300_3 GW302.out _).trans (((far_ hw300_3 GW302.out _).trans (((far_ hw300_3 GW302.out _).trans (((far_ hw300_3 GW302.out _).trans (((far_ hw300_3 GW302.out _).trans (hHeld.2.2.2.1)))))))))), ((far_ hw300_4 GW302.out _).trans (((far_ hw300_4 GW302.out _).trans (((far_ hw300_4 GW302.out _).trans (((far_ hw300_4 GW302.out _).trans (((far_ hw300_4 GW302.out _).trans (hHeld.2.2.2.2.1)))))))))), ((far_ hw301_0 GW302.out _).trans (((far_ hw301_0 GW302.out _).trans (((far_ hw301_0 GW302.out _).trans (((far_ hw301_0 GW302.out _).trans (((far_ hw301_0 GW302.out _).trans (hHeld.2.2.2.2.2.1)))))))))), ((far_ hw301_1 GW302.out _).trans (((far_ hw301_1 GW302.out _).trans (((far_ hw301_1 GW302.out _).trans (((far_ hw301_1 GW302.out _).trans (((far_ hw301_1 GW302.out _).trans (hHeld.2.2.2.2.2.2.1)))))))))), ((far_ hw301_2 GW302.out _).trans (((far_ hw301_2 GW302.out _).trans (((far_ hw301_2 GW302.out _).trans (((far_ hw301_2 GW302.out _).trans (((far_ hw301_2 GW302.out _).trans (hHeld.2.2.2.2.2.2.2.1)))))))))), ((far_ hw301_3 GW302.out _).trans (((far_ hw301_3 GW302.out _).trans (((far_ hw301_3 GW302.out _).trans (((far_ hw301_3 GW302.out _).trans (((far_ hw301_3 GW302.out _).trans (hHeld.2.2.2.2.2.2.2.2.1)))))))))), ((far_ hw301_4 GW302.out _).trans (((far_ hw301_4 GW302.out _).trans (((far_ hw301_4 GW302.out _).trans (((far_ hw301_4 GW302.out _).trans (((far_ hw301_4 GW302.out _).trans (hHeld.2.2.2.2.2.2.2.2.2))))))))))⟩ (fun hHeld => ?_)
       clear hK K
       refine one_ (i := 11) (N := none) #[true, true, true, true, true, true, true, true, true, true, true, true] rfl rfl (one_of HT_.out (by kernel_rfl)) (by decide) (fun K hK => ?_)
       have hs17 : w11.cell? ⟨gb303, 0, none⟩ = some (.int .i64 0) := (blk_cell BK303.out 0).trans rfl
       have hfs17 := blk_frozen BK303.out 0
       have hns17_0 := NB302_303.out
       have hms17_0 := NB303_302.out
       have hs18 : w11.cell? ⟨gb303, 1, none⟩ = some (.string (⟨#[]⟩ : ByteArray)) := (blk_cell BK303.out 1).trans rfl
       have hfs18 := blk_frozen BK303.out 1
       have hns18_0 := NB302_303.out
       have hms18_0 := NB303_302.out
       have hs19 : w11.cell? ⟨gb303, 2, none⟩ = some (.slice none 0 0) := (blk_cell BK303.out 2).trans rfl
       have hfs19 := blk_frozen BK303.out 2
       have hns19_0 := NB302_303.out
       have hms19_0 := NB303_302.out
       have hs20 : w11.cell? ⟨gb303, 3, none⟩ = some (.string (⟨#[]⟩ : ByteArray)) := (blk_cell BK303.out 3).trans rfl
       have hfs20 := blk_frozen BK303.out 3
       have hns20_0 := NB302_303.out
       have hms20_0 := NB303_302.out
       have hs21 : w11.cell? ⟨gb303, 4, none⟩ = some (.slice none 0 0) := (blk_cell BK303.out 4).trans rfl
       have hfs21 := blk_frozen BK303.out 4
       have hns21_0 := NB302_303.out
       have hms21_0 := NB303_302.out
       refine skip_ (w1 := ?_) (by rfl) rfl ?_ ?_
       rotate_left
       ·go_simp
        rfl
       refine hK.out _ _ ⟨((far_ hw300_0 GW303.out _).trans (((far_ hw300_0 GW303.out _).trans (((far_ hw300_0 GW303.out _).trans (((far_ hw300_0 GW303.out _).trans (((far_ hw300_0 GW303.out _).trans (hHeld.1)))))))))), ((far_ hw300_1 GW303.out _).trans (((far_ hw300_1 GW303.out _).trans (((far_ hw300_1 GW303.out _).trans (((far_ hw300_1 GW303.out _).trans (((far_ hw300_1 GW303.out _).trans (hHeld.2.1)))))))))), ((far_ hw300_2 GW303.out _).trans (((far_ hw300_2 GW303.out _).trans (((far_ hw300_2 GW303.out _).trans (((far_ hw300_2 GW303.out _).trans (((far_ hw300_2 GW303.out _).trans (hHeld.2.2.1)))))))))), ((far_ hw300_3 GW303.out _).trans (((far_ hw300_3 GW303.out _).trans (((far_ hw300_3 GW303.out _).trans (((far_ hw300_3 GW303.out _).trans (((far_ hw300_3 GW303.out _).trans (hHeld.2.2.2.1)))))))))), ((far_ hw300_4 GW303.out _).trans (((far_ hw300_4 GW303.out _).trans (((far_ hw300_4 GW303.out _).trans (((far_ hw300_4 GW303.out _).trans (((far_ hw300_4 GW303.out _).trans (hHeld.2.2.2.2.1)))))))))), ((far_ hw301_0 GW303.out _).trans (((far_ hw301_0 GW303.out _).trans (((far_ hw301_0 GW303.out _).trans (((far_ hw301_0 GW303.out _).trans (((far_ hw301_0 GW303.out _).trans (hHeld.2.2.2.2.2.1)))))))))), ((far_ hw301_1 GW303.out _).trans (((far_ hw301_1 GW303.out _).trans (((far_ hw301_1 GW303.out _).trans (((far_ hw301_1 GW303.out _).trans (((far_ hw301_1 GW303.out _).trans (hHeld.2.2.2.2.2.2.1)))))))))), ((far_ hw301_2 GW303.out _).trans (((far_ hw301_2 GW303.out _).trans (((far_ hw301_2 GW303.out _).trans (((far_ hw301_2 GW303.out _).trans (((far_ hw301_2 GW303.out _).trans (hHeld.2.2.2.2.2.2.2.1)))))))))), ((far_ hw301_3 GW303.out _).trans (((far_ hw301_3 GW303.out _).trans (((far_ hw301_3 GW303.out _).trans (((far_ hw301_3 GW303.out _).trans (((far_ hw301_3 GW303.out _).trans (hHeld.2.2.2.2.2.2.2.2.1)))))))))), ((far_ hw301_4 GW303.out _).trans (((far_ hw301_4 GW303.out _).trans (((far_ hw301_4 GW303.out _).trans (((far_ hw301_4 GW303.out _).trans (((far_ hw301_4 GW303.out _).trans (hHeld.2.2.2.2.2.2.2.2.2))))))))))⟩ (fun hHeld => ?_)
       clear hK K
       refine done_ (done_of HT_.out (by kernel_rfl)) ?_
       go_upto_region 7 with (fail)
       go_cut [43] (fun v43 wc => ∃ (kq : Nat) (x43_6 : Bool), v43 = .bool x43_6 ∧ Aside0 (espalierref04_Same.j1 kq l0 l1 x5_1 x43_6 ((rd_T36 l0 x5_1).f0) ((rd_T36 l0 x5_1).f1) ((rd_T36 l0 x5_1).f2) ((rd_T36 l0 x5_1).f3) ((rd_T36 l0 x5_1).f4) ((rd_T36 l1 x5_1).f0) ((rd_T36 l1 x5_1).f1) ((rd_T36 l1 x5_1).f2) ((rd_T36 l1 x5_1).f3) ((rd_T36 l1 x5_1).f4) = some r) ∧ Aside0 (kq ≤ k1) ∧ Aside0 (wc.heap[gb302]? = some (.cells #[.int .i64 ((rd_T36 l0 x5_1).f0), .string ((rd_T36 l0 x5_1).f1), (.slice A300_2 ((rd_T36 l0 x5_1).f2).length c300_2), .string ((rd_T36 l0 x5_1).f3), (.slice A300_4 ((rd_T36 l0 x5_1).f4).length c300_4)] 36 (0, 0))) ∧ Aside0 (wc.heap[gb303]? = some (.cells #[.int .i64 ((rd_T36 l1 x5_1).f0), .string ((rd_T36 l1 x5_1).f1), (.slice A301_2 ((rd_T36 l1 x5_1).f2).length c301_2), .string ((rd_T36 l1 x5_1).f3), (.slice A301_4 ((rd_T36 l1 x5_1).f4).length c301_4)] 36 (0, 0))) ∧ Aside0 (Below w.heap.size w wc))
       case first =>
        have H := HC7.out
        clear HC7
        by_cases c22 : ((rd_T36 l0 x5_1).f0) = ((rd_T36 l1 x5_1).f0)
        ·rw [if_pos c22] at H
         have c22b0 := beq_iff_eq.mpr c22
         have c22b1 := bne_eq_false_iff_eq.mpr c22
         clear c22
         (first | rw [c22b0] | (simp only [i64_w, i32_w]; rw [c22b0]) | skip)
         by_cases c23 : ((rd_T36 l0 x5_1).f0) = 2
         ·rw [if_pos c23] at H
          have c23b0 := beq_iff_eq.mpr c23
          have c23b1 := bne_eq_false_iff_eq.mpr c23
          clear c23
          have H' := Aside0.mk H
          clear H
          have hnb24 := NB302_303.out
          have hnc24 := NB303_302.out
          obtain ⟨hcz25_0, hcz25_1, hcz25_2, hcz25_3, hcz25_4⟩ := ce5_ BK302.out
          obtain ⟨hfz25_0, hfz25_1, hfz25_2, hfz25_3, hfz25_4⟩ := fr5_ BK302.out
          obtain ⟨hcz26_0, hcz26_1, hcz26_2, hcz26_3, hcz26_4⟩ := ce5_ BK303.out
          obtain ⟨hfz26_0, hfz26_1, hfz26_2, hfz26_3, hfz26_4⟩ := fr5_ BK303.out
          go_wp2
          go_meet
          case rel => exact ⟨_, ((((rd_T36 l0 x5_1).f3).toList != ((rd_T36 l1 x5_1).f3).toList)), (by first | rfl | (simp; done) | (simp [*]; done)), H', ⟨by have := HK1.out; first | omega | exact Nat.le_refl _⟩, ⟨by (with_reducible repeat (first | refine blk_drewN ?_ _ | refine blk_drew ?_ | refine blk_alloc ?_ _)); refine blk_far ?_ NB302_303.out _; (with_reducible repeat (first | refine blk_drewN ?_ _ | refine blk_drew ?_ | refine blk_alloc ?_ _)); refine blk_far ?_ NB302_303.out _; (with_reducible repeat (first | refine blk_drewN ?_ _ | refine blk_drew ?_ | refine blk_alloc ?_ _)); refine blk_far ?_ NB302_303.out _; (with_reducible repeat (first | refine blk_drewN ?_ _ | refine blk_drew ?_ | refine blk_alloc ?_ _)); refine blk_far ?_ NB302_303.out _; (with_reducible repeat (first | refine blk_drewN ?_ _ | refine blk_drew ?_ | refine blk_alloc ?_ _)); refine blk_far ?_ NB302_303.out _; (with_reducible repeat (first | refine blk_drewN ?_ _ | refine blk_drew ?_ | refine blk_alloc ?_ _)); refine blk_put (cs := #[.int .i64 ((rd_T36 l0 x5_1).f0), .string ((rd_T36 l0 x5_1).f1), .slice A300_2 ((rd_T36 l0 x5_1).f2).length c300_2, .string ((rd_T36 l0 x5_1).f3), .slice none 0 0]) ?_ 4 _ rfl; (with_reducible repeat (first | refine blk_drewN ?_ _ | refine blk_drew ?_ | refine blk_alloc ?_ _)); refine blk_put (cs := #[.int .i64 ((rd_T36 l0 x5_1).f0), .string ((rd_T36 l0 x5_1).f1), .slice A300_2 ((rd_T36 l0 x5_1).f2).length c300_2, .string (⟨#[]⟩ : ByteArray), .slice none 0 0]) ?_ 3 _ rfl; (with_reducible repeat (first | refine blk_drewN ?_ _ | refine blk_drew ?_ | refine blk_alloc ?_ _)); refine blk_put (cs := #[.int .i64 ((rd_T36 l0 x5_1).f0), .string ((rd_T36 l0 x5_1).f1), .slice none 0 0, .string (⟨#[]⟩ : ByteArray), .slice none 0 0]) ?_ 2 _ rfl; (with_reducible repeat (first | refine blk_drewN ?_ _ | refine blk_drew ?_ | refine blk_alloc ?_ _)); refine blk_put (cs := #[.int .i64 ((rd_T36 l0 x5_1).f0), .string (⟨#[]⟩ : ByteArray), .slice none 0 0, .string (⟨#[]⟩ : ByteArray), .slice none 0 0]) ?_ 1 _ rfl; (with_reducible repeat (first | refine blk_drewN ?_ _ | refine blk_drew ?_ | refine blk_alloc ?_ _)); refine blk_put (cs := #[.int .i64 0, .string (⟨#[]⟩ : ByteArray), .slice none 0 0, .string (⟨#[]⟩ : ByteArray), .slice none 0 0]) ?_ 0 _ rfl; (with_reducible repeat (first | refine blk_drewN ?_ _ | refine blk_drew ?_ | refine blk_alloc ?_ _)); exact BK302.out⟩, ⟨by (with_reducible repeat (first | refine blk_drewN ?_ _ | refine blk_drew ?_ | refine blk_alloc ?_ _)); refine blk_put (cs := #[.int .i64 ((rd_T36 l1 x5_1).f0), .string ((rd_T36 l1 x5_1).f1), .slice A301_2 ((rd_T36 l1 x5_1).f2).length c301_2, .string ((rd_T36 l1 x5_1).f3), .slice none 0 0]) ?_ 4 _ rfl; (with_reducible repeat (first | refine blk_drewN ?_ _ | refine blk_drew ?_ | refine blk_alloc ?_ _)); refine blk_put (cs := #[.int .i64 ((rd_T36 l1 x5_1).f0), .string ((rd_T36 l1 x5_1).f1), .slice A301_2 ((rd_T36 l1 x5_1).f2).length c301_2, .string (⟨#[]⟩ : ByteArray), .slice none 0 0]) ?_ 3 _ rfl; (with_reducible repeat (first | refine blk_drewN ?_ _ | refine blk_drew ?_ | refine blk_alloc ?_ _)); refine blk_put (cs := #[.int .i64 ((rd_T36 l1 x5_1).f0), .string ((rd_T36 l1 x5_1).f1), .slice none 0 0, .string (⟨#[]⟩ : ByteArray), .slice none 0 0]) ?_ 2 _ rfl; (with_reducible repeat (first | refine blk_drewN ?_ _ | refine blk_drew ?_ | refine blk_alloc ?_ _)); refine blk_put (cs := #[.int .i64 ((rd_T36 l1 x5_1).f0), .string (⟨#[]⟩ : ByteArray), .slice none 0 0, .string (⟨#[]⟩ : ByteArray), .slice none 0 0]) ?_ 1 _ rfl; (with_reducible repeat (first | refine blk_drewN ?_ _ | refine blk_drew ?_ | refine blk_alloc ?_ _)); refine blk_put (cs := #[.int .i64 0, .string (⟨#[]⟩ : ByteArray), .slice none 0 0, .string (⟨#[]⟩ : ByteArray), .slice none 0 0]) ?_ 0 _ rfl; (with_reducible repeat (first | refine blk_drewN ?_ _ | refine blk_drew ?_ | refine blk_alloc ?_ _)); refine blk_far ?_ NB303_302.out _; (with_reducible repeat (first | refine blk_drewN ?_ _ | refine blk_drew ?_ | refine blk_alloc ?_ _)); refine blk_far ?_ NB303_302.out _; (with_reducible repeat (first | refine blk_drewN ?_ _ | refine blk_drew ?_ | refine blk_alloc ?_ _)); refine blk_far ?_ NB303_302.out _; (with_reducible repeat (first | refine blk_drewN ?_ _ | refine blk_drew ?_ | refine blk_alloc ?_ _)); refine blk_far ?_ NB303_302.out _; (with_reducible repeat (first | refine blk_drewN ?_ _ | refine blk_drew ?_ | refine blk_alloc ?_ _)); refine blk_far ?_ NB303_302.out _; (with_reducible repeat (first | refine blk_drewN ?_ _ | refine blk_drew ?_ | refine blk_alloc ?_ _)); exact BK303.out⟩, ⟨hb2_ GE302.out GE303.out⟩⟩
         ·rw [if_neg c23] at H
          have c23b0 := beq_eq_false_iff_ne.mpr c23
          have c23b1 := bne_iff_ne.mpr c23
          have H' := Aside0.mk H
          clear H
          have hnb27 := NB302_303.out
          have hnc27 := NB303_302.out
          obtain ⟨hcz28_0, hcz28_1, hcz28_2, hcz28_3, hcz28_4⟩ := ce5_ BK302.out
          obtain ⟨hfz28_0, hfz28_1, hfz28_2, hfz28_3, hfz28_4⟩ := fr5_ BK302.out
          obtain ⟨hcz29_0, hcz29_1, hcz29_2, hcz29_3, hcz29_4⟩ := ce5_ BK303.out
          obtain ⟨hfz29_0, hfz29_1, hfz29_2, hfz29_3, hfz29_4⟩ := fr5_ BK303.out
          go_wp2
          go_meet
          case rel => exact ⟨_, (false), (by first | rfl | (simp; done) | (simp [*]; done)), H', ⟨by have := HK1.out; first | omega | exact Nat.le_refl _⟩, ⟨by (with_reducible repeat (first | refine blk_drewN ?_ _ | refine blk_drew ?_ | refine blk_alloc ?_ _)); refine blk_far ?_ NB302_303.out _; (with_reducible repeat (first | refine blk_drewN ?_ _ | refine blk_drew ?_ | refine blk_alloc ?_ _)); refine blk_far ?_ NB302_303.out _; (with_reducible repeat (first | refine blk_drewN ?_ _ | refine blk_drew ?_ | refine blk_alloc ?_ _)); refine blk_far ?_ NB302_303.out _; (with_reducible repeat (first | refine blk_drewN ?_ _ | refine blk_drew ?_ | refine blk_alloc ?_ _)); refine blk_far ?_ NB302_303.out _; (with_reducible repeat (first | refine blk_drewN ?_ _ | refine blk_drew ?_ | refine blk_alloc ?_ _)); refine blk_far ?_ NB302_303.out _; (with_reducible repeat (first | refine blk_drewN ?_ _ | refine blk_drew ?_ | refine blk_alloc ?_ _)); refine blk_put (cs := #[.int .i64 ((rd_T36 l0 x5_1).f0), .string ((rd_T36 l0 x5_1).f1), .slice A300_2 ((rd_T36 l0 x5_1).f2).length c300_2, .string ((rd_T36 l0 x5_1).f3), .slice none 0 0]) ?_ 4 _ rfl; (with_reducible repeat (first | refine blk_drewN ?_ _ | refine blk_drew ?_ | refine blk_alloc ?_ _)); refine blk_put (cs := #[.int .i64 ((rd_T36 l0 x5_1).f0), .string ((rd_T36 l0 x5_1).f1), .slice A300_2 ((rd_T36 l0 x5_1).f2).length c300_2, .string (⟨#[]⟩ : ByteArray), .slice none 0 0]) ?_ 3 _ rfl; (with_reducible repeat (first | refine blk_drewN ?_ _ | refine blk_drew ?_ | refine blk_alloc ?_ _)); refine blk_put (cs := #[.int .i64 ((rd_T36 l0 x5_1).f0), .string ((rd_T36 l0 x5_1).f1), .slice none 0 0, .string (⟨#[]⟩ : ByteArray), .slice none 0 0]) ?_ 2 _ rfl; (with_reducible repeat (first | refine blk_drewN ?_ _ | refine blk_drew ?_ | refine blk_alloc ?_ _)); refine blk_put (cs := #[.int .i64 ((rd_T36 l0 x5_1).f0), .string (⟨#[]⟩ : ByteArray), .slice none 0 0, .string (⟨#[]⟩ : ByteArray), .slice none 0 0]) ?_ 1 _ rfl; (with_reducible repeat (first | refine blk_drewN ?_ _ | refine blk_drew ?_ | refine blk_alloc ?_ _)); refine blk_put (cs := #[.int .i64 0, .string (⟨#[]⟩ : ByteArray), .slice none 0 0, .string (⟨#[]⟩ : ByteArray), .slice none 0 0]) ?_ 0 _ rfl; (with_reducible repeat (first | refine blk_drewN ?_ _ | refine blk_drew ?_ | refine blk_alloc ?_ _)); exact BK302.out⟩, ⟨by (with_reducible repeat (first | refine blk_drewN ?_ _ | refine blk_drew ?_ | refine blk_alloc ?_ _)); refine blk_put (cs := #[.int .i64 ((rd_T36 l1 x5_1).f0), .string ((rd_T36 l1 x5_1).f1), .slice A301_2 ((rd_T36 l1 x5_1).f2).length c301_2, .string ((rd_T36 l1 x5_1).f3), .slice none 0 0]) ?_ 4 _ rfl; (with_reducible repeat (first | refine blk_drewN ?_ _ | refine blk_drew ?_ | refine blk_alloc ?_ _)); refine blk_put (cs := #[.int .i64 ((rd_T36 l1 x5_1).f0), .string ((rd_T36 l1 x5_1).f1), .slice A301_2 ((rd_T36 l1 x5_1).f2).length c301_2, .string (⟨#[]⟩ : ByteArray), .slice none 0 0]) ?_ 3 _ rfl; (with_reducible repeat (first | refine blk_drewN ?_ _ | refine blk_drew ?_ | refine blk_alloc ?_ _)); refine blk_put (cs := #[.int .i64 ((rd_T36 l1 x5_1).f0), .string ((rd_T36 l1 x5_1).f1), .slice none 0 0, .string (⟨#[]⟩ : ByteArray), .slice none 0 0]) ?_ 2 _ rfl; (with_reducible repeat (first | refine blk_drewN ?_ _ | refine blk_drew ?_ | refine blk_alloc ?_ _)); refine blk_put (cs := #[.int .i64 ((rd_T36 l1 x5_1).f0), .string (⟨#[]⟩ : ByteArray), .slice none 0 0, .string (⟨#[]⟩ : ByteArray), .slice none 0 0]) ?_ 1 _ rfl; (with_reducible repeat (first | refine blk_drewN ?_ _ | refine blk_drew ?_ | refine blk_alloc ?_ _)); refine blk_put (cs := #[.int .i64 0, .string (⟨#[]⟩ : ByteArray), .slice none 0 0, .string (⟨#[]⟩ : ByteArray), .slice none 0 0]) ?_ 0 _ rfl; (with_reducible repeat (first | refine blk_drewN ?_ _ | refine blk_drew ?_ | refine blk_alloc ?_ _)); refine blk_far ?_ NB303_302.out _; (with_reducible repeat (first | refine blk_drewN ?_ _ | refine blk_drew ?_ | refine blk_alloc ?_ _)); refine blk_far ?_ NB303_302.out _; (with_reducible repeat (first | refine blk_drewN ?_ _ | refine blk_drew ?_ | refine blk_alloc ?_ _)); refine blk_far ?_ NB303_302.out _; (with_reducible repeat (first | refine blk_drewN ?_ _ | refine blk_drew ?_ | refine blk_alloc ?_ _)); refine blk_far ?_ NB303_302.out _; (with_reducible repeat (first | refine blk_drewN ?_ _ | refine blk_drew ?_ | refine blk_alloc ?_ _)); refine blk_far ?_ NB303_302.out _; (with_reducible repeat (first | refine blk_drewN ?_ _ | refine blk_drew ?_ | refine blk_alloc ?_ _)); exact BK303.out⟩, ⟨hb2_ GE302.out GE303.out⟩⟩
        ·rw [if_neg c22] at H
         have c22b0 := beq_eq_false_iff_ne.mpr c22
         have c22b1 := bne_iff_ne.mpr c22
         (first | rw [c22b0] | (simp only [i64_w, i32_w]; rw [c22b0]) | skip)
         have H' := Aside0.mk H
         clear H
         have hnb30 := NB302_303.out
         have hnc30 := NB303_302.out
         obtain ⟨hcz31_0, hcz31_1, hcz31_2, hcz31_3, hcz31_4⟩ := ce5_ BK302.out
         obtain ⟨hfz31_0, hfz31_1, hfz31_2, hfz31_3, hfz31_4⟩ := fr5_ BK302.out
         obtain ⟨hcz32_0, hcz32_1, hcz32_2, hcz32_3, hcz32_4⟩ := ce5_ BK303.out
         obtain ⟨hfz32_0, hfz32_1, hfz32_2, hfz32_3, hfz32_4⟩ := fr5_ BK303.out
         go_wp2
         go_meet
         case rel => exact ⟨_, (true), (by first | rfl | (simp; done) | (simp [*]; done)), H', ⟨by have := HK1.out; first | omega | exact Nat.le_refl _⟩, ⟨by (with_reducible repeat (first | refine blk_drewN ?_ _ | refine blk_drew ?_ | refine blk_alloc ?_ _)); refine blk_far ?_ NB302_303.out _; (with_reducible repeat (first | refine blk_drewN ?_ _ | refine blk_drew ?_ | refine blk_alloc ?_ _)); refine blk_far ?_ NB302_303.out _; (with_reducible repeat (first | refine blk_drewN ?_ _ | refine blk_drew ?_ | refine blk_alloc ?_ _)); refine blk_far ?_ NB302_303.out _; (with_reducible repeat (first | refine blk_drewN ?_ _ | refine blk_drew ?_ | refine blk_alloc ?_ _)); refine blk_far ?_ NB302_303.out _; (with_reducible repeat (first | refine blk_drewN ?_ _ | refine blk_drew ?_ | refine blk_alloc ?_ _)); refine blk_far ?_ NB302_303.out _; (with_reducible repeat (first | refine blk_drewN ?_ _ | refine blk_drew ?_ | refine blk_alloc ?_ _)); refine blk_put (cs := #[.int .i64 ((rd_T36 l0 x5_1).f0), .string ((rd_T36 l0 x5_1).f1), .slice A300_2 ((rd_T36 l0 x5_1).f2).length c300_2, .string ((rd_T36 l0 x5_1).f3), .slice none 0 0]) ?_ 4 _ rfl; (with_reducible repeat (first | refine blk_drewN ?_ _ | refine blk_drew ?_ | refine blk_alloc ?_ _)); refine blk_put (cs := #[.int .i64 ((rd_T36 l0 x5_1).f0), .string ((rd_T36 l0 x5_1).f1), .slice A300_2 ((rd_T36 l0 x5_1).f2).length c300_2, .string (⟨#[]⟩ : ByteArray), .slice none 0 0]) ?_ 3 _ rfl; (with_reducible repeat (first | refine blk_drewN ?_ _ | refine blk_drew ?_ | refine blk_alloc ?_ _)); refine blk_put (cs := #[.int .i64 ((rd_T36 l0 x5_1).f0), .string ((rd_T36 l0 x5_1).f1), .slice none 0 0, .string (⟨#[]⟩ : ByteArray), .slice none 0 0]) ?_ 2 _ rfl; (with_reducible repeat (first | refine blk_drewN ?_ _ | refine blk_drew ?_ | refine blk_alloc ?_ _)); refine blk_put (cs := #[.int .i64 ((rd_T36 l0 x5_1).f0), .string (⟨#[]⟩ : ByteArray), .slice none 0 0, .string (⟨#[]⟩ : ByteArray), .slice none 0 0]) ?_ 1 _ rfl; (with_reducible repeat (first | refine blk_drewN ?_ _ | refine blk_drew ?_ | refine blk_alloc ?_ _)); refine blk_put (cs := #[.int .i64 0, .string (⟨#[]⟩ : ByteArray), .slice none 0 0, .string (⟨#[]⟩ : ByteArray), .slice none 0 0]) ?_ 0 _ rfl; (with_reducible repeat (first | refine blk_drewN ?_ _ | refine blk_drew ?_ | refine blk_alloc ?_ _)); exact BK302.out⟩, ⟨by (with_reducible repeat (first | refine blk_drewN ?_ _ | refine blk_drew ?_ | refine blk_alloc ?_ _)); refine blk_put (cs := #[.int .i64 ((rd_T36 l1 x5_1).f0), .string ((rd_T36 l1 x5_1).f1), .slice A301_2 ((rd_T36 l1 x5_1).f2).length c301_2, .string ((rd_T36 l1 x5_1).f3), .slice none 0 0]) ?_ 4 _ rfl; (with_reducible repeat (first | refine blk_drewN ?_ _ | refine blk_drew ?_ | refine blk_alloc ?_ _)); refine blk_put (cs := #[.int .i64 ((rd_T36 l1 x5_1).f0), .string ((rd_T36 l1 x5_1).f1), .slice A301_2 ((rd_T36 l1 x5_1).f2).length c301_2, .string (⟨#[]⟩ : ByteArray), .slice none 0 0]) ?_ 3 _ rfl; (with_reducible repeat (first | refine blk_drewN ?_ _ | refine blk_drew ?_ | refine blk_alloc ?_ _)); refine blk_put (cs := #[.int .i64 ((rd_T36 l1 x5_1).f0), .string ((rd_T36 l1 x5_1).f1), .slice none 0 0, .string (⟨#[]⟩ : ByteArray), .slice none 0 0]) ?_ 2 _ rfl; (with_reducible repeat (first | refine blk_drewN ?_ _ | refine blk_drew ?_ | refine blk_alloc ?_ _)); refine blk_put (cs := #[.int .i64 ((rd_T36 l1 x5_1).f0), .string (⟨#[]⟩ : ByteArray), .slice none 0 0, .string (⟨#[]⟩ : ByteArray), .slice none 0 0]) ?_ 1 _ rfl; (with_reducible repeat (first | refine blk_drewN ?_ _ | refine blk_drew ?_ | refine blk_alloc ?_ _)); refine blk_put (cs := #[.int .i64 0, .string (⟨#[]⟩ : ByteArray), .slice none 0 0, .string (⟨#[]⟩ : ByteArray), .slice none 0 0]) ?_ 0 _ rfl; (with_reducible repeat (first | refine blk_drewN ?_ _ | refine blk_drew ?_ | refine blk_alloc ?_ _)); refine blk_far ?_ NB303_302.out _; (with_reducible repeat (first | refine blk_drewN ?_ _ | refine blk_drew ?_ | refine blk_alloc ?_ _)); refine blk_far ?_ NB303_302.out _; (with_reducible repeat (first | refine blk_drewN ?_ _ | refine blk_drew ?_ | refine blk_alloc ?_ _)); refine blk_far ?_ NB303_302.out _; (with_reducible repeat (first | refine blk_drewN ?_ _ | refine blk_drew ?_ | refine blk_alloc ?_ _)); refine blk_far ?_ NB303_302.out _; (with_reducible repeat (first | refine blk_drewN ?_ _ | refine blk_drew ?_ | refine blk_alloc ?_ _)); refine blk_far ?_ NB303_302.out _; (with_reducible repeat (first | refine blk_drewN ?_ _ | refine blk_drew ?_ | refine blk_alloc ?_ _)); exact BK303.out⟩, ⟨hb2_ GE302.out GE303.out⟩⟩
       case rest =>
        clear HC7
        try clear c1
        try clear c2
        try clear p2
        try clear c3
        try clear c3b0
        try clear c3b1
        try clear c3b2
        try clear p3
        try clear q3
        try clear hx3
        try clear c4
        try clear c4b0
        try clear c5
        try clear c5b0
        try clear c6
        try clear c6b0
        try clear c13
        try clear c22
        try clear c22b0
        try clear c22b1
        try clear c23
        try clear c23b0
        try clear c23b1
        try clear c24
        try clear c27
        try clear c30
        try clear p30
        try clear q30
        try clear hx30
        try clear hcz25_0
        try clear hcz25_1
        try clear hcz25_2
        try clear hcz25_3
        try clear hcz25_4
        try clear hcz26_0
        try clear hcz26_1
        try clear hcz26_2
        try clear hcz26_3
        try clear hcz26_4
        try clear hcz28_0
        try clear hcz28_1
        try clear hcz28_2
        try clear hcz28_3
        try clear hcz28_4
        try clear hcz29_0
        try clear hcz29_1
        try clear hcz29_2
        try clear hcz29_3
        try clear hcz29_4
        try clear hcz31_0
        try clear hcz31_1
        try clear hcz31_2
        try clear hcz31_3
        try clear hcz31_4
        try clear hcz32_0
        try clear hcz32_1
        try clear hcz32_2
        try clear hcz32_3
        try clear hcz32_4
        try clear hfz25_0
        try clear hfz25_1
        try clear hfz25_2
        try clear hfz25_3
        try clear hfz25_4
        try clear hfz26_0
        try clear hfz26_1
        try clear hfz26_2
        try clear hfz26_3
        try clear hfz26_4
        try clear hfz28_0
        try clear hfz28_1
        try clear hfz28_2
        try clear hfz28_3
        try clear hfz28_4
        try clear hfz29_0
        try clear hfz29_1
        try clear hfz29_2
        try clear hfz29_3
        try clear hfz29_4
        try clear hfz31_0
        try clear hfz31_1
        try clear hfz31_2
        try clear hfz31_3
        try clear hfz31_4
        try clear hfz32_0
        try clear hfz32_1
        try clear hfz32_2
        try clear hfz32_3
        try clear hfz32_4
        try clear hx300_0
        try clear hx300_1
        try clear hx300_2
        try clear hx300_3
        try clear hx300_4
        try clear hx301_0
        try clear hx301_1
        try clear hx301_2
        try clear hx301_3
        try clear hx301_4
        try clear p2
        try clear p300
        try clear p301
        try clear q300
        try clear q301
        obtain ⟨kq, x43_6, rfl, HA, HJ6, BK302, BK303, HB⟩ := hcut
        cases kq with
        | zero => exact absurd HA.out (by simp [espalierref04_Same.j1])
        | succ kj6 =>
         have H := HA.out
         clear HA
         simp only [espalierref04_Same.j1] at H
         by_cases c33 : x43_6 = true
         ·subst c33
          rw [if_pos rfl] at H
          obtain rfl := Option.some.inj H
          go_wp2
          go_ret
          exact ⟨er_, hb2_ GE302.out GE303.out⟩
         ·replace c33 := Bool.eq_false_iff.mpr c33
          subst c33
          rw [if_neg (show ¬ (false = true) by decide)] at H
          by_cases c34 : ((rd_T36 l0 x5_1).f0) = 1
          ·rw [if_pos c34] at H
           have c34b0 := beq_iff_eq.mpr c34
           have c34b1 := bne_eq_false_iff_eq.mpr c34
           clear c34
           by_cases c35 : ((rd_T36 l0 x5_1).f1).toList = ((rd_T36 l1 x5_1).f1).toList
           ·rw [if_pos c35] at H
            have c35b0 := beq_iff_eq.mpr c35
            have c35b1 := bne_eq_false_iff_eq.mpr c35
            clear c35
            replace H := Option.bind_eq_some_iff.mp H
            obtain ⟨t304, A360, H⟩ := H
            replace H : (if t304 = true then ((espalierref04_Same.f kj6 ((rd_T36 l0 x5_1).f4) ((rd_T36 l1 x5_1).f4)).bind fun t305 => (if t305 = true then (espalierref04_Same.l0 kj6 l0 l1 (wrap64 (x5_1 + 1))) else (some false))) else (some false)) = some r := H
            have A36 := Aside0.mk A360
            clear A360
            by_cases c37 : t304 = true
            ·subst c37
             rw [if_pos rfl] at H
             replace H := Option.bind_eq_some_iff.mp H
             obtain ⟨t305, A380, H⟩ := H
             replace H : (if t305 = true then (espalierref04_Same.l0 kj6 l0 l1 (wrap64 (x5_1 + 1))) else (some false)) = some r := H
             have A38 := Aside0.mk A380
             clear A380
             by_cases c39 : t305 = true
             ·subst c39
              rw [if_pos rfl] at H
              have H' := Aside0.mk H
              clear H
              have hnb40 := NB302_303.out
              have hnc40 := NB303_302.out
              obtain ⟨hcz41_0, hcz41_1, hcz41_2, hcz41_3, hcz41_4⟩ := ce5_ BK302.out
              obtain ⟨hfz41_0, hfz41_1, hfz41_2, hfz41_3, hfz41_4⟩ := fr5_ BK302.out
              obtain ⟨hcz42_0, hcz42_1, hcz42_2, hcz42_3, hcz42_4⟩ := ce5_ BK303.out
              obtain ⟨hfz42_0, hfz42_1, hfz42_2, hfz42_3, hfz42_4⟩ := fr5_ BK303.out
              go_wp2_with (first | (go_at_call 27; (with_reducible refine (espalierref03_Attrs.calls kj6 _ _ ((rd_T36 l0 x5_1).f2) _ _ ((rd_T36 l1 x5_1).f2) true _ ?side1 ?side2 ?side3 ?side4 A36.out).mono ?_); (case side1 => exact sc_ (Kd.C_below HR300_2.out HB.out)); (case side2 => exact HC300_2.out); (case side3 => exact sc_ (Kd.C_below HR301_2.out HB.out)); (case side4 => exact HC301_2.out); rintro e w' ⟨rfl, ⟨nd, rfl⟩⟩) | (go_at_call 13; (with_reducible refine (ih kj6 (by have := HK1.out; have := HJ6.out; omega) _ _ ((rd_T36 l0 x5_1).f4) _ _ ((rd_T36 l1 x5_1).f4) true _ ?side1 ?side2 ?side3 ?side4 A38.out).mono ?_); (case side1 => repeat (first | exact (Kd.C_below HR300_4.out (hb2_ GE302.out GE303.out)) | (with_reducible refine Kd.C_alloc ?_ _) | (with_reducible refine Kd.C_drewN ?_ _) | (with_reducible refine Kd.C_drew ?_))); (case side2 => exact HC300_4.out); (case side3 => repeat (first | exact (Kd.C_below HR301_4.out (hb2_ GE302.out GE303.out)) | (with_reducible refine Kd.C_alloc ?_ _) | (with_reducible refine Kd.C_drewN ?_ _) | (with_reducible refine Kd.C_drew ?_))); (case side4 => exact HC301_4.out); rintro e w43 ⟨rfl, hb⟩; replace BK302 := Aside0.mk (blk_below (g := gb302) (o := .cells #[.int .i64 ((rd_T36 l0 x5_1).f0), .string ((rd_T36 l0 x5_1).f1), .slice A300_2 ((rd_T36 l0 x5_1).f2).length c300_2, .string ((rd_T36 l0 x5_1).f3), .slice A300_4 ((rd_T36 l0 x5_1).f4).length c300_4] 36 (0, 0)) (bk_ BK302.out) hb); replace BK303 := Aside0.mk (blk_below (g := gb303) (o := .cells #[.int .i64 ((rd_T36 l1 x5_1).f0), .string ((rd_T36 l1 x5_1).f1), .slice A301_2 ((rd_T36 l1 x5_1).f2).length c301_2, .string ((rd_T36 l1 x5_1).f3), .slice A301_4 ((rd_T36 l1 x5_1).f4).length c301_4] 36 (0, 0)) (bk_ BK303.out) hb); replace HB := Aside0.mk (below_step (hb2_ GE302.out GE303.out) hb); (try clear hb); (try clear hb2); (try clear hk); (try clear hi)))
              go_roundg kj6
              case measure => have := HK1.out; have := HJ6.out; omega
              case rel => exact ⟨(wrap64 (x5_1 + 1)), (by first | rfl | (simp; done) | (simp [*]; done)), H', ⟨by have := HK1.out; have := HJ6.out; omega⟩, ⟨hb2_ GE302.out GE303.out⟩⟩
             ·replace c39 := Bool.eq_false_iff.mpr c39
              subst c39
              rw [if_neg (show ¬ (false = true) by decide)] at H
              obtain rfl := Option.some.inj H
              have hnb44 := NB302_303.out
              have hnc44 := NB303_302.out
              obtain ⟨hcz45_0, hcz45_1, hcz45_2, hcz45_3, hcz45_4⟩ := ce5_ BK302.out
              obtain ⟨hfz45_0, hfz45_1, hfz45_2, hfz45_3, hfz45_4⟩ := fr5_ BK302.out
              obtain ⟨hcz46_0, hcz46_1, hcz46_2, hcz46_3, hcz46_4⟩ := ce5_ BK303.out
              obtain ⟨hfz46_0, hfz46_1, hfz46_2, hfz46_3, hfz46_4⟩ := fr5_ BK303.out
              go_wp2_with (first | (go_at_call 27; (with_reducible refine (espalierref03_Attrs.calls kj6 _ _ ((rd_T36 l0 x5_1).f2) _ _ ((rd_T36 l1 x5_1).f2) true _ ?side1 ?side2 ?side3 ?side4 A36.out).mono ?_); (case side1 => exact sc_ (Kd.C_below HR300_2.out HB.out)); (case side2 => exact HC300_2.out); (case side3 => exact sc_ (Kd.C_below HR301_2.out HB.out)); (case side4 => exact HC301_2.out); rintro e w' ⟨rfl, ⟨nd, rfl⟩⟩) | (go_at_call 13; (with_reducible refine (ih kj6 (by have := HK1.out; have := HJ6.out; omega) _ _ ((rd_T36 l0 x5_1).f4) _ _ ((rd_T36 l1 x5_1).f4) false _ ?side1 ?side2 ?side3 ?side4 A38.out).mono ?_); (case side1 => repeat (first | exact (Kd.C_below HR300_4.out (hb2_ GE302.out GE303.out)) | (with_reducible refine Kd.C_alloc ?_ _) | (with_reducible refine Kd.C_drewN ?_ _) | (with_reducible refine Kd.C_drew ?_))); (case side2 => exact HC300_4.out); (case side3 => repeat (first | exact (Kd.C_below HR301_4.out (hb2_ GE302.out GE303.out)) | (with_reducible refine Kd.C_alloc ?_ _) | (with_reducible refine Kd.C_drewN ?_ _) | (with_reducible refine Kd.C_drew ?_))); (case side4 => exact HC301_4.out); rintro e w47 ⟨rfl, hb⟩; replace BK302 := Aside0.mk (blk_below (g := gb302) (o := .cells #[.int .i64 ((rd_T36 l0 x5_1).f0), .string ((rd_T36 l0 x5_1).f1), .slice A300_2 ((rd_T36 l0 x5_1).f2).length c300_2, .string ((rd_T36 l0 x5_1).f3), .slice A300_4 ((rd_T36 l0 x5_1).f4).length c300_4] 36 (0, 0)) (bk_ BK302.out) hb); replace BK303 := Aside0.mk (blk_below (g := gb303) (o := .cells #[.int .i64 ((rd_T36 l1 x5_1).f0), .string ((rd_T36 l1 x5_1).f1), .slice A301_2 ((rd_T36 l1 x5_1).f2).length c301_2, .string ((rd_T36 l1 x5_1).f3), .slice A301_4 ((rd_T36 l1 x5_1).f4).length c301_4] 36 (0, 0)) (bk_ BK303.out) hb); replace HB := Aside0.mk (below_step (hb2_ GE302.out GE303.out) hb); (try clear hb); (try clear hb2); (try clear hk); (try clear hi)))
              go_ret
              exact ⟨er_, hb2_ GE302.out GE303.out⟩
            ·replace c37 := Bool.eq_false_iff.mpr c37
             subst c37
             rw [if_neg (show ¬ (false = true) by decide)] at H
             obtain rfl := Option.some.inj H
             have hnb48 := NB302_303.out
             have hnc48 := NB303_302.out
             obtain ⟨hcz49_0, hcz49_1, hcz49_2, hcz49_3, hcz49_4⟩ := ce5_ BK302.out
             obtain ⟨hfz49_0, hfz49_1, hfz49_2, hfz49_3, hfz49_4⟩ := fr5_ BK302.out
             obtain ⟨hcz50_0, hcz50_1, hcz50_2, hcz50_3, hcz50_4⟩ := ce5_ BK303.out
             obtain ⟨hfz50_0, hfz50_1, hfz50_2, hfz50_3, hfz50_4⟩ := fr5_ BK303.out
             go_wp2_with (first | (go_at_call 27; (with_reducible refine (espalierref03_Attrs.calls kj6 _ _ ((rd_T36 l0 x5_1).f2) _ _ ((rd_T36 l1 x5_1).f2) false _ ?side1 ?side2 ?side3 ?side4 A36.out).mono ?_); (case side1 => exact sc_ (Kd.C_below HR300_2.out HB.out)); (case side2 => exact HC300_2.out); (case side3 => exact sc_ (Kd.C_below HR301_2.out HB.out)); (case side4 => exact HC301_2.out); rintro e w' ⟨rfl, ⟨nd, rfl⟩⟩))
             go_ret
             exact ⟨er_, hb2_ GE302.out GE303.out⟩
           ·rw [if_neg c35] at H
            have c35b0 := beq_eq_false_iff_ne.mpr c35
            have c35b1 := bne_iff_ne.mpr c35
            obtain rfl := Option.some.inj H
            have hnb51 := NB302_303.out
            have hnc51 := NB303_302.out
            obtain ⟨hcz52_0, hcz52_1, hcz52_2, hcz52_3, hcz52_4⟩ := ce5_ BK302.out
            obtain ⟨hfz52_0, hfz52_1, hfz52_2, hfz52_3, hfz52_4⟩ := fr5_ BK302.out
            obtain ⟨hcz53_0, hcz53_1, hcz53_2, hcz53_3, hcz53_4⟩ := ce5_ BK303.out
            obtain ⟨hfz53_0, hfz53_1, hfz53_2, hfz53_3, hfz53_4⟩ := fr5_ BK303.out
            go_wp2
            go_ret
            exact ⟨er_, hb2_ GE302.out GE303.out⟩
          ·rw [if_neg c34] at H
           have c34b0 := beq_eq_false_iff_ne.mpr c34
           have c34b1 := bne_iff_ne.mpr c34
           have H' := Aside0.mk H
           clear H
           have hnb54 := NB302_303.out
           have hnc54 := NB303_302.out
           obtain ⟨hcz55_0, hcz55_1, hcz55_2, hcz55_3, hcz55_4⟩ := ce5_ BK302.out
           obtain ⟨hfz55_0, hfz55_1, hfz55_2, hfz55_3, hfz55_4⟩ := fr5_ BK302.out
           go_wp2
           go_roundg kj6
           case measure => have := HK1.out; have := HJ6.out; omega
           case rel => exact ⟨(wrap64 (x5_1 + 1)), (by first | rfl | (simp; done) | (simp [*]; done)), H', ⟨by have := HK1.out; have := HJ6.out; omega⟩, ⟨hb2_ GE302.out GE303.out⟩⟩
      ·rw [if_neg c6] at H
       exact absurd H (by simp)
     ·rw [if_neg c5] at H
      exact absurd H (by simp)
    ·rw [if_neg c4] at H
     have c4b0 : decide (x5_1 < (l0.length : Int)) = false := decide_eq_false c4
     clear c4
     obtain rfl := Option.some.inj H
     go_wp2
     go_ret
     exact ⟨er_, hb_⟩
 ·rw [if_neg c3] at H
  have c3b0 := beq_eq_false_iff_ne.mpr c3
  have c3b1 := bne_iff_ne.mpr c3
  have c3b2 : (l0.length == l1.length) = false := by first | simpa using c3 | (simp at c3 ⊢; omega)
  obtain rfl := Option.some.inj H
  go_enter Tryd.func13, Tryd.ntmps13
  go_wp2
  go_ret
  exact ⟨er_, hb_⟩

end Go.Proofs.YtealmfcimoomlaaDoor.PA
