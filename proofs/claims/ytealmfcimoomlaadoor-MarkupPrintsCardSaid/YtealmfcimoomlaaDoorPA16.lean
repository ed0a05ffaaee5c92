-- Written by a program of this session (wip/tools/xprint.py: the kit's print, with given functions). Not trusted: Lean checks it.
-- squeezed
import Derived.Test.YtealmfcimoomlaaDoorPA0
import Derived.Test.YtealmfcimoomlaaDoorPA1
namespace Go.Proofs.YtealmfcimoomlaaDoor.PA
open Go.RowKit Go.Proofs.YtealmfcimoomlaaDoorW.PrintWords Go.Proofs.YtealmfcimoomlaaDoorW.PrintLast Go.Proofs.YtealmfcimoomlaaDoorW.PrintMore
attribute [local go_sem] max2_int min2_int max_two min_two max_three min_three max_four min_four   -- for this text's walks alone
set_option linter.unusedVariables false
set_option linter.unusedSimpArgs false

attribute [local go_sem high] eqA54
/-! ### espalierlaw04_alike: function 11 -/
mutual
def espalierlaw04_alike.l0 : Nat → List (S36) → List (S36) → Int → Option (Bool)
 | 0, _, _, _ => none
 | k + 1, x0, x1, x5 => if x5 < (x0.length : Int) then (if 0 ≤ x5 then (if x5 < (x1.length : Int) then (if ((rd_T36 x0 x5).f0) = ((rd_T36 x1 x5).f0) then (if ((rd_T36 x0 x5).f1).toList = ((rd_T36 x1 x5).f1).toList then (if ((rd_T36 x0 x5).f3).toList = ((rd_T36 x1 x5).f3).toList then (if (((rd_T36 x0 x5).f2).length : Int) = (((rd_T36 x1 x5).f2).length : Int) then ((espalierlaw04_alike.f k ((rd_T36 x0 x5).f4) ((rd_T36 x1 x5).f4)).bind fun t290 => (espalierlaw04_alike.j1 k x0 x1 x5 (!t290) ((rd_T36 x0 x5).f0) ((rd_T36 x0 x5).f1) ((rd_T36 x0 x5).f2) ((rd_T36 x0 x5).f3) ((rd_T36 x0 x5).f4) ((rd_T36 x1 x5).f0) ((rd_T36 x1 x5).f1) ((rd_T36 x1 x5).f2) ((rd_T36 x1 x5).f3) ((rd_T36 x1 x5).f4))) else (espalierlaw04_alike.j1 k x0 x1 x5 true ((rd_T36 x0 x5).f0) ((rd_T36 x0 x5).f1) ((rd_T36 x0 x5).f2) ((rd_T36 x0 x5).f3) ((rd_T36 x0 x5).f4) ((rd_T36 x1 x5).f0) ((rd_T36 x1 x5).f1) ((rd_T36 x1 x5).f2) ((rd_T36 x1 x5).f3) ((rd_T36 x1 x5).f4))) else (espalierlaw04_alike.j1 k x0 x1 x5 true ((rd_T36 x0 x5).f0) ((rd_T36 x0 x5).f1) ((rd_T36 x0 x5).f2) ((rd_T36 x0 x5).f3) ((rd_T36 x0 x5).f4) ((rd_T36 x1 x5).f0) ((rd_T36 x1 x5).f1) ((rd_T36 x1 x5).f2) ((rd_T36 x1 x5).f3) ((rd_T36 x1 x5).f4))) else (espalierlaw04_alike.j1 k x0 x1 x5 true ((rd_T36 x0 x5).f0) ((rd_T36 x0 x5).f1) ((rd_T36 x0 x5).f2) ((rd_T36 x0 x5).f3) ((rd_T36 x0 x5).f4) ((rd_T36 x1 x5).f0) ((rd_T36 x1 x5).f1) ((rd_T36 x1 x5).f2) ((rd_T36 x1 x5).f3) ((rd_T36 x1 x5).f4))) else (espalierlaw04_alike.j1 k x0 x1 x5 true ((rd_T36 x0 x5).f0) ((rd_T36 x0 x5).f1) ((rd_T36 x0 x5).f2) ((rd_T36 x0 x5).f3) ((rd_T36 x0 x5).f4) ((rd_T36 x1 x5).f0) ((rd_T36 x1 x5).f1) ((rd_T36 x1 x5).f2) ((rd_T36 x1 x5).f3) ((rd_T36 x1 x5).f4))) else (none)) else (none)) else (some true)
def espalierlaw04_alike.j1 : Nat → List (S36) → List (S36) → Int → Bool → Int → ByteArray → List (S54) → ByteArray → List (S36) → Int → ByteArray → List (S54) → ByteArray → List (S36) → Option (Bool)
 | 0, _, _, _, _, _, _, _, _, _, _, _, _, _, _ => none
 | k + 1, x0, x1, x5, x63, x289000, x289001, x289002, x289003, x289004, x290000, x290001, x290002, x290003, x290004 => if x63 = true then (some false) else (espalierlaw04_alike.l1 k x0 x1 x5 0 x289000 x289001 x289002 x289003 x289004 x290000 x290001 x290002 x290003 x290004)
def espalierlaw04_alike.l1 : Nat → List (S36) → List (S36) → Int → Int → Int → ByteArray → List (S54) → ByteArray → List (S36) → Int → ByteArray → List (S54) → ByteArray → List (S36) → Option (Bool)
 | 0, _, _, _, _, _, _, _, _, _, _, _, _, _, _ => none
 | k + 1, x0, x1, x5, x8, x289000, x289001, x289002, x289003, x289004, x290000, x290001, x290002, x290003, x290004 => if x8 < (x289002.length : Int) then (if 0 ≤ x8 then (if x8 < (x290002.length : Int) then (if (!((((rd_T54 x289002 x8).f0).toList) == (((rd_T54 x290002 x8).f0).toList)) || (!((((rd_T54 x289002 x8).f1).toList) == (((rd_T54 x290002 x8).f1).toList)))) = true then (some false) else (espalierlaw04_alike.l1 k x0 x1 x5 (wrap64 (x8 + 1)) x289000 x289001 x289002 x289003 x289004 x290000 x290001 x290002 x290003 x290004)) else (none)) else (none)) else (espalierlaw04_alike.l0 k x0 x1 (wrap64 (x5 + 1)))
def espalierlaw04_alike.f : Nat → List (S36) → List (S36) → Option (Bool)
 | 0, _, _ => none
 | k + 1, l0, l1 => if (l0.length : Int) = (l1.length : Int) then (espalierlaw04_alike.l0 k l0 l1 0) else (some false)
end
theorem espalierlaw04_alike.mono_l : ∀ k, (∀ y0 y1, LeO (espalierlaw04_alike.f k y0 y1) (espalierlaw04_alike.f (k + 1) y0 y1)) ∧ (∀ y0 y1 y2, LeO (espalierlaw04_alike.l0 k y0 y1 y2) (espalierlaw04_alike.l0 (k + 1) y0 y1 y2)) ∧ (∀ y0 y1 y2 y3 y4 y5 y6 y7 y8 y9 y10 y11 y12 y13, LeO (espalierlaw04_alike.j1 k y0 y1 y2 y3 y4 y5 y6 y7 y8 y9 y10 y11 y12 y13) (espalierlaw04_alike.j1 (k + 1) y0 y1 y2 y3 y4 y5 y6 y7 y8 y9 y10 y11 y12 y13)) ∧ (∀ y0 y1 y2 y3 y4 y5 y6 y7 y8 y9 y10 y11 y12 y13, LeO (espalierlaw04_alike.l1 k y0 y1 y2 y3 y4 y5 y6 y7 y8 y9 y10 y11 y12 y13) (espalierlaw04_alike.l1 (k + 1) y0 y1 y2 y3 y4 y5 y6 y7 y8 y9 y10 y11 y12 y13))
 | 0 => ⟨fun _ _ r h => by simp [espalierlaw04_alike.f] at h, fun _ _ _ r h => by simp [espalierlaw04_alike.l0] at h, fun _ _ _ _ _ _ _ _ _ _ _ _ _ _ r h => by simp [espalierlaw04_alike.j1] at h, fun _ _ _ _ _ _ _ _ _ _ _ _ _ _ r h => by simp [espalierlaw04_alike.l1] at h⟩
 | k + 1 => by
  obtain ⟨ih0, ih1, ih2, ih3⟩ := espalierlaw04_alike.mono_l k
  refine ⟨?_, ?_, ?_, ?_⟩
  ·intro y0 y1
   unfold espalierlaw04_alike.f
   repeat' first
   | (with_reducible exact ih0 _ _)
   | (with_reducible exact ih1 _ _ _)
   | (with_reducible exact ih2 _ _ _ _ _ _ _ _ _ _ _ _ _ _)
   | (with_reducible exact ih3 _ _ _ _ _ _ _ _ _ _ _ _ _ _)
   | (with_reducible exact LeO.refl _)
   | (with_reducible exact LeO.none _)
   | (with_reducible refine LeO.ite ?_ ?_)
   | (with_reducible refine LeO.bind ?_ (fun _ => ?_))
   | exact ih0 _ _
   | exact ih1 _ _ _
   | exact ih2 _ _ _ _ _ _ _ _ _ _ _ _ _ _
   | exact ih3 _ _ _ _ _ _ _ _ _ _ _ _ _ _
   | exact LeO.none _
   | refine LeO.ite ?_ ?_
   | refine LeO.bind ?_ (fun _ => ?_)
  ·intro y0 y1 y2
   unfold espalierlaw04_alike.l0
   repeat' first
   | (with_reducible exact ih0 _ _)
   | (with_reducible exact ih1 _ _ _)
   | (with_reducible exact ih2 _ _ _ _ _ _ _ _ _ _ _ _ _ _)
   | (with_reducible exact ih3 _ _ _ _ _ _ _ _ _ _ _ _ _ _)
   | (with_reducible exact LeO.refl _)
   | (with_reducible exact LeO.none _)
   | (with_reducible refine LeO.ite ?_ ?_)
   | (with_reducible refine LeO.bind ?_ (fun _ => ?_))
   | exact ih0 _ _
   | exact ih1 _ _ _
   | exact ih2 _ _ _ _ _ _ _ _ _ _ _ _ _ _
   | exact ih3 _ _ _ _ _ _ _ _ _ _ _ _ _ _
   | exact LeO.none _
   | refine LeO.ite ?_ ?_
   | refine LeO.bind ?_ (fun _ => ?_)
  ·intro y0 y1 y2 y3 y4 y5 y6 y7 y8 y9 y10 y11 y12 y13
   unfold espalierlaw04_alike.j1
   repeat' first
   | (with_reducible exact ih0 _ _)
   | (with_reducible exact ih1 _ _ _)
   | (with_reducible exact ih2 _ _ _ _ _ _ _ _ _ _ _ _ _ _)
   | (with_reducible exact ih3 _ _ _ _ _ _ _ _ _ _ _ _ _ _)
   | (with_reducible exact LeO.refl _)
   | (with_reducible exact LeO.none _)
   | (with_reducible refine LeO.ite ?_ ?_)
   | (with_reducible refine LeO.bind ?_ (fun _ => ?_))
   | exact ih0 _ _
   | exact ih1 _ _ _
   | exact ih2 _ _ _ _ _ _ _ _ _ _ _ _ _ _
   | exact ih3 _ _ _ _ _ _ _ _ _ _ _ _ _ _
   | exact LeO.none _
   | refine LeO.ite ?_ ?_
   | refine LeO.bind ?_ (fun _ => ?_)
  ·intro y0 y1 y2 y3 y4 y5 y6 y7 y8 y9 y10 y11 y12 y13
   unfold espalierlaw04_alike.l1
   repeat' first
   | (with_reducible exact ih0 _ _)
   | (with_reducible exact ih1 _ _ _)
   | (with_reducible exact ih2 _ _ _ _ _ _ _ _ _ _ _ _ _ _)
   | (with_reducible exact ih3 _ _ _ _ _ _ _ _ _ _ _ _ _ _)
   | (with_reducible exact LeO.refl _)
   | (with_reducible exact LeO.none _)
   | (with_reducible refine LeO.ite ?_ ?_)
   | (with_reducible refine LeO.bind ?_ (fun _ => ?_))
   | exact ih0 _ _
   | exact ih1 _ _ _
   | exact ih2 _ _ _ _ _ _ _ _ _ _ _ _ _ _
   | exact ih3 _ _ _ _ _ _ _ _ _ _ _ _ _ _
   | exact LeO.none _
   | refine LeO.ite ?_ ?_
   | refine LeO.bind ?_ (fun _ => ?_)
theorem espalierlaw04_alike.mono : ∀ a0 a1 k, LeO (espalierlaw04_alike.f k a0 a1) (espalierlaw04_alike.f (k + 1) a0 a1) := by
 intro a0 a1 k
 obtain ⟨ih0, ih1, ih2, ih3⟩ := espalierlaw04_alike.mono_l k
 exact ih0 a0 a1
def espalierlaw04_alike.T6 : Bool × List (List Nat × List Nat) := (true, [([], []), ([], []), ([0, 1], [0, 1]), ([2], [2]), ([], []), ([], []), ([4, 5], [4, 5]), ([6], [6]), ([], []), ([], []), ([8, 3, 0, 1, 2, 3, 8, 9], [3, 8]), ([9, 7, 10, 0, 1, 2, 3, 4, 5, 6, 7, 8, 9, 10], [7, 9])])
def espalierlaw04_alike.B6 : List Nat := [0, 0, 3, 7, 0, 0, 48, 112, 0, 0, 783, 2047]
theorem espalierlaw04_alike.tab6 : rtab .any (opsOf Tryd.f11 6) = espalierlaw04_alike.T6 := by kernel_rfl
theorem espalierlaw04_alike.bits6 : waitsOk espalierlaw04_alike.T6.2 espalierlaw04_alike.B6 = true := by kernel_rfl
def espalierlaw04_alike.T12 : Bool × List (List Nat × List Nat) := (true, [([], []), ([0], [0]), ([], []), ([1, 2], [1, 2]), ([3], [3]), ([], []), ([5], [5]), ([], []), ([6, 7], [6, 7]), ([8], [8]), ([4, 9], [4, 9])])
def espalierlaw04_alike.B12 : List Nat := [0, 1, 0, 7, 15, 0, 32, 0, 224, 480, 1023]
theorem espalierlaw04_alike.tab12 : rtab .any (opsOf Tryd.f11 12) = espalierlaw04_alike.T12 := by kernel_rfl
theorem espalierlaw04_alike.bits12 : waitsOk espalierlaw04_alike.T12.2 espalierlaw04_alike.B12 = true := by kernel_rfl
set_option maxHeartbeats 8000000 in
set_option maxRecDepth 100000 in
theorem espalierlaw04_alike.calls (k : Nat) : ∀ (A0 : Option Addr) (c0 : Nat) (l0 : List (S36)) (A1 : Option Addr) (c1 : Nat) (l1 : List (S36)) (r : Bool) (w : World) (hr0 : Kd.C k36 w A0 l0.length l0) (hc0 : l0.length ≤ c0) (hr1 : Kd.C k36 w A1 l1.length l1) (hc1 : l1.length ≤ c1) (h : espalierlaw04_alike.f k l0 l1 = some r),
  Calls Tryd.prog 11 #[.slice A0 l0.length c0, .slice A1 l1.length c1] w fun e w' => e = .returned (.bool r) ∧ Below w.heap.size w w' := by
 induction k using Nat.strongRecOn with
 | _ k ih =>
 intro A0 c0 l0 A1 c1 l1 r w hr0 hc0 hr1 hc1 h
 cases k with
 | zero => exact absurd h (by simp [espalierlaw04_alike.f])
 | succ k =>
 simp only [espalierlaw04_alike.f] at h
 have hu36 := Tryd.underlying36
 have hu54 := Tryd.underlying54
 have HR0 := Aside0.mk hr0
 have HC0 := Aside0.mk hc0
 clear hr0 hc0
 have HR1 := Aside0.mk hr1
 have HC1 := Aside0.mk hc1
 clear hr1 hc1
 have HB := Aside0.mk (Below.refl w.heap.size w)
 have H : (if (l0.length : Int) = (l1.length : Int) then (espalierlaw04_alike.l0 k l0 l1 0) else (some false)) = some r := h
 clear h
 by_cases c3 : (l0.length : Int) = (l1.length : Int)
 ·rw [if_pos c3] at H
  have c3b0 := beq_iff_eq.mpr c3
  have c3b1 := bne_eq_false_iff_eq.mpr c3
  have c3b2 : (l0.length == l1.length) = true := by first | simpa using c3 | (simp at c3 ⊢; omega)
  clear c3
  have H' := Aside0.mk H
  clear H
  go_enter Tryd.func11, Tryd.ntmps11
  go_wp2
  go_loopg [5] k (fun kq v5 w' => ∃ (x5_1 : Int), v5 = .int .i64 x5_1 ∧ Aside0 (espalierlaw04_alike.l0 kq l0 l1 x5_1 = some r) ∧ Aside0 (kq ≤ k) ∧ Aside0 (Below w.heap.size w w'))
  case atStart => exact ⟨(0), (by first | rfl | (simp; done) | (simp [*]; done)), H', ⟨Nat.le_refl _⟩, ⟨hb_⟩⟩
  case round =>
   clear H'
   try clear c1
   try clear p2
   try clear c3
   try clear c3b0
   try clear c3b1
   try clear c3b2
   obtain ⟨x5_1, rfl, HA, HK1, HB⟩ := hrel
   cases gk with
   | zero => exact absurd HA.out (by simp [espalierlaw04_alike.l0])
   | succ k1 =>
    have H := HA.out
    clear HA
    simp only [espalierlaw04_alike.l0] at H
    by_cases c4 : x5_1 < (l0.length : Int)
    ·rw [if_pos c4] at H
     have c4b0 : decide (x5_1 < (l0.length : Int)) = true := decide_eq_true c4
     clear c4
     by_cases c5 : 0 ≤ x5_1
     ·rw [if_pos c5] at H
      have c5b0 : decide (0 ≤ x5_1) = true := decide_eq_true c5
      clear c5
      by_cases c6 : x5_1 < (l1.length : Int)
      ·rw [if_pos c6] at H
       have c6b0 : decide (x5_1 < (l1.length : Int)) = true := decide_eq_true c6
       clear c6
       have HC7 := Aside0.mk H
       clear H
       try go_wp2
       replace HB := Aside0.mk (below_drew1 HB.out)
       have p286 : 0 ≤ (x5_1 : Int) := of_decide_eq_true (by first | (with_reducible assumption) | assumption)
       have q286 : x5_1 < (l0.length : Int) := of_decide_eq_true (by first | (with_reducible assumption) | assumption)
       obtain ⟨ad286, A286_2, c286_2, A286_4, c286_4, e286, hx286_0, hx286_1, hx286_2, hx286_3, hx286_4, hl286_2, hi286_2, hl286_4, hi286_4⟩ := at_T36 HR0.out x5_1 p286 q286
       have hw286_4 := hx286_4
       have hw286_3 := hx286_3
       have hw286_2 := hx286_2
       have hw286_1 := hx286_1
       have hw286_0 := hx286_0
       cases e286
       replace hx286_0 := hc_ HB.out hx286_0
       replace hx286_1 := hc_ HB.out hx286_1
       replace hx286_2 := hc_ HB.out hx286_2
       replace hx286_3 := hc_ HB.out hx286_3
       replace hx286_4 := hc_ HB.out hx286_4
       have HR286_2 := Aside0.mk hi286_2
       have HC286_2 := Aside0.mk hl286_2
       clear hi286_2 hl286_2
       have HR286_4 := Aside0.mk hi286_4
       have HC286_4 := Aside0.mk hl286_4
       clear hi286_4 hl286_4
       replace p286 := eq_true p286
       replace q286 := eq_true q286
       have p287 : 0 ≤ (x5_1 : Int) := of_decide_eq_true (by first | (with_reducible assumption) | assumption)
       have q287 : x5_1 < (l1.length : Int) := of_decide_eq_true (by first | (with_reducible assumption) | assumption)
       obtain ⟨ad287, A287_2, c287_2, A287_4, c287_4, e287, hx287_0, hx287_1, hx287_2, hx287_3, hx287_4, hl287_2, hi287_2, hl287_4, hi287_4⟩ := at_T36 HR1.out x5_1 p287 q287
       have hw287_4 := hx287_4
       have hw287_3 := hx287_3
       have hw287_2 := hx287_2
       have hw287_1 := hx287_1
       have hw287_0 := hx287_0
       cases e287
       replace hx287_0 := hc_ HB.out hx287_0
       replace hx287_1 := hc_ HB.out hx287_1
       replace hx287_2 := hc_ HB.out hx287_2
       replace hx287_3 := hc_ HB.out hx287_3
       replace hx287_4 := hc_ HB.out hx287_4
       have HR287_2 := Aside0.mk hi287_2
       have HC287_2 := Aside0.mk hl287_2
       clear hi287_2 hl287_2
       have HR287_4 := Aside0.mk hi287_4
       have HC287_4 := Aside0.mk hl287_4
       clear hi287_4 hl287_4
       replace p287 := eq_true p287
       replace q287 := eq_true q287
       refine start_ (n := 12) (S := fun w' => w'.cell? (ad286.add ((x5_1).toNat * 5)) = some (.int .i64 ((rd_T36 l0 x5_1).f0)) ∧ w'.cell? ⟨(ad286.add ((x5_1).toNat * 5)).block, (ad286.add ((x5_1).toNat * 5)).off + 1, none⟩ = some (.string ((rd_T36 l0 x5_1).f1)) ∧ w'.cell? ⟨(ad286.add ((x5_1).toNat * 5)).block, (ad286.add ((x5_1).toNat * 5)).off + 2, none⟩ = some (.slice A286_2 ((rd_T36 l0 x5_1).f2).length c286_2) ∧ w'.cell? ⟨(ad286.add ((x5_1).toNat * 5)).block, (ad286.add ((x5_1).toNat * 5)).off + 3, none⟩ = some (.string ((rd_T36 l0 x5_1).f3)) ∧ w'.cell? ⟨(ad286.add ((x5_1).toNat * 5)).block, (ad286.add ((x5_1).toNat * 5)).off + 4, none⟩ = some (.slice A286_4 ((rd_T36 l0 x5_1).f4).length c286_4) ∧ w'.cell? (ad287.add ((x5_1).toNat * 5)) = some (.int .i64 ((rd_T36 l1 x5_1).f0)) ∧ w'.cell? ⟨(ad287.add ((x5_1).toNat * 5)).block, (ad287.add ((x5_1).toNat * 5)).off + 1, none⟩ = some (.string ((rd_T36 l1 x5_1).f1)) ∧ w'.cell? ⟨(ad287.add ((x5_1).toNat * 5)).block, (ad287.add ((x5_1).toNat * 5)).off + 2, none⟩ = some (.slice A287_2 ((rd_T36 l1 x5_1).f2).length c287_2) ∧ w'.cell? ⟨(ad287.add ((x5_1).toNat * 5)).block, (ad287.add ((x5_1).toNat * 5)).off + 3, none⟩ = some (.string ((rd_T36 l1 x5_1).f3)) ∧ w'.cell? ⟨(ad287.add ((x5_1).toNat * 5)).block, (ad287.add ((x5_1).toNat * 5)).off + 4, none⟩ = some (.slice A287_4 ((rd_T36 l1 x5_1).f4).length c287_4)) (ds := []) #[false, false, false, false, false, false, false, false, false, false, false, false] (by kernel_rfl) rfl rfl ⟨(hc_ HB.out hw286_0), (hc_ HB.out hw286_1), (hc_ HB.out hw286_2), (hc_ HB.out hw286_3), (hc_ HB.out hw286_4), (hc_ HB.out hw287_0), (hc_ HB.out hw287_1), (hc_ HB.out hw287_2), (hc_ HB.out hw287_3), (hc_ HB.out hw287_4)⟩ (fun hHeld => ?_); refine with_tabW espalierlaw04_alike.tab6 espalierlaw04_alike.bits6 (fun HT_ HW_ => ?_)
       generalize wr.drew = w8 at HB HR286_2 HR286_4 HR287_2 HR287_4 hx286_0 hx286_1 hx286_2 hx286_3 hx286_4 hx287_0 hx287_1 hx287_2 hx287_3 hx287_4 hHeld ⊢
       refine pu_ 0 (some 20) #[true, false, false, false, false, false, false, false, false, false, false, false] (any_of HT_.out (by kernel_rfl)) ?_
       refine pu_ 1 (some 21) #[true, true, false, false, false, false, false, false, false, false, false, false] (any_of HT_.out (by kernel_rfl)) ?_
       refine pu_ 2 (some 22) #[true, true, true, false, false, false, false, false, false, false, false, false] (any_of HT_.out (by kernel_rfl)) ?_
       refine pu_ 4 (some 24) #[true, true, true, false, true, false, false, false, false, false, false, false] (any_of HT_.out (by kernel_rfl)) ?_
       refine pu_ 5 (some 25) #[true, true, true, false, true, true, false, false, false, false, false, false] (any_of HT_.out (by kernel_rfl)) ?_
       refine pu_ 6 (some 26) #[true, true, true, false, true, true, true, false, false, false, false, false] (any_of HT_.out (by kernel_rfl)) ?_
       refine take_ (i := 3) (N := some 23) (v := ?_) (a' := ?_) #[true, true, true, true, true, true, true, false, false, false, false, false] rfl rfl (take_ofW HT_.out HW_.out (by kernel_rfl)) (fun _ _ _ h => h) (Or.inl ⟨by rfl, ?_⟩) hHeld ?_ ?_
       rotate_left
       ·rintro w' ⟨s0, s1, s2, s3, s4, s5, s6, s7, s8, s9⟩
        go_simp
        with_reducible rfl
       rotate_left
       ·simp only [Act.put, List.setIfInBounds_toArray, List.set_cons_zero, List.set_cons_succ, i64_w, i32_w]
        rfl
       refine take_ (i := 7) (N := some 27) (v := ?_) (a' := ?_) #[true, true, true, true, true, true, true, true, false, false, false, false] rfl rfl (take_ofW HT_.out HW_.out (by kernel_rfl)) (fun _ _ _ h => h) (Or.inl ⟨by rfl, ?_⟩) hHeld ?_ ?_
       rotate_left
       ·rintro w' ⟨s0, s1, s2, s3, s4, s5, s6, s7, s8, s9⟩
        go_simp
        with_reducible rfl
       rotate_left
       ·simp only [Act.put, List.setIfInBounds_toArray, List.set_cons_zero, List.set_cons_succ, i64_w, i32_w]
        rfl
       refine join_ (σ := Nat × Nat) 2 #[true, true, true, true, true, true, true, true, true, true, false, false] (fun s_ => [(6, .pointer (some ⟨s_.1, 0, none⟩)), (7, .pointer (some ⟨s_.2, 0, none⟩))]) (fun s_ w' => (w'.cell? (ad286.add ((x5_1).toNat * 5)) = some (.int .i64 ((rd_T36 l0 x5_1).f0)) ∧ w'.cell? ⟨(ad286.add ((x5_1).toNat * 5)).block, (ad286.add ((x5_1).toNat * 5)).off + 1, none⟩ = some (.string ((rd_T36 l0 x5_1).f1)) ∧ w'.cell? ⟨(ad286.add ((x5_1).toNat * 5)).block, (ad286.add ((x5_1).toNat * 5)).off + 2, none⟩ = some (.slice A286_2 ((rd_T36 l0 x5_1).f2).length c286_2) ∧ w'.cell? ⟨(ad286.add ((x5_1).toNat * 5)).block, (ad286.add ((x5_1).toNat * 5)).off + 3, none⟩ = some (.string ((rd_T36 l0 x5_1).f3)) ∧ w'.cell? ⟨(ad286.add ((x5_1).toNat * 5)).block, (ad286.add ((x5_1).toNat * 5)).off + 4, none⟩ = some (.slice A286_4 ((rd_T36 l0 x5_1).f4).length c286_4) ∧ w'.cell? (ad287.add ((x5_1).toNat * 5)) = some (.int .i64 ((rd_T36 l1 x5_1).f0)) ∧ w'.cell? ⟨(ad287.add ((x5_1).toNat * 5)).block, (ad287.add ((x5_1).toNat * 5)).off + 1, none⟩ = some (.string ((rd_T36 l1 x5_1).f1)) ∧ w'.cell? ⟨(ad287.add ((x5_1).toNat * 5)).block, (ad287.add ((x5_1).toNat * 5)).off + 2, none⟩ = some (.slice A287_2 ((rd_T36 l1 x5_1).f2).length c287_2) ∧ w'.cell? ⟨(ad287.add ((x5_1).toNat * 5)).block, (ad287.add ((x5_1).toNat * 5)).off + 3, none⟩ = some (.string ((rd_T36 l1 x5_1).f3)) ∧ w'.cell? ⟨(ad287.add ((x5_1).toNat * 5)).block, (ad287.add ((x5_1).toNat * 5)).off + 4, none⟩ = some (.slice A287_4 ((rd_T36 l1 x5_1).f4).length c287_4)) ∧ (w'.heap[s_.1]? = some (.cells #[.int .i64 0, .string (⟨#[]⟩ : ByteArray), .slice none 0 0, .string (⟨#[]⟩ : ByteArray), .slice none 0 0] 36 (0, 0))) ∧ (w'.heap[s_.2]? = some (.cells #[.int .i64 0, .string (⟨#[]⟩ : ByteArray), .slice none 0 0, .string (⟨#[]⟩ : ByteArray), .slice none 0 0] 36 (0, 0))) ∧ (w.heap.size ≤ s_.1) ∧ (w.heap.size ≤ s_.1) ∧ (s_.2 ≠ s_.1) ∧ (s_.1 ≠ s_.2) ∧ (w.heap.size ≤ s_.2) ∧ (w.heap.size ≤ s_.2) ∧ (Below w.heap.size w w')) ?_ ?_
       rotate_left
       ·intro hCont
        refine two_ (i := 8) (j := 9) (Ni := some 6) (Nj := some 7) #[true, true, true, true, true, true, true, true, true, false, false, false] #[true, true, true, true, true, true, true, true, false, true, false, false] rfl rfl rfl rfl (two_of HT_.out (by kernel_rfl)) (by decide) (by decide) (fun K hK => ?_) (fun K hK => ?_)
        ·skip
         refine box_step ?hg (N := 6) ?hd (cs := #[.int .i64 0, .string (⟨#[]⟩ : ByteArray), .slice none 0 0, .string (⟨#[]⟩ : ByteArray), .slice none 0 0]) (t := 36) ?hr ?_; (case hd => rfl); (case hg => rfl); (case hr => first | (go_simp; done) | (go_simp; rfl))
         intro gb288 hg w9 hbox hb
         have n0_ := Aside0.mk (below_step hb_ hb)
         have n1_ := Aside0.mk (hbox)
         have n2_ := Aside0.mk ((by rw [hg]; exact (below_size hb_) : w.heap.size ≤ gb288))
         have n3_ := Aside0.mk ((by rw [hg]; exact (below_size hb_) : w.heap.size ≤ gb288))
         clear HB
         have HB := n0_
         have BK288 := n1_
         have GW288 := n2_
         have GE288 := n3_
         clear n0_ n1_ n2_ n3_
         clear hb hbox hg
         refine hK.out _ _ ⟨(hc_ HB.out hw286_0), (hc_ HB.out hw286_1), (hc_ HB.out hw286_2), (hc_ HB.out hw286_3), (hc_ HB.out hw286_4), (hc_ HB.out hw287_0), (hc_ HB.out hw287_1), (hc_ HB.out hw287_2), (hc_ HB.out hw287_3), (hc_ HB.out hw287_4)⟩ (fun hHeld => ?_)
         clear hK K
         refine norm_ (a' := ?_) ?_ ?_
         rotate_left
         ·show Act.put _ (some 6) _ = _
          simp only [Act.put, List.setIfInBounds_toArray, List.set_cons_zero, List.set_cons_succ, i64_w, i32_w]
          rfl
         refine one_ (i := 9) (N := some 7) #[true, true, true, true, true, true, true, true, true, true, false, false] rfl rfl (one_of HT_.out (by kernel_rfl)) (by decide) (fun K hK => ?_)
         refine box_step ?hg (N := 7) ?hd (cs := #[.int .i64 0, .string (⟨#[]⟩ : ByteArray), .slice none 0 0, .string (⟨#[]⟩ : ByteArray), .slice none 0 0]) (t := 36) ?hr ?_; (case hd => rfl); (case hg => rfl); (case hr => first | (go_simp; done) | (go_simp; rfl))
         intro gb289 hg w10 hbox hb
         have n0_ := Aside0.mk (blk_below (g := gb288) (o := .cells #[.int .i64 0, .string (⟨#[]⟩ : ByteArray), .slice none 0 0, .string (⟨#[]⟩ : ByteArray), .slice none 0 0] 36 (0, 0)) (bk_ BK288.out) hb)
         have n1_ := Aside0.mk (below_step (hb1_ GE288.out) hb)
         have n2_ := Aside0.mk (hbox)
         have n3_ := Aside0.mk ((by rw [hg]; exact (below_size (hb1_ GE288.out)) : w.heap.size ≤ gb289))
         have n4_ := Aside0.mk ((by rw [hg]; exact (below_size (hb1_ GE288.out)) : w.heap.size ≤ gb289))
         have n5_ := Aside0.mk ((by rw [hg]; exact Nat.ne_of_lt (blk_lt (g := gb288) (o := .cells #[.int .i64 0, .string (⟨#[]⟩ : ByteArray), .slice none 0 0, .string (⟨#[]⟩ : ByteArray), .slice none 0 0] 36 (0, 0)) (bk_ BK288.out)) : gb288 ≠ gb289))
         have n6_ := Aside0.mk ((by rw [hg]; exact Nat.ne_of_gt (blk_lt (g := gb288) (o := .cells #[.int .i64 0, .string (⟨#[]⟩ : ByteArray), .slice none 0 0, .string (⟨#[]⟩ : ByteArray), .slice none 0 0] 36 (0, 0)) (bk_ BK288.out)) : gb289 ≠ gb288))
         clear BK288
         clear HB
         have BK288 := n0_
         have HB := n1_
         have BK289 := n2_
         have GW289 := n3_
         have GE289 := n4_
         have NB288_289 := n5_
         have NB289_288 := n6_
         clear n0_ n1_ n2_ n3_ n4_ n5_ n6_
         clear hb hbox hg
         refine hK.out _ _ ⟨(hc_ HB.out hw286_0), (hc_ HB.out hw286_1), (hc_ HB.out hw286_2), (hc_ HB.out hw286_3), (hc_ HB.out hw286_4), (hc_ HB.out hw287_0), (hc_ HB.out hw287_1), (hc_ HB.out hw287_2), (hc_ HB.out hw287_3), (hc_ HB.out hw287_4)⟩ (fun hHeld => ?_)
         clear hK K
         refine norm_ (a' := ?_) ?_ ?_
         rotate_left
         ·show Act.put _ (some 7) _ = _
          simp only [Act.put, List.setIfInBounds_toArray, List.set_cons_zero, List.set_cons_succ, i64_w, i32_w]
          rfl
         exact norm_ (by simp only [putAll, Act.put, List.setIfInBounds_toArray, List.set_cons_zero, List.set_cons_succ]) (hCont (gb288, gb289) _ ⟨hHeld, (bk_ BK288.out), (bk_ BK289.out), GW288.out, GE288.out, NB289_288.out, NB288_289.out, GW289.out, GE289.out, (hb2_ GE288.out GE289.out)⟩)
        ·skip
         refine box_step ?hg (N := 7) ?hd (cs := #[.int .i64 0, .string (⟨#[]⟩ : ByteArray), .slice none 0 0, .string (⟨#[]⟩ : ByteArray), .slice none 0 0]) (t := 36) ?hr ?_; (case hd => rfl); (case hg => rfl); (case hr => first | (go_simp; done) | (go_simp; rfl))
         intro gb289 hg w9 hbox hb
         have n0_ := Aside0.mk (below_step hb_ hb)
         have n1_ := Aside0.mk (hbox)
         have n2_ := Aside0.mk ((by rw [hg]; exact (below_size hb_) : w.heap.size ≤ gb289))
         have n3_ := Aside0.mk ((by rw [hg]; exact (below_size hb_) : w.heap.size ≤ gb289))
         clear HB
         have HB := n0_
         have BK289 := n1_
         have GW289 := n2_
         have GE289 := n3_
         clear n0_ n1_ n2_ n3_
         clear hb hbox hg
         refine hK.out _ _ ⟨(hc_ HB.out hw286_0), (hc_ HB.out hw286_1), (hc_ HB.out hw286_2), (hc_ HB.out hw286_3), (hc_ HB.out hw286_4), (hc_ HB.out hw287_0), (hc_ HB.out hw287_1), (hc_ HB.out hw287_2), (hc_ HB.out hw287_3), (hc_ HB.out hw287_4)⟩ (fun hHeld => ?_)
         clear hK K
         refine norm_ (a' := ?_) ?_ ?_
         rotate_left
         ·show Act.put _ (some 7) _ = _
          simp only [Act.put, List.setIfInBounds_toArray, List.set_cons_zero, List.set_cons_succ, i64_w, i32_w]
          rfl
         refine one_ (i := 8) (N := some 6) #[true, true, true, true, true, true, true, true, true, true, false, false] rfl rfl (one_of HT_.out (by kernel_rfl)) (by decide) (fun K hK => ?_)
         refine box_step ?hg (N := 6) ?hd (cs := #[.int .i64 0, .string (⟨#[]⟩ : ByteArray), .slice none 0 0, .string (⟨#[]⟩ : ByteArray), .slice none 0 0]) (t := 36) ?hr ?_; (case hd => rfl); (case hg => rfl); (case hr => first | (go_simp; done) | (go_simp; rfl))
         intro gb288 hg w10 hbox hb
         have n0_ := Aside0.mk (blk_below (g := gb289) (o := .cells #[.int .i64 0, .string (⟨#[]⟩ : ByteArray), .slice none 0 0, .string (⟨#[]⟩ : ByteArray), .slice none 0 0] 36 (0, 0)) (bk_ BK289.out) hb)
         have n1_ := Aside0.mk (below_step (hb1_ GE289.out) hb)
         have n2_ := Aside0.mk (hbox)
         have n3_ := Aside0.mk ((by rw [hg]; exact (below_size (hb1_ GE289.out)) : w.heap.size ≤ gb288))
         have n4_ := Aside0.mk ((by rw [hg]; exact (below_size (hb1_ GE289.out)) : w.heap.size ≤ gb288))
         have n5_ := Aside0.mk ((by rw [hg]; exact Nat.ne_of_lt (blk_lt (g := gb289) (o := .cells #[.int .i64 0, .string (⟨#[]⟩ : ByteArray), .slice none 0 0, .string (⟨#[]⟩ : ByteArray), .slice none 0 0] 36 (0, 0)) (bk_ BK289.out)) : gb289 ≠ gb288))
         have n6_ := Aside0.mk ((by rw [hg]; exact Nat.ne_of_gt (blk_lt (g := gb289) (o := .cells #[.int .i64 0, .string (⟨#[]⟩ : ByteArray), .slice none 0 0, .string (⟨#[]⟩ : ByteArray), .slice none 0 0] 36 (0, 0)) (bk_ BK289.out)) : gb288 ≠ gb289))
         clear BK289
         clear HB
         have BK289 := n0_
         have HB := n1_
         have BK288 := n2_
         have GW288 := n3_
         have GE288 := n4_
         have NB289_288 := n5_
         have NB288_289 := n6_
         clear n0_ n1_ n2_ n3_ n4_ n5_ n6_
         clear hb hbox hg
         refine hK.out _ _ ⟨(hc_ HB.out hw286_0), (hc_ HB.out hw286_1), (hc_ HB.out hw286_2), (hc_ HB.out hw286_3), (hc_ HB.out hw286_4), (hc_ HB.out hw287_0), (hc_ HB.out hw287_1), (hc_ HB.out hw287_2), (hc_ HB.out hw287_3), (hc_ HB.out hw287_4)⟩ (fun hHeld => ?_)
         clear hK K
         refine norm_ (a' := ?_) ?_ ?_
         rotate_left
         ·show Act.put _ (some 6) _ = _
          simp only [Act.put, List.setIfInBounds_toArray, List.set_cons_zero, List.set_cons_succ, i64_w, i32_w]
          rfl
         exact norm_ (by simp only [putAll, Act.put, List.setIfInBounds_toArray, List.set_cons_zero, List.set_cons_succ]) (hCont (gb288, gb289) _ ⟨hHeld, (bk_ BK288.out), (bk_ BK289.out), GW288.out, GE288.out, NB289_288.out, NB288_289.out, GW289.out, GE289.out, (hb2_ GE289.out GE288.out)⟩)
       rintro ⟨gb288, gb289⟩ w11 ⟨hS_, h0_, h1_, h2_, h3_, h4_, h5_, h6_, h7_, h8_⟩
       have n0_ : Aside0 (w11.heap[gb288]? = some (.cells #[.int .i64 0, .string (⟨#[]⟩ : ByteArray), .slice none 0 0, .string (⟨#[]⟩ : ByteArray), .slice none 0 0] 36 (0, 0))) := ⟨h0_⟩
       have n1_ : Aside0 (w11.heap[gb289]? = some (.cells #[.int .i64 0, .string (⟨#[]⟩ : ByteArray), .slice none 0 0, .string (⟨#[]⟩ : ByteArray), .slice none 0 0] 36 (0, 0))) := ⟨h1_⟩
       have n2_ : Aside0 (w.heap.size ≤ gb288) := ⟨h2_⟩
       have n3_ : Aside0 (w.heap.size ≤ gb288) := ⟨h3_⟩
       have n4_ : Aside0 (gb289 ≠ gb288) := ⟨h4_⟩
       have n5_ : Aside0 (gb288 ≠ gb289) := ⟨h5_⟩
       have n6_ : Aside0 (w.heap.size ≤ gb289) := ⟨h6_⟩
       have n7_ : Aside0 (w.heap.size ≤ gb289) := ⟨h7_⟩
       have n8_ : Aside0 (Below w.heap.size w w11) := ⟨h8_⟩
       clear HB
       clear h0_ h1_ h2_ h3_ h4_ h5_ h6_ h7_ h8_
       have BK288 := n0_
       have BK289 := n1_
       have GW288 := n2_
       have GE288 := n3_
       have NB289_288 := n4_
       have NB288_289 := n5_
       have GW289 := n6_
       have GE289 := n7_
       have HB := n8_
       clear n0_ n1_ n2_ n3_ n4_ n5_ n6_ n7_ n8_
       have hHeld : w11.cell? (ad286.add ((x5_1).toNat * 5)) = some (.int .i64 ((rd_T36 l0 x5_1).f0)) ∧ w11.cell? ⟨(ad286.add ((x5_1).toNat * 5)).block, (ad286.add ((x5_1).toNat * 5)).off + 1, none⟩ = some (.string ((rd_T36 l0 x5_1).f1)) ∧ w11.cell? ⟨(ad286.add ((x5_1).toNat * 5)).block, (ad286.add ((x5_1).toNat * 5)).off + 2, none⟩ = some (.slice A286_2 ((rd_T36 l0 x5_1).f2).length c286_2) ∧ w11.cell? ⟨(ad286.add ((x5_1).toNat * 5)).block, (ad286.add ((x5_1).toNat * 5)).off + 3, none⟩ = some (.string ((rd_T36 l0 x5_1).f3)) ∧ w11.cell? ⟨(ad286.add ((x5_1).toNat * 5)).block, (ad286.add ((x5_1).toNat * 5)).off + 4, none⟩ = some (.slice A286_4 ((rd_T36 l0 x5_1).f4).length c286_4) ∧ w11.cell? (ad287.add ((x5_1).toNat * 5)) = some (.int .i64 ((rd_T36 l1 x5_1).f0)) ∧ w11.cell? ⟨(ad287.add ((x5_1).toNat * 5)).block, (ad287.add ((x5_1).toNat * 5)).off + 1, none⟩ = some (.string ((rd_T36 l1 x5_1).f1)) ∧ w11.cell? ⟨(ad287.add ((x5_1).toNat * 5)).block, (ad287.add ((x5_1).toNat * 5)).off + 2, none⟩ = some (.slice A287_2 ((rd_T36 l1 x5_1).f2).length c287_2) ∧ w11.cell? ⟨(ad287.add ((x5_1).toNat * 5)).block, (ad287.add ((x5_1).toNat * 5)).off + 3, none⟩ = some (.string ((rd_T36 l1 x5_1).f3)) ∧ w11.cell? ⟨(ad287.add ((x5_1).toNat * 5)).block, (ad287.add ((x5_1).toNat * 5)).off + 4, none⟩ = some (.slice A287_4 ((rd_T36 l1 x5_1).f4).length c287_4) := hS_
       refine norm_ (a' := ?_) ?_ ?_
       rotate_left
       ·simp only [putAll, Act.put, List.setIfInBounds_toArray, List.set_cons_zero, List.set_cons_succ]
        rfl
       refine one_ (i := 10) (N := none) #[true, true, true, true, true, true, true, true, true, true, true, false] rfl rfl (one_of HT_.out (by kernel_rfl)) (by decide) (fun K hK => ?_)
       have hs12 : w11.cell? ⟨gb288, 0, none⟩ = some (.int .i64 0) := (blk_cell BK288.out 0).trans rfl
       have hfs12 := blk_frozen BK288.out 0
       have hns12_1 := NB289_288.out
       have hms12_1 := NB288_289.out
       have hs13 : w11.cell? ⟨gb288, 1, none⟩ = some (.string (⟨#[]⟩ : ByteArray)) := (blk_cell BK288.out 1).trans rfl
       have hfs13 := blk_frozen BK288.out 1
       have hns13_1 := NB289_288.out
       have hms13_1 := NB288_289.out
       have hs14 : w11.cell? ⟨gb288, 2, none⟩ = some (.slice none 0 0) := (blk_cell BK288.out 2).trans rfl
       have hfs14 := blk_frozen BK288.out 2
       have hns14_1 := NB289_288.out
       have hms14_1 := NB288_289.out
       have hs15 : w11.cell? ⟨gb288, 3, none⟩ = some (.string (⟨#[]⟩ : ByteArray)) := (blk_cell BK288.out 3).trans rfl
       have hfs15 := blk_frozen BK288.out 3
       have hns15_1 := NB289_288.out
       have hms15_1 := NB288_289.out
       have hs16 : w11.cell? ⟨gb288, 4, none⟩ = some (.slice none 0 0) := (blk_cell BK288.out 4).trans rfl
       have hfs16 := blk_frozen BK288.out 4
       have hns16_1 := NB289_288.out
       have hms16_1 := NB288_289.out
       refine skip_ (w1 := ?_) (by rfl) rfl ?_ ?_
       rotate_left
       ·go_simp
        rfl
       refine hK.out _ _ ⟨((far_ hw286_0 GW288.out _).trans (((far_ hw286_0 GW288.out _).trans (((far_ hw286_0 GW288.out _).trans (((far_ hw286_0 GW288.out _).trans (((far_ hw286_0 GW288.out _).trans (hHeld.1)))))))))), ((far_ hw286_1 GW288.out _).trans (((far_ hw286_1 GW288.out _).trans (((far_ hw286_1 GW288.out _).trans (((far_ hw286_1 GW288.out _).trans (((far_ hw286_1 GW288.out _).trans (hHeld.2.1)))))))))), ((far_ hw286_2 GW288.out _).trans (((far_ hw286_2 GW288.out _).trans (((far_ hw286_2 GW288.out _).trans (((far_ hw286_2 GW288.out _).trans (((far_ hw286_2 GW288.out _).trans (hHeld.2.2.1)))))))))), ((far_ hw286_3 GW288.out _).trans (((far_ hw286_3 GW288.out _).trans (((far_ hw286_3 GW288.out _).trans (((far_ hw286_3 GW288.out _).trans (((far_ hw286_3 GW288.out _).trans (hHeld.2.2.2.1)))))))))), ((far_ hw286_4 GW288.out _).trans (((far_ hw286_4 GW288.out _).trans (((far_ hw286_4 GW288.out _).trans (((far_ hw286_4 GW288.out _).trans (((far_ hw286_4 GW288.out _).trans (hHeld.2.2.2.2.1)))))))))), ((far_ hw287_0 GW288.out _).trans (((far_ hw287_0 GW288.out _).trans (((far_ hw287_0 GW288.out _).trans (((far_ hw287_0 GW288.out _).trans (((far_ hw287_0 GW288.out _).trans (hHeld.2.2.2.2.2.1)))))))))), ((far_ hw287_1 GW288.out _).trans (((far_ hw287_1 GW288.out _).trans (((far_ hw287_1 GW288.out _).trans (((far_ hw287_1 GW288.out _).trans (((far_ hw287_1 GW288.out _).trans (hHeld.2.2.2.2.2.2.1)))))))))), ((far_ hw287_2 GW288.out _).trans (((far_ hw287_2 GW288.out _).trans (((far_ hw287_2 GW288.out _).trans (((far_ hw287_2 GW288.out _).trans (((far_ hw287_2 GW288.out _).trans (hHeld.2.2.2.2.2.2.2.1)))))))))), ((far_ hw287_3 GW288.out _).trans (((far_ hw287_3 GW288.out _).trans (((far_ hw287_3 GW288.out _).trans (((far_ hw287_3 GW288.out _).trans (((far_ hw287_3 GW288.out _).trans (hHeld.2.2.2.2.2.2.2.2.1)))))))))), ((far_ hw287_4 GW288.out _).trans (((far_ hw287_4 GW288.out _).trans (((far_ hw287_4 GW288.out _).trans (((far_ hw287_4 GW288.out _).trans (((far_ hw287_4 GW288.out _).trans (hHeld.2.2.2.2.2.2.2.2.2))))))))))⟩ (fun hHeld => ?_)
       clear hK K
       refine one_ (i := 11) (N := none) #[true, true, true, true, true, true, true, true, true, true, true, true] rfl rfl (one_of HT_.out (by kernel_rfl)) (by decide) (fun K hK => ?_)
       have hs17 : w11.cell? ⟨gb289, 0, none⟩ = some (.int .i64 0) := (blk_cell BK289.out 0).trans rfl
       have hfs17 := blk_frozen BK289.out 0
       have hns17_0 := NB288_289.out
       have hms17_0 := NB289_288.out
       have hs18 : w11.cell? ⟨gb289, 1, none⟩ = some (.string (⟨#[]⟩ : ByteArray)) := (blk_cell BK289.out 1).trans rfl
       have hfs18 := blk_frozen BK289.out 1
       have hns18_0 := NB288_289.out
       have hms18_0 := NB289_288.out
       have hs19 : w11.cell? ⟨gb289, 2, none⟩ = some (.slice none 0 0) := (blk_cell BK289.out 2).trans rfl
       have hfs19 := blk_frozen BK289.out 2
       have hns19_0 := NB288_289.out
       have hms19_0 := NB289_288.out
       have hs20 : w11.cell? ⟨gb289, 3, none⟩ = some (.string (⟨#[]⟩ : ByteArray)) := (blk_cell BK289.out 3).trans rfl
       have hfs20 := blk_frozen BK289.out 3
       have hns20_0 := NB288_289.out
       have hms20_0 := NB289_288.out
       have hs21 : w11.cell? ⟨gb289, 4, none⟩ = some (.slice none 0 0) := (blk_cell BK289.out 4).trans rfl
       have hfs21 := blk_frozen BK289.out 4
       have hns21_0 := NB288_289.out
       have hms21_0 := NB289_288.out
       refine skip_ (w1 := ?_) (by rfl) rfl ?_ ?_
       rotate_left
       ·go_simp
        rfl
       refine hK.out _ _ ⟨((far_ hw286_0 GW289.out _).trans (((far_ hw286_0 GW289.out _).trans (((far_ hw286_0 GW289.out _).trans (((far_ hw286_0 GW289.out _).trans (((far_ hw286_0 GW289.out _).trans (hHeld.1)))))))))), ((far_ hw286_1 GW289.out _).trans (((far_ hw286_1 GW289.out _).trans (((far_ hw286_1 GW289.out _).trans (((far_ hw286_1 GW289.out _).trans (((far_ hw286_1 GW289.out _).trans (hHeld.2.1)))))))))), ((far_ hw286_2 GW289.out _).trans (((far_ hw286_2 GW289.out _).trans (((far_ hw286_2 GW289.out _).trans (((far_ hw286_2 GW289.out _).trans (((far_ hw286_2 GW289.out _).trans (hHeld.2.2.1)))))))))), ((far_ hw286_3 GW289.out _).trans (((far_ hw286_3 GW289.out _).trans (((far_ hw286_3 GW289.out _).trans (((far_ hw286_3 GW289.out _).trans (((far_ hw286_3 GW289.out _).trans (hHeld.2.2.2.1)))))))))), ((far_ hw286_4 GW289.out _).trans (((far_ hw286_4 GW289.out _).trans (((far_ hw286_4 GW289.out _).trans (((far_ hw286_4 GW289.out _).trans (((far_ hw286_4 GW289.out _).trans (hHeld.2.2.2.2.1)))))))))), ((far_ hw287_0 GW289.out _).trans (((far_ hw287_0 GW289.out _).trans (((far_ hw287_0 GW289.out _).trans (((far_ hw287_0 GW289.out _).trans (((far_ hw287_0 GW289.out _).trans (hHeld.2.2.2.2.2.1)))))))))), ((far_ hw287_1 GW289.out _).trans (((far_ hw287_1 GW289.out _).trans (((far_ hw287_1 GW289.out _).trans (((far_ hw287_1 GW289.out _).trans (((far_ hw287_1 GW289.out _).trans (hHeld.2.2.2.2.2.2.1)))))))))), ((far_ hw287_2 GW289.out _).trans (((far_ hw287_2 GW289.out _).trans (((far_ hw287_2 GW289.out _).trans (((far_ hw287_2 GW289.out _).trans (((far_ hw287_2 GW289.out _).trans (hHeld.2.2.2.2.2.2.2.1)))))))))), ((far_ hw287_3 GW289.out _).trans (((far_ hw287_3 GW289.out _).trans (((far_ hw287_3 GW289.out _).trans (((far_ hw287_3 GW289.out _).trans (((far_ hw287_3 GW289.out _).trans (hHeld.2.2.2.2.2.2.2.2.1)))))))))), ((far_ hw287_4 GW289.out _).trans (((far_ hw287_4 GW289.out _).trans (((far_ hw287_4 GW289.out _).trans (((far_ hw287_4 GW289.out _).trans (((far_ hw287_4 GW289.out _).trans (hHeld.2.2.2.2.2.2.2.2.2))))))))))⟩ (fun hHeld => ?_)
       clear hK K
       refine done_ (done_of HT_.out (by kernel_rfl)) ?_
       go_upto_region 7 with (fail)
       go_cut [63] (fun v63 wc => ∃ (kq : Nat) (x63_6 : Bool), v63 = .bool x63_6 ∧ Aside0 (espalierlaw04_alike.j1 kq l0 l1 x5_1 x63_6 ((rd_T36 l0 x5_1).f0) ((rd_T36 l0 x5_1).f1) ((rd_T36 l0 x5_1).f2) ((rd_T36 l0 x5_1).f3) ((rd_T36 l0 x5_1).f4) ((rd_T36 l1 x5_1).f0) ((rd_T36 l1 x5_1).f1) ((rd_T36 l1 x5_1).f2) ((rd_T36 l1 x5_1).f3) ((rd_T36 l1 x5_1).f4) = some r) ∧ Aside0 (kq ≤ k1) ∧ Aside0 (wc.heap[gb288]? = some (.cells #[.int .i64 ((rd_T36 l0 x5_1).f0), .string ((rd_T36 l0 x5_1).f1), (.slice A286_2 ((rd_T36 l0 x5_1).f2).length c286_2), .string ((rd_T36 l0 x5_1).f3), (.slice A286_4 ((rd_T36 l0 x5_1).f4).length c286_4)] 36 (0, 0))) ∧ Aside0 (wc.heap[gb289]? = some (.cells #[.int .i64 ((rd_T36 l1 x5_1).f0), .string ((rd_T36 l1 x5_1).f1), (.slice A287_2 ((rd_T36 l1 x5_1).f2).length c287_2), .string ((rd_T36 l1 x5_1).f3), (.slice A287_4 ((rd_T36 l1 x5_1).f4).length c287_4)] 36 (0, 0))) ∧ Aside0 (Below w.heap.size w wc))
       case first =>
        have H := HC7.out
        clear HC7
        by_cases c22 : ((rd_T36 l0 x5_1).f0) = ((rd_T36 l1 x5_1).f0)
        ·rw [if_pos c22] at H
         have c22b0 := beq_iff_eq.mpr c22
         have c22b1 := bne_eq_false_iff_eq.mpr c22
         clear c22
         (first | rw [c22b0] | (simp only [i64_w, i32_w]; rw [c22b0]) | skip)
         by_cases c23 : ((rd_T36 l0 x5_1).f1).toList = ((rd_T36 l1 x5_1).f1).toList
         ·rw [if_pos c23] at H
          have c23b0 := beq_iff_eq.mpr c23
          have c23b1 := bne_eq_false_iff_eq.mpr c23
          clear c23
          by_cases c24 : ((rd_T36 l0 x5_1).f3).toList = ((rd_T36 l1 x5_1).f3).toList
          ·rw [if_pos c24] at H
           have c24b0 := beq_iff_eq.mpr c24
           have c24b1 := bne_eq_false_iff_eq.mpr c24
           clear c24
           by_cases c25 : (((rd_T36 l0 x5_1).f2).length : Int) = (((rd_T36 l1 x5_1).f2).length : Int)
           ·rw [if_pos c25] at H
            have c25b0 := beq_iff_eq.mpr c25
            have c25b1 := bne_eq_false_iff_eq.mpr c25
            have c25b2 : (((rd_T36 l0 x5_1).f2).length == ((rd_T36 l1 x5_1).f2).length) = true := by first | simpa using c25 | (simp at c25 ⊢; omega)
            clear c25
            replace H := Option.bind_eq_some_iff.mp H
            obtain ⟨t290, A260, H⟩ := H
            replace H : (espalierlaw04_alike.j1 k1 l0 l1 x5_1 (!t290) ((rd_T36 l0 x5_1).f0) ((rd_T36 l0 x5_1).f1) ((rd_T36 l0 x5_1).f2) ((rd_T36 l0 x5_1).f3) ((rd_T36 l0 x5_1).f4) ((rd_T36 l1 x5_1).f0) ((rd_T36 l1 x5_1).f1) ((rd_T36 l1 x5_1).f2) ((rd_T36 l1 x5_1).f3) ((rd_T36 l1 x5_1).f4)) = some r := H
            have A26 := Aside0.mk A260
            clear A260
            have H' := Aside0.mk H
            clear H
            have hnb27 := NB288_289.out
            have hnc27 := NB289_288.out
            obtain ⟨hcz28_0, hcz28_1, hcz28_2, hcz28_3, hcz28_4⟩ := ce5_ BK288.out
            obtain ⟨hfz28_0, hfz28_1, hfz28_2, hfz28_3, hfz28_4⟩ := fr5_ BK288.out
            obtain ⟨hcz29_0, hcz29_1, hcz29_2, hcz29_3, hcz29_4⟩ := ce5_ BK289.out
            obtain ⟨hfz29_0, hfz29_1, hfz29_2, hfz29_3, hfz29_4⟩ := fr5_ BK289.out
            go_wp2_with (first | (go_at_call 11; (with_reducible refine (ih k1 (by have := HK1.out; omega) _ _ ((rd_T36 l0 x5_1).f4) _ _ ((rd_T36 l1 x5_1).f4) t290 _ ?side1 ?side2 ?side3 ?side4 A26.out).mono ?_); (case side1 => exact Kd.C_below HR286_4.out (hb2_ GE288.out GE289.out)); (case side2 => exact HC286_4.out); (case side3 => exact Kd.C_below HR287_4.out (hb2_ GE288.out GE289.out)); (case side4 => exact HC287_4.out); rintro e w30 ⟨rfl, hb⟩; have n0_ := Aside0.mk (blk_below (g := gb288) (o := .cells #[.int .i64 ((rd_T36 l0 x5_1).f0), .string ((rd_T36 l0 x5_1).f1), .slice A286_2 ((rd_T36 l0 x5_1).f2).length c286_2, .string ((rd_T36 l0 x5_1).f3), .slice A286_4 ((rd_T36 l0 x5_1).f4).length c286_4] 36 (0, 0)) (by (with_reducible repeat (first | refine blk_drewN ?_ _ | refine blk_drew ?_ | refine blk_alloc ?_ _)); refine blk_far ?_ NB288_289.out _; (with_reducible repeat (first | refine blk_drewN ?_ _ | refine blk_drew ?_ | refine blk_alloc ?_ _)); refine blk_far ?_ NB288_289.out _; (with_reducible repeat (first | refine blk_drewN ?_ _ | refine blk_drew ?_ | refine blk_alloc ?_ _)); refine blk_far ?_ NB288_289.out _; (with_reducible repeat (first | refine blk_drewN ?_ _ | refine blk_drew ?_ | refine blk_alloc ?_ _)); refine blk_far ?_ NB288_289.out _; (with_reducible repeat (first | refine blk_drewN ?_ _ | refine blk_drew ?_ | refine blk_alloc ?_ _)); refine blk_far ?_ NB288_289.out _; (with_reducible repeat (first | refine blk_drewN ?_ _ | refine blk_drew ?_ | refine blk_alloc ?_ _)); refine blk_put (cs := #[.int .i64 ((rd_T36 l0 x5_1).f0), .string ((rd_T36 l0 x5_1).f1), .slice A286_2 ((rd_T36 l0 x5_1).f2).length c286_2, .string ((rd_T36 l0 x5_1).f3), .slice none 0 0]) ?_ 4 _ rfl; (with_reducible repeat (first | refine blk_drewN ?_ _ | refine blk_drew ?_ | refine blk_alloc ?_ _)); refine blk_put (cs := #[.int .i64 ((rd_T36 l0 x5_1).f0), .string ((rd_T36 l0 x5_1).f1), .slice A286_2 ((rd_T36 l0 x5_1).f2).length c286_2, .string (⟨#[]⟩ : ByteArray), .slice none 0 0]) ?_ 3 _ rfl; (with_reducible repeat (first | refine blk_drewN ?_ _ | refine blk_drew ?_ | refine blk_alloc ?_ _)); refine blk_put (cs := #[.int .i64 ((rd_T36 l0 x5_1).f0), .string ((rd_T36 l0 x5_1).f1), .slice none 0 0, .string (⟨#[]⟩ : ByteArray), .slice none 0 0]) ?_ 2 _ rfl; (with_reducible repeat (first | refine blk_drewN ?_ _ | refine blk_drew ?_ | refine blk_alloc ?_ _)); refine blk_put (cs := #[.int .i64 ((rd_T36 l0 x5_1).f0), .string (⟨#[]⟩ : ByteArray), .slice none 0 0, .string (⟨#[]⟩ : ByteArray), .slice none 0 0]) ?_ 1 _ rfl; (with_reducible repeat (first | refine blk_drewN ?_ _ | refine blk_drew ?_ | refine blk_alloc ?_ _)); refine blk_put (cs := #[.int .i64 0, .string (⟨#[]⟩ : ByteArray), .slice none 0 0, .string (⟨#[]⟩ : ByteArray), .slice none 0 0]) ?_ 0 _ rfl; (with_reducible repeat (first | refine blk_drewN ?_ _ | refine blk_drew ?_ | refine blk_alloc ?_ _)); exact BK288.out) hb); have n1_ := Aside0.mk (blk_below (g := gb289) (o := .cells #[.int .i64 ((rd_T36 l1 x5_1).f0), .string ((rd_T36 l1 x5_1).f1), .slice A287_2 ((rd_T36 l1 x5_1).f2).length c287_2, .string ((rd_T36 l1 x5_1).f3), .slice A287_4 ((rd_T36 l1 x5_1).f4).length c287_4] 36 (0, 0)) (by (with_reducible repeat (first | refine blk_drewN ?_ _ | refine blk_drew ?_ | refine blk_alloc ?_ _)); refine blk_put (cs := #[.int .i64 ((rd_T36 l1 x5_1).f0), .string ((rd_T36 l1 x5_1).f1), .slice A287_2 ((rd_T36 l1 x5_1).f2).length c287_2, .string ((rd_T36 l1 x5_1).f3), .slice none 0 0]) ?_ 4 _ rfl; (with_reducible repeat (first | refine blk_drewN ?_ _ | refine blk_drew ?_ | refine blk_alloc ?_ _)); refine blk_put (cs := #[.int .i64 ((rd_T36 l1 x5_1).f0), .string ((rd_T36 l1 x5_1).f1), .slice A287_2 ((rd_T36 l1 x5_1).f2).length c287_2, .string (⟨#[]⟩ : ByteArray), .slice none 0 0]) ?_ 3 _ rfl; (with_reducible repeat (first | refine blk_drewN ?_ _ | refine blk_drew ?_ | refine blk_alloc ?_ _)); refine blk_put (cs := #[.int .i64 ((rd_T36 l1 x5_1).f0), .string ((rd_T36 l1 x5_1).f1), .slice none 0 0, .string (⟨#[]⟩ : ByteArray), .slice none 0 0]) ?_ 2 _ rfl; (with_reducible repeat (first | refine blk_drewN ?_ _ | refine blk_drew ?_ | refine blk_alloc ?_ _)); refine blk_put (cs := #[.int .i64 ((rd_T36 l1 x5_1).f0), .string (⟨#[]⟩ : ByteArray), .slice none 0 0, .string (⟨#[]⟩ : ByteArray), .slice none 0 0]) ?_ 1 _ rfl; (with_reducible repeat (first | refine blk_drewN ?_ _ | refine blk_drew ?_ | refine blk_alloc ?_ _)); refine blk_put (cs := #[.int .i64 0, .string (⟨#[]⟩ : ByteArray), .slice none 0 0, .string (⟨#[]⟩ : ByteArray), .slice none 0 0]) ?_ 0 _ rfl; (with_reducible repeat (first | refine blk_drewN ?_ _ | refine blk_drew ?_ | refine blk_alloc ?_ _)); refine blk_far ?_ NB289_288.out _; (with_reducible repeat (first | refine blk_drewN ?_ _ | refine blk_drew ?_ | refine blk_alloc ?_ _)); refine blk_far ?_ NB289_288.out _; (with_reducible repeat (first | refine blk_drewN ?_ _ | refine blk_drew ?_ | refine blk_alloc ?_ _)); refine blk_far ?_ NB289_288.out _; (with_reducible repeat (first | refine blk_drewN ?_ _ | refine blk_drew ?_ | refine blk_alloc ?_ _)); refine blk_far ?_ NB289_288.out _; (with_reducible repeat (first | refine blk_drewN ?_ _ | refine blk_drew ?_ | refine blk_alloc ?_ _)); refine blk_far ?_ NB289_288.out _; (with_reducible repeat (first | refine blk_drewN ?_ _ | refine blk_drew ?_ | refine blk_alloc ?_ _)); exact BK289.out) hb); have n2_ := Aside0.mk (below_step (hb2_ GE288.out GE289.out) hb); clear BK288; clear BK289; clear HB; have BK288 := n0_; have BK289 := n1_; have HB := n2_; clear n0_ n1_ n2_; (try clear hb); (try clear hb2); (try clear hk); (try clear hi)))
            go_meet
            case rel => exact ⟨_, (!t290), (by first | rfl | (simp; done) | (simp [*]; done)), H', ⟨by have := HK1.out; first | omega | exact Nat.le_refl _⟩, ⟨bk_ BK288.out⟩, ⟨bk_ BK289.out⟩, ⟨hb2_ GE288.out GE289.out⟩⟩
           ·rw [if_neg c25] at H
            have c25b0 := beq_eq_false_iff_ne.mpr c25
            have c25b1 := bne_iff_ne.mpr c25
            have c25b2 : (((rd_T36 l0 x5_1).f2).length == ((rd_T36 l1 x5_1).f2).length) = false := by first | simpa using c25 | (simp at c25 ⊢; omega)
            have H' := Aside0.mk H
            clear H
            have hnb31 := NB288_289.out
            have hnc31 := NB289_288.out
            obtain ⟨hcz32_0, hcz32_1, hcz32_2, hcz32_3, hcz32_4⟩ := ce5_ BK288.out
            obtain ⟨hfz32_0, hfz32_1, hfz32_2, hfz32_3, hfz32_4⟩ := fr5_ BK288.out
            obtain ⟨hcz33_0, hcz33_1, hcz33_2, hcz33_3, hcz33_4⟩ := ce5_ BK289.out
            obtain ⟨hfz33_0, hfz33_1, hfz33_2, hfz33_3, hfz33_4⟩ := fr5_ BK289.out
            go_wp2
            go_meet
            case rel => exact ⟨_, (true), (by first | rfl | (simp; done) | (simp [*]; done)), H', ⟨by have := HK1.out; first | omega | exact Nat.le_refl _⟩, ⟨by (with_reducible repeat (first | refine blk_drewN ?_ _ | refine blk_drew ?_ | refine blk_alloc ?_ _)); refine blk_far ?_ NB288_289.out _; (with_reducible repeat (first | refine blk_drewN ?_ _ | refine blk_drew ?_ | refine blk_alloc ?_ _)); refine blk_far ?_ NB288_289.out _; (with_reducible repeat (first | refine blk_drewN ?_ _ | refine blk_drew ?_ | refine blk_alloc ?_ _)); refine blk_far ?_ NB288_289.out _; (with_reducible repeat (first | refine blk_drewN ?_ _ | refine blk_drew ?_ | refine blk_alloc ?_ _)); refine blk_far ?_ NB288_289.out _; (with_reducible repeat (first | refine blk_drewN ?_ _ | refine blk_drew ?_ | refine blk_alloc ?_ _)); refine blk_far ?_ NB288_289.out _; (with_reducible repeat (first | refine blk_drewN ?_ _ | refine blk_drew ?_ | refine blk_alloc ?_ _)); refine blk_put (cs := #[.int .i64 ((rd_T36 l0 x5_1).f0), .string ((rd_T36 l0 x5_1).f1), .slice A286_2 ((rd_T36 l0 x5_1).f2).length c286_2, .string ((rd_T36 l0 x5_1).f3), .slice none 0 0]) ?_ 4 _ rfl; (with_reducible repeat (first | refine blk_drewN ?_ _ | refine blk_drew ?_ | refine blk_alloc ?_ _)); refine blk_put (cs := #[.int .i64 ((rd_T36 l0 x5_1).f0), .string ((rd_T36 l0 x5_1).f1), .slice A286_2 ((rd_T36 l0 x5_1).f2).length c286_2, .string (⟨#[]⟩ : ByteArray), .slice none 0 0]) ?_ 3 _ rfl; (with_reducible repeat (first | refine blk_drewN ?_ _ | refine blk_drew ?_ | refine blk_alloc ?_ _)); refine blk_put (cs := #[.int .i64 ((rd_T36 l0 x5_1).f0), .string ((rd_T36 l0 x5_1).f1), .slice none 0 0, .string (⟨#[]⟩ : ByteArray), .slice none 0 0]) ?_ 2 _ rfl; (with_reducible repeat (first | refine blk_drewN ?_ _ | refine blk_drew ?_ | refine blk_alloc ?_ _)); refine blk_put (cs := #[.int .i64 ((rd_T36 l0 x5_1).f0), .string (⟨#[]⟩ : ByteArray), .slice none 0 0, .string (⟨#[]⟩ : ByteArray), .slice none 0 0]) ?_ 1 _ rfl; (with_reducible repeat (first | refine blk_drewN ?_ _ | refine blk_drew ?_ | refine blk_alloc ?_ _)); refine blk_put (cs := #[.int .i64 0, .string (⟨#[]⟩ : ByteArray), .slice none 0 0, .string (⟨#[]⟩ : ByteArray), .slice none 0 0]) ?_ 0 _ rfl; (with_reducible repeat (first | refine blk_drewN ?_ _ | refine blk_drew ?_ | refine blk_alloc ?_ _)); exact BK288.out⟩, ⟨by (with_reducible repeat (first | refine blk_drewN ?_ _ | refine blk_drew ?_ | refine blk_alloc ?_ _)); refine blk_put (cs := #[.int .i64 ((rd_T36 l1 x5_1).f0), .string ((rd_T36 l1 x5_1).f1), .slice A287_2 ((rd_T36 l1 x5_1).f2).length c287_2, .string ((rd_T36 l1 x5_1).f3), .slice none 0 0]) ?_ 4 _ rfl; (with_reducible repeat (first | refine blk_drewN ?_ _ | refine blk_drew ?_ | refine blk_alloc ?_ _)); refine blk_put (cs := #[.int .i64 ((rd_T36 l1 x5_1).f0), .string ((rd_T36 l1 x5_1).f1), .slice A287_2 ((rd_T36 l1 x5_1).f2).length c287_2, .string (⟨#[]⟩ : ByteArray), .slice none 0 0]) ?_ 3 _ rfl; (with_reducible repeat (first | refine blk_drewN ?_ _ | refine blk_drew ?_ | refine blk_alloc ?_ _)); refine blk_put (cs := #[.int .i64 ((rd_T36 l1 x5_1).f0), .string ((rd_T36 l1 x5_1).f1), .slice none 0 0, .string (⟨#[]⟩ : ByteArray), .slice none 0 0]) ?_ 2 _ rfl; (with_reducible repeat (first | refine blk_drewN ?_ _ | refine blk_drew ?_ | refine blk_alloc ?_ _)); refine blk_put (cs := #[.int .i64 ((rd_T36 l1 x5_1).f0), .string (⟨#[]⟩ : ByteArray), .slice none 0 0, .string (⟨#[]⟩ : ByteArray), .slice none 0 0]) ?_ 1 _ rfl; (with_reducible repeat (first | refine blk_drewN ?_ _ | refine blk_drew ?_ | refine blk_alloc ?_ _)); refine blk_put (cs := #[.int .i64 0, .string (⟨#[]⟩ : ByteArray), .slice none 0 0, .string (⟨#[]⟩ : ByteArray), .slice none 0 0]) ?_ 0 _ rfl; (with_reducible repeat (first | refine blk_drewN ?_ _ | refine blk_drew ?_ | refine blk_alloc ?_ _)); refine blk_far ?_ NB289_288.out _; (with_reducible repeat (first | refine blk_drewN ?_ _ | refine blk_drew ?_ | refine blk_alloc ?_ _)); refine blk_far ?_ NB289_288.out _; (with_reducible repeat (first | refine blk_drewN ?_ _ | refine blk_drew ?_ | refine blk_alloc ?_ _)); refine blk_far ?_ NB289_288.out _; (with_reducible repeat (first | refine blk_drewN ?_ _ | refine blk_drew ?_ | refine blk_alloc ?_ _)); refine blk_far ?_ NB289_288.out _; (with_reducible repeat (first | refine blk_drewN ?_ _ | refine blk_drew ?_ | refine blk_alloc ?_ _)); refine blk_far ?_ NB289_288.out _; (with_reducible repeat (first | refine blk_drewN ?_ _ | refine blk_drew ?_ | refine blk_alloc ?_ _)); exact BK289.out⟩, ⟨hb2_ GE288.out GE289.out⟩⟩
          ·rw [if_neg c24] at H
           have c24b0 := beq_eq_false_iff_ne.mpr c24
           have c24b1 := bne_iff_ne.mpr c24
           have H' := Aside0.mk H
           clear H
           have hnb34 := NB288_289.out
           have hnc34 := NB289_288.out
           obtain ⟨hcz35_0, hcz35_1, hcz35_2, hcz35_3, hcz35_4⟩ := ce5_ BK288.out
           obtain ⟨hfz35_0, hfz35_1, hfz35_2, hfz35_3, hfz35_4⟩ := fr5_ BK288.out
           obtain ⟨hcz36_0, hcz36_1, hcz36_2, hcz36_3, hcz36_4⟩ := ce5_ BK289.out
           obtain ⟨hfz36_0, hfz36_1, hfz36_2, hfz36_3, hfz36_4⟩ := fr5_ BK289.out
           go_wp2
           go_meet
           case rel => exact ⟨_, (true), (by first | rfl | (simp; done) | (simp [*]; done)), H', ⟨by have := HK1.out; first | omega | exact Nat.le_refl _⟩, ⟨by (with_reducible repeat (first | refine blk_drewN ?_ _ | refine blk_drew ?_ | refine blk_alloc ?_ _)); refine blk_far ?_ NB288_289.out _; (with_reducible repeat (first | refine blk_drewN ?_ _ | refine blk_drew ?_ | refine blk_alloc ?_ _)); refine blk_far ?_ NB288_289.out _; (with_reducible repeat (first | refine blk_drewN ?_ _ | refine blk_drew ?_ | refine blk_alloc ?_ _)); refine blk_far ?_ NB288_289.out _; (with_reducible repeat (first | refine blk_drewN ?_ _ | refine blk_drew ?_ | refine blk_alloc ?_ _)); refine blk_far ?_ NB288_289.out _; (with_reducible repeat (first | refine blk_drewN ?_ _ | refine blk_drew ?_ | refine blk_alloc ?_ _)); refine blk_far ?_ NB288_289.out _; (with_reducible repeat (first | refine blk_drewN ?_ _ | refine blk_drew ?_ | refine blk_alloc ?_ _)); refine blk_put (cs := #[.int .i64 ((rd_T36 l0 x5_1).f0), .string ((rd_T36 l0 x5_1).f1), .slice A286_2 ((rd_T36 l0 x5_1).f2).length c286_2, .string ((rd_T36 l0 x5_1).f3), .slice none 0 0]) ?_ 4 _ rfl; (with_reducible repeat (first | refine blk_drewN ?_ _ | refine blk_drew ?_ | refine blk_alloc ?_ _)); refine blk_put (cs := #[.int .i64 ((rd_T36 l0 x5_1).f0), .string ((rd_T36 l0 x5_1).f1), .slice A286_2 ((rd_T36 l0 x5_1).f2).length c286_2, .string (⟨#[]⟩ : ByteArray), .slice none 0 0]) ?_ 3 _ rfl; (with_reducible repeat (first | refine blk_drewN ?_ _ | refine blk_drew ?_ | refine blk_alloc ?_ _)); refine blk_put (cs := #[.int .i64 ((rd_T36 l0 x5_1).f0), .string ((rd_T36 l0 x5_1).f1), .slice none 0 0, .string (⟨#[]⟩ : ByteArray), .slice none 0 0]) ?_ 2 _ rfl; (with_reducible repeat (first | refine blk_drewN ?_ _ | refine blk_drew ?_ | refine blk_alloc ?_ _)); refine blk_put (cs := #[.int .i64 ((rd_T36 l0 x5_1).f0), .string (⟨#[]⟩ : ByteArray), .slice none 0 0, .string (⟨#[]⟩ : ByteArray), .slice none 0 0]) ?_ 1 _ rfl; (with_reducible repeat (first | refine blk_drewN ?_ _ | refine blk_drew ?_ | refine blk_alloc ?_ _)); refine blk_put (cs := #[.int .i64 0, .string (⟨#[]⟩ : ByteArray), .slice none 0 0, .string (⟨#[]⟩ : ByteArray), .slice none 0 0]) ?_ 0 _ rfl; (with_reducible repeat (first | refine blk_drewN ?_ _ | refine blk_drew ?_ | refine blk_alloc ?_ _)); exact BK288.out⟩, ⟨by (with_reducible repeat (first | refine blk_drewN ?_ _ | refine blk_drew ?_ | refine blk_alloc ?_ _)); refine blk_put (cs := #[.int .i64 ((rd_T36 l1 x5_1).f0), .string ((rd_T36 l1 x5_1).f1), .slice A287_2 ((rd_T36 l1 x5_1).f2).length c287_2, .string ((rd_T36 l1 x5_1).f3), .slice none 0 0]) ?_ 4 _ rfl; (with_reducible repeat (first | refine blk_drewN ?_ _ | refine blk_drew ?_ | refine blk_alloc ?_ _)); refine blk_put (cs := #[.int .i64 ((rd_T36 l1 x5_1).f0), .string ((rd_T36 l1 x5_1).f1), .slice A287_2 ((rd_T36 l1 x5_1).f2).length c287_2, .string (⟨#[]⟩ : ByteArray), .slice none 0 0]) ?_ 3 _ rfl; (with_reducible repeat (first | refine blk_drewN ?_ _ | refine blk_drew ?_ | refine blk_alloc ?_ _)); refine blk_put (cs := #[.int .i64 ((rd_T36 l1 x5_1).f0), .string ((rd_T36 l1 x5_1).f1), .slice none 0 0, .string (⟨#[]⟩ : ByteArray), .slice none 0 0]) ?_ 2 _ rfl; (with_reducible repeat (first | refine blk_drewN ?_ _ | refine blk_drew ?_ | refine blk_alloc ?_ _)); refine blk_put (cs := #[.int .i64 ((rd_T36 l1 x5_1).f0), .string (⟨#[]⟩ : ByteArray), .slice none 0 0, .string (⟨#[]⟩ : ByteArray), .slice none 0 0]) ?_ 1 _ rfl; (with_reducible repeat (first | refine blk_drewN ?_ _ | refine blk_drew ?_ | refine blk_alloc ?_ _)); refine blk_put (cs := #[.int .i64 0, .string (⟨#[]⟩ : ByteArray), .slice none 0 0, .string (⟨#[]⟩ : ByteArray), .slice none 0 0]) ?_ 0 _ rfl; (with_reducible repeat (first | refine blk_drewN ?_ _ | refine blk_drew ?_ | refine blk_alloc ?_ _)); refine blk_far ?_ NB289_288.out _; (with_reducible repeat (first | refine blk_drewN ?_ _ | refine blk_drew ?_ | refine blk_alloc ?_ _)); refine blk_far ?_ NB289_288.out _; (with_reducible repeat (first | refine blk_drewN ?_ _ | refine blk_drew ?_ | refine blk_alloc ?_ _)); refine blk_far ?_ NB289_288.out _; (with_reducible repeat (first | refine blk_drewN ?_ _ | refine blk_drew ?_ | refine blk_alloc ?_ _)); refine blk_far ?_ NB289_288.out _; (with_reducible repeat (first | refine blk_drewN ?_ _ | refine blk_drew ?_ | refine blk_alloc ?_ _)); refine blk_far ?_ NB289_288.out _; (with_reducible repeat (first | refine blk_drewN ?_ _ | refine blk_drew ?_ | refine blk_alloc ?_ _)); exact BK289.out⟩, ⟨hb2_ GE288.out GE289.out⟩⟩
         ·rw [if_neg c23] at H
          have c23b0 := beq_eq_false_iff_ne.mpr c23
          have c23b1 := bne_iff_ne.mpr c23
          have H' := Aside0.mk H
          clear H
          have hnb37 := NB288_289.out
          have hnc37 := NB289_288.out
          obtain ⟨hcz38_0, hcz38_1, hcz38_2, hcz38_3, hcz38_4⟩ := ce5_ BK288.out
          obtain ⟨hfz38_0, hfz38_1, hfz38_2, hfz38_3, hfz38_4⟩ := fr5_ BK288.out
          obtain ⟨hcz39_0, hcz39_1, hcz39_2, hcz39_3, hcz39_4⟩ := ce5_ BK289.out
          obtain ⟨hfz39_0, hfz39_1, hfz39_2, hfz39_3, hfz39_4⟩ := fr5_ BK289.out
          go_wp2
          go_meet
          case rel => exact ⟨_, (true), (by first | rfl | (simp; done) | (simp [*]; done)), H', ⟨by have := HK1.out; first | omega | exact Nat.le_refl _⟩, ⟨by (with_reducible repeat (first | refine blk_drewN ?_ _ | refine blk_drew ?_ | refine blk_alloc ?_ _)); refine blk_far ?_ NB288_289.out _; (with_reducible repeat (first | refine blk_drewN ?_ _ | refine blk_drew ?_ | refine blk_alloc ?_ _)); refine blk_far ?_ NB288_289.out _; (with_reducible repeat (first | refine blk_drewN ?_ _ | refine blk_drew ?_ | refine blk_alloc ?_ _)); refine blk_far ?_ NB288_289.out _; (with_reducible repeat (first | refine blk_drewN ?_ _ | refine blk_drew ?_ | refine blk_alloc ?_ _)); refine blk_far ?_ NB288_289.out _; (with_reducible repeat (first | refine blk_drewN ?_ _ | refine blk_drew ?_ | refine blk_alloc ?_ _)); refine blk_far ?_ NB288_289.out _; (with_reducible repeat (first | refine blk_drewN ?_ _ | refine blk_drew ?_ | refine blk_alloc ?_ _)); refine blk_put (cs := #[.int .i64 ((rd_T36 l0 x5_1).f0), .string ((rd_T36 l0 x5_1).f1), .slice A286_2 ((rd_T36 l0 x5_1).f2).length c286_2, .string ((rd_T36 l0 x5_1).f3), .slice none 0 0]) ?_ 4 _ rfl; (with_reducible repeat (first | refine blk_drewN ?_ _ | refine blk_drew ?_ | refine blk_alloc ?_ _)); refine blk_put (cs := #[.int .i64 ((rd_T36 l0 x5_1).f0), .string ((rd_T36 l0 x5_1).f1), .slice A286_2 ((rd_T36 l0 x5_1).f2).length c286_2, .string (⟨#[]⟩ : ByteArray), .slice none 0 0]) ?_ 3 _ rfl; (with_reducible repeat (first | refine blk_drewN ?_ _ | refine blk_drew ?_ | refine blk_alloc ?_ _)); refine blk_put (cs := #[.int .i64 ((rd_T36 l0 x5_1).f0), .string ((rd_T36 l0 x5_1).f1), .slice none 0 0, .string (⟨#[]⟩ : ByteArray), .slice none 0 0]) ?_ 2 _ rfl; (with_reducible repeat (first | refine blk_drewN ?_ _ | refine blk_drew ?_ | refine blk_alloc ?_ _)); refine blk_put (cs := #[.int .i64 ((rd_T36 l0 x5_1).f0), .string (⟨#[]⟩ : ByteArray), .slice none 0 0, .string (⟨#[]⟩ : ByteArray), .slice none 0 0]) ?_ 1 _ rfl; (with_reducible repeat (first | refine blk_drewN ?_ _ | refine blk_drew ?_ | refine blk_alloc ?_ _)); refine blk_put (cs := #[.int .i64 0, .string (⟨#[]⟩ : ByteArray), .slice none 0 0, .string (⟨#[]⟩ : ByteArray), .slice none 0 0]) ?_ 0 _ rfl; (with_reducible repeat (first | refine blk_drewN ?_ _ | refine blk_drew ?_ | refine blk_alloc ?_ _)); exact BK288.out⟩, ⟨by (with_reducible repeat (first | refine blk_drewN ?_ _ | refine blk_drew ?_ | refine blk_alloc ?_ _)); refine blk_put (cs := #[.int .i64 ((rd_T36 l1 x5_1).f0), .string ((rd_T36 l1 x5_1).f1), .slice A287_2 ((rd_T36 l1 x5_1).f2).length c287_2, .string ((rd_T36 l1 x5_1).f3), .slice none 0 0]) ?_ 4 _ rfl; (with_reducible repeat (first | refine blk_drewN ?_ _ | refine blk_drew ?_ | refine blk_alloc ?_ _)); refine blk_put (cs := #[.int .i64 ((rd_T36 l1 x5_1).f0), .string ((rd_T36 l1 x5_1).f1), .slice A287_2 ((rd_T36 l1 x5_1).f2).length c287_2, .string (⟨#[]⟩ : ByteArray), .slice none 0 0]) ?_ 3 _ rfl; (with_reducible repeat (first | refine blk_drewN ?_ _ | refine blk_drew ?_ | refine blk_alloc ?_ _)); refine blk_put (cs := #[.int .i64 ((rd_T36 l1 x5_1).f0), .string ((rd_T36 l1 x5_1).f1), .slice none 0 0, .string (⟨#[]⟩ : ByteArray), .slice none 0 0]) ?_ 2 _ rfl; (with_reducible repeat (first | refine blk_drewN ?_ _ | refine blk_drew ?_ | refine blk_alloc ?_ _)); refine blk_put (cs := #[.int .i64 ((rd_T36 l1 x5_1).f0), .string (⟨#[]⟩ : ByteArray), .slice none 0 0, .string (⟨#[]⟩ : ByteArray), .slice none 0 0]) ?_ 1 _ rfl; (with_reducible repeat (first | refine blk_drewN ?_ _ | refine blk_drew ?_ | refine blk_alloc ?_ _)); refine blk_put (cs := #[.int .i64 0, .string (⟨#[]⟩ : ByteArray), .slice none 0 0, .string (⟨#[]⟩ : ByteArray), .slice none 0 0]) ?_ 0 _ rfl; (with_reducible repeat (first | refine blk_drewN ?_ _ | refine blk_drew ?_ | refine blk_alloc ?_ _)); refine blk_far ?_ NB289_288.out _; (with_reducible repeat (first | refine blk_drewN ?_ _ | refine blk_drew ?_ | refine blk_alloc ?_ _)); refine blk_far ?_ NB289_288.out _; (with_reducible repeat (first | refine blk_drewN ?_ _ | refine blk_drew ?_ | refine blk_alloc ?_ _)); refine blk_far ?_ NB289_288.out _; (with_reducible repeat (first | refine blk_drewN ?_ _ | refine blk_drew ?_ | refine blk_alloc ?_ _)); refine blk_far ?_ NB289_288.out _; (with_reducible repeat (first | refine blk_drewN ?_ _ | refine blk_drew ?_ | refine blk_alloc ?_ _)); refine blk_far ?_ NB289_288.out _; (with_reducible repeat (first | refine blk_drewN ?_ _ | refine blk_drew ?_ | refine blk_alloc ?_ _)); exact BK289.out⟩, ⟨hb2_ GE288.out GE289.out⟩⟩
        ·rw [if_neg c22] at H
         have c22b0 := beq_eq_false_iff_ne.mpr c22
         have c22b1 := bne_iff_ne.mpr c22
         (first | rw [c22b0] | (simp only [i64_w, i32_w]; rw [c22b0]) | skip)
         have H' := Aside0.mk H
         clear H
         have hnb40 := NB288_289.out
         have hnc40 := NB289_288.out
         obtain ⟨hcz41_0, hcz41_1, hcz41_2, hcz41_3, hcz41_4⟩ := ce5_ BK288.out
         obtain ⟨hfz41_0, hfz41_1, hfz41_2, hfz41_3, hfz41_4⟩ := fr5_ BK288.out
         obtain ⟨hcz42_0, hcz42_1, hcz42_2, hcz42_3, hcz42_4⟩ := ce5_ BK289.out
         obtain ⟨hfz42_0, hfz42_1, hfz42_2, hfz42_3, hfz42_4⟩ := fr5_ BK289.out
         go_wp2
         go_meet
         case rel => exact ⟨_, (true), (by first | rfl | (simp; done) | (simp [*]; done)), H', ⟨by have := HK1.out; first | omega | exact Nat.le_refl _⟩, ⟨by (with_reducible repeat (first | refine blk_drewN ?_ _ | refine blk_drew ?_ | refine blk_alloc ?_ _)); refine blk_far ?_ NB288_289.out _; (with_reducible repeat (first | refine blk_drewN ?_ _ | refine blk_drew ?_ | refine blk_alloc ?_ _)); refine blk_far ?_ NB288_289.out _; (with_reducible repeat (first | refine blk_drewN ?_ _ | refine blk_drew ?_ | refine blk_alloc ?_ _)); refine blk_far ?_ NB288_289.out _; (with_reducible repeat (first | refine blk_drewN ?_ _ | refine blk_drew ?_ | refine blk_alloc ?_ _)); refine blk_far ?_ NB288_289.out _; (with_reducible repeat (first | refine blk_drewN ?_ _ | refine blk_drew ?_ | refine blk_alloc ?_ _)); refine blk_far ?_ NB288_289.out _; (with_reducible repeat (first | refine blk_drewN ?_ _ | refine blk_drew ?_ | refine blk_alloc ?_ _)); refine blk_put (cs := #[.int .i64 ((rd_T36 l0 x5_1).f0), .string ((rd_T36 l0 x5_1).f1), .slice A286_2 ((rd_T36 l0 x5_1).f2).length c286_2, .string ((rd_T36 l0 x5_1).f3), .slice none 0 0]) ?_ 4 _ rfl; (with_reducible repeat (first | refine blk_drewN ?_ _ | refine blk_drew ?_ | refine blk_alloc ?_ _)); refine blk_put (cs := #[.int .i64 ((rd_T36 l0 x5_1).f0), .string ((rd_T36 l0 x5_1).f1), .slice A286_2 ((rd_T36 l0 x5_1).f2).length c286_2, .string (⟨#[]⟩ : ByteArray), .slice none 0 0]) ?_ 3 _ rfl; (with_reducible repeat (first | refine blk_drewN ?_ _ | refine blk_drew ?_ | refine blk_alloc ?_ _)); refine blk_put (cs := #[.int .i64 ((rd_T36 l0 x5_1).f0), .string ((rd_T36 l0 x5_1).f1), .slice none 0 0, .string (⟨#[]⟩ : ByteArray), .slice none 0 0]) ?_ 2 _ rfl; (with_reducible repeat (first | refine blk_drewN ?_ _ | refine blk_drew ?_ | refine blk_alloc ?_ _)); refine blk_put (cs := #[.int .i64 ((rd_T36 l0 x5_1).f0), .string (⟨#[]⟩ : ByteArray), .slice none 0 0, .string (⟨#[]⟩ : ByteArray), .slice none 0 0]) ?_ 1 _ rfl; (with_reducible repeat (first | refine blk_drewN ?_ _ | refine blk_drew ?_ | refine blk_alloc ?_ _)); refine blk_put (cs := #[.int .i64 0, .string (⟨#[]⟩ : ByteArray), .slice none 0 0, .string (⟨#[]⟩ : ByteArray), .slice none 0 0]) ?_ 0 _ rfl; (with_reducible repeat (first | refine blk_drewN ?_ _ | refine blk_drew ?_ | refine blk_alloc ?_ _)); exact BK288.out⟩, ⟨by (with_reducible repeat (first | refine blk_drewN ?_ _ | refine blk_drew ?_ | refine blk_alloc ?_ _)); refine blk_put (cs := #[.int .i64 ((rd_T36 l1 x5_1).f0), .string ((rd_T36 l1 x5_1).f1), .slice A287_2 ((rd_T36 l1 x5_1).f2).length c287_2, .string ((rd_T36 l1 x5_1).f3), .slice none 0 0]) ?_ 4 _ rfl; (with_reducible repeat (first | refine blk_drewN ?_ _ | refine blk_drew ?_ | refine blk_alloc ?_ _)); refine blk_put (cs := #[.int .i64 ((rd_T36 l1 x5_1).f0), .string ((rd_T36 l1 x5_1).f1), .slice A287_2 ((rd_T36 l1 x5_1).f2).length c287_2, .string (⟨#[]⟩ : ByteArray), .slice none 0 0]) ?_ 3 _ rfl; (with_reducible repeat (first | refine blk_drewN ?_ _ | refine blk_drew ?_ | refine blk_alloc ?_ _)); refine blk_put (cs := #[.int .i64 ((rd_T36 l1 x5_1).f0), .string ((rd_T36 l1 x5_1).f1), .slice none 0 0, .string (⟨#[]⟩ : ByteArray), .slice none 0 0]) ?_ 2 _ rfl; (with_reducible repeat (first | refine blk_drewN ?_ _ | refine blk_drew ?_ | refine blk_alloc ?_ _)); refine blk_put (cs := #[.int .i64 ((rd_T36 l1 x5_1).f0), .string (⟨#[]⟩ : ByteArray), .slice none 0 0, .string (⟨#[]⟩ : ByteArray), .slice none 0 0]) ?_ 1 _ rfl; (with_reducible repeat (first | refine blk_drewN ?_ _ | refine blk_drew ?_ | refine blk_alloc ?_ _)); refine blk_put (cs := #[.int .i64 0, .string (⟨#[]⟩ : ByteArray), .slice none 0 0, .string (⟨#[]⟩ : ByteArray), .slice none 0 0]) ?_ 0 _ rfl; (with_reducible repeat (first | refine blk_drewN ?_ _ | refine blk_drew ?_ | refine blk_alloc ?_ _)); refine blk_far ?_ NB289_288.out _; (with_reducible repeat (first | refine blk_drewN ?_ _ | refine blk_drew ?_ | refine blk_alloc ?_ _)); refine blk_far ?_ NB289_288.out _; (with_reducible repeat (first | refine blk_drewN ?_ _ | refine blk_drew ?_ | refine blk_alloc ?_ _)); refine blk_far ?_ NB289_288.out _; (with_reducible repeat (first | refine blk_drewN ?_ _ | refine blk_drew ?_ | refine blk_alloc ?_ _)); refine blk_far ?_ NB289_288.out _; (with_reducible repeat (first | refine blk_drewN ?_ _ | refine blk_drew ?_ | refine blk_alloc ?_ _)); refine blk_far ?_ NB289_288.out _; (with_reducible repeat (first | refine blk_drewN ?_ _ | refine blk_drew ?_ | refine blk_alloc ?_ _)); exact BK289.out⟩, ⟨hb2_ GE288.out GE289.out⟩⟩
       case rest =>
        clear HC7
        try clear c1
        try clear c2
        try clear p2
        try clear q2
        try clear hx2
        try clear c3
        try clear c3b0
        try clear c3b1
        try clear c3b2
        try clear c4
        try clear c4b0
        try clear c5
        try clear c5b0
        try clear c6
        try clear c6b0
        try clear c11
        try clear c22
        try clear c22b0
        try clear c22b1
        try clear c23
        try clear c23b0
        try clear c23b1
        try clear c24
        try clear c24b0
        try clear c24b1
        try clear c25
        try clear c25b0
        try clear c25b1
        try clear c25b2
        try clear c27
        try clear c28
        try clear p28
        try clear q28
        try clear hx28
        try clear c31
        try clear c34
        try clear c37
        try clear c40
        try clear hcz28_0
        try clear hcz28_1
        try clear hcz28_2
        try clear hcz28_3
        try clear hcz28_4
        try clear hcz29_0
        try clear hcz29_1
        try clear hcz29_2
        try clear hcz29_3
        try clear hcz29_4
        try clear hcz32_0
        try clear hcz32_1
        try clear hcz32_2
        try clear hcz32_3
        try clear hcz32_4
        try clear hcz33_0
        try clear hcz33_1
        try clear hcz33_2
        try clear hcz33_3
        try clear hcz33_4
        try clear hcz35_0
        try clear hcz35_1
        try clear hcz35_2
        try clear hcz35_3
        try clear hcz35_4
        try clear hcz36_0
        try clear hcz36_1
        try clear hcz36_2
        try clear hcz36_3
        try clear hcz36_4
        try clear hcz38_0
        try clear hcz38_1
        try clear hcz38_2
        try clear hcz38_3
        try clear hcz38_4
        try clear hcz39_0
        try clear hcz39_1
        try clear hcz39_2
        try clear hcz39_3
        try clear hcz39_4
        try clear hcz41_0
        try clear hcz41_1
        try clear hcz41_2
        try clear hcz41_3
        try clear hcz41_4
        try clear hcz42_0
        try clear hcz42_1
        try clear hcz42_2
        try clear hcz42_3
        try clear hcz42_4
        try clear hfz28_0
        try clear hfz28_1
        try clear hfz28_2
        try clear hfz28_3
        try clear hfz28_4
        try clear hfz29_0
        try clear hfz29_1
        try clear hfz29_2
        try clear hfz29_3
        try clear hfz29_4
        try clear hfz32_0
        try clear hfz32_1
        try clear hfz32_2
        try clear hfz32_3
        try clear hfz32_4
        try clear hfz33_0
        try clear hfz33_1
        try clear hfz33_2
        try clear hfz33_3
        try clear hfz33_4
        try clear hfz35_0
        try clear hfz35_1
        try clear hfz35_2
        try clear hfz35_3
        try clear hfz35_4
        try clear hfz36_0
        try clear hfz36_1
        try clear hfz36_2
        try clear hfz36_3
        try clear hfz36_4
        try clear hfz38_0
        try clear hfz38_1
        try clear hfz38_2
        try clear hfz38_3
        try clear hfz38_4
        try clear hfz39_0
        try clear hfz39_1
        try clear hfz39_2
        try clear hfz39_3
        try clear hfz39_4
        try clear hfz41_0
        try clear hfz41_1
        try clear hfz41_2
        try clear hfz41_3
        try clear hfz41_4
        try clear hfz42_0
        try clear hfz42_1
        try clear hfz42_2
        try clear hfz42_3
        try clear hfz42_4
        try clear hx286_0
        try clear hx286_1
        try clear hx286_2
        try clear hx286_3
        try clear hx286_4
        try clear hx287_0
        try clear hx287_1
        try clear hx287_2
        try clear hx287_3
        try clear hx287_4
        try clear p2
        try clear p286
        try clear p287
        try clear q286
        try clear q287
        obtain ⟨kq, x63_6, rfl, HA, HJ6, BK288, BK289, HB⟩ := hcut
        cases kq with
        | zero => exact absurd HA.out (by simp [espalierlaw04_alike.j1])
        | succ kj6 =>
         have H := HA.out
         clear HA
         simp only [espalierlaw04_alike.j1] at H
         by_cases c43 : x63_6 = true
         ·subst c43
          rw [if_pos rfl] at H
          obtain rfl := Option.some.inj H
          go_wp2
          go_ret
          exact ⟨er_, hb2_ GE288.out GE289.out⟩
         ·replace c43 := Bool.eq_false_iff.mpr c43
          subst c43
          rw [if_neg (show ¬ (false = true) by decide)] at H
          have H' := Aside0.mk H
          clear H
          go_wp2
          go_loopg [8] kj6 (fun kq v8 w' => ∃ (x8_3 : Int), v8 = .int .i64 x8_3 ∧ Aside0 (espalierlaw04_alike.l1 kq l0 l1 x5_1 x8_3 ((rd_T36 l0 x5_1).f0) ((rd_T36 l0 x5_1).f1) ((rd_T36 l0 x5_1).f2) ((rd_T36 l0 x5_1).f3) ((rd_T36 l0 x5_1).f4) ((rd_T36 l1 x5_1).f0) ((rd_T36 l1 x5_1).f1) ((rd_T36 l1 x5_1).f2) ((rd_T36 l1 x5_1).f3) ((rd_T36 l1 x5_1).f4) = some r) ∧ Aside0 (kq ≤ kj6) ∧ Aside0 (w'.heap[gb288]? = some (.cells #[.int .i64 ((rd_T36 l0 x5_1).f0), .string ((rd_T36 l0 x5_1).f1), (.slice A286_2 ((rd_T36 l0 x5_1).f2).length c286_2), .string ((rd_T36 l0 x5_1).f3), (.slice A286_4 ((rd_T36 l0 x5_1).f4).length c286_4)] 36 (0, 0))) ∧ Aside0 (w'.heap[gb289]? = some (.cells #[.int .i64 ((rd_T36 l1 x5_1).f0), .string ((rd_T36 l1 x5_1).f1), (.slice A287_2 ((rd_T36 l1 x5_1).f2).length c287_2), .string ((rd_T36 l1 x5_1).f3), (.slice A287_4 ((rd_T36 l1 x5_1).f4).length c287_4)] 36 (0, 0))) ∧ Aside0 (Below w.heap.size w w'))
          case atStart => exact ⟨(0), (by first | rfl | (simp; done) | (simp [*]; done)), H', ⟨Nat.le_refl _⟩, ⟨bk_ BK288.out⟩, ⟨bk_ BK289.out⟩, ⟨hb2_ GE288.out GE289.out⟩⟩
          case round =>
           clear H'
           try clear c1
           try clear c2
           try clear p2
           try clear q2
           try clear hx2
           try clear c3
           try clear c3b0
           try clear c3b1
           try clear c3b2
           try clear c4
           try clear c4b0
           try clear c5
           try clear c5b0
           try clear c6
           try clear c6b0
           try clear c11
           try clear c22
           try clear c22b0
           try clear c22b1
           try clear c23
           try clear c23b0
           try clear c23b1
           try clear c24
           try clear c24b0
           try clear c24b1
           try clear c25
           try clear c25b0
           try clear c25b1
           try clear c25b2
           try clear c27
           try clear c28
           try clear p28
           try clear q28
           try clear hx28
           try clear c31
           try clear c34
           try clear c37
           try clear c40
           try clear c43
           try clear hcz28_0
           try clear hcz28_1
           try clear hcz28_2
           try clear hcz28_3
           try clear hcz28_4
           try clear hcz29_0
           try clear hcz29_1
           try clear hcz29_2
           try clear hcz29_3
           try clear hcz29_4
           try clear hcz32_0
           try clear hcz32_1
           try clear hcz32_2
           try clear hcz32_3
           try clear hcz32_4
           try clear hcz33_0
           try clear hcz33_1
           try clear hcz33_2
           try clear hcz33_3
           try clear hcz33_4
           try clear hcz35_0
           try clear hcz35_1
           try clear hcz35_2
           try clear hcz35_3
           try clear hcz35_4
           try clear hcz36_0
           try clear hcz36_1
           try clear hcz36_2
           try clear hcz36_3
           try clear hcz36_4
           try clear hcz38_0
           try clear hcz38_1
           try clear hcz38_2
           try clear hcz38_3
           try clear hcz38_4
           try clear hcz39_0
           try clear hcz39_1
           try clear hcz39_2
           try clear hcz39_3
           try clear hcz39_4
           try clear hcz41_0
           try clear hcz41_1
           try clear hcz41_2
           try clear hcz41_3
           try clear hcz41_4
           try clear hcz42_0
           try clear hcz42_1
           try clear hcz42_2
           try clear hcz42_3
           try clear hcz42_4
           try clear hfz28_0
           try clear hfz28_1
           try clear hfz28_2
           try clear hfz28_3
           try clear hfz28_4
           try clear hfz29_0
           try clear hfz29_1
           try clear hfz29_2
           try clear hfz29_3
           try clear hfz29_4
           try clear hfz32_0
           try clear hfz32_1
           try clear hfz32_2
           try clear hfz32_3
           try clear hfz32_4
           try clear hfz33_0
           try clear hfz33_1
           try clear hfz33_2
           try clear hfz33_3
           try clear hfz33_4
           try clear hfz35_0
           try clear hfz35_1
           try clear hfz35_2
           try clear hfz35_3
           try clear hfz35_4
           try clear hfz36_0
           try clear hfz36_1
           try clear hfz36_2
           try clear hfz36_3
           try clear hfz36_4
           try clear hfz38_0
           try clear hfz38_1
           try clear hfz38_2
           try clear hfz38_3
           try clear hfz38_4
           try clear hfz39_0
           try clear hfz39_1
           try clear hfz39_2
           try clear hfz39_3
           try clear hfz39_4
           try clear hfz41_0
           try clear hfz41_1
           try clear hfz41_2
           try clear hfz41_3
           try clear hfz41_4
           try clear hfz42_0
           try clear hfz42_1
           try clear hfz42_2
           try clear hfz42_3
           try clear hfz42_4
           try clear hx286_0
           try clear hx286_1
           try clear hx286_2
           try clear hx286_3
           try clear hx286_4
           try clear hx287_0
           try clear hx287_1
           try clear hx287_2
           try clear hx287_3
           try clear hx287_4
           try clear p2
           try clear p28
           try clear p286
           try clear p287
           try clear q2
           try clear q28
           try clear q286
           try clear q287
           obtain ⟨x8_3, rfl, HA, HK3, BK288, BK289, HB⟩ := hrel
           cases gk with
           | zero => exact absurd HA.out (by simp [espalierlaw04_alike.l1])
           | succ k3 =>
            have H := HA.out
            clear HA
            simp only [espalierlaw04_alike.l1] at H
            by_cases c44 : x8_3 < (((rd_T36 l0 x5_1).f2).length : Int)
            ·rw [if_pos c44] at H
             have c44b0 : decide (x8_3 < (((rd_T36 l0 x5_1).f2).length : Int)) = true := decide_eq_true c44
             clear c44
             by_cases c45 : 0 ≤ x8_3
             ·rw [if_pos c45] at H
              have c45b0 : decide (0 ≤ x8_3) = true := decide_eq_true c45
              clear c45
              by_cases c46 : x8_3 < (((rd_T36 l1 x5_1).f2).length : Int)
              ·rw [if_pos c46] at H
               have c46b0 : decide (x8_3 < (((rd_T36 l1 x5_1).f2).length : Int)) = true := decide_eq_true c46
               clear c46
               by_cases c47 : (!((((rd_T54 ((rd_T36 l0 x5_1).f2) x8_3).f0).toList) == (((rd_T54 ((rd_T36 l1 x5_1).f2) x8_3).f0).toList)) || (!((((rd_T54 ((rd_T36 l0 x5_1).f2) x8_3).f1).toList) == (((rd_T54 ((rd_T36 l1 x5_1).f2) x8_3).f1).toList)))) = true
               ·rw [if_pos c47] at H
                have c47b0 : (!((((rd_T54 ((rd_T36 l0 x5_1).f2) x8_3).f0).toList) == (((rd_T54 ((rd_T36 l1 x5_1).f2) x8_3).f0).toList)) || (!((((rd_T54 ((rd_T36 l0 x5_1).f2) x8_3).f1).toList) == (((rd_T54 ((rd_T36 l1 x5_1).f2) x8_3).f1).toList)))) = true := c47
                clear c47
                obtain rfl := Option.some.inj H
                have hnb48 := NB288_289.out
                have hnc48 := NB289_288.out
                obtain ⟨hcz49_0, hcz49_1, hcz49_2, hcz49_3, hcz49_4⟩ := ce5_ BK288.out
                obtain ⟨hfz49_0, hfz49_1, hfz49_2, hfz49_3, hfz49_4⟩ := fr5_ BK288.out
                try go_wp2
                replace BK288 := Aside0.mk (blk_drew BK288.out)
                replace BK289 := Aside0.mk (blk_drew BK289.out)
                replace HB := Aside0.mk (below_drew1 HB.out)
                have p291 : 0 ≤ (x8_3 : Int) := of_decide_eq_true (by first | (with_reducible assumption) | assumption)
                have q291 : x8_3 < (((rd_T36 l0 x5_1).f2).length : Int) := of_decide_eq_true (by first | (with_reducible assumption) | assumption)
                obtain ⟨ad291, e291, hx291_0, hx291_1⟩ := at_T54 HR286_2.out x8_3 p291 q291
                have hw291_1 := hx291_1
                have hw291_0 := hx291_0
                cases e291
                replace hx291_0 := hc_ HB.out hx291_0
                replace hx291_1 := hc_ HB.out hx291_1
                replace p291 := eq_true p291
                replace q291 := eq_true q291
                have p292 : 0 ≤ (x8_3 : Int) := of_decide_eq_true (by first | (with_reducible assumption) | assumption)
                have q292 : x8_3 < (((rd_T36 l1 x5_1).f2).length : Int) := of_decide_eq_true (by first | (with_reducible assumption) | assumption)
                obtain ⟨ad292, e292, hx292_0, hx292_1⟩ := at_T54 HR287_2.out x8_3 p292 q292
                have hw292_1 := hx292_1
                have hw292_0 := hx292_0
                cases e292
                replace hx292_0 := hc_ HB.out hx292_0
                replace hx292_1 := hc_ HB.out hx292_1
                replace p292 := eq_true p292
                replace q292 := eq_true q292
                refine start_ (n := 11) (S := fun w' => w'.cell? ⟨gb288, 0, none⟩ = some (.int .i64 ((rd_T36 l0 x5_1).f0)) ∧ w'.cell? ⟨gb288, 1, none⟩ = some (.string ((rd_T36 l0 x5_1).f1)) ∧ w'.cell? ⟨gb288, 2, none⟩ = some (.slice (some ad291) ((rd_T36 l0 x5_1).f2).length c286_2) ∧ w'.cell? ⟨gb288, 3, none⟩ = some (.string ((rd_T36 l0 x5_1).f3)) ∧ w'.cell? ⟨gb288, 4, none⟩ = some (.slice A286_4 ((rd_T36 l0 x5_1).f4).length c286_4) ∧ w'.cell? ⟨gb289, 0, none⟩ = some (.int .i64 ((rd_T36 l1 x5_1).f0)) ∧ w'.cell? ⟨gb289, 1, none⟩ = some (.string ((rd_T36 l1 x5_1).f1)) ∧ w'.cell? ⟨gb289, 2, none⟩ = some (.slice (some ad292) ((rd_T36 l1 x5_1).f2).length c287_2) ∧ w'.cell? ⟨gb289, 3, none⟩ = some (.string ((rd_T36 l1 x5_1).f3)) ∧ w'.cell? ⟨gb289, 4, none⟩ = some (.slice A287_4 ((rd_T36 l1 x5_1).f4).length c287_4) ∧ w'.cell? (ad291.add ((x8_3).toNat * 2)) = some (.string ((rd_T54 ((rd_T36 l0 x5_1).f2) x8_3).f0)) ∧ w'.cell? ⟨(ad291.add ((x8_3).toNat * 2)).block, (ad291.add ((x8_3).toNat * 2)).off + 1, none⟩ = some (.string ((rd_T54 ((rd_T36 l0 x5_1).f2) x8_3).f1)) ∧ w'.cell? (ad292.add ((x8_3).toNat * 2)) = some (.string ((rd_T54 ((rd_T36 l1 x5_1).f2) x8_3).f0)) ∧ w'.cell? ⟨(ad292.add ((x8_3).toNat * 2)).block, (ad292.add ((x8_3).toNat * 2)).off + 1, none⟩ = some (.string ((rd_T54 ((rd_T36 l1 x5_1).f2) x8_3).f1))) (ds := []) #[false, false, false, false, false, false, false, false, false, false, false] (by kernel_rfl) rfl rfl ⟨(blk_cell BK288.out 0).trans rfl, (blk_cell BK288.out 1).trans rfl, (blk_cell BK288.out 2).trans rfl, (blk_cell BK288.out 3).trans rfl, (blk_cell BK288.out 4).trans rfl, (blk_cell BK289.out 0).trans rfl, (blk_cell BK289.out 1).trans rfl, (blk_cell BK289.out 2).trans rfl, (blk_cell BK289.out 3).trans rfl, (blk_cell BK289.out 4).trans rfl, (hc_ HB.out hw291_0), (hc_ HB.out hw291_1), (hc_ HB.out hw292_0), (hc_ HB.out hw292_1)⟩ (fun hHeld => ?_); refine with_tabW espalierlaw04_alike.tab12 espalierlaw04_alike.bits12 (fun HT_ HW_ => ?_)
                generalize wr.drew = w50 at BK288 BK289 HB hx291_0 hx291_1 hx292_0 hx292_1 hHeld ⊢
                refine pu_ 0 (some 71) #[true, false, false, false, false, false, false, false, false, false, false] (any_of HT_.out (by kernel_rfl)) ?_
                refine pu_ 2 (some 73) #[true, false, true, false, false, false, false, false, false, false, false] (any_of HT_.out (by kernel_rfl)) ?_
                refine pu_ 5 (some 76) #[true, false, true, false, false, true, false, false, false, false, false] (any_of HT_.out (by kernel_rfl)) ?_
                refine pu_ 7 (some 78) #[true, false, true, false, false, true, false, true, false, false, false] (any_of HT_.out (by kernel_rfl)) ?_
                refine take_ (i := 1) (N := some 72) (v := ?_) (a' := ?_) #[true, true, true, false, false, true, false, true, false, false, false] rfl rfl (take_ofW HT_.out HW_.out (by kernel_rfl)) (fun _ _ _ h => h) (Or.inl ⟨by rfl, ?_⟩) hHeld ?_ ?_
                rotate_left
                ·rintro w' ⟨s0, s1, s2, s3, s4, s5, s6, s7, s8, s9, s10, s11, s12, s13⟩
                 go_simp
                 with_reducible rfl
                rotate_left
                ·simp only [Act.put, List.setIfInBounds_toArray, List.set_cons_zero, List.set_cons_succ, i64_w, i32_w]
                 rfl
                refine pu_ 3 (some 74) #[true, true, true, true, false, true, false, true, false, false, false] (any_of HT_.out (by kernel_rfl)) ?_
                refine take_ (i := 4) (N := some 75) (v := ?_) (a' := ?_) #[true, true, true, true, true, true, false, true, false, false, false] rfl rfl (take_ofW HT_.out HW_.out (by kernel_rfl)) (fun _ _ _ h => h) (Or.inl ⟨by rfl, ?_⟩) hHeld ?_ ?_
                rotate_left
                ·rintro w' ⟨s0, s1, s2, s3, s4, s5, s6, s7, s8, s9, s10, s11, s12, s13⟩
                 go_simp
                 with_reducible rfl
                rotate_left
                ·simp only [Act.put, List.setIfInBounds_toArray, List.set_cons_zero, List.set_cons_succ, i64_w, i32_w]
                 rfl
                refine take_ (i := 6) (N := some 77) (v := ?_) (a' := ?_) #[true, true, true, true, true, true, true, true, false, false, false] rfl rfl (take_ofW HT_.out HW_.out (by kernel_rfl)) (fun _ _ _ h => h) (Or.inl ⟨by rfl, ?_⟩) hHeld ?_ ?_
                rotate_left
                ·rintro w' ⟨s0, s1, s2, s3, s4, s5, s6, s7, s8, s9, s10, s11, s12, s13⟩
                 go_simp
                 with_reducible rfl
                rotate_left
                ·simp only [Act.put, List.setIfInBounds_toArray, List.set_cons_zero, List.set_cons_succ, i64_w, i32_w]
                 rfl
                refine pu_ 8 (some 79) #[true, true, true, true, true, true, true, true, true, false, false] (any_of HT_.out (by kernel_rfl)) ?_
                refine take_ (i := 9) (N := some 80) (v := ?_) (a' := ?_) #[true, true, true, true, true, true, true, true, true, true, false] rfl rfl (take_ofW HT_.out HW_.out (by kernel_rfl)) (fun _ _ _ h => h) (Or.inl ⟨by rfl, ?_⟩) hHeld ?_ ?_
                rotate_left
                ·rintro w' ⟨s0, s1, s2, s3, s4, s5, s6, s7, s8, s9, s10, s11, s12, s13⟩
                 go_simp
                 with_reducible rfl
                rotate_left
                ·simp only [Act.put, List.setIfInBounds_toArray, List.set_cons_zero, List.set_cons_succ, i64_w, i32_w]
                 rfl
                refine pu_ 10 (some 81) #[true, true, true, true, true, true, true, true, true, true, true] (any_of HT_.out (by kernel_rfl)) ?_
                refine done_ (done_of HT_.out (by kernel_rfl)) ?_
                try go_wp2
                go_ret
                exact ⟨er_, hb2_ GE288.out GE289.out⟩
               ·rw [if_neg c47] at H
                have c47b0 : (!((((rd_T54 ((rd_T36 l0 x5_1).f2) x8_3).f0).toList) == (((rd_T54 ((rd_T36 l1 x5_1).f2) x8_3).f0).toList)) || (!((((rd_T54 ((rd_T36 l0 x5_1).f2) x8_3).f1).toList) == (((rd_T54 ((rd_T36 l1 x5_1).f2) x8_3).f1).toList)))) = false := by simpa using c47
                clear c47
                have H' := Aside0.mk H
                clear H
                have hnb51 := NB288_289.out
                have hnc51 := NB289_288.out
                obtain ⟨hcz52_0, hcz52_1, hcz52_2, hcz52_3, hcz52_4⟩ := ce5_ BK288.out
                obtain ⟨hfz52_0, hfz52_1, hfz52_2, hfz52_3, hfz52_4⟩ := fr5_ BK288.out
                try go_wp2
                replace BK288 := Aside0.mk (blk_drew BK288.out)
                replace BK289 := Aside0.mk (blk_drew BK289.out)
                replace HB := Aside0.mk (below_drew1 HB.out)
                have p291 : 0 ≤ (x8_3 : Int) := of_decide_eq_true (by first | (with_reducible assumption) | assumption)
                have q291 : x8_3 < (((rd_T36 l0 x5_1).f2).length : Int) := of_decide_eq_true (by first | (with_reducible assumption) | assumption)
                obtain ⟨ad291, e291, hx291_0, hx291_1⟩ := at_T54 HR286_2.out x8_3 p291 q291
                have hw291_1 := hx291_1
                have hw291_0 := hx291_0
                cases e291
                replace hx291_0 := hc_ HB.out hx291_0
                replace hx291_1 := hc_ HB.out hx291_1
                replace p291 := eq_true p291
                replace q291 := eq_true q291
                have p292 : 0 ≤ (x8_3 : Int) := of_decide_eq_true (by first | (with_reducible assumption) | assumption)
                have q292 : x8_3 < (((rd_T36 l1 x5_1).f2).length : Int) := of_decide_eq_true (by first | (with_reducible assumption) | assumption)
                obtain ⟨ad292, e292, hx292_0, hx292_1⟩ := at_T54 HR287_2.out x8_3 p292 q292
                have hw292_1 := hx292_1
                have hw292_0 := hx292_0
                cases e292
                replace hx292_0 := hc_ HB.out hx292_0
                replace hx292_1 := hc_ HB.out hx292_1
                replace p292 := eq_true p292
                replace q292 := eq_true q292
                refine start_ (n := 11) (S := fun w' => w'.cell? ⟨gb288, 0, none⟩ = some (.int .i64 ((rd_T36 l0 x5_1).f0)) ∧ w'.cell? ⟨gb288, 1, none⟩ = some (.string ((rd_T36 l0 x5_1).f1)) ∧ w'.cell? ⟨gb288, 2, none⟩ = some (.slice (some ad291) ((rd_T36 l0 x5_1).f2).length c286_2) ∧ w'.cell? ⟨gb288, 3, none⟩ = some (.string ((rd_T36 l0 x5_1).f3)) ∧ w'.cell? ⟨gb288, 4, none⟩ = some (.slice A286_4 ((rd_T36 l0 x5_1).f4).length c286_4) ∧ w'.cell? ⟨gb289, 0, none⟩ = some (.int .i64 ((rd_T36 l1 x5_1).f0)) ∧ w'.cell? ⟨gb289, 1, none⟩ = some (.string ((rd_T36 l1 x5_1).f1)) ∧ w'.cell? ⟨gb289, 2, none⟩ = some (.slice (some ad292) ((rd_T36 l1 x5_1).f2).length c287_2) ∧ w'.cell? ⟨gb289, 3, none⟩ = some (.string ((rd_T36 l1 x5_1).f3)) ∧ w'.cell? ⟨gb289, 4, none⟩ = some (.slice A287_4 ((rd_T36 l1 x5_1).f4).length c287_4) ∧ w'.cell? (ad291.add ((x8_3).toNat * 2)) = some (.string ((rd_T54 ((rd_T36 l0 x5_1).f2) x8_3).f0)) ∧ w'.cell? ⟨(ad291.add ((x8_3).toNat * 2)).block, (ad291.add ((x8_3).toNat * 2)).off + 1, none⟩ = some (.string ((rd_T54 ((rd_T36 l0 x5_1).f2) x8_3).f1)) ∧ w'.cell? (ad292.add ((x8_3).toNat * 2)) = some (.string ((rd_T54 ((rd_T36 l1 x5_1).f2) x8_3).f0)) ∧ w'.cell? ⟨(ad292.add ((x8_3).toNat * 2)).block, (ad292.add ((x8_3).toNat * 2)).off + 1, none⟩ = some (.string ((rd_T54 ((rd_T36 l1 x5_1).f2) x8_3).f1))) (ds := []) #[false, false, false, false, false, false, false, false, false, false, false] (by kernel_rfl) rfl rfl ⟨(blk_cell BK288.out 0).trans rfl, (blk_cell BK288.out 1).trans rfl, (blk_cell BK288.out 2).trans rfl, (blk_cell BK288.out 3).trans rfl, (blk_cell BK288.out 4).trans rfl, (blk_cell BK289.out 0).trans rfl, (blk_cell BK289.out 1).trans rfl, (blk_cell BK289.out 2).trans rfl, (blk_cell BK289.out 3).trans rfl, (blk_cell BK289.out 4).trans rfl, (hc_ HB.out hw291_0), (hc_ HB.out hw291_1), (hc_ HB.out hw292_0), (hc_ HB.out hw292_1)⟩ (fun hHeld => ?_); refine with_tabW espalierlaw04_alike.tab12 espalierlaw04_alike.bits12 (fun HT_ HW_ => ?_)
                generalize wr.drew = w53 at BK288 BK289 HB hx291_0 hx291_1 hx292_0 hx292_1 hHeld ⊢
                refine pu_ 0 (some 71) #[true, false, false, false, false, false, false, false, false, false, false] (any_of HT_.out (by kernel_rfl)) ?_
                refine pu_ 2 (some 73) #[true, false, true, false, false, false, false, false, false, false, false] (any_of HT_.out (by kernel_rfl)) ?_
                refine pu_ 5 (some 76) #[true, false, true, false, false, true, false, false, false, false, false] (any_of HT_.out (by kernel_rfl)) ?_
                refine pu_ 7 (some 78) #[true, false, true, false, false, true, false, true, false, false, false] (any_of HT_.out (by kernel_rfl)) ?_
                refine take_ (i := 1) (N := some 72) (v := ?_) (a' := ?_) #[true, true, true, false, false, true, false, true, false, false, false] rfl rfl (take_ofW HT_.out HW_.out (by kernel_rfl)) (fun _ _ _ h => h) (Or.inl ⟨by rfl, ?_⟩) hHeld ?_ ?_
                rotate_left
                ·rintro w' ⟨s0, s1, s2, s3, s4, s5, s6, s7, s8, s9, s10, s11, s12, s13⟩
                 go_simp
                 with_reducible rfl
                rotate_left
                ·simp only [Act.put, List.setIfInBounds_toArray, List.set_cons_zero, List.set_cons_succ, i64_w, i32_w]
                 rfl
                refine pu_ 3 (some 74) #[true, true, true, true, false, true, false, true, false, false, false] (any_of HT_.out (by kernel_rfl)) ?_
                refine take_ (i := 4) (N := some 75) (v := ?_) (a' := ?_) #[true, true, true, true, true, true, false, true, false, false, false] rfl rfl (take_ofW HT_.out HW_.out (by kernel_rfl)) (fun _ _ _ h => h) (Or.inl ⟨by rfl, ?_⟩) hHeld ?_ ?_
                rotate_left
                ·rintro w' ⟨s0, s1, s2, s3, s4, s5, s6, s7, s8, s9, s10, s11, s12, s13⟩
                 go_simp
                 with_reducible rfl
                rotate_left
                ·simp only [Act.put, List.setIfInBounds_toArray, List.set_cons_zero, List.set_cons_succ, i64_w, i32_w]
                 rfl
                refine take_ (i := 6) (N := some 77) (v := ?_) (a' := ?_) #[true, true, true, true, true, true, true, true, false, false, false] rfl rfl (take_ofW HT_.out HW_.out (by kernel_rfl)) (fun _ _ _ h => h) (Or.inl ⟨by rfl, ?_⟩) hHeld ?_ ?_
                rotate_left
                ·rintro w' ⟨s0, s1, s2, s3, s4, s5, s6, s7, s8, s9, s10, s11, s12, s13⟩
                 go_simp
                 with_reducible rfl
                rotate_left
                ·simp only [Act.put, List.setIfInBounds_toArray, List.set_cons_zero, List.set_cons_succ, i64_w, i32_w]
                 rfl
                refine pu_ 8 (some 79) #[true, true, true, true, true, true, true, true, true, false, false] (any_of HT_.out (by kernel_rfl)) ?_
                refine take_ (i := 9) (N := some 80) (v := ?_) (a' := ?_) #[true, true, true, true, true, true, true, true, true, true, false] rfl rfl (take_ofW HT_.out HW_.out (by kernel_rfl)) (fun _ _ _ h => h) (Or.inl ⟨by rfl, ?_⟩) hHeld ?_ ?_
                rotate_left
                ·rintro w' ⟨s0, s1, s2, s3, s4, s5, s6, s7, s8, s9, s10, s11, s12, s13⟩
                 go_simp
                 with_reducible rfl
                rotate_left
                ·simp only [Act.put, List.setIfInBounds_toArray, List.set_cons_zero, List.set_cons_succ, i64_w, i32_w]
                 rfl
                refine pu_ 10 (some 81) #[true, true, true, true, true, true, true, true, true, true, true] (any_of HT_.out (by kernel_rfl)) ?_
                refine done_ (done_of HT_.out (by kernel_rfl)) ?_
                try go_wp2
                go_roundg k3
                case measure => have := HK1.out; have := HJ6.out; have := HK3.out; omega
                case rel => exact ⟨(wrap64 (x8_3 + 1)), (by first | rfl | (simp; done) | (simp [*]; done)), H', ⟨by have := HK1.out; have := HJ6.out; have := HK3.out; omega⟩, ⟨bk_ BK288.out⟩, ⟨bk_ BK289.out⟩, ⟨hb2_ GE288.out GE289.out⟩⟩
              ·rw [if_neg c46] at H
               exact absurd H (by simp)
             ·rw [if_neg c45] at H
              exact absurd H (by simp)
            ·rw [if_neg c44] at H
             have c44b0 : decide (x8_3 < (((rd_T36 l0 x5_1).f2).length : Int)) = false := decide_eq_false c44
             clear c44
             have H' := Aside0.mk H
             clear H
             have hnb54 := NB288_289.out
             have hnc54 := NB289_288.out
             obtain ⟨hcz55_0, hcz55_1, hcz55_2, hcz55_3, hcz55_4⟩ := ce5_ BK288.out
             obtain ⟨hfz55_0, hfz55_1, hfz55_2, hfz55_3, hfz55_4⟩ := fr5_ BK288.out
             go_wp2
             go_roundg k3
             case measure => have := HK1.out; have := HJ6.out; have := HK3.out; omega
             case rel => exact ⟨(wrap64 (x5_1 + 1)), (by first | rfl | (simp; done) | (simp [*]; done)), H', ⟨by have := HK1.out; have := HJ6.out; have := HK3.out; omega⟩, ⟨hb2_ GE288.out GE289.out⟩⟩
      ·rw [if_neg c6] at H
       exact absurd H (by simp)
     ·rw [if_neg c5] at H
      exact absurd H (by simp)
    ·rw [if_neg c4] at H
     have c4b0 : decide (x5_1 < (l0.length : Int)) = false := decide_eq_false c4
     clear c4
     obtain rfl := Option.some.inj H
     go_wp2
     go_ret
     exact ⟨er_, hb_⟩
 ·rw [if_neg c3] at H
  have c3b0 := beq_eq_false_iff_ne.mpr c3
  have c3b1 := bne_iff_ne.mpr c3
  have c3b2 : (l0.length == l1.length) = false := by first | simpa using c3 | (simp at c3 ⊢; omega)
  obtain rfl := Option.some.inj H
  go_enter Tryd.func11, Tryd.ntmps11
  go_wp2
  go_ret
  exact ⟨er_, hb_⟩

end Go.Proofs.YtealmfcimoomlaaDoor.PA
