-- Written by a program of this session (wip/tools/xprint.py: the kit's print, with given functions). Not trusted: Lean checks it.
import Derived.Test.YtggdffgoffmlpaaDoorPA0
import Derived.Test.YtggdffgoffmlpaaDoorPA6
import Derived.Test.YtggdffgoffmlpaaDoorPA13
namespace Go.Proofs.YtggdffgoffmlpaaDoor.PA
open Go.RowKit Go.Proofs.YtggdffgoffmlpaaDoorW.PrintWords Go.Proofs.YtggdffgoffmlpaaDoorW.PrintLast Go.Proofs.YtggdffgoffmlpaaDoorW.PrintMore
attribute [local go_sem] max2_int min2_int max_two min_two max_three min_three max_four min_four   -- for this text's walks alone
set_option linter.unusedVariables false
set_option linter.unusedSimpArgs false

/-! ### espalierlaw30_ShellParses: function 3 -/
mutual
def espalierlaw30_ShellParses.j0 : Nat → List (S28) → List (S28) → Bool → Option (Bool)
 | 0, _, _, _ => none
 | k + 1, x3, x6, x37 => if x37 = true then (some false) else (espalierlaw30_ShellParses.l0 k x3 x6 0)
def espalierlaw30_ShellParses.l0 : Nat → List (S28) → List (S28) → Int → Option (Bool)
 | 0, _, _, _ => none
 | k + 1, x3, x6, x9 => if x9 < (x3.length : Int) then (if 0 ≤ x9 then (if x9 < (x6.length : Int) then (if ((rd_T28 x3 x9).f0) = ((rd_T28 x6 x9).f0) then (if ((rd_T28 x3 x9).f1).toList = ((rd_T28 x6 x9).f1).toList then (espalierlaw30_ShellParses.j2 k x3 x6 x9 ((((rd_T28 x3 x9).f2).length : Int) != (((rd_T28 x6 x9).f2).length : Int))) else (espalierlaw30_ShellParses.j2 k x3 x6 x9 true)) else (espalierlaw30_ShellParses.j2 k x3 x6 x9 true)) else (none)) else (none)) else (some true)
def espalierlaw30_ShellParses.j2 : Nat → List (S28) → List (S28) → Int → Bool → Option (Bool)
 | 0, _, _, _, _ => none
 | k + 1, x3, x6, x9, x82 => if x82 = true then (some false) else (espalierlaw30_ShellParses.l1 k x3 x6 x9 0)
def espalierlaw30_ShellParses.l1 : Nat → List (S28) → List (S28) → Int → Int → Option (Bool)
 | 0, _, _, _, _ => none
 | k + 1, x3, x6, x9, x10 => if 0 ≤ x9 then (if x9 < (x6.length : Int) then (if x10 < (((rd_T28 x6 x9).f2).length : Int) then (if x9 < (x3.length : Int) then (if 0 ≤ x10 then (if x10 < (((rd_T28 x3 x9).f2).length : Int) then (if (rdOf ByteArray.empty ((rd_T28 x3 x9).f2) x10).toList = (rdOf ByteArray.empty ((rd_T28 x6 x9).f2) x10).toList then (espalierlaw30_ShellParses.l1 k x3 x6 x9 (wrap64 (x10 + 1))) else (some false)) else (none)) else (none)) else (none)) else (espalierlaw30_ShellParses.l0 k x3 x6 (wrap64 (x9 + 1)))) else (none)) else (none)
end
def espalierlaw30_ShellParses.f (k : Nat) (a0 : ByteArray) : Option (Bool) := (shell_Parse.f k a0).bind fun bt253 => ((espalierref30_Parse.f k a0).bind fun bt258 => (if bt253.2.1 = bt258.2.1 then (if bt253.2.2 = bt258.2.2 then (espalierlaw30_ShellParses.j0 k bt253.1 bt258.1 ((bt253.1.length : Int) != (bt258.1.length : Int))) else (espalierlaw30_ShellParses.j0 k bt253.1 bt258.1 true)) else (espalierlaw30_ShellParses.j0 k bt253.1 bt258.1 true)))
theorem espalierlaw30_ShellParses.mono_l : ∀ k, (∀ y0 y1 y2, LeO (espalierlaw30_ShellParses.j0 k y0 y1 y2) (espalierlaw30_ShellParses.j0 (k + 1) y0 y1 y2)) ∧ (∀ y0 y1 y2, LeO (espalierlaw30_ShellParses.l0 k y0 y1 y2) (espalierlaw30_ShellParses.l0 (k + 1) y0 y1 y2)) ∧ (∀ y0 y1 y2 y3, LeO (espalierlaw30_ShellParses.j2 k y0 y1 y2 y3) (espalierlaw30_ShellParses.j2 (k + 1) y0 y1 y2 y3)) ∧ (∀ y0 y1 y2 y3, LeO (espalierlaw30_ShellParses.l1 k y0 y1 y2 y3) (espalierlaw30_ShellParses.l1 (k + 1) y0 y1 y2 y3))
 | 0 => ⟨fun _ _ _ r h => by simp [espalierlaw30_ShellParses.j0] at h, fun _ _ _ r h => by simp [espalierlaw30_ShellParses.l0] at h, fun _ _ _ _ r h => by simp [espalierlaw30_ShellParses.j2] at h, fun _ _ _ _ r h => by simp [espalierlaw30_ShellParses.l1] at h⟩
 | k + 1 => by
  obtain ⟨ih0, ih1, ih2, ih3⟩ := espalierlaw30_ShellParses.mono_l k
  refine ⟨?_, ?_, ?_, ?_⟩
  ·intro y0 y1 y2
   unfold espalierlaw30_ShellParses.j0
   repeat' first
   | (with_reducible exact ih0 _ _ _)
   | (with_reducible exact ih1 _ _ _)
   | (with_reducible exact ih2 _ _ _ _)
   | (with_reducible exact ih3 _ _ _ _)
   | (with_reducible exact espalierref30_Parse.mono _ _)
   | (with_reducible exact shell_Parse.mono _ _)
   | (with_reducible exact LeO.refl _)
   | (with_reducible exact LeO.none _)
   | (with_reducible refine LeO.ite ?_ ?_)
   | (with_reducible refine LeO.bind ?_ (fun _ => ?_))
   | exact ih0 _ _ _
   | exact ih1 _ _ _
   | exact ih2 _ _ _ _
   | exact ih3 _ _ _ _
   | exact espalierref30_Parse.mono _ _
   | exact shell_Parse.mono _ _
   | exact LeO.none _
   | refine LeO.ite ?_ ?_
   | refine LeO.bind ?_ (fun _ => ?_)
  ·intro y0 y1 y2
   unfold espalierlaw30_ShellParses.l0
   repeat' first
   | (with_reducible exact ih0 _ _ _)
   | (with_reducible exact ih1 _ _ _)
   | (with_reducible exact ih2 _ _ _ _)
   | (with_reducible exact ih3 _ _ _ _)
   | (with_reducible exact espalierref30_Parse.mono _ _)
   | (with_reducible exact shell_Parse.mono _ _)
   | (with_reducible exact LeO.refl _)
   | (with_reducible exact LeO.none _)
   | (with_reducible refine LeO.ite ?_ ?_)
   | (with_reducible refine LeO.bind ?_ (fun _ => ?_))
   | exact ih0 _ _ _
   | exact ih1 _ _ _
   | exact ih2 _ _ _ _
   | exact ih3 _ _ _ _
   | exact espalierref30_Parse.mono _ _
   | exact shell_Parse.mono _ _
   | exact LeO.none _
   | refine LeO.ite ?_ ?_
   | refine LeO.bind ?_ (fun _ => ?_)
  ·intro y0 y1 y2 y3
   unfold espalierlaw30_ShellParses.j2
   repeat' first
   | (with_reducible exact ih0 _ _ _)
   | (with_reducible exact ih1 _ _ _)
   | (with_reducible exact ih2 _ _ _ _)
   | (with_reducible exact ih3 _ _ _ _)
   | (with_reducible exact espalierref30_Parse.mono _ _)
   | (with_reducible exact shell_Parse.mono _ _)
   | (with_reducible exact LeO.refl _)
   | (with_reducible exact LeO.none _)
   | (with_reducible refine LeO.ite ?_ ?_)
   | (with_reducible refine LeO.bind ?_ (fun _ => ?_))
   | exact ih0 _ _ _
   | exact ih1 _ _ _
   | exact ih2 _ _ _ _
   | exact ih3 _ _ _ _
   | exact espalierref30_Parse.mono _ _
   | exact shell_Parse.mono _ _
   | exact LeO.none _
   | refine LeO.ite ?_ ?_
   | refine LeO.bind ?_ (fun _ => ?_)
  ·intro y0 y1 y2 y3
   unfold espalierlaw30_ShellParses.l1
   repeat' first
   | (with_reducible exact ih0 _ _ _)
   | (with_reducible exact ih1 _ _ _)
   | (with_reducible exact ih2 _ _ _ _)
   | (with_reducible exact ih3 _ _ _ _)
   | (with_reducible exact espalierref30_Parse.mono _ _)
   | (with_reducible exact shell_Parse.mono _ _)
   | (with_reducible exact LeO.refl _)
   | (with_reducible exact LeO.none _)
   | (with_reducible refine LeO.ite ?_ ?_)
   | (with_reducible refine LeO.bind ?_ (fun _ => ?_))
   | exact ih0 _ _ _
   | exact ih1 _ _ _
   | exact ih2 _ _ _ _
   | exact ih3 _ _ _ _
   | exact espalierref30_Parse.mono _ _
   | exact shell_Parse.mono _ _
   | exact LeO.none _
   | refine LeO.ite ?_ ?_
   | refine LeO.bind ?_ (fun _ => ?_)
theorem espalierlaw30_ShellParses.mono : ∀ a0 k, LeO (espalierlaw30_ShellParses.f k a0) (espalierlaw30_ShellParses.f (k + 1) a0) := by
 intro a0 k
 obtain ⟨ih0, ih1, ih2, ih3⟩ := espalierlaw30_ShellParses.mono_l k
 unfold espalierlaw30_ShellParses.f
 repeat' first
   | (with_reducible exact ih0 _ _ _)
   | (with_reducible exact ih1 _ _ _)
   | (with_reducible exact ih2 _ _ _ _)
   | (with_reducible exact ih3 _ _ _ _)
   | (with_reducible exact espalierref30_Parse.mono _ _)
   | (with_reducible exact shell_Parse.mono _ _)
   | (with_reducible exact LeO.refl _)
   | (with_reducible exact LeO.none _)
   | (with_reducible refine LeO.ite ?_ ?_)
   | (with_reducible refine LeO.bind ?_ (fun _ => ?_))
   | exact ih0 _ _ _
   | exact ih1 _ _ _
   | exact ih2 _ _ _ _
   | exact ih3 _ _ _ _
   | exact espalierref30_Parse.mono _ _
   | exact shell_Parse.mono _ _
   | exact LeO.none _
   | refine LeO.ite ?_ ?_
   | refine LeO.bind ?_ (fun _ => ?_)
set_option maxHeartbeats 8000000 in
set_option maxRecDepth 100000 in
theorem espalierlaw30_ShellParses.calls (k : Nat) (a0 : ByteArray) (r : Bool) (w : World) (h : espalierlaw30_ShellParses.f k a0 = some r) (hG3 : Glob3 w := by first | exact Glob3.step HG3.out (by repeat (first | (with_reducible first | exact HB.out | apply below_alloc | apply pw_below_drewN | apply below_drew1) | exact HB.out | (refine below_set ?_ (Aside0.out (by assumption))))) | exact HG3.out | assumption) :
  Calls Tryd.prog 3 #[.string a0] w fun e w' => e = .returned (.bool r) ∧ Below w.heap.size w w' := by
 have HG3 := Aside0.mk hG3
 clear hG3
 have HB := Aside0.mk (Below.refl w.heap.size w)
 have H : ((shell_Parse.f k a0).bind fun bt253 => ((espalierref30_Parse.f k a0).bind fun bt258 => (if bt253.2.1 = bt258.2.1 then (if bt253.2.2 = bt258.2.2 then (espalierlaw30_ShellParses.j0 k bt253.1 bt258.1 ((bt253.1.length : Int) != (bt258.1.length : Int))) else (espalierlaw30_ShellParses.j0 k bt253.1 bt258.1 true)) else (espalierlaw30_ShellParses.j0 k bt253.1 bt258.1 true)))) = some r := h
 clear h
 replace H := Option.bind_eq_some_iff.mp H
 obtain ⟨⟨t253, t254, t255⟩, A20, H⟩ := H
 replace H : ((espalierref30_Parse.f k a0).bind fun bt258 => (if t254 = bt258.2.1 then (if t255 = bt258.2.2 then (espalierlaw30_ShellParses.j0 k t253 bt258.1 ((t253.length : Int) != (bt258.1.length : Int))) else (espalierlaw30_ShellParses.j0 k t253 bt258.1 true)) else (espalierlaw30_ShellParses.j0 k t253 bt258.1 true))) = some r := H
 have A2 := Aside0.mk A20
 clear A20
 replace H := Option.bind_eq_some_iff.mp H
 obtain ⟨⟨t258, t259, t260⟩, A30, H⟩ := H
 replace H : (if t254 = t259 then (if t255 = t260 then (espalierlaw30_ShellParses.j0 k t253 t258 ((t253.length : Int) != (t258.length : Int))) else (espalierlaw30_ShellParses.j0 k t253 t258 true)) else (espalierlaw30_ShellParses.j0 k t253 t258 true)) = some r := H
 have A3 := Aside0.mk A30
 clear A30
 have HC4 := Aside0.mk H
 clear H
 go_enter Tryd.func3, Tryd.ntmps3
 go_upto_region 3 with (first | (go_at_call 4; (with_reducible refine (shell_Parse.calls k a0 t253 t254 t255 _ A2.out).mono ?_); rintro e w5 ⟨v256, rfl, ho0, hb⟩; have n0_ := Aside0.mk (Kd.S_lower ho0 (below_size hb_)); have n1_ := Aside0.mk (below_step hb_ hb); clear HB; have HO257 := n0_; have HB := n1_; clear n0_ n1_; (try clear hb); (try clear hb2); (try clear hk); (try clear hi); (try clear ho0)) | (go_at_call 5; (with_reducible refine (espalierref30_Parse.calls k a0 t258 t259 t260 _ A3.out).mono ?_); rintro e w6 ⟨v261, rfl, ho0, hb⟩; have n0_ := Aside0.mk (Kd.S_elder' (by (with_reducible repeat (first | apply Kd.S_alloc | apply Kd.S_drewN | apply Kd.S_drew)); exact HO257.out) (Kd.S_base ho0) hb); have n1_ := Aside0.mk (Kd.S_lower (Kd.S_new' ho0 (Kd.S_lt (by (with_reducible repeat (first | apply Kd.S_alloc | apply Kd.S_drewN | apply Kd.S_drew)); exact HO257.out))) (below_size hb_)); have n2_ := Aside0.mk (below_step hb_ hb); clear HO257; clear HB; have HO257 := n0_; have HO262 := n1_; have HB := n2_; clear n0_ n1_ n2_; (try clear hb); (try clear hb2); (try clear hk); (try clear hi); (try clear ho0)))
 repeat (go_quiet (first | (go_at_call 4; (with_reducible refine (shell_Parse.calls k a0 t253 t254 t255 _ A2.out).mono ?_); rintro e w5 ⟨v256, rfl, ho0, hb⟩; have n0_ := Aside0.mk (Kd.S_lower ho0 (below_size hb_)); have n1_ := Aside0.mk (below_step hb_ hb); clear HB; have HO257 := n0_; have HB := n1_; clear n0_ n1_; (try clear hb); (try clear hb2); (try clear hk); (try clear hi); (try clear ho0)) | (go_at_call 5; (with_reducible refine (espalierref30_Parse.calls k a0 t258 t259 t260 _ A3.out).mono ?_); rintro e w6 ⟨v261, rfl, ho0, hb⟩; have n0_ := Aside0.mk (Kd.S_elder' (by (with_reducible repeat (first | apply Kd.S_alloc | apply Kd.S_drewN | apply Kd.S_drew)); exact HO257.out) (Kd.S_base ho0) hb); have n1_ := Aside0.mk (Kd.S_lower (Kd.S_new' ho0 (Kd.S_lt (by (with_reducible repeat (first | apply Kd.S_alloc | apply Kd.S_drewN | apply Kd.S_drew)); exact HO257.out))) (below_size hb_)); have n2_ := Aside0.mk (below_step hb_ hb); clear HO257; clear HB; have HO257 := n0_; have HO262 := n1_; have HB := n2_; clear n0_ n1_ n2_; (try clear hb); (try clear hb2); (try clear hk); (try clear hi); (try clear ho0))); go_upto_region 3 with (first | (go_at_call 4; (with_reducible refine (shell_Parse.calls k a0 t253 t254 t255 _ A2.out).mono ?_); rintro e w5 ⟨v256, rfl, ho0, hb⟩; have n0_ := Aside0.mk (Kd.S_lower ho0 (below_size hb_)); have n1_ := Aside0.mk (below_step hb_ hb); clear HB; have HO257 := n0_; have HB := n1_; clear n0_ n1_; (try clear hb); (try clear hb2); (try clear hk); (try clear hi); (try clear ho0)) | (go_at_call 5; (with_reducible refine (espalierref30_Parse.calls k a0 t258 t259 t260 _ A3.out).mono ?_); rintro e w6 ⟨v261, rfl, ho0, hb⟩; have n0_ := Aside0.mk (Kd.S_elder' (by (with_reducible repeat (first | apply Kd.S_alloc | apply Kd.S_drewN | apply Kd.S_drew)); exact HO257.out) (Kd.S_base ho0) hb); have n1_ := Aside0.mk (Kd.S_lower (Kd.S_new' ho0 (Kd.S_lt (by (with_reducible repeat (first | apply Kd.S_alloc | apply Kd.S_drewN | apply Kd.S_drew)); exact HO257.out))) (below_size hb_)); have n2_ := Aside0.mk (below_step hb_ hb); clear HO257; clear HB; have HO257 := n0_; have HO262 := n1_; have HB := n2_; clear n0_ n1_ n2_; (try clear hb); (try clear hb2); (try clear hk); (try clear hi); (try clear ho0))))
 (try simp only [Act.put, List.setIfInBounds_toArray, List.set_cons_zero, List.set_cons_succ])
 go_cut [37] (fun v37 wc => ∃ (kq : Nat) (x37_3 : Bool), v37 = .bool x37_3 ∧ Aside0 (espalierlaw30_ShellParses.j0 kq t253 t258 x37_3 = some r) ∧ Aside0 (kq ≤ k) ∧ Aside0 (Kd.S k28 28 wc w.heap.size (fun k_ => some k_ ≠ (v261 : Value).ownBlock) v256 t253) ∧ Aside0 (Kd.S k28 28 wc w.heap.size (fun k_ => some k_ ≠ (v256 : Value).ownBlock) v261 t258) ∧ Aside0 (Below w.heap.size w wc))
 case first =>
  have H := HC4.out
  clear HC4
  by_cases c7 : t254 = t259
  ·rw [if_pos c7] at H
   have c7b0 : (t254 == t259) = true := beq_iff_eq.mpr c7
   have c7b1 : (t254 != t259) = false := bne_eq_false_iff_eq.mpr c7
   clear c7
   (first | rw [c7b0] | (simp only [i64_w, i32_w]; rw [c7b0]) | skip)
   by_cases c8 : t255 = t260
   ·rw [if_pos c8] at H
    have c8b0 : (t255 == t260) = true := beq_iff_eq.mpr c8
    have c8b1 : (t255 != t260) = false := bne_eq_false_iff_eq.mpr c8
    clear c8
    have H' := Aside0.mk H
    clear H
    obtain ⟨Ao9, co9, eo9⟩ := Kd.S_slice HO257.out
    subst eo9
    obtain ⟨Ao10, co10, eo10⟩ := Kd.S_slice HO262.out
    subst eo10
    go_wp2
    repeat (go_quiet (fail); try go_wp2)
    go_meet
    case rel => exact ⟨_, (((t253.length : Int) != (t258.length : Int))), (by first | rfl | (simp; done) | (simp [*]; done)), H', ⟨by first | omega | exact Nat.le_refl _⟩, ⟨by (with_reducible repeat (first | apply Kd.S_alloc | apply Kd.S_drewN | apply Kd.S_drew)); exact Kd.S_mono HO257.out (fun _ hk => hk.2)⟩, ⟨by (with_reducible repeat (first | apply Kd.S_alloc | apply Kd.S_drewN | apply Kd.S_drew)); exact Kd.S_mono HO262.out (fun _ hk => hk.2)⟩, ⟨by repeat (first | (with_reducible first | exact HB.out | apply below_alloc | apply pw_below_drewN | apply below_drew1) | exact HB.out)⟩⟩
   ·rw [if_neg c8] at H
    have c8b0 : (t255 == t260) = false := beq_eq_false_iff_ne.mpr c8
    have c8b1 : (t255 != t260) = true := bne_iff_ne.mpr c8
    have H' := Aside0.mk H
    clear H
    go_wp2
    repeat (go_quiet (fail); try go_wp2)
    go_meet
    case rel => exact ⟨_, (true), (by first | rfl | (simp; done) | (simp [*]; done)), H', ⟨by first | omega | exact Nat.le_refl _⟩, ⟨by (with_reducible repeat (first | apply Kd.S_alloc | apply Kd.S_drewN | apply Kd.S_drew)); exact Kd.S_mono HO257.out (fun _ hk => hk.2)⟩, ⟨by (with_reducible repeat (first | apply Kd.S_alloc | apply Kd.S_drewN | apply Kd.S_drew)); exact Kd.S_mono HO262.out (fun _ hk => hk.2)⟩, ⟨by repeat (first | (with_reducible first | exact HB.out | apply below_alloc | apply pw_below_drewN | apply below_drew1) | exact HB.out)⟩⟩
  ·rw [if_neg c7] at H
   have c7b0 : (t254 == t259) = false := beq_eq_false_iff_ne.mpr c7
   have c7b1 : (t254 != t259) = true := bne_iff_ne.mpr c7
   (first | rw [c7b0] | (simp only [i64_w, i32_w]; rw [c7b0]) | skip)
   have H' := Aside0.mk H
   clear H
   go_wp2
   repeat (go_quiet (fail); try go_wp2)
   go_meet
   case rel => exact ⟨_, (true), (by first | rfl | (simp; done) | (simp [*]; done)), H', ⟨by first | omega | exact Nat.le_refl _⟩, ⟨by (with_reducible repeat (first | apply Kd.S_alloc | apply Kd.S_drewN | apply Kd.S_drew)); exact Kd.S_mono HO257.out (fun _ hk => hk.2)⟩, ⟨by (with_reducible repeat (first | apply Kd.S_alloc | apply Kd.S_drewN | apply Kd.S_drew)); exact Kd.S_mono HO262.out (fun _ hk => hk.2)⟩, ⟨by repeat (first | (with_reducible first | exact HB.out | apply below_alloc | apply pw_below_drewN | apply below_drew1) | exact HB.out)⟩⟩
 case rest =>
  clear HC4
  try clear p2
  try clear c3
  try clear c7
  try clear c7b0
  try clear c7b1
  try clear c8
  try clear c8b0
  try clear c8b1
  obtain ⟨kq, x37_3, rfl, HA, HJ3, HO_3, HO_6, HB⟩ := hcut
  cases kq with
  | zero => exact absurd HA.out (by simp [espalierlaw30_ShellParses.j0])
  | succ kj3 =>
   have H := HA.out
   clear HA
   simp only [espalierlaw30_ShellParses.j0] at H
   by_cases c11 : x37_3 = true
   ·subst c11
    have H1 : (some false) = some r := by rw [if_pos rfl] at H; exact H
    clear H
    have H := H1
    clear H1
    obtain rfl := Option.some.inj H
    go_wp2
    repeat (go_quiet (fail); try go_wp2)
    go_ret
    exact ⟨er_, by repeat (first | (with_reducible first | exact HB.out | apply below_alloc | apply pw_below_drewN | apply below_drew1) | exact HB.out)⟩
   ·replace c11 := Bool.eq_false_iff.mpr c11
    subst c11
    have H1 : (espalierlaw30_ShellParses.l0 kj3 t253 t258 0) = some r := by rw [if_neg (show ¬ (false = true) by decide)] at H; exact H
    clear H
    have H := H1
    clear H1
    have H' := Aside0.mk H
    clear H
    go_wp2
    repeat (go_quiet (fail); try go_wp2)
    go_loopg [9] kj3 (fun kq v9 w' => ∃ (x9_2 : Int), v9 = .int .i64 x9_2 ∧ Aside0 (espalierlaw30_ShellParses.l0 kq t253 t258 x9_2 = some r) ∧ Aside0 (kq ≤ kj3) ∧ Aside0 (Kd.S k28 28 w' w.heap.size (fun k_ => some k_ ≠ (v261 : Value).ownBlock) v256 t253) ∧ Aside0 (Kd.S k28 28 w' w.heap.size (fun k_ => some k_ ≠ (v256 : Value).ownBlock) v261 t258) ∧ Aside0 (Below w.heap.size w w'))
    case atStart => exact ⟨(0), (by first | rfl | (simp; done) | (simp [*]; done)), H', ⟨Nat.le_refl _⟩, ⟨by (with_reducible repeat (first | apply Kd.S_alloc | apply Kd.S_drewN | apply Kd.S_drew)); exact HO_3.out⟩, ⟨by (with_reducible repeat (first | apply Kd.S_alloc | apply Kd.S_drewN | apply Kd.S_drew)); exact HO_6.out⟩, ⟨by repeat (first | (with_reducible first | exact HB.out | apply below_alloc | apply pw_below_drewN | apply below_drew1) | exact HB.out)⟩⟩
    case round =>
     clear H'
     try clear c1
     try clear p2
     try clear c3
     try clear c7
     try clear c7b0
     try clear c7b1
     try clear c8
     try clear c8b0
     try clear c8b1
     try clear c11
     try clear p2
     obtain ⟨x9_2, rfl, HA, HK2, HO_3, HO_6, HB⟩ := hrel
     cases gk with
     | zero => exact absurd HA.out (by simp [espalierlaw30_ShellParses.l0])
     | succ k2 =>
      have H := HA.out
      clear HA
      simp only [espalierlaw30_ShellParses.l0] at H
      by_cases c12 : x9_2 < (t253.length : Int)
      ·rw [if_pos c12] at H
       have c12b0 : decide (x9_2 < (t253.length : Int)) = true := decide_eq_true c12
       clear c12
       have HC13 := Aside0.mk H
       clear H
       obtain ⟨Ao14, co14, eo14⟩ := Kd.S_slice HO_3.out
       subst eo14
       go_upto_region 8 with (fail)
       repeat (go_quiet (fail); go_upto_region 8 with (fail))
       go_cut [82] (fun v82 wc => ∃ (kq : Nat) (x82_12 : Bool), v82 = .bool x82_12 ∧ Aside0 (espalierlaw30_ShellParses.j2 kq t253 t258 x9_2 x82_12 = some r) ∧ Aside0 (kq ≤ k2) ∧ Aside0 (Kd.S k28 28 wc w.heap.size (fun k_ => some k_ ≠ (v261 : Value).ownBlock) (.slice Ao14 t253.length co14) t253) ∧ Aside0 (Kd.S k28 28 wc w.heap.size (fun k_ => some k_ ≠ ((.slice Ao14 t253.length co14) : Value).ownBlock) v261 t258) ∧ Aside0 (Below w.heap.size w wc))
       case first =>
        have H := HC13.out
        clear HC13
        by_cases c15 : 0 ≤ x9_2
        ·rw [if_pos c15] at H
         have c15b0 : decide (0 ≤ x9_2) = true := decide_eq_true c15
         clear c15
         (first | rw [c15b0] | (simp only [i64_w, i32_w]; rw [c15b0]) | skip)
         by_cases c16 : x9_2 < (t258.length : Int)
         ·rw [if_pos c16] at H
          have c16b0 : decide (x9_2 < (t258.length : Int)) = true := decide_eq_true c16
          clear c16
          by_cases c17 : ((rd_T28 t253 x9_2).f0) = ((rd_T28 t258 x9_2).f0)
          ·rw [if_pos c17] at H
           have c17b0 : (((rd_T28 t253 x9_2).f0) == ((rd_T28 t258 x9_2).f0)) = true := beq_iff_eq.mpr c17
           have c17b1 : (((rd_T28 t253 x9_2).f0) != ((rd_T28 t258 x9_2).f0)) = false := bne_eq_false_iff_eq.mpr c17
           clear c17
           by_cases c18 : ((rd_T28 t253 x9_2).f1).toList = ((rd_T28 t258 x9_2).f1).toList
           ·rw [if_pos c18] at H
            have c18b0 : (((rd_T28 t253 x9_2).f1).toList == ((rd_T28 t258 x9_2).f1).toList) = true := beq_iff_eq.mpr c18
            have c18b1 : (((rd_T28 t253 x9_2).f1).toList != ((rd_T28 t258 x9_2).f1).toList) = false := bne_eq_false_iff_eq.mpr c18
            clear c18
            have H' := Aside0.mk H
            clear H
            have p263 : 0 ≤ (x9_2 : Int) := of_decide_eq_true (by first | (with_reducible assumption) | assumption)
            have q263 : x9_2 < (t253.length : Int) := of_decide_eq_true (by first | (with_reducible assumption) | assumption)
            obtain ⟨ad263, A263_2, c263_2, e263, hx263_0, hx263_1, hx263_2, hl263_2, hi263_2⟩ := at_T28 (Kd.S_reads' HO_3.out).2.2 x9_2 p263 q263
            cases e263
            obtain ⟨ce263, hce263, hMe263, hcc263⟩ := Kd.S_get HO_3.out z28 x9_2 p263 (by first | exact q263 | exact of_decide_eq_true (by first | (with_reducible assumption) | assumption) | (have e_ := (Kd.S_reads' HO_3.out).1; omega))
            obtain ⟨ve263_2, rfl, ge263_2⟩ := k28_openM hMe263
            have hv263_2 := hcc263 2 _ rfl
            rw [add_field _ _ 2 (by omega)] at hv263_2
            replace hv263_2 := Option.some.inj (hv263_2.symm.trans hx263_2)
            rw [hv263_2] at ge263_2
            have HL263_2 := Aside0.mk (show Kd.R Kd.string 9 _ _ _ _ ((rd_T28 t253 x9_2).f2) from ge263_2)
            clear hv263_2 ge263_2
            clear hcc263 hce263
            have HR263_2 := Aside0.mk hi263_2
            have HC263_2 := Aside0.mk hl263_2
            clear hi263_2 hl263_2
            replace p263 := eq_true p263
            replace q263 := eq_true q263
            obtain ⟨Ao19, co19, eo19⟩ := Kd.S_slice HO_6.out
            subst eo19
            have p264 : 0 ≤ (x9_2 : Int) := of_decide_eq_true (by first | (with_reducible assumption) | assumption)
            have q264 : x9_2 < (t258.length : Int) := of_decide_eq_true (by first | (with_reducible assumption) | assumption)
            obtain ⟨ad264, A264_2, c264_2, e264, hx264_0, hx264_1, hx264_2, hl264_2, hi264_2⟩ := at_T28 (Kd.S_reads' HO_6.out).2.2 x9_2 p264 q264
            cases e264
            obtain ⟨ce264, hce264, hMe264, hcc264⟩ := Kd.S_get HO_6.out z28 x9_2 p264 (by first | exact q264 | exact of_decide_eq_true (by first | (with_reducible assumption) | assumption) | (have e_ := (Kd.S_reads' HO_6.out).1; omega))
            obtain ⟨ve264_2, rfl, ge264_2⟩ := k28_openM hMe264
            have hv264_2 := hcc264 2 _ rfl
            rw [add_field _ _ 2 (by omega)] at hv264_2
            replace hv264_2 := Option.some.inj (hv264_2.symm.trans hx264_2)
            rw [hv264_2] at ge264_2
            have HL264_2 := Aside0.mk (show Kd.R Kd.string 9 _ _ _ _ ((rd_T28 t258 x9_2).f2) from ge264_2)
            clear hv264_2 ge264_2
            clear hcc264 hce264
            have HR264_2 := Aside0.mk hi264_2
            have HC264_2 := Aside0.mk hl264_2
            clear hi264_2 hl264_2
            replace p264 := eq_true p264
            replace q264 := eq_true q264
            have p265 : 0 ≤ (x9_2 : Int) := of_decide_eq_true (by first | (with_reducible assumption) | assumption)
            have q265 : x9_2 < (t253.length : Int) := of_decide_eq_true (by first | (with_reducible assumption) | assumption)
            obtain ⟨ad265, A265_2, c265_2, e265, hx265_0, hx265_1, hx265_2, hl265_2, hi265_2⟩ := at_T28 (Kd.S_reads' HO_3.out).2.2 x9_2 p265 q265
            obtain rfl : ad263 = ad265 := (by injection e265)
            obtain ⟨ce265, hce265, hMe265, hcc265⟩ := Kd.S_get HO_3.out z28 x9_2 p265 (by first | exact q265 | exact of_decide_eq_true (by first | (with_reducible assumption) | assumption) | (have e_ := (Kd.S_reads' HO_3.out).1; omega))
            obtain ⟨ve265_2, rfl, ge265_2⟩ := k28_openM hMe265
            have hv265_2 := hcc265 2 _ rfl
            rw [add_field _ _ 2 (by omega)] at hv265_2
            replace hv265_2 := Option.some.inj (hv265_2.symm.trans hx265_2)
            rw [hv265_2] at ge265_2
            have HL265_2 := Aside0.mk (show Kd.R Kd.string 9 _ _ _ _ ((rd_T28 t253 x9_2).f2) from ge265_2)
            clear hv265_2 ge265_2
            clear hcc265 hce265
            have HR265_2 := Aside0.mk hi265_2
            have HC265_2 := Aside0.mk hl265_2
            clear hi265_2 hl265_2
            replace p265 := eq_true p265
            replace q265 := eq_true q265
            have ea_ := Option.some.inj (hx263_2.symm.trans hx265_2)
            injection ea_ with ea_ en_ ec_
            subst ea_
            subst ec_
            clear en_
            have p266 : 0 ≤ (x9_2 : Int) := of_decide_eq_true (by first | (with_reducible assumption) | assumption)
            have q266 : x9_2 < (t258.length : Int) := of_decide_eq_true (by first | (with_reducible assumption) | assumption)
            obtain ⟨ad266, A266_2, c266_2, e266, hx266_0, hx266_1, hx266_2, hl266_2, hi266_2⟩ := at_T28 (Kd.S_reads' HO_6.out).2.2 x9_2 p266 q266
            obtain rfl : ad264 = ad266 := (by injection e266)
            obtain ⟨ce266, hce266, hMe266, hcc266⟩ := Kd.S_get HO_6.out z28 x9_2 p266 (by first | exact q266 | exact of_decide_eq_true (by first | (with_reducible assumption) | assumption) | (have e_ := (Kd.S_reads' HO_6.out).1; omega))
            obtain ⟨ve266_2, rfl, ge266_2⟩ := k28_openM hMe266
            have hv266_2 := hcc266 2 _ rfl
            rw [add_field _ _ 2 (by omega)] at hv266_2
            replace hv266_2 := Option.some.inj (hv266_2.symm.trans hx266_2)
            rw [hv266_2] at ge266_2
            have HL266_2 := Aside0.mk (show Kd.R Kd.string 9 _ _ _ _ ((rd_T28 t258 x9_2).f2) from ge266_2)
            clear hv266_2 ge266_2
            clear hcc266 hce266
            have HR266_2 := Aside0.mk hi266_2
            have HC266_2 := Aside0.mk hl266_2
            clear hi266_2 hl266_2
            replace p266 := eq_true p266
            replace q266 := eq_true q266
            have ea_ := Option.some.inj (hx264_2.symm.trans hx266_2)
            injection ea_ with ea_ en_ ec_
            subst ea_
            subst ec_
            clear en_
            have p267 : 0 ≤ (x9_2 : Int) := of_decide_eq_true (by first | (with_reducible assumption) | assumption)
            have q267 : x9_2 < (t253.length : Int) := of_decide_eq_true (by first | (with_reducible assumption) | assumption)
            obtain ⟨ad267, A267_2, c267_2, e267, hx267_0, hx267_1, hx267_2, hl267_2, hi267_2⟩ := at_T28 (Kd.S_reads' HO_3.out).2.2 x9_2 p267 q267
            obtain rfl : ad263 = ad267 := (by injection e267)
            obtain ⟨ce267, hce267, hMe267, hcc267⟩ := Kd.S_get HO_3.out z28 x9_2 p267 (by first | exact q267 | exact of_decide_eq_true (by first | (with_reducible assumption) | assumption) | (have e_ := (Kd.S_reads' HO_3.out).1; omega))
            obtain ⟨ve267_2, rfl, ge267_2⟩ := k28_openM hMe267
            have hv267_2 := hcc267 2 _ rfl
            rw [add_field _ _ 2 (by omega)] at hv267_2
            replace hv267_2 := Option.some.inj (hv267_2.symm.trans hx267_2)
            rw [hv267_2] at ge267_2
            have HL267_2 := Aside0.mk (show Kd.R Kd.string 9 _ _ _ _ ((rd_T28 t253 x9_2).f2) from ge267_2)
            clear hv267_2 ge267_2
            clear hcc267 hce267
            have HR267_2 := Aside0.mk hi267_2
            have HC267_2 := Aside0.mk hl267_2
            clear hi267_2 hl267_2
            replace p267 := eq_true p267
            replace q267 := eq_true q267
            have ea_ := Option.some.inj (hx263_2.symm.trans hx267_2)
            injection ea_ with ea_ en_ ec_
            subst ea_
            subst ec_
            clear en_
            have p268 : 0 ≤ (x9_2 : Int) := of_decide_eq_true (by first | (with_reducible assumption) | assumption)
            have q268 : x9_2 < (t258.length : Int) := of_decide_eq_true (by first | (with_reducible assumption) | assumption)
            obtain ⟨ad268, A268_2, c268_2, e268, hx268_0, hx268_1, hx268_2, hl268_2, hi268_2⟩ := at_T28 (Kd.S_reads' HO_6.out).2.2 x9_2 p268 q268
            obtain rfl : ad264 = ad268 := (by injection e268)
            obtain ⟨ce268, hce268, hMe268, hcc268⟩ := Kd.S_get HO_6.out z28 x9_2 p268 (by first | exact q268 | exact of_decide_eq_true (by first | (with_reducible assumption) | assumption) | (have e_ := (Kd.S_reads' HO_6.out).1; omega))
            obtain ⟨ve268_2, rfl, ge268_2⟩ := k28_openM hMe268
            have hv268_2 := hcc268 2 _ rfl
            rw [add_field _ _ 2 (by omega)] at hv268_2
            replace hv268_2 := Option.some.inj (hv268_2.symm.trans hx268_2)
            rw [hv268_2] at ge268_2
            have HL268_2 := Aside0.mk (show Kd.R Kd.string 9 _ _ _ _ ((rd_T28 t258 x9_2).f2) from ge268_2)
            clear hv268_2 ge268_2
            clear hcc268 hce268
            have HR268_2 := Aside0.mk hi268_2
            have HC268_2 := Aside0.mk hl268_2
            clear hi268_2 hl268_2
            replace p268 := eq_true p268
            replace q268 := eq_true q268
            have ea_ := Option.some.inj (hx264_2.symm.trans hx268_2)
            injection ea_ with ea_ en_ ec_
            subst ea_
            subst ec_
            clear en_
            go_wp2
            repeat (go_quiet (fail); try go_wp2)
            go_meet
            case rel => exact ⟨_, (((((rd_T28 t253 x9_2).f2).length : Int) != (((rd_T28 t258 x9_2).f2).length : Int))), (by first | rfl | (simp; done) | (simp [*]; done)), H', ⟨by have := HJ3.out; have := HK2.out; first | omega | exact Nat.le_refl _⟩, ⟨by (with_reducible repeat (first | apply Kd.S_alloc | apply Kd.S_drewN | apply Kd.S_drew)); exact HO_3.out⟩, ⟨by (with_reducible repeat (first | apply Kd.S_alloc | apply Kd.S_drewN | apply Kd.S_drew)); exact HO_6.out⟩, ⟨by repeat (first | (with_reducible first | exact HB.out | apply below_alloc | apply pw_below_drewN | apply below_drew1) | exact HB.out)⟩⟩
           ·rw [if_neg c18] at H
            have c18b0 : (((rd_T28 t253 x9_2).f1).toList == ((rd_T28 t258 x9_2).f1).toList) = false := beq_eq_false_iff_ne.mpr c18
            have c18b1 : (((rd_T28 t253 x9_2).f1).toList != ((rd_T28 t258 x9_2).f1).toList) = true := bne_iff_ne.mpr c18
            have H' := Aside0.mk H
            clear H
            have p263 : 0 ≤ (x9_2 : Int) := of_decide_eq_true (by first | (with_reducible assumption) | assumption)
            have q263 : x9_2 < (t253.length : Int) := of_decide_eq_true (by first | (with_reducible assumption) | assumption)
            obtain ⟨ad263, A263_2, c263_2, e263, hx263_0, hx263_1, hx263_2, hl263_2, hi263_2⟩ := at_T28 (Kd.S_reads' HO_3.out).2.2 x9_2 p263 q263
            cases e263
            obtain ⟨ce263, hce263, hMe263, hcc263⟩ := Kd.S_get HO_3.out z28 x9_2 p263 (by first | exact q263 | exact of_decide_eq_true (by first | (with_reducible assumption) | assumption) | (have e_ := (Kd.S_reads' HO_3.out).1; omega))
            obtain ⟨ve263_2, rfl, ge263_2⟩ := k28_openM hMe263
            have hv263_2 := hcc263 2 _ rfl
            rw [add_field _ _ 2 (by omega)] at hv263_2
            replace hv263_2 := Option.some.inj (hv263_2.symm.trans hx263_2)
            rw [hv263_2] at ge263_2
            have HL263_2 := Aside0.mk (show Kd.R Kd.string 9 _ _ _ _ ((rd_T28 t253 x9_2).f2) from ge263_2)
            clear hv263_2 ge263_2
            clear hcc263 hce263
            have HR263_2 := Aside0.mk hi263_2
            have HC263_2 := Aside0.mk hl263_2
            clear hi263_2 hl263_2
            replace p263 := eq_true p263
            replace q263 := eq_true q263
            obtain ⟨Ao20, co20, eo20⟩ := Kd.S_slice HO_6.out
            subst eo20
            have p264 : 0 ≤ (x9_2 : Int) := of_decide_eq_true (by first | (with_reducible assumption) | assumption)
            have q264 : x9_2 < (t258.length : Int) := of_decide_eq_true (by first | (with_reducible assumption) | assumption)
            obtain ⟨ad264, A264_2, c264_2, e264, hx264_0, hx264_1, hx264_2, hl264_2, hi264_2⟩ := at_T28 (Kd.S_reads' HO_6.out).2.2 x9_2 p264 q264
            cases e264
            obtain ⟨ce264, hce264, hMe264, hcc264⟩ := Kd.S_get HO_6.out z28 x9_2 p264 (by first | exact q264 | exact of_decide_eq_true (by first | (with_reducible assumption) | assumption) | (have e_ := (Kd.S_reads' HO_6.out).1; omega))
            obtain ⟨ve264_2, rfl, ge264_2⟩ := k28_openM hMe264
            have hv264_2 := hcc264 2 _ rfl
            rw [add_field _ _ 2 (by omega)] at hv264_2
            replace hv264_2 := Option.some.inj (hv264_2.symm.trans hx264_2)
            rw [hv264_2] at ge264_2
            have HL264_2 := Aside0.mk (show Kd.R Kd.string 9 _ _ _ _ ((rd_T28 t258 x9_2).f2) from ge264_2)
            clear hv264_2 ge264_2
            clear hcc264 hce264
            have HR264_2 := Aside0.mk hi264_2
            have HC264_2 := Aside0.mk hl264_2
            clear hi264_2 hl264_2
            replace p264 := eq_true p264
            replace q264 := eq_true q264
            have p265 : 0 ≤ (x9_2 : Int) := of_decide_eq_true (by first | (with_reducible assumption) | assumption)
            have q265 : x9_2 < (t253.length : Int) := of_decide_eq_true (by first | (with_reducible assumption) | assumption)
            obtain ⟨ad265, A265_2, c265_2, e265, hx265_0, hx265_1, hx265_2, hl265_2, hi265_2⟩ := at_T28 (Kd.S_reads' HO_3.out).2.2 x9_2 p265 q265
            obtain rfl : ad263 = ad265 := (by injection e265)
            obtain ⟨ce265, hce265, hMe265, hcc265⟩ := Kd.S_get HO_3.out z28 x9_2 p265 (by first | exact q265 | exact of_decide_eq_true (by first | (with_reducible assumption) | assumption) | (have e_ := (Kd.S_reads' HO_3.out).1; omega))
            obtain ⟨ve265_2, rfl, ge265_2⟩ := k28_openM hMe265
            have hv265_2 := hcc265 2 _ rfl
            rw [add_field _ _ 2 (by omega)] at hv265_2
            replace hv265_2 := Option.some.inj (hv265_2.symm.trans hx265_2)
            rw [hv265_2] at ge265_2
            have HL265_2 := Aside0.mk (show Kd.R Kd.string 9 _ _ _ _ ((rd_T28 t253 x9_2).f2) from ge265_2)
            clear hv265_2 ge265_2
            clear hcc265 hce265
            have HR265_2 := Aside0.mk hi265_2
            have HC265_2 := Aside0.mk hl265_2
            clear hi265_2 hl265_2
            replace p265 := eq_true p265
            replace q265 := eq_true q265
            have ea_ := Option.some.inj (hx263_2.symm.trans hx265_2)
            injection ea_ with ea_ en_ ec_
            subst ea_
            subst ec_
            clear en_
            have p266 : 0 ≤ (x9_2 : Int) := of_decide_eq_true (by first | (with_reducible assumption) | assumption)
            have q266 : x9_2 < (t258.length : Int) := of_decide_eq_true (by first | (with_reducible assumption) | assumption)
            obtain ⟨ad266, A266_2, c266_2, e266, hx266_0, hx266_1, hx266_2, hl266_2, hi266_2⟩ := at_T28 (Kd.S_reads' HO_6.out).2.2 x9_2 p266 q266
            obtain rfl : ad264 = ad266 := (by injection e266)
            obtain ⟨ce266, hce266, hMe266, hcc266⟩ := Kd.S_get HO_6.out z28 x9_2 p266 (by first | exact q266 | exact of_decide_eq_true (by first | (with_reducible assumption) | assumption) | (have e_ := (Kd.S_reads' HO_6.out).1; omega))
            obtain ⟨ve266_2, rfl, ge266_2⟩ := k28_openM hMe266
            have hv266_2 := hcc266 2 _ rfl
            rw [add_field _ _ 2 (by omega)] at hv266_2
            replace hv266_2 := Option.some.inj (hv266_2.symm.trans hx266_2)
            rw [hv266_2] at ge266_2
            have HL266_2 := Aside0.mk (show Kd.R Kd.string 9 _ _ _ _ ((rd_T28 t258 x9_2).f2) from ge266_2)
            clear hv266_2 ge266_2
            clear hcc266 hce266
            have HR266_2 := Aside0.mk hi266_2
            have HC266_2 := Aside0.mk hl266_2
            clear hi266_2 hl266_2
            replace p266 := eq_true p266
            replace q266 := eq_true q266
            have ea_ := Option.some.inj (hx264_2.symm.trans hx266_2)
            injection ea_ with ea_ en_ ec_
            subst ea_
            subst ec_
            clear en_
            go_wp2
            repeat (go_quiet (fail); try go_wp2)
            go_meet
            case rel => exact ⟨_, (true), (by first | rfl | (simp; done) | (simp [*]; done)), H', ⟨by have := HJ3.out; have := HK2.out; first | omega | exact Nat.le_refl _⟩, ⟨by (with_reducible repeat (first | apply Kd.S_alloc | apply Kd.S_drewN | apply Kd.S_drew)); exact HO_3.out⟩, ⟨by (with_reducible repeat (first | apply Kd.S_alloc | apply Kd.S_drewN | apply Kd.S_drew)); exact HO_6.out⟩, ⟨by repeat (first | (with_reducible first | exact HB.out | apply below_alloc | apply pw_below_drewN | apply below_drew1) | exact HB.out)⟩⟩
          ·rw [if_neg c17] at H
           have c17b0 : (((rd_T28 t253 x9_2).f0) == ((rd_T28 t258 x9_2).f0)) = false := beq_eq_false_iff_ne.mpr c17
           have c17b1 : (((rd_T28 t253 x9_2).f0) != ((rd_T28 t258 x9_2).f0)) = true := bne_iff_ne.mpr c17
           have H' := Aside0.mk H
           clear H
           have p263 : 0 ≤ (x9_2 : Int) := of_decide_eq_true (by first | (with_reducible assumption) | assumption)
           have q263 : x9_2 < (t253.length : Int) := of_decide_eq_true (by first | (with_reducible assumption) | assumption)
           obtain ⟨ad263, A263_2, c263_2, e263, hx263_0, hx263_1, hx263_2, hl263_2, hi263_2⟩ := at_T28 (Kd.S_reads' HO_3.out).2.2 x9_2 p263 q263
           cases e263
           obtain ⟨ce263, hce263, hMe263, hcc263⟩ := Kd.S_get HO_3.out z28 x9_2 p263 (by first | exact q263 | exact of_decide_eq_true (by first | (with_reducible assumption) | assumption) | (have e_ := (Kd.S_reads' HO_3.out).1; omega))
           obtain ⟨ve263_2, rfl, ge263_2⟩ := k28_openM hMe263
           have hv263_2 := hcc263 2 _ rfl
           rw [add_field _ _ 2 (by omega)] at hv263_2
           replace hv263_2 := Option.some.inj (hv263_2.symm.trans hx263_2)
           rw [hv263_2] at ge263_2
           have HL263_2 := Aside0.mk (show Kd.R Kd.string 9 _ _ _ _ ((rd_T28 t253 x9_2).f2) from ge263_2)
           clear hv263_2 ge263_2
           clear hcc263 hce263
           have HR263_2 := Aside0.mk hi263_2
           have HC263_2 := Aside0.mk hl263_2
           clear hi263_2 hl263_2
           replace p263 := eq_true p263
           replace q263 := eq_true q263
           obtain ⟨Ao21, co21, eo21⟩ := Kd.S_slice HO_6.out
           subst eo21
           have p264 : 0 ≤ (x9_2 : Int) := of_decide_eq_true (by first | (with_reducible assumption) | assumption)
           have q264 : x9_2 < (t258.length : Int) := of_decide_eq_true (by first | (with_reducible assumption) | assumption)
           obtain ⟨ad264, A264_2, c264_2, e264, hx264_0, hx264_1, hx264_2, hl264_2, hi264_2⟩ := at_T28 (Kd.S_reads' HO_6.out).2.2 x9_2 p264 q264
           cases e264
           obtain ⟨ce264, hce264, hMe264, hcc264⟩ := Kd.S_get HO_6.out z28 x9_2 p264 (by first | exact q264 | exact of_decide_eq_true (by first | (with_reducible assumption) | assumption) | (have e_ := (Kd.S_reads' HO_6.out).1; omega))
           obtain ⟨ve264_2, rfl, ge264_2⟩ := k28_openM hMe264
           have hv264_2 := hcc264 2 _ rfl
           rw [add_field _ _ 2 (by omega)] at hv264_2
           replace hv264_2 := Option.some.inj (hv264_2.symm.trans hx264_2)
           rw [hv264_2] at ge264_2
           have HL264_2 := Aside0.mk (show Kd.R Kd.string 9 _ _ _ _ ((rd_T28 t258 x9_2).f2) from ge264_2)
           clear hv264_2 ge264_2
           clear hcc264 hce264
           have HR264_2 := Aside0.mk hi264_2
           have HC264_2 := Aside0.mk hl264_2
           clear hi264_2 hl264_2
           replace p264 := eq_true p264
           replace q264 := eq_true q264
           go_wp2
           repeat (go_quiet (fail); try go_wp2)
           go_meet
           case rel => exact ⟨_, (true), (by first | rfl | (simp; done) | (simp [*]; done)), H', ⟨by have := HJ3.out; have := HK2.out; first | omega | exact Nat.le_refl _⟩, ⟨by (with_reducible repeat (first | apply Kd.S_alloc | apply Kd.S_drewN | apply Kd.S_drew)); exact HO_3.out⟩, ⟨by (with_reducible repeat (first | apply Kd.S_alloc | apply Kd.S_drewN | apply Kd.S_drew)); exact HO_6.out⟩, ⟨by repeat (first | (with_reducible first | exact HB.out | apply below_alloc | apply pw_below_drewN | apply below_drew1) | exact HB.out)⟩⟩
         ·rw [if_neg c16] at H
          exact absurd H (by simp)
        ·rw [if_neg c15] at H
         exact absurd H (by simp)
       case rest =>
        clear HC13
        try clear c1
        try clear c2
        try clear p2
        try clear q2
        try clear hx2
        try clear c3
        try clear c7
        try clear c7b0
        try clear c7b1
        try clear c8
        try clear c8b0
        try clear c8b1
        try clear c11
        try clear c12
        try clear c12b0
        try clear c15
        try clear c15b0
        try clear c16
        try clear c16b0
        try clear c17
        try clear c17b0
        try clear c17b1
        try clear c18
        try clear c18b0
        try clear c18b1
        try clear hx263_0
        try clear hx263_1
        try clear hx263_2
        try clear hx264_0
        try clear hx264_1
        try clear hx264_2
        try clear hx265_0
        try clear hx265_1
        try clear hx265_2
        try clear hx266_0
        try clear hx266_1
        try clear hx266_2
        try clear hx267_0
        try clear hx267_1
        try clear hx267_2
        try clear hx268_0
        try clear hx268_1
        try clear hx268_2
        try clear p2
        try clear p263
        try clear p264
        try clear p265
        try clear p266
        try clear p267
        try clear p268
        try clear q263
        try clear q264
        try clear q265
        try clear q266
        try clear q267
        try clear q268
        obtain ⟨kq, x82_12, rfl, HA, HJ12, HO_3, HO_6, HB⟩ := hcut
        cases kq with
        | zero => exact absurd HA.out (by simp [espalierlaw30_ShellParses.j2])
        | succ kj12 =>
         have H := HA.out
         clear HA
         simp only [espalierlaw30_ShellParses.j2] at H
         by_cases c22 : x82_12 = true
         ·subst c22
          have H1 : (some false) = some r := by rw [if_pos rfl] at H; exact H
          clear H
          have H := H1
          clear H1
          obtain rfl := Option.some.inj H
          go_wp2
          repeat (go_quiet (fail); try go_wp2)
          go_ret
          exact ⟨er_, by repeat (first | (with_reducible first | exact HB.out | apply below_alloc | apply pw_below_drewN | apply below_drew1) | exact HB.out)⟩
         ·replace c22 := Bool.eq_false_iff.mpr c22
          subst c22
          have H1 : (espalierlaw30_ShellParses.l1 kj12 t253 t258 x9_2 0) = some r := by rw [if_neg (show ¬ (false = true) by decide)] at H; exact H
          clear H
          have H := H1
          clear H1
          have H' := Aside0.mk H
          clear H
          go_wp2
          repeat (go_quiet (fail); try go_wp2)
          go_loopg [10] kj12 (fun kq v10 w' => ∃ (x10_4 : Int), v10 = .int .i64 x10_4 ∧ Aside0 (espalierlaw30_ShellParses.l1 kq t253 t258 x9_2 x10_4 = some r) ∧ Aside0 (kq ≤ kj12) ∧ Aside0 (Kd.S k28 28 w' w.heap.size (fun k_ => some k_ ≠ (v261 : Value).ownBlock) (.slice Ao14 t253.length co14) t253) ∧ Aside0 (Kd.S k28 28 w' w.heap.size (fun k_ => some k_ ≠ ((.slice Ao14 t253.length co14) : Value).ownBlock) v261 t258) ∧ Aside0 (Below w.heap.size w w'))
          case atStart => exact ⟨(0), (by first | rfl | (simp; done) | (simp [*]; done)), H', ⟨Nat.le_refl _⟩, ⟨by (with_reducible repeat (first | apply Kd.S_alloc | apply Kd.S_drewN | apply Kd.S_drew)); exact HO_3.out⟩, ⟨by (with_reducible repeat (first | apply Kd.S_alloc | apply Kd.S_drewN | apply Kd.S_drew)); exact HO_6.out⟩, ⟨by repeat (first | (with_reducible first | exact HB.out | apply below_alloc | apply pw_below_drewN | apply below_drew1) | exact HB.out)⟩⟩
          case round =>
           clear H'
           try clear c1
           try clear c2
           try clear p2
           try clear q2
           try clear hx2
           try clear c3
           try clear c7
           try clear c7b0
           try clear c7b1
           try clear c8
           try clear c8b0
           try clear c8b1
           try clear c11
           try clear c12
           try clear c12b0
           try clear c15
           try clear c15b0
           try clear c16
           try clear c16b0
           try clear c17
           try clear c17b0
           try clear c17b1
           try clear c18
           try clear c18b0
           try clear c18b1
           try clear c22
           try clear hx263_0
           try clear hx263_1
           try clear hx263_2
           try clear hx264_0
           try clear hx264_1
           try clear hx264_2
           try clear hx265_0
           try clear hx265_1
           try clear hx265_2
           try clear hx266_0
           try clear hx266_1
           try clear hx266_2
           try clear hx267_0
           try clear hx267_1
           try clear hx267_2
           try clear hx268_0
           try clear hx268_1
           try clear hx268_2
           try clear p2
           try clear p263
           try clear p264
           try clear p265
           try clear p266
           try clear p267
           try clear p268
           try clear q2
           try clear q263
           try clear q264
           try clear q265
           try clear q266
           try clear q267
           try clear q268
           obtain ⟨x10_4, rfl, HA, HK4, HO_3, HO_6, HB⟩ := hrel
           cases gk with
           | zero => exact absurd HA.out (by simp [espalierlaw30_ShellParses.l1])
           | succ k4 =>
            have H := HA.out
            clear HA
            simp only [espalierlaw30_ShellParses.l1] at H
            by_cases c23 : 0 ≤ x9_2
            ·rw [if_pos c23] at H
             have c23b0 : decide (0 ≤ x9_2) = true := decide_eq_true c23
             clear c23
             by_cases c24 : x9_2 < (t258.length : Int)
             ·rw [if_pos c24] at H
              have c24b0 : decide (x9_2 < (t258.length : Int)) = true := decide_eq_true c24
              clear c24
              by_cases c25 : x10_4 < (((rd_T28 t258 x9_2).f2).length : Int)
              ·rw [if_pos c25] at H
               have c25b0 : decide (x10_4 < (((rd_T28 t258 x9_2).f2).length : Int)) = true := decide_eq_true c25
               clear c25
               by_cases c26 : x9_2 < (t253.length : Int)
               ·rw [if_pos c26] at H
                have c26b0 : decide (x9_2 < (t253.length : Int)) = true := decide_eq_true c26
                clear c26
                by_cases c27 : 0 ≤ x10_4
                ·rw [if_pos c27] at H
                 have c27b0 : decide (0 ≤ x10_4) = true := decide_eq_true c27
                 clear c27
                 by_cases c28 : x10_4 < (((rd_T28 t253 x9_2).f2).length : Int)
                 ·rw [if_pos c28] at H
                  have c28b0 : decide (x10_4 < (((rd_T28 t253 x9_2).f2).length : Int)) = true := decide_eq_true c28
                  clear c28
                  by_cases c29 : (rdOf ByteArray.empty ((rd_T28 t253 x9_2).f2) x10_4).toList = (rdOf ByteArray.empty ((rd_T28 t258 x9_2).f2) x10_4).toList
                  ·rw [if_pos c29] at H
                   have c29b0 : ((rdOf ByteArray.empty ((rd_T28 t253 x9_2).f2) x10_4).toList == (rdOf ByteArray.empty ((rd_T28 t258 x9_2).f2) x10_4).toList) = true := beq_iff_eq.mpr c29
                   have c29b1 : ((rdOf ByteArray.empty ((rd_T28 t253 x9_2).f2) x10_4).toList != (rdOf ByteArray.empty ((rd_T28 t258 x9_2).f2) x10_4).toList) = false := bne_eq_false_iff_eq.mpr c29
                   clear c29
                   have H' := Aside0.mk H
                   clear H
                   obtain ⟨Ao30, co30, eo30⟩ := Kd.S_slice HO_6.out
                   subst eo30
                   have p269 : 0 ≤ (x9_2 : Int) := of_decide_eq_true (by first | (with_reducible assumption) | assumption)
                   have q269 : x9_2 < (t258.length : Int) := of_decide_eq_true (by first | (with_reducible assumption) | assumption)
                   obtain ⟨ad269, A269_2, c269_2, e269, hx269_0, hx269_1, hx269_2, hl269_2, hi269_2⟩ := at_T28 (Kd.S_reads' HO_6.out).2.2 x9_2 p269 q269
                   cases e269
                   obtain ⟨ce269, hce269, hMe269, hcc269⟩ := Kd.S_get HO_6.out z28 x9_2 p269 (by first | exact q269 | exact of_decide_eq_true (by first | (with_reducible assumption) | assumption) | (have e_ := (Kd.S_reads' HO_6.out).1; omega))
                   obtain ⟨ve269_2, rfl, ge269_2⟩ := k28_openM hMe269
                   have hv269_2 := hcc269 2 _ rfl
                   rw [add_field _ _ 2 (by omega)] at hv269_2
                   replace hv269_2 := Option.some.inj (hv269_2.symm.trans hx269_2)
                   rw [hv269_2] at ge269_2
                   have HL269_2 := Aside0.mk (show Kd.R Kd.string 9 _ _ _ _ ((rd_T28 t258 x9_2).f2) from ge269_2)
                   clear hv269_2 ge269_2
                   clear hcc269 hce269
                   have HR269_2 := Aside0.mk hi269_2
                   have HC269_2 := Aside0.mk hl269_2
                   clear hi269_2 hl269_2
                   replace p269 := eq_true p269
                   replace q269 := eq_true q269
                   have p270 : 0 ≤ (x9_2 : Int) := of_decide_eq_true (by first | (with_reducible assumption) | assumption)
                   have q270 : x9_2 < (t253.length : Int) := of_decide_eq_true (by first | (with_reducible assumption) | assumption)
                   obtain ⟨ad270, A270_2, c270_2, e270, hx270_0, hx270_1, hx270_2, hl270_2, hi270_2⟩ := at_T28 (Kd.S_reads' HO_3.out).2.2 x9_2 p270 q270
                   cases e270
                   obtain ⟨ce270, hce270, hMe270, hcc270⟩ := Kd.S_get HO_3.out z28 x9_2 p270 (by first | exact q270 | exact of_decide_eq_true (by first | (with_reducible assumption) | assumption) | (have e_ := (Kd.S_reads' HO_3.out).1; omega))
                   obtain ⟨ve270_2, rfl, ge270_2⟩ := k28_openM hMe270
                   have hv270_2 := hcc270 2 _ rfl
                   rw [add_field _ _ 2 (by omega)] at hv270_2
                   replace hv270_2 := Option.some.inj (hv270_2.symm.trans hx270_2)
                   rw [hv270_2] at ge270_2
                   have HL270_2 := Aside0.mk (show Kd.R Kd.string 9 _ _ _ _ ((rd_T28 t253 x9_2).f2) from ge270_2)
                   clear hv270_2 ge270_2
                   clear hcc270 hce270
                   have HR270_2 := Aside0.mk hi270_2
                   have HC270_2 := Aside0.mk hl270_2
                   clear hi270_2 hl270_2
                   replace p270 := eq_true p270
                   replace q270 := eq_true q270
                   have p271 : 0 ≤ (x10_4 : Int) := of_decide_eq_true (by first | (with_reducible assumption) | assumption)
                   have q271 : x10_4 < (((rd_T28 t253 x9_2).f2).length : Int) := of_decide_eq_true (by first | (with_reducible assumption) | assumption)
                   obtain ⟨ad271, e271, hx271_0⟩ := Kd.at_string (by repeat (first | (with_reducible exact HR270_2.out) | (with_reducible refine Kd.C_alloc ?_ _) | (with_reducible refine Kd.C_drewN ?_ _) | (with_reducible refine Kd.C_drew ?_) | exact HR270_2.out)) x10_4 p271 q271
                   cases e271
                   replace p271 := eq_true p271
                   replace q271 := eq_true q271
                   have p272 : 0 ≤ (x9_2 : Int) := of_decide_eq_true (by first | (with_reducible assumption) | assumption)
                   have q272 : x9_2 < (t258.length : Int) := of_decide_eq_true (by first | (with_reducible assumption) | assumption)
                   obtain ⟨ad272, A272_2, c272_2, e272, hx272_0, hx272_1, hx272_2, hl272_2, hi272_2⟩ := at_T28 (Kd.S_reads' HO_6.out).2.2 x9_2 p272 q272
                   obtain rfl : ad269 = ad272 := (by injection e272)
                   obtain ⟨ce272, hce272, hMe272, hcc272⟩ := Kd.S_get HO_6.out z28 x9_2 p272 (by first | exact q272 | exact of_decide_eq_true (by first | (with_reducible assumption) | assumption) | (have e_ := (Kd.S_reads' HO_6.out).1; omega))
                   obtain ⟨ve272_2, rfl, ge272_2⟩ := k28_openM hMe272
                   have hv272_2 := hcc272 2 _ rfl
                   rw [add_field _ _ 2 (by omega)] at hv272_2
                   replace hv272_2 := Option.some.inj (hv272_2.symm.trans hx272_2)
                   rw [hv272_2] at ge272_2
                   have HL272_2 := Aside0.mk (show Kd.R Kd.string 9 _ _ _ _ ((rd_T28 t258 x9_2).f2) from ge272_2)
                   clear hv272_2 ge272_2
                   clear hcc272 hce272
                   have HR272_2 := Aside0.mk hi272_2
                   have HC272_2 := Aside0.mk hl272_2
                   clear hi272_2 hl272_2
                   replace p272 := eq_true p272
                   replace q272 := eq_true q272
                   have ea_ := Option.some.inj (hx269_2.symm.trans hx272_2)
                   injection ea_ with ea_ en_ ec_
                   subst ea_
                   subst ec_
                   clear en_
                   have p273 : 0 ≤ (x10_4 : Int) := of_decide_eq_true (by first | (with_reducible assumption) | assumption)
                   have q273 : x10_4 < (((rd_T28 t258 x9_2).f2).length : Int) := of_decide_eq_true (by first | (with_reducible assumption) | assumption)
                   obtain ⟨ad273, e273, hx273_0⟩ := Kd.at_string (by repeat (first | (with_reducible exact HR272_2.out) | (with_reducible refine Kd.C_alloc ?_ _) | (with_reducible refine Kd.C_drewN ?_ _) | (with_reducible refine Kd.C_drew ?_) | exact HR272_2.out)) x10_4 p273 q273
                   cases e273
                   replace p273 := eq_true p273
                   replace q273 := eq_true q273
                   go_wp2
                   repeat (go_quiet (fail); try go_wp2)
                   go_roundg k4
                   case measure => have := HJ3.out; have := HK2.out; have := HJ12.out; have := HK4.out; omega
                   case rel => exact ⟨(wrap64 (x10_4 + 1)), (by first | rfl | (simp; done) | (simp [*]; done)), H', ⟨by have := HJ3.out; have := HK2.out; have := HJ12.out; have := HK4.out; omega⟩, ⟨by (with_reducible repeat (first | apply Kd.S_alloc | apply Kd.S_drewN | apply Kd.S_drew)); exact HO_3.out⟩, ⟨by (with_reducible repeat (first | apply Kd.S_alloc | apply Kd.S_drewN | apply Kd.S_drew)); exact HO_6.out⟩, ⟨by repeat (first | (with_reducible first | exact HB.out | apply below_alloc | apply pw_below_drewN | apply below_drew1) | exact HB.out)⟩⟩
                  ·rw [if_neg c29] at H
                   have c29b0 : ((rdOf ByteArray.empty ((rd_T28 t253 x9_2).f2) x10_4).toList == (rdOf ByteArray.empty ((rd_T28 t258 x9_2).f2) x10_4).toList) = false := beq_eq_false_iff_ne.mpr c29
                   have c29b1 : ((rdOf ByteArray.empty ((rd_T28 t253 x9_2).f2) x10_4).toList != (rdOf ByteArray.empty ((rd_T28 t258 x9_2).f2) x10_4).toList) = true := bne_iff_ne.mpr c29
                   obtain rfl := Option.some.inj H
                   obtain ⟨Ao31, co31, eo31⟩ := Kd.S_slice HO_6.out
                   subst eo31
                   have p269 : 0 ≤ (x9_2 : Int) := of_decide_eq_true (by first | (with_reducible assumption) | assumption)
                   have q269 : x9_2 < (t258.length : Int) := of_decide_eq_true (by first | (with_reducible assumption) | assumption)
                   obtain ⟨ad269, A269_2, c269_2, e269, hx269_0, hx269_1, hx269_2, hl269_2, hi269_2⟩ := at_T28 (Kd.S_reads' HO_6.out).2.2 x9_2 p269 q269
                   cases e269
                   obtain ⟨ce269, hce269, hMe269, hcc269⟩ := Kd.S_get HO_6.out z28 x9_2 p269 (by first | exact q269 | exact of_decide_eq_true (by first | (with_reducible assumption) | assumption) | (have e_ := (Kd.S_reads' HO_6.out).1; omega))
                   obtain ⟨ve269_2, rfl, ge269_2⟩ := k28_openM hMe269
                   have hv269_2 := hcc269 2 _ rfl
                   rw [add_field _ _ 2 (by omega)] at hv269_2
                   replace hv269_2 := Option.some.inj (hv269_2.symm.trans hx269_2)
                   rw [hv269_2] at ge269_2
                   have HL269_2 := Aside0.mk (show Kd.R Kd.string 9 _ _ _ _ ((rd_T28 t258 x9_2).f2) from ge269_2)
                   clear hv269_2 ge269_2
                   clear hcc269 hce269
                   have HR269_2 := Aside0.mk hi269_2
                   have HC269_2 := Aside0.mk hl269_2
                   clear hi269_2 hl269_2
                   replace p269 := eq_true p269
                   replace q269 := eq_true q269
                   have p270 : 0 ≤ (x9_2 : Int) := of_decide_eq_true (by first | (with_reducible assumption) | assumption)
                   have q270 : x9_2 < (t253.length : Int) := of_decide_eq_true (by first | (with_reducible assumption) | assumption)
                   obtain ⟨ad270, A270_2, c270_2, e270, hx270_0, hx270_1, hx270_2, hl270_2, hi270_2⟩ := at_T28 (Kd.S_reads' HO_3.out).2.2 x9_2 p270 q270
                   cases e270
                   obtain ⟨ce270, hce270, hMe270, hcc270⟩ := Kd.S_get HO_3.out z28 x9_2 p270 (by first | exact q270 | exact of_decide_eq_true (by first | (with_reducible assumption) | assumption) | (have e_ := (Kd.S_reads' HO_3.out).1; omega))
                   obtain ⟨ve270_2, rfl, ge270_2⟩ := k28_openM hMe270
                   have hv270_2 := hcc270 2 _ rfl
                   rw [add_field _ _ 2 (by omega)] at hv270_2
                   replace hv270_2 := Option.some.inj (hv270_2.symm.trans hx270_2)
                   rw [hv270_2] at ge270_2
                   have HL270_2 := Aside0.mk (show Kd.R Kd.string 9 _ _ _ _ ((rd_T28 t253 x9_2).f2) from ge270_2)
                   clear hv270_2 ge270_2
                   clear hcc270 hce270
                   have HR270_2 := Aside0.mk hi270_2
                   have HC270_2 := Aside0.mk hl270_2
                   clear hi270_2 hl270_2
                   replace p270 := eq_true p270
                   replace q270 := eq_true q270
                   have p271 : 0 ≤ (x10_4 : Int) := of_decide_eq_true (by first | (with_reducible assumption) | assumption)
                   have q271 : x10_4 < (((rd_T28 t253 x9_2).f2).length : Int) := of_decide_eq_true (by first | (with_reducible assumption) | assumption)
                   obtain ⟨ad271, e271, hx271_0⟩ := Kd.at_string (by repeat (first | (with_reducible exact HR270_2.out) | (with_reducible refine Kd.C_alloc ?_ _) | (with_reducible refine Kd.C_drewN ?_ _) | (with_reducible refine Kd.C_drew ?_) | exact HR270_2.out)) x10_4 p271 q271
                   cases e271
                   replace p271 := eq_true p271
                   replace q271 := eq_true q271
                   have p272 : 0 ≤ (x9_2 : Int) := of_decide_eq_true (by first | (with_reducible assumption) | assumption)
                   have q272 : x9_2 < (t258.length : Int) := of_decide_eq_true (by first | (with_reducible assumption) | assumption)
                   obtain ⟨ad272, A272_2, c272_2, e272, hx272_0, hx272_1, hx272_2, hl272_2, hi272_2⟩ := at_T28 (Kd.S_reads' HO_6.out).2.2 x9_2 p272 q272
                   obtain rfl : ad269 = ad272 := (by injection e272)
                   obtain ⟨ce272, hce272, hMe272, hcc272⟩ := Kd.S_get HO_6.out z28 x9_2 p272 (by first | exact q272 | exact of_decide_eq_true (by first | (with_reducible assumption) | assumption) | (have e_ := (Kd.S_reads' HO_6.out).1; omega))
                   obtain ⟨ve272_2, rfl, ge272_2⟩ := k28_openM hMe272
                   have hv272_2 := hcc272 2 _ rfl
                   rw [add_field _ _ 2 (by omega)] at hv272_2
                   replace hv272_2 := Option.some.inj (hv272_2.symm.trans hx272_2)
                   rw [hv272_2] at ge272_2
                   have HL272_2 := Aside0.mk (show Kd.R Kd.string 9 _ _ _ _ ((rd_T28 t258 x9_2).f2) from ge272_2)
                   clear hv272_2 ge272_2
                   clear hcc272 hce272
                   have HR272_2 := Aside0.mk hi272_2
                   have HC272_2 := Aside0.mk hl272_2
                   clear hi272_2 hl272_2
                   replace p272 := eq_true p272
                   replace q272 := eq_true q272
                   have ea_ := Option.some.inj (hx269_2.symm.trans hx272_2)
                   injection ea_ with ea_ en_ ec_
                   subst ea_
                   subst ec_
                   clear en_
                   have p273 : 0 ≤ (x10_4 : Int) := of_decide_eq_true (by first | (with_reducible assumption) | assumption)
                   have q273 : x10_4 < (((rd_T28 t258 x9_2).f2).length : Int) := of_decide_eq_true (by first | (with_reducible assumption) | assumption)
                   obtain ⟨ad273, e273, hx273_0⟩ := Kd.at_string (by repeat (first | (with_reducible exact HR272_2.out) | (with_reducible refine Kd.C_alloc ?_ _) | (with_reducible refine Kd.C_drewN ?_ _) | (with_reducible refine Kd.C_drew ?_) | exact HR272_2.out)) x10_4 p273 q273
                   cases e273
                   replace p273 := eq_true p273
                   replace q273 := eq_true q273
                   go_wp2
                   repeat (go_quiet (fail); try go_wp2)
                   go_ret
                   exact ⟨er_, by repeat (first | (with_reducible first | exact HB.out | apply below_alloc | apply pw_below_drewN | apply below_drew1) | exact HB.out)⟩
                 ·rw [if_neg c28] at H
                  exact absurd H (by simp)
                ·rw [if_neg c27] at H
                 exact absurd H (by simp)
               ·rw [if_neg c26] at H
                exact absurd H (by simp)
              ·rw [if_neg c25] at H
               have c25b0 : decide (x10_4 < (((rd_T28 t258 x9_2).f2).length : Int)) = false := decide_eq_false c25
               clear c25
               have H' := Aside0.mk H
               clear H
               obtain ⟨Ao32, co32, eo32⟩ := Kd.S_slice HO_6.out
               subst eo32
               have p269 : 0 ≤ (x9_2 : Int) := of_decide_eq_true (by first | (with_reducible assumption) | assumption)
               have q269 : x9_2 < (t258.length : Int) := of_decide_eq_true (by first | (with_reducible assumption) | assumption)
               obtain ⟨ad269, A269_2, c269_2, e269, hx269_0, hx269_1, hx269_2, hl269_2, hi269_2⟩ := at_T28 (Kd.S_reads' HO_6.out).2.2 x9_2 p269 q269
               cases e269
               obtain ⟨ce269, hce269, hMe269, hcc269⟩ := Kd.S_get HO_6.out z28 x9_2 p269 (by first | exact q269 | exact of_decide_eq_true (by first | (with_reducible assumption) | assumption) | (have e_ := (Kd.S_reads' HO_6.out).1; omega))
               obtain ⟨ve269_2, rfl, ge269_2⟩ := k28_openM hMe269
               have hv269_2 := hcc269 2 _ rfl
               rw [add_field _ _ 2 (by omega)] at hv269_2
               replace hv269_2 := Option.some.inj (hv269_2.symm.trans hx269_2)
               rw [hv269_2] at ge269_2
               have HL269_2 := Aside0.mk (show Kd.R Kd.string 9 _ _ _ _ ((rd_T28 t258 x9_2).f2) from ge269_2)
               clear hv269_2 ge269_2
               clear hcc269 hce269
               have HR269_2 := Aside0.mk hi269_2
               have HC269_2 := Aside0.mk hl269_2
               clear hi269_2 hl269_2
               replace p269 := eq_true p269
               replace q269 := eq_true q269
               go_wp2
               repeat (go_quiet (fail); try go_wp2)
               go_roundg k4
               case measure => have := HJ3.out; have := HK2.out; have := HJ12.out; have := HK4.out; omega
               case rel => exact ⟨(wrap64 (x9_2 + 1)), (by first | rfl | (simp; done) | (simp [*]; done)), H', ⟨by have := HJ3.out; have := HK2.out; have := HJ12.out; have := HK4.out; omega⟩, ⟨by (with_reducible repeat (first | apply Kd.S_alloc | apply Kd.S_drewN | apply Kd.S_drew)); exact HO_3.out⟩, ⟨by (with_reducible repeat (first | apply Kd.S_alloc | apply Kd.S_drewN | apply Kd.S_drew)); exact HO_6.out⟩, ⟨by repeat (first | (with_reducible first | exact HB.out | apply below_alloc | apply pw_below_drewN | apply below_drew1) | exact HB.out)⟩⟩
             ·rw [if_neg c24] at H
              exact absurd H (by simp)
            ·rw [if_neg c23] at H
             exact absurd H (by simp)
      ·rw [if_neg c12] at H
       have c12b0 : decide (x9_2 < (t253.length : Int)) = false := decide_eq_false c12
       clear c12
       obtain rfl := Option.some.inj H
       obtain ⟨Ao33, co33, eo33⟩ := Kd.S_slice HO_3.out
       subst eo33
       go_wp2
       repeat (go_quiet (fail); try go_wp2)
       go_ret
       exact ⟨er_, by repeat (first | (with_reducible first | exact HB.out | apply below_alloc | apply pw_below_drewN | apply below_drew1) | exact HB.out)⟩

/-- THE ONE PURE STATEMENT of espalierlaw30_ShellParses: yours. -/
def espalierlaw30_ShellParses.Pure : Prop := ∀ (a0 : ByteArray), a0.size ≤ 140737488351232 → ∃ k, espalierlaw30_ShellParses.f k a0 = some true
theorem espalierlaw30_ShellParses.walk (P : espalierlaw30_ShellParses.Pure) (a0 : ByteArray) (w : World) (hG3 : Glob3 w) (w0 : a0.size ≤ 140737488351232) :
  Calls Tryd.prog 3 #[.string a0] w fun e w' => e = .returned (.bool true) ∧ Below w.heap.size w w' := by
 obtain ⟨k, h⟩ := P a0 w0
 refine (espalierlaw30_ShellParses.calls k a0 true w h).mono ?_
 rintro e w' ⟨rfl, hd⟩
 exact ⟨rfl, hd⟩

end Go.Proofs.YtggdffgoffmlpaaDoor.PA
