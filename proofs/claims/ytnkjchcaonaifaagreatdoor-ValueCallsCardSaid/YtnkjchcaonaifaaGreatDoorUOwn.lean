/- espalierlaw14's own: a value whose texts lie in memory of their own. Written by wip/gen/own14.py. -/
import Derived.Test.YtnkjchcaonaifaaGreatDoorPA0
import Derived.Laws.MakeOwn
import Derived.BigCall
import Derived.BigGuard
import Derived.Deep.QuietTactic
import Derived.BigQuiet
import Derived.Outline
namespace Go.Proofs.YtnkjchcaonaifaaGreatDoor.PA
open Go.RowKit Go.Proofs.YtnkjchcaonaifaaGreatDoorW.PrintWords Go.Proofs.YtnkjchcaonaifaaGreatDoorW.PrintLast Go.Proofs.YtnkjchcaonaifaaGreatDoorW.PrintMore
set_option linter.unusedVariables false
set_option linter.unusedSimpArgs false
def espalierlaw14_own.f (x0 : Int) (x1 : Bool) (x2 : Int) (x3 : Bool) (x4 : ByteArray) (l : List ByteArray) : Option (Int × Bool × Int × Bool × ByteArray × List ByteArray) :=
  if l.length ≤ 8796093022200 then some (x0, x1, x2, x3, x4, l) else none
set_option maxRecDepth 100000 in
theorem own_room (m : Nat) (hm : m ≤ 8796093022200) (W : World) :
    (Instr.makeSlice 26 (.int .i64 0) (.int .i64 (wrap64 ((m : Int) + 1)))).run Tryz.prog W = .ok (.slice (some ⟨W.heap.size, 0, none⟩) 0 (m + 1)) (W.alloc (.cells (madeCells #[.string ByteArray.empty] (m + 1)) 9)) := by
  obtain ⟨i0, hi, hzz⟩ := Option.map_eq_some_iff.1 (info9)
  simp only [Prod.mk.injEq] at hzz
  obtain ⟨hz0, hz1, hz2⟩ := hzz
  have hw : wrap64 ((m : Int) + 1) = ((m + 1 : Nat) : Int) := by unfold wrap64; omega
  have hr := run_make (P := Tryz.prog) W 26 9 i0 _ Tryz.underlying26 hi hz0 .i64 .i64 0 ((m + 1 : Nat) : Int) (by omega) (by omega) (by rw [hz2]; omega) (by omega)
  rw [hw, hr, hz1, Int.toNat_natCast, Nat.mul_one]
  rfl
theorem own_room_R (base : Nat) (W : World) (hb : base ≤ W.heap.size) (m : Nat) (hm : m ≤ 8796093022200) (ok : Nat → Prop) (hok : ∀ k, W.heap.size ≤ k → ok k) :
    Kd.R Kd.string 9 (W.alloc (.cells (madeCells #[.string ByteArray.empty] (m + 1)) 9)) base ok (.slice (some ⟨W.heap.size, 0, none⟩) 0 (m + 1)) ([] : List ByteArray) := by
  have h1 := own_made_of (enc := fun s : ByteArray => Value.string s) (d := ByteArray.empty) W base 9 (m + 1) hb (by omega)
  have h2 : Kd.R Kd.string 9 (W.alloc (.cells (madeCells #[.string ByteArray.empty] (m + 1)) 9)) base ok (.slice (some ⟨W.heap.size, 0, none⟩) (m + 1) (m + 1)) (List.replicate (m + 1) ByteArray.empty) :=
    Kd.R_of_own (by rw [List.length_replicate]; exact h1) (fun k hk => hok k (Nat.le_of_eq (by simpa [Value.ownBlock] using hk)))
  exact Kd.R_take h2 (m := 0) (Nat.zero_le _)
set_option maxHeartbeats 4000000 in
set_option maxRecDepth 1000000 in
theorem espalierlaw14_own.calls (x0 : Int) (x1 : Bool) (x2 : Int) (x3 : Bool) (x4 : ByteArray) (A : Option Addr) (c : Nat) (l : List ByteArray) (r1 : Int) (r2 : Bool) (r3 : Int) (r4 : Bool) (r5 : ByteArray) (r6 : List ByteArray) (w : World)
    (hr : Kd.C Kd.string w A l.length l) (hc : l.length ≤ c) (h : espalierlaw14_own.f x0 x1 x2 x3 x4 l = some (r1, r2, r3, r4, r5, r6)) :
    Calls Tryz.prog 4 #[.agg #[.int .i64 x0, .bool x1, .int .i64 x2, .bool x3, .string x4, .slice A l.length c]] w fun e w' => ∃ v, e = .returned (.agg #[.int .i64 r1, .bool r2, .int .i64 r3, .bool r4, .string r5, v]) ∧ Kd.R Kd.string 9 w' w.heap.size (fun _ => True) v r6 ∧ Below w.heap.size w w' := by
  unfold espalierlaw14_own.f at h
  by_cases hm : l.length ≤ 8796093022200
  case neg => rw [if_neg hm] at h; cases h
  rw [if_pos hm] at h
  simp only [Option.some.injEq, Prod.mk.injEq] at h
  obtain ⟨rfl, rfl, rfl, rfl, rfl, rfl⟩ := h
  have hmk := own_room l.length hm
  have huV := Tryz.underlying28
  have HR := Aside0.mk hr
  clear hr
  go_enter Tryz.func4, Tryz.ntmps4
  go_wp2_with (first
    | ((with_reducible refine gate_dst (N := 1) rfl ?_); refine box_event ?hg (N := 1) ?hd (cs := #[.int .i64 x0, .bool x1, .int .i64 x2, .bool x3, .string x4, .slice A l.length c]) (t := 28) ?hr ?_; (case hd => rfl); (case hg => rfl); (case hr => first | (go_simp; done) | (go_simp; rfl)); intro g1 hg1 w1 hxg1 hbg1; have HB := Aside0.mk hbg1; have B1 := Aside0.mk hxg1; have G1 := Aside0.mk (Nat.le_of_eq hg1.symm); clear hxg1 hbg1 hg1)
    | ((with_reducible refine gate_dst (N := 2) rfl ?_); refine box_event ?hg (N := 2) ?hd (cs := #[.int .i64 0, .bool false, .int .i64 0, .bool false, .string (⟨#[]⟩ : ByteArray), .slice none 0 0]) (t := 28) ?hr ?_; (case hd => rfl); (case hg => rfl); (case hr => first | (go_simp; done) | (go_simp; rfl)); intro g2 hg2 w2 hxg2 hbg2; have NE := Aside0.mk (show g1 ≠ g2 by have := blk_lt B1.out; omega); have G2 := Aside0.mk (show w.heap.size ≤ g2 by have := HB.out.size; omega); have HB0 := Aside0.mk (below_drew1 (below_step HB.out hbg2)); have B1' := Aside0.mk (blk_drew (blk_below B1.out hbg2)); have B2 := Aside0.mk (blk_drew hxg2); clear HB B1 hxg2 hbg2 hg2; have HB := HB0; have B1 := B1'; clear B1'))
  refine start_ (n := 10) (S := fun w' => w'.cell? ⟨g1, 5, none⟩ = some (.slice A l.length c)) (ds := [9]) #[false, false, false, false, false, false, false, false, false, false] (by kernel_rfl) rfl rfl ((blk_cell B1.out 5).trans rfl) (fun hHeld => ?_)
  refine pure_ (i := 0) (N := some 3) (v := ?_) (a' := ?_) #[true, false, false, false, false, false, false, false, false, false] rfl rfl (by kernel_rfl) (fun _ _ _ h => h) (Or.inl ⟨by rfl, ?_⟩) ?_ ?_
  rotate_left
  · intro w'
    go_simp
    with_reducible rfl
  rotate_left
  · simp only [Act.put, List.setIfInBounds_toArray, List.set_cons_zero, List.set_cons_succ, i64_w, i32_w]
    rfl
  refine pure_ (i := 5) (N := some 8) (v := ?_) (a' := ?_) #[true, false, false, false, false, true, false, false, false, false] rfl rfl (by kernel_rfl) (fun _ _ _ h => h) (Or.inl ⟨by rfl, ?_⟩) ?_ ?_
  rotate_left
  · intro w'
    go_simp
    with_reducible rfl
  rotate_left
  · simp only [Act.put, List.setIfInBounds_toArray, List.set_cons_zero, List.set_cons_succ, i64_w, i32_w]
    rfl
  refine take_ (i := 1) (N := some 4) (v := ?_) (a' := ?_) #[true, true, false, false, false, true, false, false, false, false] rfl rfl (by kernel_rfl) (fun _ _ _ h => h) (Or.inl ⟨by rfl, ?_⟩) hHeld ?_ ?_
  rotate_left
  · intro w' s0
    go_simp
    with_reducible rfl
  rotate_left
  · simp only [Act.put, List.setIfInBounds_toArray, List.set_cons_zero, List.set_cons_succ, i64_w, i32_w]
    rfl
  refine pure_ (i := 2) (N := some 5) (v := ?_) (a' := ?_) #[true, true, true, false, false, true, false, false, false, false] rfl rfl (by kernel_rfl) (fun _ _ _ h => h) (Or.inl ⟨by rfl, ?_⟩) ?_ ?_
  rotate_left
  · intro w'
    go_simp
    with_reducible rfl
  rotate_left
  · simp only [Act.put, List.setIfInBounds_toArray, List.set_cons_zero, List.set_cons_succ, i64_w, i32_w]
    rfl
  refine pure_ (i := 3) (N := some 6) (v := ?_) (a' := ?_) #[true, true, true, true, false, true, false, false, false, false] rfl rfl (by kernel_rfl) (fun _ _ _ h => h) (Or.inl ⟨by rfl, ?_⟩) ?_ ?_
  rotate_left
  · intro w'
    go_simp
    with_reducible rfl
  rotate_left
  · simp only [Act.put, List.setIfInBounds_toArray, List.set_cons_zero, List.set_cons_succ, i64_w, i32_w]
    rfl
  refine take_ (i := 6) (N := some 9) (v := ?_) (a' := ?_) #[true, true, true, true, false, true, true, false, false, false] rfl rfl (by kernel_rfl) (fun _ _ _ h => h) (Or.inl ⟨by rfl, ?_⟩) hHeld ?_ ?_
  rotate_left
  · intro w' s0
    go_simp
    with_reducible rfl
  rotate_left
  · simp only [Act.put, List.setIfInBounds_toArray, List.set_cons_zero, List.set_cons_succ, i64_w, i32_w]
    rfl
  refine one_ (i := 4) (N := some 7) #[true, true, true, true, true, true, true, false, false, false] rfl rfl (by kernel_rfl) (by decide) (fun K hK => ?_)
  refine value_ (w1 := ?_) (v := ?_) (by rfl) rfl ?_ ?_
  rotate_left 2
  · go_simp
    constructor
    · rfl
    · rfl
  have HB3 := Aside0.mk (show Below w.heap.size w (w2.alloc (.cells (madeCells #[.string ByteArray.empty] (l.length + 1)) 9)).drew from below_alloc HB.out (.cells (madeCells #[.string ByteArray.empty] (l.length + 1)) 9))
  have B13 := Aside0.mk (show (w2.alloc (.cells (madeCells #[.string ByteArray.empty] (l.length + 1)) 9)).drew.heap[g1]? = _ from blk_below B1.out (below_alloc (Below.refl _ _) (.cells (madeCells #[.string ByteArray.empty] (l.length + 1)) 9)))
  have B23 := Aside0.mk (show (w2.alloc (.cells (madeCells #[.string ByteArray.empty] (l.length + 1)) 9)).drew.heap[g2]? = _ from blk_below B2.out (below_alloc (Below.refl _ _) (.cells (madeCells #[.string ByteArray.empty] (l.length + 1)) 9)))
  have L1 := blk_lt B1.out
  have L2 := blk_lt B2.out
  have HO := Aside0.mk (show Kd.R Kd.string 9 (w2.alloc (.cells (madeCells #[.string ByteArray.empty] (l.length + 1)) 9)).drew w.heap.size (fun k => k ≠ g1 ∧ k ≠ g2) _ _ from own_room_R w.heap.size w2.drew HB.out.size l.length hm (fun k => k ≠ g1 ∧ k ≠ g2) (fun k hk => ⟨by omega, by omega⟩))
  have HF := Aside0.mk (show ∀ k, (w2.alloc (.cells (madeCells #[.string ByteArray.empty] (l.length + 1)) 9)).drew.heap.size ≤ k → k ≠ g1 ∧ k ≠ g2 from fun k hk => by have h1 := blk_lt B13.out; have h2 := blk_lt B23.out; exact ⟨by omega, by omega⟩)
  have N1 := Aside0.mk (show some g1 ≠ some w2.drew.heap.size from fun e => by injection e with e; omega)
  have N2 := Aside0.mk (show some g2 ≠ some w2.drew.heap.size from fun e => by injection e with e; omega)
  clear L1 L2 B1 B2 HB HB0
  generalize hw3 : (w2.alloc (.cells (madeCells #[.string ByteArray.empty] (l.length + 1)) 9)).drew = w3 at *
  clear hw3 hmk
  refine hK.out _ _ ((blk_cell B13.out 5).trans rfl) (fun hHeld => ?_)
  clear hK K
  refine norm_ (a' := ?_) ?_ ?_
  rotate_left
  · show Act.put _ (some 7) _ = _
    simp only [Act.put, List.setIfInBounds_toArray, List.set_cons_zero, List.set_cons_succ, i64_w, i32_w]
    rfl
  refine one_ (i := 7) (N := some 10) #[true, true, true, true, true, true, true, true, false, false] rfl rfl (by kernel_rfl) (by decide) (fun K hK => ?_)
  refine Kd.R_append_rows_step Kd.string (w0 := w) (Rr := fun x cs => cs = [.string x]) w.heap.size (by rfl) (.tmp 7) (.tmp 9) 26 9 (.string ByteArray.empty) 16 rfl Tryz.underlying26 info9 rfl (by decide) (by decide) _ ([] : List ByteArray) l A l.length c (fun k => k ≠ g1 ∧ k ≠ g2) (fun _ => False) (by rfl) (by rfl) HO.out ?aR ?aK (fun k h => h.elim) HF.out HB3.out HB3.out.size (by simp only [List.length_nil]; omega) ?_
  case aR => exact Kd.C_below HR.out HB3.out
  case aK => intro x cs e; exact e
  intro v1 w5 hR hb hg hat
  rw [List.nil_append] at hR
  obtain ⟨Ao, co, rfl⟩ := Kd.R_slice hR
  have B15 := Aside0.mk (blk_grown B13.out hg N1.out)
  have B25 := Aside0.mk (blk_grown B23.out hg N2.out)
  have HR5 := Aside0.mk hR
  have HB5 := Aside0.mk hb
  have z5 := blk_frozen B15.out 5
  clear hR hb hg hat B13 B23 HO HF HB3
  refine hK.out _ _ ((blk_cell B15.out 5).trans rfl) (fun hHeld => ?_)
  clear hK K
  refine norm_ (a' := ?_) ?_ ?_
  rotate_left
  · show Act.put _ (some 10) _ = _
    simp only [Act.put, List.setIfInBounds_toArray, List.set_cons_zero, List.set_cons_succ, i64_w, i32_w]
    rfl
  refine pure_ (i := 8) (N := some 11) (v := ?_) (a' := ?_) #[true, true, true, true, true, true, true, true, true, false] rfl rfl (by kernel_rfl) (fun _ _ _ h => h) (Or.inl ⟨by rfl, ?_⟩) ?_ ?_
  rotate_left
  · intro w'
    go_simp
    with_reducible rfl
  rotate_left
  · simp only [Act.put, List.setIfInBounds_toArray, List.set_cons_zero, List.set_cons_succ, i64_w, i32_w]
    rfl
  refine last_ (i := 9) (N := none) #[true, true, true, true, true, true, true, true, true, true] rfl rfl (by kernel_rfl) (by decide) (fun K hK => ?_)
  refine skip_ (w1 := ?_) (by rfl) rfl ?_ ?_
  rotate_left
  · go_simp
    rfl
  refine hK.out _ _ ?_
  clear hK K
  refine done_ (by kernel_rfl) ?_

  have B16 := blk_put B15.out 5 (.slice Ao l.length co) rfl
  have B26 := blk_far B25.out (p := ⟨g1, 5, none⟩) NE.out.symm (.slice Ao l.length co)
  have HB6 := Aside0.mk (below_set (j := 5) (v := .slice Ao l.length co) HB5.out G1.out)
  have HR6 := Aside0.mk (Kd.R_far HR5.out (p := ⟨g1, 5, none⟩) (fun k hk => hk.1) (.slice Ao l.length co))
  generalize hw6 : w5.setCell ⟨g1, 5, none⟩ (.slice Ao l.length co) = w6 at *
  clear B15 B25 HR5 HB5 z5 hHeld hw6
  have c10 := (blk_cell B16 0).trans rfl
  have c11 := (blk_cell B16 1).trans rfl
  have c12 := (blk_cell B16 2).trans rfl
  have c13 := (blk_cell B16 3).trans rfl
  have c14 := (blk_cell B16 4).trans rfl
  have c15 := (blk_cell B16 5).trans rfl
  have c20 := (blk_cell B26 0).trans rfl
  have c21 := (blk_cell B26 1).trans rfl
  have c22 := (blk_cell B26 2).trans rfl
  have c23 := (blk_cell B26 3).trans rfl
  have c24 := (blk_cell B26 4).trans rfl
  have c25 := (blk_cell B26 5).trans rfl
  have f20 := blk_frozen B26 0
  have f21 := blk_frozen B26 1
  have f22 := blk_frozen B26 2
  have f23 := blk_frozen B26 3
  have f24 := blk_frozen B26 4
  have f25 := blk_frozen B26 5
  have B27 := (blk_put (cs := #[.int .i64 x0, .bool x1, .int .i64 x2, .bool x3, .string x4, .slice none 0 0]) (blk_put (cs := #[.int .i64 x0, .bool x1, .int .i64 x2, .bool x3, .string (⟨#[]⟩ : ByteArray), .slice none 0 0]) (blk_put (cs := #[.int .i64 x0, .bool x1, .int .i64 x2, .bool false, .string (⟨#[]⟩ : ByteArray), .slice none 0 0]) (blk_put (cs := #[.int .i64 x0, .bool x1, .int .i64 0, .bool false, .string (⟨#[]⟩ : ByteArray), .slice none 0 0]) (blk_put (cs := #[.int .i64 x0, .bool false, .int .i64 0, .bool false, .string (⟨#[]⟩ : ByteArray), .slice none 0 0]) (blk_put (cs := #[.int .i64 0, .bool false, .int .i64 0, .bool false, .string (⟨#[]⟩ : ByteArray), .slice none 0 0]) B26 0 (.int .i64 x0) rfl) 1 (.bool x1) rfl) 2 (.int .i64 x2) rfl) 3 (.bool x3) rfl) 4 (.string x4) rfl) 5 (.slice Ao l.length co) rfl)
  have HR7 := Kd.R_mono (Kd.R_far (Kd.R_far (Kd.R_far (Kd.R_far (Kd.R_far (Kd.R_far HR6.out (p := ⟨g2, 0, none⟩) (fun k hk => hk.2) (.int .i64 x0)) (p := ⟨g2, 1, none⟩) (fun k hk => hk.2) (.bool x1)) (p := ⟨g2, 2, none⟩) (fun k hk => hk.2) (.int .i64 x2)) (p := ⟨g2, 3, none⟩) (fun k hk => hk.2) (.bool x3)) (p := ⟨g2, 4, none⟩) (fun k hk => hk.2) (.string x4)) (p := ⟨g2, 5, none⟩) (fun k hk => hk.2) (.slice Ao l.length co)) (ok' := fun _ => True) (fun _ _ => trivial)
  have HB7 := (below_set (j := 5) (v := .slice Ao l.length co) (below_set (j := 4) (v := .string x4) (below_set (j := 3) (v := .bool x3) (below_set (j := 2) (v := .int .i64 x2) (below_set (j := 1) (v := .bool x1) (below_set (j := 0) (v := .int .i64 x0) HB6.out G2.out) G2.out) G2.out) G2.out) G2.out) G2.out)
  go_wp2
  refine bodyPost_ret (results_cell_row rfl _ _ g2 28 _ (0, 0) _ rfl B27 huV rfl (by kernel_rfl)) rfl ?_
  exact ⟨_, rfl, HR7, HB7⟩
end Go.Proofs.YtnkjchcaonaifaaGreatDoor.PA
