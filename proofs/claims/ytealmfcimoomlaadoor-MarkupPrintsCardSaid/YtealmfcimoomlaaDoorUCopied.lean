/- espalierlaw04.Copied. Written by wip/gen/copied.py. -/
import Derived.Test.YtealmfcimoomlaaDoorUWtree
import Derived.Laws.MakeOwn
import Derived.BigCall
import Derived.BigGuard
import Derived.Deep.QuietTactic
import Derived.BigQuiet
import Derived.Outline
namespace Go.Proofs.YtealmfcimoomlaaDoor.PA
open Go.RowKit Go.Proofs.YtealmfcimoomlaaDoorW.PrintWords Go.Proofs.YtealmfcimoomlaaDoorW.PrintLast Go.Proofs.YtealmfcimoomlaaDoorW.PrintMore
set_option linter.unusedVariables false
set_option linter.unusedSimpArgs false
mutual
def copyT : S36 → Prop
  | ⟨_, _, f2, _, f4⟩ => f2.length ≤ 4398046511000 ∧ f4.length ≤ 1599289640390 ∧ copyK f4
def copyK : List S36 → Prop
  | [] => True
  | t :: l => copyT t ∧ copyK l
end
theorem copyK_mem : ∀ (l : List S36), copyK l → ∀ a ∈ l, copyT a
  | [], _, a, ha => by cases ha
  | t :: l, h, a, ha => by
    rw [copyK] at h
    rcases List.mem_cons.1 ha with rfl | ha
    · exact h.1
    · exact copyK_mem l h.2 a ha
theorem copyT_parts (a : S36) (h : copyT a) : a.f2.length ≤ 4398046511000 ∧ a.f4.length ≤ 1599289640390 ∧ copyK a.f4 := by
  cases a; rw [copyT] at h; exact h
theorem room_R {α : Type} (d : Kd α) (e : TypeId) (base : Nat) (W : World) (hb : base ≤ W.heap.size) (z : Array Value) (cap : Nat) (hc : cap ≤ maxLen) (ok : Nat → Prop) (hok : ∀ k, W.heap.size ≤ k → ok k) :
    Kd.R d e (W.alloc (.cells (madeCells z (cap * d.sz)) e)) base ok (.slice (some ⟨W.heap.size, 0, none⟩) 0 cap) [] := by
  refine ⟨fun k hk => hok k (Nat.le_of_eq (by simpa [Value.ownBlock] using hk)), [], ⟨by simp, .inr ⟨W.heap.size, cap, _, rfl, hb, heap_alloc_new W _, Nat.zero_le _, hc, by rw [size_madeCells], by simp⟩⟩, Reps.none _ _⟩
set_option maxRecDepth 100000 in
theorem room_attr (m : Nat) (hm : m ≤ 4398046511000) (W : World) :
    (Instr.makeSlice 34 (.int .i64 0) (.int .i64 (wrap64 ((m : Int) + 1)))).run Tryd.prog W = .ok (.slice (some ⟨W.heap.size, 0, none⟩) 0 (m + 1)) (W.alloc (.cells (madeCells #[.string ByteArray.empty, .string ByteArray.empty] ((m + 1) * 2)) 54)) := by
  obtain ⟨i0, hi, hzz⟩ := Option.map_eq_some_iff.1 (info54)
  simp only [Prod.mk.injEq] at hzz
  obtain ⟨hz0, hz1, hz2⟩ := hzz
  have hw : wrap64 ((m : Int) + 1) = ((m + 1 : Nat) : Int) := by unfold wrap64; omega
  have hr := run_make (P := Tryd.prog) W 34 54 i0 _ Tryd.underlying34 hi hz0 .i64 .i64 0 ((m + 1 : Nat) : Int) (by omega) (by omega) (by rw [hz2]; omega) (by omega)
  rw [hw, hr, hz1, Int.toNat_natCast]
  rfl
set_option maxRecDepth 100000 in
theorem room_tree (m : Nat) (hm : m ≤ 1599289640390) (W : World) :
    (Instr.makeSlice 22 (.int .i64 0) (.int .i64 ((m : Int) + 2))).run Tryd.prog W = .ok (.slice (some ⟨W.heap.size, 0, none⟩) 0 (m + 2)) (W.alloc (.cells (madeCells #[.int .i64 0, .string ByteArray.empty, .slice none 0 0, .string ByteArray.empty, .slice none 0 0] ((m + 2) * 5)) 36)) := by
  obtain ⟨i0, hi, hzz⟩ := Option.map_eq_some_iff.1 (info36)
  simp only [Prod.mk.injEq] at hzz
  obtain ⟨hz0, hz1, hz2⟩ := hzz
  have hw : ((m : Int) + 2) = ((m + 2 : Nat) : Int) := by omega
  have hr := run_make (P := Tryd.prog) W 22 36 i0 _ Tryd.underlying22 hi hz0 .i64 .i64 0 ((m + 2 : Nat) : Int) (by omega) (by omega) (by rw [hz2]; omega) (by omega)
  rw [hw, hr, hz1, Int.toNat_natCast]
  rfl
set_option maxHeartbeats 8000000 in
set_option maxRecDepth 1000000 in
theorem copied_calls : ∀ (n : Nat) (l : List S36), SizeOf.sizeOf l ≤ n → ∀ (A : Option Addr) (c : Nat) (w : World), Kd.C k36 w A l.length l → l.length ≤ c → l.length ≤ 1599289640390 → copyK l →
    Calls Tryd.prog 4 #[.slice A l.length c] w fun e w' => ∃ v, e = .returned v ∧ Kd.R k36 36 w' w.heap.size (fun _ => True) v l ∧ Below w.heap.size w w' := by
  intro n
  induction n with
  | zero => intro l h; cases l <;> simp at h
  | succ n ih =>
    intro l hn A c w hC hc hm hk
    have HC := Aside0.mk hC
    have HN := Aside0.mk hn
    have IH := Aside0.mk ih
    have HK := Aside0.mk hk
    have hmt := room_tree l.length hm
    clear hC hn ih hk
    have HR0 := Aside0.mk (room_R k36 36 w.heap.size w (Nat.le_refl _) #[.int .i64 0, .string ByteArray.empty, .slice none 0 0, .string ByteArray.empty, .slice none 0 0] (l.length + 2) (by unfold maxLen; omega) (fun _ => True) (fun _ _ => trivial))
    have HB0 := Aside0.mk ((Below.refl w.heap.size w).alloc (Nat.le_refl _) (.cells (madeCells #[.int .i64 0, .string ByteArray.empty, .slice none 0 0, .string ByteArray.empty, .slice none 0 0] ((l.length + 2) * 5)) 36))
    go_enter Tryd.func4, Tryd.ntmps4
    go_wp2
    go_loopw [3, 4] (fun s3 s4 wr => ∃ (i : Nat) (Ax : Option Addr) (cx : Nat), i ≤ l.length ∧ s4 = .int .i64 i ∧ s3 = .slice Ax i cx ∧ Aside0 (Kd.R k36 36 wr w.heap.size (fun _ => True) (.slice Ax i cx) (l.take i) ∧ Below w.heap.size w wr)) (fun _ s4 _ => l.length - (intOf s4).toNat)
    case atStart => exact ⟨0, _, _, Nat.zero_le _, rfl, rfl, ⟨⟨HR0.out, HB0.out⟩⟩⟩
    case round =>
      obtain ⟨i, Ax, cx, hi, rfl, rfl, ⟨hR, hB⟩⟩ := hrel
      have HR := Aside0.mk hR
      have HB := Aside0.mk hB
      clear hR hB HR0 HB0 hmt
      by_cases hlt : i < l.length
      case neg =>
        have : i = l.length := by omega
        subst this
        rw [List.take_length] at HR
        go_wp2
        go_ret
        exact ⟨_, rfl, HR.out, HB.out⟩
      have hltz : (i : Int) < (l.length : Int) := by omega
      obtain ⟨ad, A2, c2, A4, c4, rfl, y0, y1, y2, y3, y4, z2, z3, z4, z5⟩ := at_T36 HC.out (i : Int) (by omega) hltz
      have y0 := pw_cell_below HB.out y0
      have y1 := pw_cell_below HB.out y1
      have y2 := pw_cell_below HB.out y2
      have y3 := pw_cell_below HB.out y3
      have y4 := pw_cell_below HB.out y4
      rw [Int.toNat_natCast] at y0 y1 y2 y3 y4
      have hmem : rd_T36 l (i : Int) ∈ l := rd36_mem _ _ hlt
      have hsz : SizeOf.sizeOf (rd_T36 l (i : Int)).f4 ≤ n := by
        have h1 := List.sizeOf_lt_of_mem hmem
        have h2 := HN.out
        have h3 := size_kids (rd_T36 l (i : Int))
        omega
      have htk := Aside0.mk (take36 l i hlt)
      obtain ⟨hca, hcb, hcc⟩ := copyT_parts _ (copyK_mem l HK.out _ hmem)
      generalize rd_T36 l (i : Int) = a at y0 y1 y2 y3 y4 z2 z3 z4 z5 hsz htk hca hcb hcc
      have hmk := room_attr a.f2.length hca
      have HCA := Aside0.mk hca
      clear hca
      have hal := (Below.refl wr.heap.size wr).alloc (Nat.le_refl _) (.cells #[.int .i64 a.f0, .string a.f1, .slice A2 a.f2.length c2, .string a.f3, .slice A4 a.f4.length c4] 36)
      have B1 := Aside0.mk (heap_alloc_new wr (.cells #[.int .i64 a.f0, .string a.f1, .slice A2 a.f2.length c2, .string a.f3, .slice A4 a.f4.length c4] 36))
      have HR1 := Aside0.mk (Kd.R_below (Kd.R_elderB HR.out wr.heap.size (Nat.le_refl _)) hal)
      have HB1 := Aside0.mk (HB.out.trans (hal.mono HB.out.size))
      have G1 := Aside0.mk HB.out.size
      have Z3 := Aside0.mk (Kd.C_below z3 HB1.out)
      have Z5 := Aside0.mk z5
      have Z4 := Aside0.mk z4
      have HCC := Aside0.mk hcc
      have HSZ := Aside0.mk hsz
      clear HR HB z2 z3 z4 z5 hmem hal hcc hsz
      go_wp2
      generalize hw2 : wr.alloc (.cells #[.int .i64 a.f0, .string a.f1, .slice A2 a.f2.length c2, .string a.f3, .slice A4 a.f4.length c4] 36) = w2 at *
      generalize hg1 : wr.heap.size = g1 at *
      clear hw2 hg1 y0 y1 y2 y3 y4
      refine start_ (n := 10) (S := fun w' => w'.cell? ⟨g1, 2, none⟩ = some (.slice A2 a.f2.length c2)) (ds := [9]) #[false, false, false, false, false, false, false, false, false, false] (by kernel_rfl) rfl rfl ((blk_cell B1.out 2).trans rfl) (fun hHeld => ?_)
      refine pure_ (i := 0) (N := some 20) (v := ?_) (a' := ?_) #[true, false, false, false, false, false, false, false, false, false] rfl rfl (by kernel_rfl) (fun _ _ _ h => h) (Or.inl ⟨by rfl, ?_⟩) ?_ ?_
      rotate_left
      · intro w'
        go_simp
        with_reducible rfl
      rotate_left
      · simp only [Act.put, List.setIfInBounds_toArray, List.set_cons_zero, List.set_cons_succ, i64_w, i32_w]
        rfl
      refine pure_ (i := 5) (N := some 25) (v := ?_) (a' := ?_) #[true, false, false, false, false, true, false, false, false, false] rfl rfl (by kernel_rfl) (fun _ _ _ h => h) (Or.inl ⟨by rfl, ?_⟩) ?_ ?_
      rotate_left
      · intro w'
        go_simp
        with_reducible rfl
      rotate_left
      · simp only [Act.put, List.setIfInBounds_toArray, List.set_cons_zero, List.set_cons_succ, i64_w, i32_w]
        rfl
      refine take_ (i := 1) (N := some 21) (v := ?_) (a' := ?_) #[true, true, false, false, false, true, false, false, false, false] rfl rfl (by kernel_rfl) (fun _ _ _ h => h) (Or.inl ⟨by rfl, ?_⟩) hHeld ?_ ?_
      rotate_left
      · intro w' s0
        go_simp
        with_reducible rfl
      rotate_left
      · simp only [Act.put, List.setIfInBounds_toArray, List.set_cons_zero, List.set_cons_succ, i64_w, i32_w]
        rfl
      refine pure_ (i := 2) (N := some 22) (v := ?_) (a' := ?_) #[true, true, true, false, false, true, false, false, false, false] rfl rfl (by kernel_rfl) (fun _ _ _ h => h) (Or.inl ⟨by rfl, ?_⟩) ?_ ?_
      rotate_left
      · intro w'
        go_simp
        with_reducible rfl
      rotate_left
      · simp only [Act.put, List.setIfInBounds_toArray, List.set_cons_zero, List.set_cons_succ, i64_w, i32_w]
        rfl
      refine pure_ (i := 3) (N := some 23) (v := ?_) (a' := ?_) #[true, true, true, true, false, true, false, false, false, false] rfl rfl (by kernel_rfl) (fun _ _ _ h => h) (Or.inl ⟨by rfl, ?_⟩) ?_ ?_
      rotate_left
      · intro w'
        go_simp
        with_reducible rfl
      rotate_left
      · simp only [Act.put, List.setIfInBounds_toArray, List.set_cons_zero, List.set_cons_succ, i64_w, i32_w]
        rfl
      refine take_ (i := 6) (N := some 26) (v := ?_) (a' := ?_) #[true, true, true, true, false, true, true, false, false, false] rfl rfl (by kernel_rfl) (fun _ _ _ h => h) (Or.inl ⟨by rfl, ?_⟩) hHeld ?_ ?_
      rotate_left
      · intro w' s0
        go_simp
        with_reducible rfl
      rotate_left
      · simp only [Act.put, List.setIfInBounds_toArray, List.set_cons_zero, List.set_cons_succ, i64_w, i32_w]
        rfl
      refine one_ (i := 4) (N := some 24) #[true, true, true, true, true, true, true, false, false, false] rfl rfl (by kernel_rfl) (by decide) (fun K hK => ?_)
      refine value_ (w1 := ?_) (v := ?_) (by rfl) rfl ?_ ?_
      rotate_left 2
      · go_simp
        constructor
        · rfl
        · rfl
      have HB3 := Aside0.mk (show Below w2.heap.size w2 (w2.alloc (.cells (madeCells #[.string ByteArray.empty, .string ByteArray.empty] ((a.f2.length + 1) * 2)) 54)).drew from Below.drew (show Below w2.heap.size w2 (w2.alloc (.cells (madeCells #[.string ByteArray.empty, .string ByteArray.empty] ((a.f2.length + 1) * 2)) 54)) from below_alloc (Below.refl _ _) (.cells (madeCells #[.string ByteArray.empty, .string ByteArray.empty] ((a.f2.length + 1) * 2)) 54)))
      have B13 := Aside0.mk (show (w2.alloc (.cells (madeCells #[.string ByteArray.empty, .string ByteArray.empty] ((a.f2.length + 1) * 2)) 54)).drew.heap[g1]? = _ from blk_below B1.out HB3.out)
      have HO := Aside0.mk (show Kd.R k54 54 (w2.alloc (.cells (madeCells #[.string ByteArray.empty, .string ByteArray.empty] ((a.f2.length + 1) * 2)) 54)).drew w2.heap.size (fun k => w2.heap.size ≤ k) _ _ from room_R k54 54 w2.heap.size w2.drew (Nat.le_refl _) _ (a.f2.length + 1) (by have := HCA.out; unfold maxLen; omega) (fun k => w2.heap.size ≤ k) (fun k hk => hk))
      have HF := Aside0.mk (show ∀ k, (w2.alloc (.cells (madeCells #[.string ByteArray.empty, .string ByteArray.empty] ((a.f2.length + 1) * 2)) 54)).drew.heap.size ≤ k → w2.heap.size ≤ k from fun k hk => Nat.le_trans HB3.out.size hk)
      generalize hw3 : (w2.alloc (.cells (madeCells #[.string ByteArray.empty, .string ByteArray.empty] ((a.f2.length + 1) * 2)) 54)).drew = w3 at *
      clear hw3 hmk
      refine hK.out _ _ ((blk_cell B13.out 2).trans rfl) (fun hHeld => ?_)
      clear hK K
      refine norm_ (a' := ?_) ?_ ?_
      rotate_left
      · show Act.put _ (some 24) _ = _
        simp only [Act.put, List.setIfInBounds_toArray, List.set_cons_zero, List.set_cons_succ, i64_w, i32_w]
        rfl
      refine one_ (i := 7) (N := some 27) #[true, true, true, true, true, true, true, true, false, false] rfl rfl (by kernel_rfl) (by decide) (fun K hK => ?_)
      refine Kd.R_append_rows_step k54 (w0 := w2) w2.heap.size (by rfl) (.tmp 24) (.tmp 26) 34 54 (.agg #[(.string ⟨#[]⟩), (.string ⟨#[]⟩)]) 32 rfl Tryd.underlying34 info54 rfl (by decide) (by decide) _ ([] : List S54) a.f2 A2 a.f2.length c2 (fun k => w2.heap.size ≤ k) (fun _ => False) (by rfl) (by rfl) HO.out ?aR (fun _ _ h => h) (fun k h => h.elim) HF.out HB3.out HB3.out.size (by have := HCA.out; simp only [List.length_nil]; omega) ?_
      case aR => exact Kd.C_below Z3.out HB3.out
      intro v1 w5 hR hb hg hat
      rw [List.nil_append] at hR
      obtain ⟨Ao, co, rfl⟩ := Kd.R_slice hR
      have B15 := Aside0.mk ((hb.block g1 (blk_lt B1.out)).trans B1.out)
      have HR5 := Aside0.mk hR
      have HB5 := Aside0.mk hb
      have z5 := blk_frozen B15.out 2
      clear hR hb hg hat B13 HO HF HB3
      refine hK.out _ _ ((blk_cell B15.out 2).trans rfl) (fun hHeld => ?_)
      clear hK K
      refine norm_ (a' := ?_) ?_ ?_
      rotate_left
      · show Act.put _ (some 27) _ = _
        simp only [Act.put, List.setIfInBounds_toArray, List.set_cons_zero, List.set_cons_succ, i64_w, i32_w]
        rfl
      refine pure_ (i := 8) (N := some 28) (v := ?_) (a' := ?_) #[true, true, true, true, true, true, true, true, true, false] rfl rfl (by kernel_rfl) (fun _ _ _ h => h) (Or.inl ⟨by rfl, ?_⟩) ?_ ?_
      rotate_left
      · intro w'
        go_simp
        with_reducible rfl
      rotate_left
      · simp only [Act.put, List.setIfInBounds_toArray, List.set_cons_zero, List.set_cons_succ, i64_w, i32_w]
        rfl
      refine last_ (i := 9) (N := none) #[true, true, true, true, true, true, true, true, true, true] rfl rfl (by kernel_rfl) (by decide) (fun K hK => ?_)
      refine skip_ (w1 := ?_) (by rfl) rfl ?_ ?_
      rotate_left
      · go_simp
        rfl
      refine hK.out _ _ ?_
      clear hK K
      refine done_ (by kernel_rfl) ?_

      have L1 := Aside0.mk (blk_lt B1.out)
      have B16 := Aside0.mk (show (w5.setCell ⟨g1, 2, none⟩ (.slice Ao a.f2.length co)).heap[g1]? = some (.cells #[.int .i64 a.f0, .string a.f1, .slice Ao a.f2.length co, .string a.f3, .slice A4 a.f4.length c4] 36 (0, 0)) from blk_set B15.out 2 _)
      have HB6 := Aside0.mk (below_set (j := 2) (v := .slice Ao a.f2.length co) (HB1.out.trans (HB5.out.mono HB1.out.size)) G1.out)
      have HR6 := Aside0.mk (Kd.R_far (Kd.R_below HR1.out HB5.out) (p := ⟨g1, 2, none⟩) (fun k hk => hk.2) (.slice Ao a.f2.length co))
      have HA6 := Aside0.mk (Kd.R_far HR5.out (p := ⟨g1, 2, none⟩) (fun k hk => show k ≠ g1 by have := L1.out; omega) (.slice Ao a.f2.length co))
      have S6 := Aside0.mk (show w2.heap.size ≤ (w5.setCell ⟨g1, 2, none⟩ (.slice Ao a.f2.length co)).heap.size by have := HB5.out.size; simpa using this)
      have O1 := Aside0.mk (Kd.R_lt HR1.out)
      generalize hw6 : w5.setCell ⟨g1, 2, none⟩ (.slice Ao a.f2.length co) = w6 at *
      clear hw6 B15 HR5 HB5 z5 hHeld B1 HR1 HB1
      have HI := Aside0.mk (IH.out a.f4 HSZ.out A4 c4 w6 (Kd.C_below Z5.out HB6.out) Z4.out hcb HCC.out)
      have q0 := (blk_cell B16.out 0).trans rfl
      have q1 := (blk_cell B16.out 1).trans rfl
      have q2 := (blk_cell B16.out 2).trans rfl
      have q3 := (blk_cell B16.out 3).trans rfl
      have q4 := (blk_cell B16.out 4).trans rfl
      go_wp2_with (go_at_call 4; refine HI.out.mono ?_)
      rintro e w7 ⟨v7, rfl, hR7, hB7⟩
      obtain ⟨A7, c7, rfl⟩ := Kd.R_slice hR7
      have B17 := (hB7.block g1 (blk_lt B16.out)).trans B16.out
      have B18 := Aside0.mk (show (w7.setCell ⟨g1, 4, none⟩ (.slice A7 a.f4.length c7)).heap[g1]? = some (.cells #[.int .i64 a.f0, .string a.f1, .slice Ao a.f2.length co, .string a.f3, .slice A7 a.f4.length c7] 36 (0, 0)) from blk_set B17 4 _)
      have HB8 := Aside0.mk (below_set (j := 4) (v := .slice A7 a.f4.length c7) (HB6.out.trans (hB7.mono HB6.out.size)) G1.out)
      have HR8 := Aside0.mk (Kd.R_far (Kd.R_below HR6.out hB7) (p := ⟨g1, 4, none⟩) (fun k hk => hk.2) (.slice A7 a.f4.length c7))
      have HA8 := Aside0.mk (Kd.R_far (Kd.R_below HA6.out hB7) (p := ⟨g1, 4, none⟩) (fun k hk => show k ≠ g1 by have := L1.out; omega) (.slice A7 a.f4.length c7))
      have HK8 := Aside0.mk (Kd.R_far (Kd.R_mono (ok' := fun k => w6.heap.size ≤ k) (Kd.R_bound hR7) (fun k hk => hk.2.1)) (p := ⟨g1, 4, none⟩) (fun k hk => show k ≠ g1 by have := L1.out; have := S6.out; omega) (.slice A7 a.f4.length c7))
      have z74 := blk_frozen B17 4
      have x4 := (blk_cell B17 4).trans rfl
      have q0 := (blk_cell B18.out 0).trans rfl
      have q1 := (blk_cell B18.out 1).trans rfl
      have q2 := (blk_cell B18.out 2).trans rfl
      have q3 := (blk_cell B18.out 3).trans rfl
      have q4 := (blk_cell B18.out 4).trans rfl
      clear hR7 hB7 B17 B16 HR6 HA6 HB6 HI
      go_wp2_with (at_builtin; (refine Kd.R_append k36 (w0 := w) w.heap.size rfl (.tmp 33) (.tmp 35) 22 36 (.agg #[(.int .i64 0), (.string ⟨#[]⟩), (.slice none 0 0), (.string ⟨#[]⟩), (.slice none 0 0)]) 88 rfl Tryd.underlying22 info36 rfl (by decide) (by decide) (.slice Ax i cx) (l.take i) a [.int .i64 a.f0, .string a.f1, .slice Ao a.f2.length co, .string a.f3, .slice A7 a.f4.length c7] (fun _ => True) (fun k => True ∧ some k ≠ (.slice Ax i cx : Value).ownBlock) rfl (show Value.slice (some ⟨w7.heap.size, 0, none⟩) 1 1 = .slice (some ⟨(w7.setCell ⟨g1, 4, none⟩ (.slice A7 a.f4.length c7)).heap.size, 0, none⟩) 1 1 by simp [World.setCell]) ?aP (fun _ hk => hk) (fun _ _ => trivial) (Kd.R_mono HR8.out (fun _ _ => trivial)) HB8.out HB8.out.size ?aL ?_))
      case aP =>
        have n1 : ∀ k, w2.heap.size ≤ k → some k ≠ (Value.slice Ax i cx).ownBlock := fun k hk e => by have := O1.out k e.symm; omega
        have n2 : ∀ k, w6.heap.size ≤ k → some k ≠ (Value.slice Ax i cx).ownBlock := fun k hk e => by have := O1.out k e.symm; have := S6.out; omega
        have b1 : w.heap.size ≤ w2.heap.size := by have := L1.out; have := G1.out; omega
        have b2 : w.heap.size ≤ w6.heap.size := by have := S6.out; omega
        exact k36_mkM _ _ _ a (Kd.R_lower (Kd.R_mono HA8.out (fun k hk => ⟨trivial, n1 k hk⟩)) b1) (Kd.R_lower (Kd.R_mono HK8.out (fun k hk => ⟨trivial, n2 k hk⟩)) b2)
      case aL => rw [List.length_take]; omega
      intro v1 w9 ho hb hg hat
      rw [← htk.out] at ho
      have hl9 : (l.take (i + 1)).length = i + 1 := by rw [List.length_take]; omega
      obtain ⟨A9, c9, e9⟩ := Kd.R_slice ho
      rw [hl9] at e9
      subst e9
      have HO9 := Aside0.mk ho
      have HB9 := Aside0.mk hb
      clear ho hb hg hat hl9 HR8 HA8 HK8 B18 z74 x4 q0 q1 q2 q3 q4
      go_wp2
      go_roundw
      case rel => exact ⟨i + 1, A9, c9, by omega, rfl, rfl, ⟨⟨HO9.out, HB9.out⟩⟩⟩
      case measure => simp [intOf]; omega
def espalierlaw04_Copied.f (l : List S36) : Prop := l.length ≤ 1599289640390 ∧ copyK l
theorem espalierlaw04_Copied.calls (A : Option Addr) (c : Nat) (l : List S36) (w : World) (hr : Kd.C k36 w A l.length l) (hc : l.length ≤ c) (h : espalierlaw04_Copied.f l) :
    Calls Tryd.prog 4 #[.slice A l.length c] w fun e w' => ∃ v, e = .returned v ∧ Kd.R k36 36 w' w.heap.size (fun _ => True) v l ∧ Below w.heap.size w w' :=
  copied_calls _ l (Nat.le_refl _) A c w hr hc h.1 h.2
end Go.Proofs.YtealmfcimoomlaaDoor.PA
