/- markup.Parse: a text among the children. Written by wip/gen/parse04.py. -/
import Derived.Test.YtealmfcimoomlaaGreatDoorUParse4
namespace Go.Proofs.YtealmfcimoomlaaGreatDoor.PA
open Go.RowKit Go.Proofs.YtealmfcimoomlaaGreatDoorW.PrintWords Go.Proofs.YtealmfcimoomlaaGreatDoorW.PrintLast Go.Proofs.YtealmfcimoomlaaGreatDoorW.PrintMore
set_option linter.unusedVariables false
set_option linter.unusedSimpArgs false
/-- The zero tree. -/
def zeroT : TreeS := ⟨0, ⟨#[]⟩, [], ⟨#[]⟩, []⟩
set_option maxHeartbeats 16000000 in
set_option maxRecDepth 100000 in
theorem told2 (B vo n0 : Nat) (t : TreeS) (ts : List TreeS) (nm tx : ByteArray) (al : List S61) (w : World) (v : Value) (bs : List Nat) (ov : Value) (lv : Nat → Nat) (h : Told B vo (t :: ts) al v n0 w bs ov lv) (hs : ts.length ≤ 16384) (hkl : t.f4.length ≤ 16384) :
    Calls Tryz.prog 26 #[(Evt.mk 2 nm al tx).val v, .pointer (some ⟨vo, 0, none⟩)] w fun x w' => x = .returned (.tuple #[]) ∧ (∃ bs ov lv, OpenS B vo ({ t with f4 := t.f4 ++ [text0 tx] } :: ts) w' bs ov lv) ∧ KeepS n0 w w' ∧ Below B w w' := by
  obtain ⟨A, ca, rfl⟩ := Kd.R_slice h.av
  have HT := Aside0.mk h
  have hlen := h.os.fr.len
  cases bs with
  | nil => cases hlen
  | cons b bs =>
    obtain ⟨g, cap, rfl, hcap, hcapm, hBg, hcl⟩ := ptrs_last h.os.ro
    have hNs : bs.length + 1 ≤ 16385 := by rw [List.length_cons, List.length_cons] at hlen; omega
    obtain ⟨⟨hb1, hb2, va, vk, hb3, hb4, hb5⟩, -, -⟩ := h.os.fr
    obtain ⟨Ak, ck, rfl⟩ := Kd.R_slice hb5
    have ho := h.os.ho
    have hrow := own_typed h.os.ro g rfl
    obtain ⟨crow, hcrow⟩ := hrow
    generalize hNN : bs.length + 1 = N at *
    generalize hnk : t.f4.length = n at *
    have HNK := Aside0.mk hnk
    have HN4 := Aside0.mk hkl
    have hl1 : bs.length = N - 1 := by omega
    rw [hl1] at hcl
    have hal := (Below.refl w.heap.size w).alloc (Nat.le_refl _) (.cells #[.int .i64 2, .string nm, .slice A al.length ca, .string tx] 58)
    have hx := blk_new w (.cells #[.int .i64 2, .string nm, .slice A al.length ca, .string tx] 58)
    have hov := blkU_below hal ho
    have hrw := blkU_below hal hcrow
    have hbw := blkU_below hal hb3
    have cv := (blk_cell hov 0).trans rfl
    have ckk : (w.alloc (.cells #[.int .i64 2, .string nm, .slice A al.length ca, .string tx] 58)).cell? ⟨g, N - 1, none⟩ = some (.pointer (some ⟨b, 0, none⟩)) := (blk_cell hrw (N - 1)).trans ((blk_cell hcrow (N - 1)).symm.trans hcl)
    have ck2 : (w.alloc (.cells #[.int .i64 2, .string nm, .slice A al.length ca, .string tx] 58)).cell? ⟨g, ((N : Int) - 1).toNat, none⟩ = some (.pointer (some ⟨b, 0, none⟩)) := by rw [show ((N : Int) - 1).toNat = N - 1 by omega]; exact ckk
    have e0 := (blk_cell hx 0).trans rfl
    have p0 : ((N : Int) == 0) = false := beq_eq_false_iff_ne.mpr (by omega)
    have p1 := eq_true (show (0 : Int) ≤ (N : Int) - 1 by omega)
    have p2 := eq_true (show (N : Int) - 1 < (N : Int) by omega)
    have p1b := eq_true (show (1 : Int) ≤ (N : Int) by omega)
    have p1c := eq_true (show 1 ≤ N by omega)
    have p1d := eq_true (show 0 < N by omega)
    have hw := Go.Proofs.YtealmfcimoomlaaGreatDoorW.PrintLast.i64_w ((N : Int) - 1)
    rw [wrap_in (n := (N : Int) - 1) (by omega) (by omega)] at hw
    have HAL := Aside0.mk hal
    have HXE := Aside0.mk hx
    have HBK := Aside0.mk hbw
    have HB0 := Aside0.mk hb3
    have hsz1 : (w.alloc (.cells #[.int .i64 2, .string nm, .slice A al.length ca, .string tx] 58)).heap.size = w.heap.size + 1 := by simp only [World.alloc, Array.size_push]
    have HFR := Aside0.mk (show ∀ k, (w.alloc (.cells #[.int .i64 2, .string nm, .slice A al.length ca, .string tx] 58)).drew.heap.size ≤ k → lvK w.heap.size (ts.length + 1) lv k = ts.length + 1 from fun k hk => if_neg (by have hk2 : (w.alloc (.cells #[.int .i64 2, .string nm, .slice A al.length ca, .string tx] 58)).heap.size ≤ k := hk; rw [hsz1] at hk2; omega))
    have HBS := Aside0.mk (show B ≤ (w.alloc (.cells #[.int .i64 2, .string nm, .slice A al.length ca, .string tx] 58)).drew.heap.size from Nat.le_trans (Nat.le_trans h.lb h.ln) hal.size)
    have HKD := Aside0.mk (show Kd.R k35 35 (w.alloc (.cells #[.int .i64 2, .string nm, .slice A al.length ca, .string tx] 58)).drew B (fun k => lvK w.heap.size (ts.length + 1) lv k = ts.length + 1) (.slice Ak n ck) t.f4 from Kd.R_mono (Kd.R_move (Kd.R_bound hb5) (fun k hk => hal.block k hk.2.2.1)) (fun k hk => (if_pos hk.2.2.1 : lvK w.heap.size (ts.length + 1) lv k = lv k).trans hk.1))
    have HNE := Aside0.mk (show some b ≠ (Value.slice Ak n ck).ownBlock from fun e => by have h9 : lv b = ts.length + 1 := hb5.1 b e.symm; rw [hb2] at h9; omega)
    have HKL := Aside0.mk (show ∀ k, (Value.slice Ak n ck).ownBlock = some k → lv k = ts.length + 1 from hb5.1)
    have HKT := Aside0.mk (show ∀ k, (Value.slice Ak n ck).ownBlock = some k → ∃ c', w.heap[k]? = some (.cells c' 35 (0, 0)) from fun k hk => by obtain ⟨_, inner, hown, _⟩ := hb5; exact own_typed hown k hk)
    clear hlen hl1 hNN h hcl hcrow ho hal hov hrw hx hb1 hb2 hb3 hb4 hb5 hbw hsz1 hnk
    show Calls _ _ #[.agg #[.int .i64 2, .string nm, .slice A al.length ca, .string tx], .pointer (some ⟨vo, 0, none⟩)] _ _
    go_enter Tryz.func26, Tryz.ntmps26
    go_wp2_with fail
    generalize hw1 : w.alloc (.cells #[.int .i64 2, .string nm, .slice A al.length ca, .string tx] 58) = w1 at *
    clear cv ckk ck2 e0 p0 p1 p2 p1b p1c p1d hw hcap hcapm
    have HNX := Aside0.mk (show some w.heap.size ≠ (Value.slice Ak n ck).ownBlock from fun e => by obtain ⟨c', hc⟩ := HKT.out _ e.symm; have := lt_of_heap hc; omega)
    refine start_ (n := 15) (S := fun w' => w'.cell? ⟨b, 4, none⟩ = some (.slice Ak n ck) ∧ w'.cell? ⟨w.heap.size, 3, none⟩ = some (.string tx)) (ds := [11, 14]) #[false, false, false, false, false, false, false, false, false, false, false, false, false, false, false] (by kernel_rfl) rfl rfl ⟨(blk_cell HBK.out 4).trans rfl, (blk_cell HXE.out 3).trans rfl⟩ (fun hHeld => ?_)
    refine pure_ (i := 0) (N := some 50) (v := ?_) (a' := ?_) #[true, false, false, false, false, false, false, false, false, false, false, false, false, false, false] rfl rfl (by kernel_rfl) (fun _ _ _ h => h) (Or.inl ⟨by rfl, ?_⟩) ?_ ?_
    rotate_left
    · intro w'
      go_simp
      with_reducible rfl
    rotate_left
    · simp only [Act.put, List.setIfInBounds_toArray, List.set_cons_zero, List.set_cons_succ, i64_w, i32_w]
      rfl
    refine pure_ (i := 1) (N := some 51) (v := ?_) (a' := ?_) #[true, true, false, false, false, false, false, false, false, false, false, false, false, false, false] rfl rfl (by kernel_rfl) (fun _ _ _ h => h) (Or.inl ⟨by rfl, ?_⟩) ?_ ?_
    rotate_left
    · intro w'
      go_simp
      with_reducible rfl
    rotate_left
    · simp only [Act.put, List.setIfInBounds_toArray, List.set_cons_zero, List.set_cons_succ, i64_w, i32_w]
      rfl
    refine pure_ (i := 2) (N := some 52) (v := ?_) (a' := ?_) #[true, true, true, false, false, false, false, false, false, false, false, false, false, false, false] rfl rfl (by kernel_rfl) (fun _ _ _ h => h) (Or.inl ⟨by rfl, ?_⟩) ?_ ?_
    rotate_left
    · intro w'
      go_simp
      with_reducible rfl
    rotate_left
    · simp only [Act.put, List.setIfInBounds_toArray, List.set_cons_zero, List.set_cons_succ, i64_w, i32_w]
      rfl
    refine pure_ (i := 4) (N := some 54) (v := ?_) (a' := ?_) #[true, true, true, false, true, false, false, false, false, false, false, false, false, false, false] rfl rfl (by kernel_rfl) (fun _ _ _ h => h) (Or.inl ⟨by rfl, ?_⟩) ?_ ?_
    rotate_left
    · intro w'
      go_simp
      with_reducible rfl
    rotate_left
    · simp only [Act.put, List.setIfInBounds_toArray, List.set_cons_zero, List.set_cons_succ, i64_w, i32_w]
      rfl
    refine take_ (i := 3) (N := some 53) (v := ?_) (a' := ?_) #[true, true, true, true, true, false, false, false, false, false, false, false, false, false, false] rfl rfl (by kernel_rfl) (fun _ _ _ h => h) (Or.inl ⟨by rfl, ?_⟩) hHeld ?_ ?_
    rotate_left
    · rintro w' ⟨s0, s1⟩
      go_simp
      with_reducible rfl
    rotate_left
    · simp only [Act.put, List.setIfInBounds_toArray, List.set_cons_zero, List.set_cons_succ, i64_w, i32_w]
      rfl
    refine pure_ (i := 7) (N := some 57) (v := ?_) (a' := ?_) #[true, true, true, true, true, false, false, true, false, false, false, false, false, false, false] rfl rfl (by kernel_rfl) (fun _ _ _ h => h) (Or.inl ⟨by rfl, ?_⟩) ?_ ?_
    rotate_left
    · intro w'
      go_simp
      with_reducible rfl
    rotate_left
    · simp only [Act.put, List.setIfInBounds_toArray, List.set_cons_zero, List.set_cons_succ, i64_w, i32_w]
      rfl
    refine take_ (i := 5) (N := some 55) (v := ?_) (a' := ?_) #[true, true, true, true, true, true, false, true, false, false, false, false, false, false, false] rfl rfl (by kernel_rfl) (fun _ _ _ h => h) (Or.inl ⟨by rfl, ?_⟩) hHeld ?_ ?_
    rotate_left
    · rintro w' ⟨s0, s1⟩
      go_simp
      with_reducible rfl
    rotate_left
    · simp only [Act.put, List.setIfInBounds_toArray, List.set_cons_zero, List.set_cons_succ, i64_w, i32_w]
      rfl
    refine pure_ (i := 6) (N := some 56) (v := ?_) (a' := ?_) #[true, true, true, true, true, true, true, true, false, false, false, false, false, false, false] rfl rfl (by kernel_rfl) (fun _ _ _ h => h) (Or.inl ⟨by rfl, ?_⟩) ?_ ?_
    rotate_left
    · intro w'
      go_simp
      with_reducible rfl
    rotate_left
    · simp only [Act.put, List.setIfInBounds_toArray, List.set_cons_zero, List.set_cons_succ, i64_w, i32_w]
      rfl
    refine one_ (i := 8) (N := some 58) #[true, true, true, true, true, true, true, true, true, false, false, false, false, false, false] rfl rfl (by kernel_rfl) (by decide) (fun K hK => ?_)
    refine value_ (w1 := ?_) (v := ?_) (by rfl) rfl ?_ ?_
    rotate_left 2
    · go_simp
      constructor
      · rfl
      · rfl
    refine hK.out _ _ ⟨(blk_cell (blkU_below (below_alloc (Below.refl _ _) _) HBK.out) 4).trans rfl, (blk_cell (blkU_below (below_alloc (Below.refl _ _) _) HXE.out) 3).trans rfl⟩ (fun hHeld => ?_)
    clear hK K
    refine norm_ (a' := ?_) ?_ ?_
    rotate_left
    · show Act.put _ (some 58) _ = _
      simp only [Act.put, List.setIfInBounds_toArray, List.set_cons_zero, List.set_cons_succ, i64_w, i32_w]
      rfl
    refine one_ (i := 9) (N := some 59) #[true, true, true, true, true, true, true, true, true, true, false, false, false, false, false] rfl rfl (by kernel_rfl) (by decide) (fun K hK => ?_)
    refine Kd.R_append_step k35 (w0 := w1.drew) B (by rfl) (.tmp 53) (.tmp 58) 22 35 (.agg #[(.int .i64 0), (.string ⟨#[]⟩), (.slice none 0 0), (.string ⟨#[]⟩), (.slice none 0 0)]) 88 rfl Tryz.underlying22 infoP_tree rfl (by decide) (by decide) (.slice Ak n ck) t.f4 zeroT [.int .i64 0, .string ⟨#[]⟩, .slice none 0 0, .string ⟨#[]⟩, .slice none 0 0] (fun k => lvK w.heap.size (ts.length + 1) lv k = ts.length + 1) (fun _ => False) (by rfl) (by rfl) (k35_mkM w1.drew _ _ zeroT (Kd.R_nil _ _ _ _ _) (Kd.R_nil _ _ _ _ _)) (fun k h => h.elim) HFR.out HKD.out (Below.refl _ _) HBS.out (by have := HNK.out; have := HN4.out; omega) ?_
    intro v8 w8 hR8 hB8 hG8 hat8
    obtain ⟨A8, c8, rfl⟩ := Kd.R_slice hR8
    obtain ⟨g8, cur8, rfl, hx8, hz8, hc8, hm8, hk8⟩ := tree_row (n := n) (by rw [← HNK.out]; simpa using hR8)
    have hb8 := blk_grown (w := w1.drew) HBK.out hG8 HNE.out
    have hxe8 := blk_grown (w := w1.drew) HXE.out hG8 HNX.out
    have hb9 := hb8
    rw [show (t.f4 ++ [zeroT]).length = n + 1 by rw [List.length_append, HNK.out]; rfl] at *
    have i8 := eq_true (show (n : Int) < (n : Int) + 1 by omega)
    have zg8 := fun j => blk_frozen hx8 j
    have zb8 := blk_frozen hb9 4
    obtain ⟨u0, hu0⟩ := row_in hx8 (show n * 5 < cur8.size by omega)
    obtain ⟨u1, hu1⟩ := row_in hx8 (show n * 5 + 1 < cur8.size by omega)
    obtain ⟨u2, hu2⟩ := row_in hx8 (show n * 5 + 2 < cur8.size by omega)
    obtain ⟨u3, hu3⟩ := row_in hx8 (show n * 5 + 3 < cur8.size by omega)
    obtain ⟨u4, hu4⟩ := row_in hx8 (show n * 5 + 4 < cur8.size by omega)
    refine hK.out _ _ ⟨(blk_cell hb8 4).trans rfl, (blk_cell hxe8 3).trans rfl⟩ (fun hHeld => ?_)
    clear hK K
    refine norm_ (a' := ?_) ?_ ?_
    rotate_left
    · show Act.put _ (some 59) _ = _
      simp only [Act.put, List.setIfInBounds_toArray, List.set_cons_zero, List.set_cons_succ, i64_w, i32_w]
      rfl
    refine pure_ (i := 10) (N := some 60) (v := ?_) (a' := ?_) #[true, true, true, true, true, true, true, true, true, true, true, false, false, false, false] rfl rfl (by kernel_rfl) (fun _ _ _ h => h) (Or.inl ⟨by rfl, ?_⟩) ?_ ?_
    rotate_left
    · intro w'
      go_simp
      with_reducible rfl
    rotate_left
    · simp only [Act.put, List.setIfInBounds_toArray, List.set_cons_zero, List.set_cons_succ, i64_w, i32_w]
      rfl
    refine pure_ (i := 12) (N := some 61) (v := ?_) (a' := ?_) #[true, true, true, true, true, true, true, true, true, true, true, false, true, false, false] rfl rfl (by kernel_rfl) (fun _ _ _ h => h) (Or.inl ⟨by rfl, ?_⟩) ?_ ?_
    rotate_left
    · intro w'
      go_simp
      with_reducible rfl
    rotate_left
    · simp only [Act.put, List.setIfInBounds_toArray, List.set_cons_zero, List.set_cons_succ, i64_w, i32_w]
      rfl
    refine pure_ (i := 13) (N := some 62) (v := ?_) (a' := ?_) #[true, true, true, true, true, true, true, true, true, true, true, false, true, true, false] rfl rfl (by kernel_rfl) (fun _ _ _ h => h) (Or.inl ⟨by rfl, ?_⟩) ?_ ?_
    rotate_left
    · intro w'
      go_simp
      with_reducible rfl
    rotate_left
    · simp only [Act.put, List.setIfInBounds_toArray, List.set_cons_zero, List.set_cons_succ, i64_w, i32_w]
      rfl

    have HGB := Aside0.mk (show b ≠ g8 by
      intro e
      have e2 : lvK w.heap.size (ts.length + 1) lv b = lv b := if_pos (lt_of_heap HB0.out)
      rw [← e, e2, (HT.out.os.fr.blk b List.mem_cons_self).2.1] at hk8
      omega)
    have HB8 := Aside0.mk hb8
    have cb8 := (blk_cell hb8 4).trans rfl
    have HX8 := Aside0.mk hx8
    have HZ8 := Aside0.mk (show n * 5 + 4 < cur8.size by omega)
    have HFIN := Aside0.mk (show (∃ bs ov lv, OpenS B vo ({ t with f4 := t.f4 ++ [text0 tx] } :: ts) ((put5 w8 g8 (n * 5) (text0 tx) (.slice none 0 0) (.slice none 0 0)).setCell ⟨b, 4, none⟩ (.slice (some ⟨g8, 0, none⟩) (n + 1) c8)) bs ov lv) ∧ KeepS n0 w ((put5 w8 g8 (n * 5) (text0 tx) (.slice none 0 0) (.slice none 0 0)).setCell ⟨b, 4, none⟩ (.slice (some ⟨g8, 0, none⟩) (n + 1) c8)) ∧ Below B w ((put5 w8 g8 (n * 5) (text0 tx) (.slice none 0 0) (.slice none 0 0)).setCell ⟨b, 4, none⟩ (.slice (some ⟨g8, 0, none⟩) (n + 1) c8)) by
      obtain ⟨k1, k2, k3⟩ := kid_end (x := text0 tx) (xa := .slice none 0 0) (xk := .slice none 0 0) HT.out.os HB0.out HAL.out.drew hG8 hat8 hR8 HNK.out (Kd.R_nil _ _ _ _ _) (Kd.R_nil _ _ _ _ _)
      have hBg8 : B ≤ g8 := ((Kd.R_bound hR8).1 g8 rfl).2.1
      have hBw := HAL.out.mono (Nat.le_trans HT.out.lb HT.out.ln)
      refine ⟨⟨_, _, _, k1⟩, told_keeps k2 HB0.out (by decide) (HT.out.bn b List.mem_cons_self) (fun k hk => ⟨?_, ?_⟩), (put5_below ((Below.drew hBw).trans hB8) hBg8 _ _ _ _).setCell (p := ⟨b, 4, none⟩) (HT.out.os.fr.blk b List.mem_cons_self).1 _⟩
      · obtain ⟨c', hc⟩ := HKT.out k hk
        have h8 := HKL.out k hk
        rcases Nat.lt_or_ge k n0 with h9 | h9
        · exact h9
        · have := HT.out.nw k h9 (lt_of_heap hc)
          rw [List.length_cons] at this
          omega
      · obtain ⟨c', hc⟩ := HKT.out k hk
        exact ⟨c', _, hc, by decide⟩)
    clear hR8 hG8 hat8 hB8 hb8 hb9 hx8 hz8 hc8 hm8 hk8 hHeld
    refine twoLast_ (i := 11) (j := 14) (Ni := none) (Nj := none) #[true, true, true, true, true, true, true, true, true, true, true, true, true, true, false] #[true, true, true, true, true, true, true, true, true, true, true, false, true, true, true] rfl rfl rfl rfl (by kernel_rfl) (by decide) (by decide) (fun K hK => ?_) (fun K hK => ?_)

    · skip
      refine skip_ (w1 := ?_) (by rfl) rfl ?_ ?_
      rotate_left
      · go_simp
        rfl
      refine hK.out _ _ ?_
      clear hK K
      refine world_ (w' := put5 w8 g8 (n * 5) (text0 tx) (.slice none 0 0) (.slice none 0 0)) rfl ?_
      have hb10 := (put5_other w8 g8 (n * 5) (text0 tx) (.slice none 0 0) (.slice none 0 0) b HGB.out).trans HB8.out
      have zb10 := blk_frozen hb10 4
      have cb10 := (blk_cell hb10 4).trans rfl
      have HFN := HFIN.out
      generalize put5 w8 g8 (n * 5) (text0 tx) (.slice none 0 0) (.slice none 0 0) = w9 at *
      clear zg8 hu0 hu1 hu2 hu3 hu4 zb8 cb8 hb10
      refine last_ (i := 14) (N := none) #[true, true, true, true, true, true, true, true, true, true, true, true, true, true, true] rfl rfl (by kernel_rfl) (by decide) (fun K hK => ?_)
      refine skip_ (w1 := ?_) (by rfl) rfl ?_ ?_
      rotate_left
      · go_simp
        rfl
      refine hK.out _ _ ?_
      clear hK K
      refine done_ (by kernel_rfl) ?_
      go_end0
      exact ⟨rfl, HFN⟩
    · skip
      refine skip_ (w1 := ?_) (by rfl) rfl ?_ ?_
      rotate_left
      · go_simp
        rfl
      refine hK.out _ _ ?_
      clear hK K
      have hx10 := blk_far HX8.out (p := ⟨b, 4, none⟩) HGB.out.symm (.slice (some ⟨g8, 0, none⟩) (n + 1) c8)
      have zg10 := fun j => blk_frozen hx10 j
      obtain ⟨y0, hy0⟩ := row_in hx10 (show n * 5 < cur8.size by have := HZ8.out; omega)
      obtain ⟨y1, hy1⟩ := row_in hx10 (show n * 5 + 1 < cur8.size by have := HZ8.out; omega)
      obtain ⟨y2, hy2⟩ := row_in hx10 (show n * 5 + 2 < cur8.size by have := HZ8.out; omega)
      obtain ⟨y3, hy3⟩ := row_in hx10 (show n * 5 + 3 < cur8.size by have := HZ8.out; omega)
      obtain ⟨y4, hy4⟩ := row_in hx10 (show n * 5 + 4 < cur8.size by have := HZ8.out; omega)
      have HFN := HFIN.out
      rw [← put5_comm HGB.out] at HFN
      generalize w8.setCell ⟨b, 4, none⟩ (.slice (some ⟨g8, 0, none⟩) (n + 1) c8) = w9 at *
      clear zg8 hu0 hu1 hu2 hu3 hu4 zb8 cb8 hx10
      refine last_ (i := 11) (N := none) #[true, true, true, true, true, true, true, true, true, true, true, true, true, true, true] rfl rfl (by kernel_rfl) (by decide) (fun K hK => ?_)
      refine skip_ (w1 := ?_) (by rfl) rfl ?_ ?_
      rotate_left
      · go_simp
        rfl
      refine hK.out _ _ ?_
      clear hK K
      refine done_ (by kernel_rfl) ?_
      go_end0
      exact ⟨rfl, HFN⟩
end Go.Proofs.YtealmfcimoomlaaGreatDoor.PA
