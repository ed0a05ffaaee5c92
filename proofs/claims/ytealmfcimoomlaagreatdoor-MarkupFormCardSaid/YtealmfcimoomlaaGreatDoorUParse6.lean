/- markup.Parse: an element ends. Written by wip/gen/parse04.py. -/
import Derived.Test.YtealmfcimoomlaaGreatDoorUParse5
namespace Go.Proofs.YtealmfcimoomlaaGreatDoor.PA
open Go.RowKit Go.Proofs.YtealmfcimoomlaaGreatDoorW.PrintWords Go.Proofs.YtealmfcimoomlaaGreatDoorW.PrintLast Go.Proofs.YtealmfcimoomlaaGreatDoorW.PrintMore
set_option linter.unusedVariables false
set_option linter.unusedSimpArgs false
set_option maxHeartbeats 16000000 in
set_option maxRecDepth 100000 in
theorem told3 (B vo n0 : Nat) (t u : TreeS) (ts : List TreeS) (nm tx : ByteArray) (al : List S61) (w : World) (v : Value) (bs : List Nat) (ov : Value) (lv : Nat → Nat) (h : Told B vo (t :: u :: ts) al v n0 w bs ov lv) (hs : ts.length ≤ 16384) (hkl : u.f4.length ≤ 16384) :
    Calls Tryz.prog 26 #[(Evt.mk 3 nm al tx).val v, .pointer (some ⟨vo, 0, none⟩)] w fun x w' => x = .returned (.tuple #[]) ∧ (∃ bs ov lv, OpenS B vo ({ u with f4 := u.f4 ++ [t] } :: ts) w' bs ov lv) ∧ KeepS n0 w w' ∧ Below B w w' := by
  obtain ⟨A, ca, rfl⟩ := Kd.R_slice h.av
  have HT := Aside0.mk h
  have hlen := h.os.fr.len
  rcases bs with _ | ⟨y, _ | ⟨b, bs⟩⟩
  · cases hlen
  · simp at hlen
  · skip
    obtain ⟨g, cap, rfl, hcap, hcapm, hBg, hcl⟩ := ptrs_last h.os.ro
    have hNs : (b :: bs).length + 1 ≤ 16386 := by simp only [List.length_cons] at hlen ⊢; omega
    obtain ⟨⟨hy1, hy2, ya, yk, hy3, hy4, hy5⟩, hyb, ⟨hb1, hb2, va, vk, hb3, hb4, hb5⟩, -, -⟩ := h.os.fr
    obtain ⟨Ak, ck, rfl⟩ := Kd.R_slice hb5
    obtain ⟨Ya, yca, rfl⟩ := Kd.R_slice hy4
    obtain ⟨Yk, yck, rfl⟩ := Kd.R_slice hy5
    have ho := h.os.ho
    have hrow := own_typed h.os.ro g rfl
    obtain ⟨crow, hcrow⟩ := hrow
    have hpop := ptrs_pop h.os.ro rfl
    have hcl2 : w.cell? ⟨g, bs.length, none⟩ = some (.pointer (some ⟨b, 0, none⟩)) := by
      obtain ⟨g2, cap2, e2, -, -, -, hc2⟩ := ptrs_last hpop
      injection e2 with e2 _ _
      injection e2 with e2
      injection e2 with e2 _ _
      rw [e2]
      exact hc2
    generalize hNN : (b :: bs).length + 1 = N at *
    generalize hMM : (b :: bs).length = M at *
    generalize hKK : bs.length = K at *
    have hMK : M = K + 1 := by rw [← hMM, ← hKK]; rfl
    generalize hnk : u.f4.length = n at *
    generalize hnt : t.f4.length = m at *
    generalize hna : t.f2.length = ma at *
    have HNK := Aside0.mk hnk
    have HN4 := Aside0.mk hkl
    have hal := (Below.refl w.heap.size w).alloc (Nat.le_refl _) (.cells #[.int .i64 3, .string nm, .slice A al.length ca, .string tx] 58)
    have hx := blk_new w (.cells #[.int .i64 3, .string nm, .slice A al.length ca, .string tx] 58)
    have hov := blkU_below hal ho
    have hrw := blkU_below hal hcrow
    have hyw := blkU_below hal hy3
    have hbw := blkU_below hal hb3
    have cv := (blk_cell hov 0).trans rfl
    have zv := blk_frozen hov 0
    have ckk : (w.alloc (.cells #[.int .i64 3, .string nm, .slice A al.length ca, .string tx] 58)).cell? ⟨g, M, none⟩ = some (.pointer (some ⟨y, 0, none⟩)) := (blk_cell hrw M).trans ((blk_cell hcrow M).symm.trans hcl)
    have hvg : g ≠ vo := blk_ne hcrow ho (by decide)
    have hrw2 := blk_far hrw (p := ⟨vo, 0, none⟩) hvg (.slice (some ⟨g, 0, none⟩) M cap)
    have hov2 := blk_set hov 0 (.slice (some ⟨g, 0, none⟩) M cap)
    have ckk2 : ((w.alloc (.cells #[.int .i64 3, .string nm, .slice A al.length ca, .string tx] 58)).setCell ⟨vo, 0, none⟩ (.slice (some ⟨g, 0, none⟩) M cap)).cell? ⟨g, K, none⟩ = some (.pointer (some ⟨b, 0, none⟩)) := (blk_cell hrw2 K).trans ((blk_cell hcrow K).symm.trans hcl2)
    have cv2 : ((w.alloc (.cells #[.int .i64 3, .string nm, .slice A al.length ca, .string tx] 58)).setCell ⟨vo, 0, none⟩ (.slice (some ⟨g, 0, none⟩) M cap)).cell? ⟨vo, 0, none⟩ = some (.slice (some ⟨g, 0, none⟩) M cap) := (blk_cell hov2 0).trans rfl
    have e0 := (blk_cell hx 0).trans rfl
    have p0 : ((N : Int) == 0) = false := beq_eq_false_iff_ne.mpr (by omega)
    have hM1 : (N : Int) - 1 = (M : Int) := by omega
    have hM2 : N - 1 = M := by omega
    have p2 := eq_true (show (M : Int) < (N : Int) by omega)
    have p2n := eq_true (show M < N by omega)
    have p3n := eq_true (show M ≤ cap by omega)
    have p3 := eq_true (show (M : Int) ≤ (cap : Int) by omega)
    have p1b := eq_true (show (1 : Int) ≤ (N : Int) by omega)
    have p1c := eq_true (show 1 ≤ N by omega)
    have p1d := eq_true (show 0 < N by omega)
    have hw := Go.Proofs.YtealmfcimoomlaaGreatDoorW.PrintLast.i64_w (M : Int)
    rw [wrap_in (n := (M : Int)) (by omega) (by omega)] at hw
    have q0 : ((M : Int) == 0) = false := beq_eq_false_iff_ne.mpr (by omega)
    have hK1 : (M : Int) - 1 = (K : Int) := by omega
    have hK2 : M - 1 = K := by omega
    have q2 := eq_true (show (K : Int) < (M : Int) by omega)
    have q2n := eq_true (show K < M by omega)
    have q1b := eq_true (show (1 : Int) ≤ (M : Int) by omega)
    have q1c := eq_true (show 1 ≤ M by omega)
    have q1d := eq_true (show 0 < M by omega)
    have hwK := Go.Proofs.YtealmfcimoomlaaGreatDoorW.PrintLast.i64_w (K : Int)
    rw [wrap_in (n := (K : Int)) (by omega) (by omega)] at hwK
    have HOS := Aside0.mk (show OpenS B vo (u :: ts) ((w.alloc (.cells #[.int .i64 3, .string nm, .slice A al.length ca, .string tx] 58)).setCell ⟨vo, 0, none⟩ (.slice (some ⟨g, 0, none⟩) M cap)) (b :: bs) (.slice (some ⟨g, 0, none⟩) M cap) (lvP ts.length lv) from by
      have hm := h.os.move (w' := w.alloc (.cells #[.int .i64 3, .string nm, .slice A al.length ca, .string tx] 58)) (fun k c q hc _ => hal.block k (lt_of_heap hc))
      refine hm.pop (fun k hk => Below.heap_setCell _ ⟨vo, 0, none⟩ _ k hk) hov2 ?_
      rw [hMM]
      have hp := own_move (w1 := w.alloc (.cells #[.int .i64 3, .string nm, .slice A al.length ca, .string tx] 58)) hpop (fun k hk => by obtain ⟨c, hc⟩ := own_typed hpop k hk; exact hal.block k (lt_of_heap hc))
      rw [hM2] at hp
      exact hp)
    have hmv : ∀ k, k < w.heap.size → k ≠ vo → some k ≠ none → ((w.alloc (.cells #[.int .i64 3, .string nm, .slice A al.length ca, .string tx] 58)).setCell ⟨vo, 0, none⟩ (.slice (some ⟨g, 0, none⟩) M cap)).heap[k]? = w.heap[k]? := fun k hk h1 _ => (Below.heap_setCell _ ⟨vo, 0, none⟩ _ k h1).trans (hal.block k hk)
    have HKP1 := Aside0.mk (told_keeps hmv ho (by decide) h.vn (fun k hk => by cases hk))
    have HBL1 := Aside0.mk (show Below B w ((w.alloc (.cells #[.int .i64 3, .string nm, .slice A al.length ca, .string tx] 58)).setCell ⟨vo, 0, none⟩ (.slice (some ⟨g, 0, none⟩) M cap)) from (hal.mono (Nat.le_trans h.lb h.ln)).setCell (p := ⟨vo, 0, none⟩) h.os.bo _)
    have hby := blk_far hyw (p := ⟨vo, 0, none⟩) (blk_ne hyw hov (by decide)) (.slice (some ⟨g, 0, none⟩) M cap)
    have hbb := blk_far hbw (p := ⟨vo, 0, none⟩) (blk_ne hbw hov (by decide)) (.slice (some ⟨g, 0, none⟩) M cap)
    have HYK := Aside0.mk hby
    have HBK := Aside0.mk hbb
    have hsz1 : ((w.alloc (.cells #[.int .i64 3, .string nm, .slice A al.length ca, .string tx] 58)).setCell ⟨vo, 0, none⟩ (.slice (some ⟨g, 0, none⟩) M cap)).heap.size = w.heap.size + 1 := by simp only [World.setCell, World.alloc, Array.size_modify, Array.size_push]
    have HBS := Aside0.mk (show B ≤ ((w.alloc (.cells #[.int .i64 3, .string nm, .slice A al.length ca, .string tx] 58)).setCell ⟨vo, 0, none⟩ (.slice (some ⟨g, 0, none⟩) M cap)).drew.heap.size from by have h8 : ((w.alloc (.cells #[.int .i64 3, .string nm, .slice A al.length ca, .string tx] 58)).setCell ⟨vo, 0, none⟩ (.slice (some ⟨g, 0, none⟩) M cap)).drew.heap.size = w.heap.size + 1 := hsz1; rw [h8]; exact Nat.le_succ_of_le (Nat.le_trans h.lb h.ln))
    have HTN := Aside0.mk (show ∀ k q c, w.heap[k]? = some (.cells c q (0, 0)) → q ∈ frameTys → ((w.alloc (.cells #[.int .i64 3, .string nm, .slice A al.length ca, .string tx] 58)).setCell ⟨vo, 0, none⟩ (.slice (some ⟨g, 0, none⟩) M cap)).heap[k]? = w.heap[k]? from fun k q c hc hq => hmv k (lt_of_heap hc) (by rintro rfl; rw [ho] at hc; injection hc with hc; injection hc with _ hc _; subst hc; exact absurd hq (by decide)) (by simp))
    have hba : Kd.R k61 61 ((w.alloc (.cells #[.int .i64 3, .string nm, .slice A al.length ca, .string tx] 58)).setCell ⟨vo, 0, none⟩ (.slice (some ⟨g, 0, none⟩) M cap)) B (fun k => lv k = ts.length + 2) (.slice Ya t.f2.length yca) t.f2 := by
      rw [hna]
      refine Kd.R_mono (Kd.R_move (Kd.R_bound hy4) (fun k hk => ?_)) (fun _ h => h.1)
      obtain ⟨a1, a2, a3, q, hq, c, hc⟩ := hk
      exact HTN.out k q c hc (tys_attr q hq)
    have hbk : Kd.R k35 35 ((w.alloc (.cells #[.int .i64 3, .string nm, .slice A al.length ca, .string tx] 58)).setCell ⟨vo, 0, none⟩ (.slice (some ⟨g, 0, none⟩) M cap)) B (fun k => lv k = ts.length + 2) (.slice Yk t.f4.length yck) t.f4 := by
      rw [hnt]
      refine Kd.R_mono (Kd.R_move (Kd.R_bound hy5) (fun k hk => ?_)) (fun _ h => h.1)
      obtain ⟨a1, a2, a3, q, hq, c, hc⟩ := hk
      exact HTN.out k q c hc (tys_tree q hq)
    have hbu : Kd.R k35 35 ((w.alloc (.cells #[.int .i64 3, .string nm, .slice A al.length ca, .string tx] 58)).setCell ⟨vo, 0, none⟩ (.slice (some ⟨g, 0, none⟩) M cap)) B (fun k => lv k = ts.length + 1) (.slice Ak n ck) u.f4 := by
      refine Kd.R_mono (Kd.R_move (Kd.R_bound hb5) (fun k hk => ?_)) (fun _ h => h.1)
      obtain ⟨a1, a2, a3, q, hq, c, hc⟩ := hk
      exact HTN.out k q c hc (tys_tree q hq)
    have hvk1 : ∀ k, (Value.slice Ak n ck).ownBlock = some k → lv k = ts.length + 1 := hb5.1
    have hvk2 : ∀ k, (Value.slice Ak n ck).ownBlock = some k → ∃ c', w.heap[k]? = some (.cells c' 35 (0, 0)) := fun k hk => by obtain ⟨_, inner, hown, _⟩ := hb5; exact own_typed hown k hk
    rw [hna] at hba
    rw [hnt] at hbk
    have HBA := Aside0.mk (show Kd.R k61 61 ((w.alloc (.cells #[.int .i64 3, .string nm, .slice A al.length ca, .string tx] 58)).setCell ⟨vo, 0, none⟩ (.slice (some ⟨g, 0, none⟩) M cap)) B (fun k => lvP ts.length lv k = ts.length + 1 ∧ some k ≠ (Value.slice Ak n ck).ownBlock) (.slice Ya ma yca) t.f2 from Kd.R_mono hba (fun k hk => ⟨if_pos hk, fun e => by have h8 := hvk1 k e.symm; have h9 : lv k = ts.length + 2 := hk; omega⟩))
    have HBKK := Aside0.mk (show Kd.R k35 35 ((w.alloc (.cells #[.int .i64 3, .string nm, .slice A al.length ca, .string tx] 58)).setCell ⟨vo, 0, none⟩ (.slice (some ⟨g, 0, none⟩) M cap)) B (fun k => lvP ts.length lv k = ts.length + 1 ∧ some k ≠ (Value.slice Ak n ck).ownBlock) (.slice Yk m yck) t.f4 from Kd.R_mono hbk (fun k hk => ⟨if_pos hk, fun e => by have h8 := hvk1 k e.symm; have h9 : lv k = ts.length + 2 := hk; omega⟩))
    have HKD := Aside0.mk (show Kd.R k35 35 ((w.alloc (.cells #[.int .i64 3, .string nm, .slice A al.length ca, .string tx] 58)).setCell ⟨vo, 0, none⟩ (.slice (some ⟨g, 0, none⟩) M cap)).drew B (fun k => lvK ((w.alloc (.cells #[.int .i64 3, .string nm, .slice A al.length ca, .string tx] 58)).setCell ⟨vo, 0, none⟩ (.slice (some ⟨g, 0, none⟩) M cap)).heap.size (ts.length + 1) (lvP ts.length lv) k = ts.length + 1) (.slice Ak n ck) u.f4 from Kd.R_mono (Kd.R_move (w1 := ((w.alloc (.cells #[.int .i64 3, .string nm, .slice A al.length ca, .string tx] 58)).setCell ⟨vo, 0, none⟩ (.slice (some ⟨g, 0, none⟩) M cap)).drew) (Kd.R_bound hbu) (fun k hk => rfl)) (fun k hk => by
      have h8 : lv k = ts.length + 1 := hk.1
      show lvK _ _ _ k = _
      rw [show lvK ((w.alloc (.cells #[.int .i64 3, .string nm, .slice A al.length ca, .string tx] 58)).setCell ⟨vo, 0, none⟩ (.slice (some ⟨g, 0, none⟩) M cap)).heap.size (ts.length + 1) (lvP ts.length lv) k = lvP ts.length lv k from if_pos hk.2.2.1]
      show (if lv k = ts.length + 2 then ts.length + 1 else lv k) = _
      rw [if_neg (by omega), h8]))
    have HFR := Aside0.mk (show ∀ k, ((w.alloc (.cells #[.int .i64 3, .string nm, .slice A al.length ca, .string tx] 58)).setCell ⟨vo, 0, none⟩ (.slice (some ⟨g, 0, none⟩) M cap)).drew.heap.size ≤ k → lvK ((w.alloc (.cells #[.int .i64 3, .string nm, .slice A al.length ca, .string tx] 58)).setCell ⟨vo, 0, none⟩ (.slice (some ⟨g, 0, none⟩) M cap)).heap.size (ts.length + 1) (lvP ts.length lv) k = ts.length + 1 from fun k hk => if_neg (Nat.not_lt.mpr hk))
    have HNE := Aside0.mk (show some b ≠ (Value.slice Ak n ck).ownBlock from fun e => by have h9 := hvk1 b e.symm; rw [hb2] at h9; omega)
    have HNY := Aside0.mk (show some y ≠ (Value.slice Ak n ck).ownBlock from fun e => by have h9 := hvk1 y e.symm; rw [hy2] at h9; omega)
    have HRN := Aside0.mk (show ∀ k, (Value.slice Ak n ck).ownBlock = some k → k < n0 ∧ ∃ c' t', ((w.alloc (.cells #[.int .i64 3, .string nm, .slice A al.length ca, .string tx] 58)).setCell ⟨vo, 0, none⟩ (.slice (some ⟨g, 0, none⟩) M cap)).heap[k]? = some (.cells c' t' (0, 0)) ∧ t' ∉ keptTys from fun k hk => by
      obtain ⟨c', hc⟩ := hvk2 k hk
      have h8 := hvk1 k hk
      refine ⟨?_, c', _, (HTN.out k _ c' hc (by decide)).trans hc, by decide⟩
      rcases Nat.lt_or_ge k n0 with h9 | h9
      · exact h9
      · have := h.nw k h9 (lt_of_heap hc)
        rw [List.length_cons, List.length_cons] at this
        omega)
    have HB2 := Aside0.mk hb2
    have HB1 := Aside0.mk hb1
    clear hlen hNN hMM hKK hMK h hcl hcl2 hpop hcrow ho hal hov hrw hx hb1 hb2 hb3 hb4 hb5 hbw hnk hyw hy1 hy2 hy3 hy4 hy5 hyb hvg hrw2 hov2 hnt hna hmv hby hbb hsz1 hba hbk hbu hvk1 hvk2
    show Calls _ _ #[.agg #[.int .i64 3, .string nm, .slice A al.length ca, .string tx], .pointer (some ⟨vo, 0, none⟩)] _ _
    go_enter Tryz.func26, Tryz.ntmps26
    go_wp2_with fail
    generalize hw1 : (w.alloc (.cells #[.int .i64 3, .string nm, .slice A al.length ca, .string tx] 58)).setCell ⟨vo, 0, none⟩ (.slice (some ⟨g, 0, none⟩) M cap) = w1 at *
    clear cv zv ckk ckk2 cv2 e0 p0 hM1 hM2 p2 p2n p3n p3 p1b p1c p1d hw q0 hK1 hK2 q2 q2n q1b q1c q1d hwK hcap hcapm hw1
    refine start_ (n := 15) (S := fun w' => w'.cell? ⟨b, 4, none⟩ = some (.slice Ak n ck) ∧ w'.cell? ⟨y, 0, none⟩ = some (.int .i64 t.f0) ∧ w'.cell? ⟨y, 1, none⟩ = some (.string t.f1) ∧ w'.cell? ⟨y, 2, none⟩ = some (.slice Ya ma yca) ∧ w'.cell? ⟨y, 3, none⟩ = some (.string t.f3) ∧ w'.cell? ⟨y, 4, none⟩ = some (.slice Yk m yck)) (ds := [11, 14]) #[false, false, false, false, false, false, false, false, false, false, false, false, false, false, false] (by kernel_rfl) rfl rfl ⟨(blk_cell HBK.out 4).trans rfl, (blk_cell HYK.out 0).trans rfl, (blk_cell HYK.out 1).trans rfl, (blk_cell HYK.out 2).trans rfl, (blk_cell HYK.out 3).trans rfl, (blk_cell HYK.out 4).trans rfl⟩ (fun hHeld => ?_)
    refine pure_ (i := 0) (N := some 24) (v := ?_) (a' := ?_) #[true, false, false, false, false, false, false, false, false, false, false, false, false, false, false] rfl rfl (by kernel_rfl) (fun _ _ _ h => h) (Or.inl ⟨by rfl, ?_⟩) ?_ ?_
    rotate_left
    · intro w'
      go_simp
      with_reducible rfl
    rotate_left
    · simp only [Act.put, List.setIfInBounds_toArray, List.set_cons_zero, List.set_cons_succ, i64_w, i32_w]
      rfl
    refine pure_ (i := 1) (N := some 25) (v := ?_) (a' := ?_) #[true, true, false, false, false, false, false, false, false, false, false, false, false, false, false] rfl rfl (by kernel_rfl) (fun _ _ _ h => h) (Or.inl ⟨by rfl, ?_⟩) ?_ ?_
    rotate_left
    · intro w'
      go_simp
      with_reducible rfl
    rotate_left
    · simp only [Act.put, List.setIfInBounds_toArray, List.set_cons_zero, List.set_cons_succ, i64_w, i32_w]
      rfl
    refine pure_ (i := 2) (N := some 26) (v := ?_) (a' := ?_) #[true, true, true, false, false, false, false, false, false, false, false, false, false, false, false] rfl rfl (by kernel_rfl) (fun _ _ _ h => h) (Or.inl ⟨by rfl, ?_⟩) ?_ ?_
    rotate_left
    · intro w'
      go_simp
      with_reducible rfl
    rotate_left
    · simp only [Act.put, List.setIfInBounds_toArray, List.set_cons_zero, List.set_cons_succ, i64_w, i32_w]
      rfl
    refine pure_ (i := 4) (N := some 28) (v := ?_) (a' := ?_) #[true, true, true, false, true, false, false, false, false, false, false, false, false, false, false] rfl rfl (by kernel_rfl) (fun _ _ _ h => h) (Or.inl ⟨by rfl, ?_⟩) ?_ ?_
    rotate_left
    · intro w'
      go_simp
      with_reducible rfl
    rotate_left
    · simp only [Act.put, List.setIfInBounds_toArray, List.set_cons_zero, List.set_cons_succ, i64_w, i32_w]
      rfl
    refine pure_ (i := 5) (N := some 29) (v := ?_) (a' := ?_) #[true, true, true, false, true, true, false, false, false, false, false, false, false, false, false] rfl rfl (by kernel_rfl) (fun _ _ _ h => h) (Or.inl ⟨by rfl, ?_⟩) ?_ ?_
    rotate_left
    · intro w'
      go_simp
      with_reducible rfl
    rotate_left
    · simp only [Act.put, List.setIfInBounds_toArray, List.set_cons_zero, List.set_cons_succ, i64_w, i32_w]
      rfl
    refine take_ (i := 3) (N := some 27) (v := ?_) (a' := ?_) #[true, true, true, true, true, true, false, false, false, false, false, false, false, false, false] rfl rfl (by kernel_rfl) (fun _ _ _ h => h) (Or.inl ⟨by rfl, ?_⟩) hHeld ?_ ?_
    rotate_left
    · rintro w' ⟨s0, s1, s2, s3, s4, s5⟩
      go_simp
      with_reducible rfl
    rotate_left
    · simp only [Act.put, List.setIfInBounds_toArray, List.set_cons_zero, List.set_cons_succ, i64_w, i32_w]
      rfl
    refine pure_ (i := 7) (N := some 31) (v := ?_) (a' := ?_) #[true, true, true, true, true, true, false, true, false, false, false, false, false, false, false] rfl rfl (by kernel_rfl) (fun _ _ _ h => h) (Or.inl ⟨by rfl, ?_⟩) ?_ ?_
    rotate_left
    · intro w'
      go_simp
      with_reducible rfl
    rotate_left
    · simp only [Act.put, List.setIfInBounds_toArray, List.set_cons_zero, List.set_cons_succ, i64_w, i32_w]
      rfl
    refine take_ (i := 6) (N := some 30) (v := ?_) (a' := ?_) #[true, true, true, true, true, true, true, true, false, false, false, false, false, false, false] rfl rfl (by kernel_rfl) (fun _ _ _ h => h) (Or.inl ⟨by rfl, ?_⟩) hHeld ?_ ?_
    rotate_left
    · rintro w' ⟨s0, s1, s2, s3, s4, s5⟩
      go_simp
      with_reducible rfl
    rotate_left
    · simp only [Act.put, List.setIfInBounds_toArray, List.set_cons_zero, List.set_cons_succ, i64_w, i32_w]
      rfl
    refine one_ (i := 8) (N := some 32) #[true, true, true, true, true, true, true, true, true, false, false, false, false, false, false] rfl rfl (by kernel_rfl) (by decide) (fun K hK => ?_)
    refine value_ (w1 := ?_) (v := ?_) (by rfl) rfl ?_ ?_
    rotate_left 2
    · go_simp
      constructor
      · rfl
      · rfl
    refine hK.out _ _ ⟨(blk_cell (blkU_below (below_alloc (Below.refl _ _) _) HBK.out) 4).trans rfl, (blk_cell (blkU_below (below_alloc (Below.refl _ _) _) HYK.out) 0).trans rfl, (blk_cell (blkU_below (below_alloc (Below.refl _ _) _) HYK.out) 1).trans rfl, (blk_cell (blkU_below (below_alloc (Below.refl _ _) _) HYK.out) 2).trans rfl, (blk_cell (blkU_below (below_alloc (Below.refl _ _) _) HYK.out) 3).trans rfl, (blk_cell (blkU_below (below_alloc (Below.refl _ _) _) HYK.out) 4).trans rfl⟩ (fun hHeld => ?_)
    clear hK K
    refine norm_ (a' := ?_) ?_ ?_
    rotate_left
    · show Act.put _ (some 32) _ = _
      simp only [Act.put, List.setIfInBounds_toArray, List.set_cons_zero, List.set_cons_succ, i64_w, i32_w]
      rfl
    refine one_ (i := 9) (N := some 33) #[true, true, true, true, true, true, true, true, true, true, false, false, false, false, false] rfl rfl (by kernel_rfl) (by decide) (fun K hK => ?_)
    refine Kd.R_append_step k35 (w0 := w1.drew) B (by rfl) (.tmp 27) (.tmp 32) 22 35 (.agg #[(.int .i64 0), (.string ⟨#[]⟩), (.slice none 0 0), (.string ⟨#[]⟩), (.slice none 0 0)]) 88 rfl Tryz.underlying22 infoP_tree rfl (by decide) (by decide) (.slice Ak n ck) u.f4 zeroT [.int .i64 0, .string ⟨#[]⟩, .slice none 0 0, .string ⟨#[]⟩, .slice none 0 0] (fun k => lvK w1.heap.size (ts.length + 1) (lvP ts.length lv) k = ts.length + 1) (fun _ => False) (by rfl) (by rfl) (k35_mkM w1.drew _ _ zeroT (Kd.R_nil _ _ _ _ _) (Kd.R_nil _ _ _ _ _)) (fun k h => h.elim) HFR.out HKD.out (Below.refl _ _) HBS.out (by have := HNK.out; have := HN4.out; omega) ?_
    intro v8 w8 hR8 hB8 hG8 hat8
    obtain ⟨A8, c8, rfl⟩ := Kd.R_slice hR8
    obtain ⟨g8, cur8, rfl, hx8, hz8, hc8, hm8, hk8⟩ := tree_row (n := n) (by rw [← HNK.out]; simpa using hR8)
    have hb8 := blk_grown (w := w1.drew) HBK.out hG8 HNE.out
    have hye8 := blk_grown (w := w1.drew) HYK.out hG8 HNY.out
    have hb9 := hb8
    rw [show (u.f4 ++ [zeroT]).length = n + 1 by rw [List.length_append, HNK.out]; rfl] at *
    have i8 := eq_true (show (n : Int) < (n : Int) + 1 by omega)
    have zg8 := fun j => blk_frozen hx8 j
    have zb8 := blk_frozen hb9 4
    obtain ⟨u0, hu0⟩ := row_in hx8 (show n * 5 < cur8.size by omega)
    obtain ⟨u1, hu1⟩ := row_in hx8 (show n * 5 + 1 < cur8.size by omega)
    obtain ⟨u2, hu2⟩ := row_in hx8 (show n * 5 + 2 < cur8.size by omega)
    obtain ⟨u3, hu3⟩ := row_in hx8 (show n * 5 + 3 < cur8.size by omega)
    obtain ⟨u4, hu4⟩ := row_in hx8 (show n * 5 + 4 < cur8.size by omega)
    refine hK.out _ _ ⟨(blk_cell hb8 4).trans rfl, (blk_cell hye8 0).trans rfl, (blk_cell hye8 1).trans rfl, (blk_cell hye8 2).trans rfl, (blk_cell hye8 3).trans rfl, (blk_cell hye8 4).trans rfl⟩ (fun hHeld => ?_)
    clear hK K
    refine norm_ (a' := ?_) ?_ ?_
    rotate_left
    · show Act.put _ (some 33) _ = _
      simp only [Act.put, List.setIfInBounds_toArray, List.set_cons_zero, List.set_cons_succ, i64_w, i32_w]
      rfl
    refine pure_ (i := 10) (N := some 34) (v := ?_) (a' := ?_) #[true, true, true, true, true, true, true, true, true, true, true, false, false, false, false] rfl rfl (by kernel_rfl) (fun _ _ _ h => h) (Or.inl ⟨by rfl, ?_⟩) ?_ ?_
    rotate_left
    · intro w'
      go_simp
      with_reducible rfl
    rotate_left
    · simp only [Act.put, List.setIfInBounds_toArray, List.set_cons_zero, List.set_cons_succ, i64_w, i32_w]
      rfl
    refine pure_ (i := 12) (N := some 35) (v := ?_) (a' := ?_) #[true, true, true, true, true, true, true, true, true, true, true, false, true, false, false] rfl rfl (by kernel_rfl) (fun _ _ _ h => h) (Or.inl ⟨by rfl, ?_⟩) ?_ ?_
    rotate_left
    · intro w'
      go_simp
      with_reducible rfl
    rotate_left
    · simp only [Act.put, List.setIfInBounds_toArray, List.set_cons_zero, List.set_cons_succ, i64_w, i32_w]
      rfl
    refine pure_ (i := 13) (N := some 36) (v := ?_) (a' := ?_) #[true, true, true, true, true, true, true, true, true, true, true, false, true, true, false] rfl rfl (by kernel_rfl) (fun _ _ _ h => h) (Or.inl ⟨by rfl, ?_⟩) ?_ ?_
    rotate_left
    · intro w'
      go_simp
      with_reducible rfl
    rotate_left
    · simp only [Act.put, List.setIfInBounds_toArray, List.set_cons_zero, List.set_cons_succ, i64_w, i32_w]
      rfl

    have HGB := Aside0.mk (show b ≠ g8 by
      intro e
      have e2 : lvK w1.heap.size (ts.length + 1) (lvP ts.length lv) b = lvP ts.length lv b := if_pos (lt_of_heap HBK.out)
      have e3 : lvP ts.length lv b = lv b := if_neg (by rw [HB2.out]; omega)
      rw [← e, e2, e3, HB2.out] at hk8
      omega)
    have HB8 := Aside0.mk hb8
    have cb8 := (blk_cell hb8 4).trans rfl
    have HX8 := Aside0.mk hx8
    have HZ8 := Aside0.mk (show n * 5 + 4 < cur8.size by omega)
    have HFIN := Aside0.mk (show (∃ bs ov lv, OpenS B vo ({ u with f4 := u.f4 ++ [t] } :: ts) ((put5 w8 g8 (n * 5) t (.slice Ya ma yca) (.slice Yk m yck)).setCell ⟨b, 4, none⟩ (.slice (some ⟨g8, 0, none⟩) (n + 1) c8)) bs ov lv) ∧ KeepS n0 w ((put5 w8 g8 (n * 5) t (.slice Ya ma yca) (.slice Yk m yck)).setCell ⟨b, 4, none⟩ (.slice (some ⟨g8, 0, none⟩) (n + 1) c8)) ∧ Below B w ((put5 w8 g8 (n * 5) t (.slice Ya ma yca) (.slice Yk m yck)).setCell ⟨b, 4, none⟩ (.slice (some ⟨g8, 0, none⟩) (n + 1) c8)) by
      obtain ⟨k1, k2, k3⟩ := kid_end (x := t) (xa := .slice Ya ma yca) (xk := .slice Yk m yck) HOS.out HBK.out (Below.drew (Below.refl _ w1)) hG8 hat8 hR8 HNK.out HBA.out HBKK.out
      have hBg8 : B ≤ g8 := ((Kd.R_bound hR8).1 g8 rfl).2.1
      refine ⟨⟨_, _, _, k1⟩, HKP1.out.trans (told_keeps k2 HBK.out (by decide) (HT.out.bn b (List.mem_cons_of_mem _ List.mem_cons_self)) HRN.out), (put5_below ((HBL1.out.trans (Below.drew (Below.refl _ w1))).trans hB8) hBg8 _ _ _ _).setCell (p := ⟨b, 4, none⟩) HB1.out _⟩)
    clear hR8 hG8 hat8 hB8 hb8 hb9 hx8 hz8 hc8 hm8 hk8 hHeld
    refine twoLast_ (i := 11) (j := 14) (Ni := none) (Nj := none) #[true, true, true, true, true, true, true, true, true, true, true, true, true, true, false] #[true, true, true, true, true, true, true, true, true, true, true, false, true, true, true] rfl rfl rfl rfl (by kernel_rfl) (by decide) (by decide) (fun K hK => ?_) (fun K hK => ?_)

    · skip
      refine skip_ (w1 := ?_) (by rfl) rfl ?_ ?_
      rotate_left
      · go_simp
        rfl
      refine hK.out _ _ ?_
      clear hK K
      refine world_ (w' := put5 w8 g8 (n * 5) t (.slice Ya ma yca) (.slice Yk m yck)) rfl ?_
      have hb10 := (put5_other w8 g8 (n * 5) t (.slice Ya ma yca) (.slice Yk m yck) b HGB.out).trans HB8.out
      have zb10 := blk_frozen hb10 4
      have cb10 := (blk_cell hb10 4).trans rfl
      have HFN := HFIN.out
      generalize put5 w8 g8 (n * 5) t (.slice Ya ma yca) (.slice Yk m yck) = w9 at *
      clear zg8 hu0 hu1 hu2 hu3 hu4 zb8 cb8 hb10
      refine last_ (i := 14) (N := none) #[true, true, true, true, true, true, true, true, true, true, true, true, true, true, true] rfl rfl (by kernel_rfl) (by decide) (fun K hK => ?_)
      refine skip_ (w1 := ?_) (by rfl) rfl ?_ ?_
      rotate_left
      · go_simp
        rfl
      refine hK.out _ _ ?_
      clear hK K
      refine done_ (by kernel_rfl) ?_
      go_end0
      exact ⟨rfl, HFN⟩
    · skip
      refine skip_ (w1 := ?_) (by rfl) rfl ?_ ?_
      rotate_left
      · go_simp
        rfl
      refine hK.out _ _ ?_
      clear hK K
      have hx10 := blk_far HX8.out (p := ⟨b, 4, none⟩) HGB.out.symm (.slice (some ⟨g8, 0, none⟩) (n + 1) c8)
      have zg10 := fun j => blk_frozen hx10 j
      obtain ⟨y0, hy0⟩ := row_in hx10 (show n * 5 < cur8.size by have := HZ8.out; omega)
      obtain ⟨y1, hy1⟩ := row_in hx10 (show n * 5 + 1 < cur8.size by have := HZ8.out; omega)
      obtain ⟨y2, hy2⟩ := row_in hx10 (show n * 5 + 2 < cur8.size by have := HZ8.out; omega)
      obtain ⟨y3, hy3⟩ := row_in hx10 (show n * 5 + 3 < cur8.size by have := HZ8.out; omega)
      obtain ⟨y4, hy4⟩ := row_in hx10 (show n * 5 + 4 < cur8.size by have := HZ8.out; omega)
      have HFN := HFIN.out
      rw [← put5_comm HGB.out] at HFN
      generalize w8.setCell ⟨b, 4, none⟩ (.slice (some ⟨g8, 0, none⟩) (n + 1) c8) = w9 at *
      clear zg8 hu0 hu1 hu2 hu3 hu4 zb8 cb8 hx10
      refine last_ (i := 11) (N := none) #[true, true, true, true, true, true, true, true, true, true, true, true, true, true, true] rfl rfl (by kernel_rfl) (by decide) (fun K hK => ?_)
      refine skip_ (w1 := ?_) (by rfl) rfl ?_ ?_
      rotate_left
      · go_simp
        rfl
      refine hK.out _ _ ?_
      clear hK K
      refine done_ (by kernel_rfl) ?_
      go_end0
      exact ⟨rfl, HFN⟩
end Go.Proofs.YtealmfcimoomlaaGreatDoor.PA
