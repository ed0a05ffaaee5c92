/- scan.reader: closes. Written by wip/gen/closes04.py. -/
import Derived.Test.YtealmfcimoomlaaGreatDoorUScan15
namespace Go.Proofs.YtealmfcimoomlaaGreatDoor.PA
open Go.RowKit Go.Proofs.YtealmfcimoomlaaGreatDoorW.PrintWords Go.Proofs.YtealmfcimoomlaaGreatDoorW.PrintLast Go.Proofs.YtealmfcimoomlaaGreatDoorW.PrintMore
set_option linter.unusedVariables false
set_option linter.unusedSimpArgs false
/-- What an element's end tells and comes to. -/
def closesF (s : ByteArray) (st : St) : List Evt × Res Unit :=
  match nextF s { flushS st with at_ := st.at_ + 2 } with
  | .bad a y => (flushE st, .bad a y)
  | .ok c st1 => if letterV c = false then (flushE st, .bad st1.at_ 3) else match nameP s st1 with
    | .bad a y => (flushE st, .bad a y)
    | .ok n st2 => if st2.opn.getLast? ≠ some n then (flushE st, .bad st.at_ 40) else match mustF s { st2 with at_ := skipF s blankV st2.at_ } 62 with
      | .bad a y => (flushE st, .bad a y)
      | .ok _ st3 => (flushE st ++ [endEv n], .ok () { st3 with opn := st3.opn.dropLast })
/-- The last one that is open leaves. -/
theorem Rd.popped {B r : Nat} {tell : Value} {s : ByteArray} {st : St} {w : World} {pv bv : Value} {g N cap : Nat} (h0 : B ≤ w.heap.size) (h1 : Bld 86 B r 3 (rcells s st (.slice (some ⟨g, 0, none⟩) N cap) pv bv tell) (Lib.byteCells st.text) w) (h2 : w.ownsRow B 9 1 (.slice (some ⟨g, 0, none⟩) N cap) st.opn.length (pw_strs st.opn)) (hN : st.opn.length = N) (h : 0 < N) :
    Rd B r tell s { st with opn := st.opn.dropLast } (w.setCell ⟨r, 2, none⟩ (.slice (some ⟨g, 0, none⟩) (N - 1) cap)) := by
  have hr1 := h1.2.1
  have hrow : w.ownsRow B 9 1 (.slice (some ⟨g, 0, none⟩) (N - 1) cap) st.opn.dropLast.length (pw_strs st.opn.dropLast) := by
    obtain ⟨e0, ⟨e1, _⟩ | ⟨g', cap', cur, e1, e2, e3, e4, e5, e6, e7⟩⟩ := h2
    · cases e1
    · injection e1 with f1 f2 f3
      injection f1 with f1
      injection f1 with f1 _ _
      subst f1; subst f3
      refine ⟨by simp [pw_strs], .inr ⟨g, cap, cur, by rw [List.length_dropLast, hN], e2, e3, by rw [List.length_dropLast]; omega, e5, e6, ?_⟩⟩
      have e8 : (cur.toList.take (st.opn.length * 1)).take (st.opn.dropLast.length * 1) = pw_strs st.opn.dropLast := by
        rw [e7]
        unfold pw_strs
        rw [← List.map_take, Nat.mul_one, List.length_dropLast, ← List.dropLast_eq_take]
      rw [List.take_take] at e8
      rw [← e8]
      congr 1
      rw [List.length_dropLast]
      omega
  refine ⟨by simp only [World.setCell, Array.size_modify]; exact h0, _, pv, bv, ?_, own_setCell hrow (own_ne hrow hr1 (by decide)) _⟩
  exact h1.other 2 (by decide) (by decide) _
theorem Way.drewN {B r : Nat} {tell : Value} {s : ByteArray} {st0 st : St} {w0 w : World} (h : Way B r tell s st0 w0 st w) (k : Nat) : Way B r tell s st0 w0 st (w.drewN k) := h.step (pw_below_drewN (Below.refl B w) k) (KeepX.drewN r w k) (h.rd.drewN k)
/-- The names that are open, as they lie in memory. -/
theorem opn_cells {B : Nat} {w : World} {ov : Value} {l : List ByteArray} {x : ByteArray} (h : w.ownsRow B 9 1 ov (l ++ [x]).length (pw_strs (l ++ [x]))) : ∃ g cap, ov = .slice (some ⟨g, 0, none⟩) (l.length + 1) cap ∧ l.length + 1 ≤ cap ∧ cap ≤ maxLen ∧ w.cell? ⟨g, l.length, none⟩ = some (.string x) := by
  obtain ⟨e0, ⟨e1, e2⟩ | ⟨g, cap, cur, e1, e2, e3, e4, e5, e6, e7⟩⟩ := h
  · simp at e2
  · refine ⟨g, cap, by rw [e1]; simp, by simpa using e4, e5, ?_⟩
    rw [blk_cell e3]
    have : (cur.toList.take ((l ++ [x]).length * 1))[l.length]? = some (.string x) := by
      rw [e7]
      simp [pw_strs]
    rw [List.getElem?_take, if_pos (by simp), Array.getElem?_toList] at this
    exact this
set_option maxHeartbeats 16000000 in
set_option maxRecDepth 100000 in
theorem closes_calls (B r : Nat) (Sk : Sink B r) (s : ByteArray) (st : St) (l0 : List Evt) (w : World) (h : Rd B r Sk.tell s st w) (hE : Env B w) (hP : Sk.P l0 w) (ha : st.at_ + 2 ≤ s.size) (hs : s.size ≤ 262144) (hl : l0.length ≤ 16380) (hd : deep l0 = st.opn.length) (ho : st.opn.length ≤ 64) :
    Calls Tryz.prog 90 #[.pointer (some ⟨r, 0, none⟩)] w (EndsE Sk s l0 w (closesF s st)) := by
  have HE := Aside0.mk hE
  have HS := Aside0.mk hs
  have HA := Aside0.mk ha
  have HDP := Aside0.mk hd
  have HL0 := Aside0.mk hl
  have HO := Aside0.mk ho
  have CF := Aside0.mk (flush_calls B r Sk s st l0 w h hP (by omega))
  generalize hres : closesF s st = res
  have HZ := Aside0.mk hres
  clear hres h hE hP hl hd ho
  go_enter Tryz.func90, Tryz.ntmps90
  go_wp2_with (go_at_call 42; refine CF.out.mono ?_)
  rintro e w1 ⟨rfl, hR1, hP1, hB1, hK1⟩
  have W1 := Aside0.mk (Way.start hR1 (HE.out.step hB1))
  have HP1 := Aside0.mk hP1
  have HB1 := Aside0.mk hB1
  have HT1 := Aside0.mk hK1
  have W2 := Aside0.mk (W1.out.store (st.at_ + 2) ((st.at_ : Int) + 2) (by omega))
  obtain ⟨c1, z1⟩ : w1.cell? ⟨r, 1, none⟩ = some (.int .i64 st.at_) ∧ w1.frozen? ⟨r, 1, none⟩ = false := by
    obtain ⟨x0, ov, pv, bv, x1, x2⟩ := hR1
    obtain ⟨c0, c1, -, -, -, z1, -⟩ := Rd.cells x1
    exact ⟨c1, z1⟩
  clear hR1 hP1 hB1 hK1 CF
  have C2 := Aside0.mk (next_calls B r Sk.tell s { flushS st with at_ := st.at_ + 2 } _ W2.out.rd ha)
  cases hQ : nextF s { flushS st with at_ := st.at_ + 2 } with
  | bad a y =>
    rw [hQ] at C2
    go_wp2_with (go_at_call 115; refine C2.out.mono ?_; rintro e w3 ⟨hb3, hk3, rfl⟩)
    have k3 := W2.out.kx.trans hk3
    have b3 := W2.out.bel.trans hb3
    rw [← HZ.out, closesF, hQ]
    exact ⟨rfl, HB1.out.trans b3, HT1.out.trans (KeepT.ofR k3.R), Sk.keep _ _ _ HP1.out W1.out.rd.rb k3.R b3, rfl⟩
  | ok cx st1 =>
    rw [hQ] at C2
    obtain ⟨hst1, hcx, hlt⟩ := nextF_ok hQ ha
    have hcr := bt_range s ((st.at_ + 2 : Nat) : Int)
    have hcr2 : 0 ≤ cx ∧ cx ≤ 255 := by rw [hcx]; exact hcr
    have HCR := Aside0.mk hcr2
    have HST1 := Aside0.mk hst1
    have HQ := Aside0.mk hQ
    have hlt1 : st1.at_ < s.size := by rw [hst1]; exact hlt
    clear hQ hcx hcr hcr2 hst1 hlt
    cases hLv : letterV cx with
    | false =>
      have HLV0 := Aside0.mk hLv
      clear hLv
      go_wp2_with (first
        | (go_at_call 115; refine C2.out.mono ?_; rintro e w3 ⟨hb3, hk3, rfl, hr3⟩; have W3 := Aside0.mk (W2.out.step hb3 hk3 hr3); obtain ⟨x0, ov, pv, bv, x1, x2⟩ := hr3; obtain ⟨d0, d1, -⟩ := Rd.cells x1; clear hb3 hk3 x0 x1 x2)
        | (go_at_call 91; (with_reducible refine (scan_letter.calls 64 cx false _ (by rw [letterV_f _ HCR.out.1 HCR.out.2, HLV0.out])).mono ?_); rintro e w' ⟨rfl, ⟨nd, rfl⟩⟩)
        | (go_at_call 43; refine (fail_calls r _ 3 _).mono ?_; rintro e w' ⟨rfl, rfl⟩))
      have W3d := W3.out.drewN nd
      rw [← HZ.out, closesF, HQ.out]
      simp only
      rw [if_pos HLV0.out]
      exact ⟨rfl, HB1.out.trans W3d.bel, HT1.out.trans (KeepT.ofR W3d.kx.R), Sk.keep _ _ _ HP1.out W1.out.rd.rb W3d.kx.R W3d.bel, rfl⟩
    | true =>
      have HLV0 := Aside0.mk hLv
      clear hLv
      go_wp2_with (first
        | (go_at_call 115; refine C2.out.mono ?_; rintro e w3 ⟨hb3, hk3, rfl, hr3⟩; have W3 := Aside0.mk (W2.out.step hb3 hk3 hr3); clear hb3 hk3 hr3)
        | (go_at_call 91; (with_reducible refine (scan_letter.calls 64 cx true _ (by rw [letterV_f _ HCR.out.1 HCR.out.2, HLV0.out])).mono ?_); rintro e w' ⟨rfl, ⟨nd, rfl⟩⟩))
      have W3d := Aside0.mk (W3.out.drewN nd)
      generalize hwd : w3.drewN nd = w3d at *
      have C3 := Aside0.mk (nameP_calls B r Sk.tell s st1 w3d W3d.out.rd (by omega) HS.out)
      clear hwd C2 W3 c1 z1 W2
      cases hN : nameP s st1 with
      | bad a y =>
        rw [hN] at C3
        refine C3.out.mono ?_
        rintro e w4 ⟨hb4, hk4, rfl⟩
        go_wp2_with fail
        have k4 := W3d.out.kx.trans hk4
        have b4 := W3d.out.bel.trans hb4
        rw [← HZ.out, closesF, HQ.out]
        simp only
        rw [if_neg (by rw [HLV0.out]; decide), hN]
        exact ⟨rfl, HB1.out.trans b4, HT1.out.trans (KeepT.ofR k4.R), Sk.keep _ _ _ HP1.out W1.out.rd.rb k4.R b4, rfl⟩
      | ok n st2 =>
        rw [hN] at C3
        have HN := Aside0.mk hN
        obtain ⟨hn1, hn2, hn3, hn4⟩ := nameP_ok hN (by omega)
        have HN3 := Aside0.mk hn3
        have HO2 := Aside0.mk (show st2.opn = st.opn by rw [hn1]; simp only; rw [HST1.out]; rfl)
        refine C3.out.mono ?_
        rintro e w4 ⟨hb4, hk4, rfl, hr4⟩
        have W4 := Aside0.mk (W3d.out.step hb4 hk4 hr4)
        clear hb4 hk4 hr4 C3 W3d hN hn1 hn2 hn4
        obtain ⟨h04, ov, pv, bv, h14, h24⟩ := W4.out.rd
        rcases List.eq_nil_or_concat st2.opn with hop | ⟨li, x, hop⟩
        · have h24' := h24
          rw [hop] at h24'
          obtain ⟨Ao, co, rfl⟩ := own_slice h24'
          have c2 : w4.cell? ⟨r, 2, none⟩ = some (.slice Ao 0 co) := (blk_cell h14.2.1 2).trans rfl
          have HOP := Aside0.mk hop
          clear h04 h14 h24 h24' hop
          go_wp2_with fail
          go_quiet (fail)
          go_wp2_with (go_at_call 43; refine (fail_calls r _ 40 _).mono ?_; rintro e w' ⟨rfl, rfl⟩)
          have W4d := W4.out.drewN nq
          rw [← HZ.out, closesF, HQ.out]
          simp only
          rw [if_neg (by rw [HLV0.out]; decide), HN.out]
          simp only
          rw [if_pos (by rw [HOP.out]; simp)]
          exact ⟨rfl, HB1.out.trans W4d.bel, HT1.out.trans (KeepT.ofR W4d.kx.R), Sk.keep _ _ _ HP1.out W1.out.rd.rb W4d.kx.R W4d.bel, rfl⟩
        · rw [List.concat_eq_append] at hop
          have h24' := h24
          rw [hop] at h24'
          obtain ⟨g, cap, rfl, hcap, hcapm, hcx⟩ := opn_cells h24'
          have hN64 : li.length + 1 ≤ 64 := by have := HO.out; have e := HO2.out; rw [hop] at e; have e2 := congrArg List.length e; rw [List.length_append] at e2; simp only [List.length_singleton] at e2; omega
          generalize hNN : li.length + 1 = N at *
          have hl1 : li.length = N - 1 := by omega
          rw [hl1] at hcx
          have hNpos : 0 < N := by omega
          have c2 : w4.cell? ⟨r, 2, none⟩ = some (.slice (some ⟨g, 0, none⟩) N cap) := (blk_cell h14.2.1 2).trans rfl
          have HOP := Aside0.mk hop
          have HL1 := Aside0.mk hl1
          have HNN := Aside0.mk hNN
          have hcx2 : w4.cell? ⟨g, ((N : Int) - 1).toNat, none⟩ = some (.string x) := by rw [show ((N : Int) - 1).toNat = N - 1 by omega]; exact hcx
          have p0 : ((N : Int) == 0) = false := beq_eq_false_iff_ne.mpr (by omega)
          have p1 := eq_true (show (0 : Int) ≤ (N : Int) - 1 by omega)
          have p2 := eq_true (show (N : Int) - 1 < (N : Int) by omega)
          have p1b := eq_true (show (1 : Int) ≤ (N : Int) by omega)
          have p1c := eq_true (show 1 ≤ N by omega)
          have p1d := eq_true (show 0 < N by omega)
          have hw := Go.Proofs.YtealmfcimoomlaaGreatDoorW.PrintLast.i64_w ((N : Int) - 1)
          rw [wrap_in (n := (N : Int) - 1) (by omega) (by omega)] at hw
          clear h04 h14 h24 h24' hop hl1 hNN
          by_cases hxn : x = n
          · have p3 : (x.toList == n.toList) = true := by rw [eqB]; exact decide_eq_true hxn
            have p4 : (x.toList != n.toList) = false := by rw [bne, p3]; rfl
            have HXN := Aside0.mk hxn
            clear hxn
            go_wp2_with fail
            go_quiet (fail)
            have W5 := Aside0.mk (W4.out.drewN nq)
            generalize hw5 : w4.drewN nq = w5 at *
            clear hw5 p0 p1 p2 p1b p1c p1d hw p3 p4 hcx hcx2 c2 W4 hcap hcapm
            have C6 := Aside0.mk (blanks_calls B r Sk.tell s st2 w5 W5.out.rd HN3.out (by omega))
            have hab : skipF s blankV st2.at_ ≤ s.size := skipF_le _ _ _ HN3.out
            go_wp2_with (go_at_call 117; refine C6.out.mono ?_)
            rintro e w6 ⟨hb6, hk6, rfl, hr6⟩
            have W6 := Aside0.mk (W5.out.step hb6 hk6 hr6)
            clear hb6 hk6 hr6 C6 W5
            have C7 := Aside0.mk (must_calls B r Sk.tell s { st2 with at_ := skipF s blankV st2.at_ } 62 w6 W6.out.rd hab (by omega))
            cases hM : mustF s { st2 with at_ := skipF s blankV st2.at_ } 62 with
            | bad a y =>
              rw [hM] at C7
              go_wp2_with (go_at_call 118; refine C7.out.mono ?_; rintro e w7 ⟨hb7, hk7, rfl⟩)
              have k7 := W6.out.kx.trans hk7
              have b7 := W6.out.bel.trans hb7
              rw [← HZ.out, closesF, HQ.out]
              simp only
              rw [if_neg (by rw [HLV0.out]; decide), HN.out]
              simp only
              rw [if_neg (by rw [HOP.out, List.getLast?_concat, HXN.out]; simp), hM]
              exact ⟨rfl, HB1.out.trans b7, HT1.out.trans (KeepT.ofR k7.R), Sk.keep _ _ _ HP1.out W1.out.rd.rb k7.R b7, rfl⟩
            | ok u7 st3 =>
              rw [hM] at C7
              have HM := Aside0.mk hM
              have HM1 := Aside0.mk (mustF_ok hM hab).1
              clear hM hab
              go_wp2_with (go_at_call 118; refine C7.out.mono ?_)
              rintro e w7 ⟨hb7, hk7, rfl, hr7⟩
              have W7 := Aside0.mk (W6.out.step hb7 hk7 hr7)
              clear hb7 hk7 hr7 C7 W6
              obtain ⟨h07, ov7, pv7, bv7, h17, h27⟩ := W7.out.rd
              have hop3 : st3.opn = li ++ [x] := by rw [HM1.out]; exact HOP.out
              have h27' := h27
              rw [hop3] at h27'
              obtain ⟨g, cap, rfl, hcap, hcapm, -⟩ := opn_cells h27'
              have hNN := HNN.out
              rw [hNN] at h17 h27 hcap
              have hlN : st3.opn.length = N := by rw [hop3, List.length_append]; exact hNN
              have HC2 := Aside0.mk (show w7.drew.cell? ⟨r, 2, none⟩ = some (.slice (some ⟨g, 0, none⟩) N cap) from (blk_cell h17.2.1 2).trans rfl)
              have z2 : w7.drew.frozen? ⟨r, 2, none⟩ = false := blk_frozen (w := w7.drew) h17.2.1 2
              have hR8 := Aside0.mk (Rd.popped (w := w7.drew) h07 h17 h27 hlN hNpos)
              have hKR8 := Aside0.mk ((KeepX.drewN r w7 1).R.trans (KeepR.set (r := r) w7.drew 2 (.slice (some ⟨g, 0, none⟩) (N - 1) cap)))
              have hB8 := Aside0.mk ((Below.drew (Below.refl B w7)).setCell (p := ⟨r, 2, none⟩) h17.1 (.slice (some ⟨g, 0, none⟩) (N - 1) cap))
              have c6 : (w7.drew.setCell ⟨r, 2, none⟩ (.slice (some ⟨g, 0, none⟩) (N - 1) cap)).cell? ⟨r, 6, none⟩ = some (.func (.func Sk.g) #[] Sk.lb) := cell6 hR8.out
              have hde : 0 < deep (l0 ++ flushE st) := by
                rw [deep_append, flushE_deep, HDP.out]
                have := congrArg List.length (HO2.out.symm.trans HOP.out)
                rw [List.length_append] at this
                simp only [List.length_singleton] at this
                omega
              have HK := Aside0.mk (W7.out.kx.R.trans hKR8.out)
              have HBB := Aside0.mk (W7.out.bel.trans hB8.out)
              have HC := Aside0.mk (Sk.call _ (endEv n) w1 _ (.slice none 0 0) HP1.out ⟨by have := flushE_len st; have := HL0.out; rw [List.length_append]; omega, .inr (.inr ⟨rfl, hde⟩)⟩ W1.out.rd.rb HK.out HBB.out W1.out.rd.1 (Kd.R_nil _ _ _ _ _))
              have p1 := eq_true (show (0 : Int) ≤ (N : Int) - 1 by omega)
              have p2 := eq_true (show (N : Int) - 1 ≤ (cap : Int) by omega)
              have p1b := eq_true (show (1 : Int) ≤ (N : Int) by omega)
              have p1c := eq_true (show 1 ≤ N by omega)
              have hw := Go.Proofs.YtealmfcimoomlaaGreatDoorW.PrintLast.i64_w ((N : Int) - 1)
              have hw2 := wrap_in (n := (N : Int) - 1) (by omega) (by omega)
              rw [hw2] at hw
              clear h07 h17 h27 h27' hop3 hNN hlN hde
              go_wp2_with fail
              refine start_ (n := 15) (S := fun w' => w'.cell? ⟨r, 2, none⟩ = some (.slice (some ⟨g, 0, none⟩) N cap)) (ds := [14]) #[false, false, false, false, false, false, false, false, false, false, false, false, false, false, false] (by kernel_rfl) rfl rfl (HC2.out) (fun hHeld => ?_)
              refine pure_ (i := 0) (N := some 58) (v := ?_) (a' := ?_) #[true, false, false, false, false, false, false, false, false, false, false, false, false, false, false] rfl rfl (by kernel_rfl) (fun _ _ _ h => h) (Or.inl ⟨by rfl, ?_⟩) ?_ ?_
              rotate_left
              · intro w'
                go_simp
                with_reducible rfl
              rotate_left
              · simp only [Act.put, List.setIfInBounds_toArray, List.set_cons_zero, List.set_cons_succ, i64_w, i32_w]
                rfl
              refine pure_ (i := 1) (N := some 59) (v := ?_) (a' := ?_) #[true, true, false, false, false, false, false, false, false, false, false, false, false, false, false] rfl rfl (by kernel_rfl) (fun _ _ _ h => h) (Or.inl ⟨by rfl, ?_⟩) ?_ ?_
              rotate_left
              · intro w'
                go_simp
                with_reducible rfl
              rotate_left
              · simp only [Act.put, List.setIfInBounds_toArray, List.set_cons_zero, List.set_cons_succ, i64_w, i32_w]
                rfl
              refine pure_ (i := 2) (N := some 60) (v := ?_) (a' := ?_) #[true, true, true, false, false, false, false, false, false, false, false, false, false, false, false] rfl rfl (by kernel_rfl) (fun _ _ _ h => h) (Or.inl ⟨by rfl, ?_⟩) ?_ ?_
              rotate_left
              · intro w'
                go_simp
                with_reducible rfl
              rotate_left
              · simp only [Act.put, List.setIfInBounds_toArray, List.set_cons_zero, List.set_cons_succ, i64_w, i32_w]
                rfl
              refine pure_ (i := 3) (N := some 61) (v := ?_) (a' := ?_) #[true, true, true, true, false, false, false, false, false, false, false, false, false, false, false] rfl rfl (by kernel_rfl) (fun _ _ _ h => h) (Or.inl ⟨by rfl, ?_⟩) ?_ ?_
              rotate_left
              · intro w'
                go_simp
                with_reducible rfl
              rotate_left
              · simp only [Act.put, List.setIfInBounds_toArray, List.set_cons_zero, List.set_cons_succ, i64_w, i32_w]
                rfl
              refine pure_ (i := 5) (N := some 63) (v := ?_) (a' := ?_) #[true, true, true, true, false, true, false, false, false, false, false, false, false, false, false] rfl rfl (by kernel_rfl) (fun _ _ _ h => h) (Or.inl ⟨by rfl, ?_⟩) ?_ ?_
              rotate_left
              · intro w'
                go_simp
                with_reducible rfl
              rotate_left
              · simp only [Act.put, List.setIfInBounds_toArray, List.set_cons_zero, List.set_cons_succ, i64_w, i32_w]
                rfl
              refine pure_ (i := 6) (N := some 64) (v := ?_) (a' := ?_) #[true, true, true, true, false, true, true, false, false, false, false, false, false, false, false] rfl rfl (by kernel_rfl) (fun _ _ _ h => h) (Or.inl ⟨by rfl, ?_⟩) ?_ ?_
              rotate_left
              · intro w'
                go_simp
                with_reducible rfl
              rotate_left
              · simp only [Act.put, List.setIfInBounds_toArray, List.set_cons_zero, List.set_cons_succ, i64_w, i32_w]
                rfl
              refine pure_ (i := 7) (N := some 65) (v := ?_) (a' := ?_) #[true, true, true, true, false, true, true, true, false, false, false, false, false, false, false] rfl rfl (by kernel_rfl) (fun _ _ _ h => h) (Or.inl ⟨by rfl, ?_⟩) ?_ ?_
              rotate_left
              · intro w'
                go_simp
                with_reducible rfl
              rotate_left
              · simp only [Act.put, List.setIfInBounds_toArray, List.set_cons_zero, List.set_cons_succ, i64_w, i32_w]
                rfl
              refine take_ (i := 4) (N := some 62) (v := ?_) (a' := ?_) #[true, true, true, true, true, true, true, true, false, false, false, false, false, false, false] rfl rfl (by kernel_rfl) (fun _ _ _ h => h) (Or.inl ⟨by rfl, ?_⟩) hHeld ?_ ?_
              rotate_left
              · intro w' s0
                go_simp
                with_reducible rfl
              rotate_left
              · simp only [Act.put, List.setIfInBounds_toArray, List.set_cons_zero, List.set_cons_succ, i64_w, i32_w]
                rfl
              refine take_ (i := 8) (N := some 66) (v := ?_) (a' := ?_) #[true, true, true, true, true, true, true, true, true, false, false, false, false, false, false] rfl rfl (by kernel_rfl) (fun _ _ _ h => h) (Or.inl ⟨by rfl, ?_⟩) hHeld ?_ ?_
              rotate_left
              · intro w' s0
                go_simp
                with_reducible rfl
              rotate_left
              · simp only [Act.put, List.setIfInBounds_toArray, List.set_cons_zero, List.set_cons_succ, i64_w, i32_w]
                rfl
              refine pure_ (i := 9) (N := some 67) (v := ?_) (a' := ?_) #[true, true, true, true, true, true, true, true, true, true, false, false, false, false, false] rfl rfl (by kernel_rfl) (fun _ _ _ h => h) (Or.inl ⟨by rfl, ?_⟩) ?_ ?_
              rotate_left
              · intro w'
                go_simp
                with_reducible rfl
              rotate_left
              · simp only [Act.put, List.setIfInBounds_toArray, List.set_cons_zero, List.set_cons_succ, i64_w, i32_w]
                rfl
              refine pure_ (i := 10) (N := some 68) (v := ?_) (a' := ?_) #[true, true, true, true, true, true, true, true, true, true, true, false, false, false, false] rfl rfl (by kernel_rfl) (fun _ _ _ h => h) (Or.inl ⟨by rfl, ?_⟩) ?_ ?_
              rotate_left
              · intro w'
                go_simp
                with_reducible rfl
              rotate_left
              · simp only [Act.put, List.setIfInBounds_toArray, List.set_cons_zero, List.set_cons_succ, i64_w, i32_w]
                rfl
              refine pure_ (i := 11) (N := some 69) (v := ?_) (a' := ?_) #[true, true, true, true, true, true, true, true, true, true, true, true, false, false, false] rfl rfl (by kernel_rfl) (fun _ _ _ h => h) (Or.inl ⟨by rfl, ?_⟩) ?_ ?_
              rotate_left
              · intro w'
                go_simp
                with_reducible rfl
              rotate_left
              · simp only [Act.put, List.setIfInBounds_toArray, List.set_cons_zero, List.set_cons_succ, i64_w, i32_w]
                rfl
              refine pure_ (i := 12) (N := some 70) (v := ?_) (a' := ?_) #[true, true, true, true, true, true, true, true, true, true, true, true, true, false, false] rfl rfl (by kernel_rfl) (fun _ _ _ h => h) (Or.inl ⟨by rfl, ?_⟩) ?_ ?_
              rotate_left
              · intro w'
                go_simp
                with_reducible rfl
              rotate_left
              · simp only [Act.put, List.setIfInBounds_toArray, List.set_cons_zero, List.set_cons_succ, i64_w, i32_w]
                rfl
              refine pure_ (i := 13) (N := some 71) (v := ?_) (a' := ?_) #[true, true, true, true, true, true, true, true, true, true, true, true, true, true, false] rfl rfl (by kernel_rfl) (fun _ _ _ h => h) (Or.inl ⟨by rfl, ?_⟩) ?_ ?_
              rotate_left
              · intro w'
                go_simp
                with_reducible rfl
              rotate_left
              · simp only [Act.put, List.setIfInBounds_toArray, List.set_cons_zero, List.set_cons_succ, i64_w, i32_w]
                rfl
              refine last_ (i := 14) (N := none) #[true, true, true, true, true, true, true, true, true, true, true, true, true, true, true] rfl rfl (by kernel_rfl) (by decide) (fun K hK => ?_)
              refine skip_ (w1 := ?_) (by rfl) rfl ?_ ?_
              rotate_left
              · go_simp
                rfl
              refine hK.out _ _ ?_
              clear hK K
              refine done_ (by kernel_rfl) ?_

              have eg := Sk.eg
              rw [show (w7.setCell ⟨r, 2, none⟩ (.slice (some ⟨g, 0, none⟩) (N - 1) cap)).drew = w7.drew.setCell ⟨r, 2, none⟩ (.slice (some ⟨g, 0, none⟩) (N - 1) cap) from rfl]
              generalize hw8 : w7.drew.setCell ⟨r, 2, none⟩ (.slice (some ⟨g, 0, none⟩) (N - 1) cap) = w8 at *
              clear hw8
              go_wp2_with (go_at_fn Sk.g; refine HC.out.mono ?_; rintro e w9 ⟨rfl, hP9, hK9, hB9⟩)
              go_end0
              have hR9 := hR8.out.keepS (w1 := w9) hK9 hB9.size
              rw [← HZ.out, closesF, HQ.out]
              simp only
              rw [if_neg (by rw [HLV0.out]; decide), HN.out]
              simp only
              rw [if_neg (by rw [HOP.out, List.getLast?_concat, HXN.out]; simp), HM.out]
              exact ⟨HB1.out.trans (HBB.out.trans hB9), (HT1.out.trans (KeepT.ofR HK.out)).trans (KeepT.ofS hK9), by simpa [List.append_assoc] using hP9, rfl, hR9⟩
          · have p3 : (x.toList == n.toList) = false := by rw [eqB]; exact decide_eq_false hxn
            have p4 : (x.toList != n.toList) = true := by rw [bne, p3]; rfl
            have HXN := Aside0.mk hxn
            clear hxn
            go_wp2_with fail
            go_quiet (fail)
            go_wp2_with (go_at_call 43; refine (fail_calls r _ 40 _).mono ?_; rintro e w' ⟨rfl, rfl⟩)
            have W4d := W4.out.drewN nq
            rw [← HZ.out, closesF, HQ.out]
            simp only
            rw [if_neg (by rw [HLV0.out]; decide), HN.out]
            simp only
            rw [if_pos (by rw [HOP.out, List.getLast?_concat]; intro e; exact HXN.out (Option.some.inj e))]
            exact ⟨rfl, HB1.out.trans W4d.bel, HT1.out.trans (KeepT.ofR W4d.kx.R), Sk.keep _ _ _ HP1.out W1.out.rd.rb W4d.kx.R W4d.bel, rfl⟩
end Go.Proofs.YtealmfcimoomlaaGreatDoor.PA

