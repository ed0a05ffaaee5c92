/- scan.reader: opens. Written by wip/gen/opens04.py. -/
import Derived.Test.YtealmfcimoomlaaGreatDoorUScan14
namespace Go.Proofs.YtealmfcimoomlaaGreatDoor.PA
open Go.RowKit Go.Proofs.YtealmfcimoomlaaGreatDoorW.PrintWords Go.Proofs.YtealmfcimoomlaaGreatDoorW.PrintLast Go.Proofs.YtealmfcimoomlaaGreatDoorW.PrintMore
set_option linter.unusedVariables false
set_option linter.unusedSimpArgs false
theorem infoA15 : (Tryz.prog.info? 61).map (fun i => (i.zero, i.size, i.bytes)) = some (some (.agg #[(.string ⟨#[]⟩), (.string ⟨#[]⟩)]), 2, 32) := by kernel_rfl
theorem infoS15 : (Tryz.prog.info? 9).map (fun i => (i.zero, i.size, i.bytes)) = some (some (.string ⟨#[]⟩), 1, 16) := by kernel_rfl
theorem beginsF_ok {st st' : St} {a : Int} {u : Unit} (h : beginsF st a = .ok u st') : st' = { st with nodes := st.nodes + 1 } ∧ st.nodes < 4096 ∧ st.opn.length < 64 := by
  unfold beginsF at h
  split at h
  · cases h
  split at h
  · cases h
  · injection h with _ h; exact ⟨h.symm, by omega, by omega⟩
set_option maxHeartbeats 16000000 in
set_option maxRecDepth 100000 in
theorem opens_calls (B r : Nat) (Sk : Sink B r) (s : ByteArray) (st : St) (l0 : List Evt) (w : World) (h : Rd B r Sk.tell s st w) (hE : Env B w) (hP : Sk.P l0 w) (ha : st.at_ < s.size) (hs : s.size ≤ 262144) (hn : st.nodes ≤ 4096) (hl : l0.length ≤ 16380) (hd : 0 ≤ deep l0) :
    Calls Tryz.prog 92 #[.pointer (some ⟨r, 0, none⟩)] w (EndsE Sk s l0 w (opensF s st)) := by
  have HE := Aside0.mk hE
  have HS := Aside0.mk hs
  have HA := Aside0.mk ha
  have HDP := Aside0.mk hd
  have HL0 := Aside0.mk hl
  have CF := Aside0.mk (flush_calls B r Sk s st l0 w h hP (by omega))
  generalize hres : opensF s st = res
  have HZ := Aside0.mk hres
  have HNO := Aside0.mk hn
  clear hres h hE hP hl hd hs ha hn
  go_enter Tryz.func92, Tryz.ntmps92
  go_wp2_with (go_at_call 42; refine CF.out.mono ?_)
  rintro e w1 ⟨rfl, hR1, hP1, hB1, hK1⟩
  have W1 := Aside0.mk (Way.start hR1 (HE.out.step hB1))
  have HP1 := Aside0.mk hP1
  have HB1 := Aside0.mk hB1
  have HT1 := Aside0.mk hK1
  have HLE := Aside0.mk (show (l0 ++ flushE st).length ≤ 16384 by have := flushE_len st; have := HL0.out; rw [List.length_append]; omega)
  obtain ⟨c1, -⟩ : w1.cell? ⟨r, 1, none⟩ = some (.int .i64 st.at_) ∧ True := by
    obtain ⟨x0, ov, pv, bv, x1, x2⟩ := hR1
    obtain ⟨c0, c1, -⟩ := Rd.cells x1
    exact ⟨c1, trivial⟩
  clear hR1 hP1 hB1 hK1 CF
  have C2 := Aside0.mk (begins_calls B r Sk.tell s (flushS st) st.at_ w1 W1.out.rd (by have := HNO.out; show st.nodes ≤ _; omega))
  cases hb : beginsF (flushS st) st.at_ with
  | bad a y =>
    rw [hb] at C2
    go_wp2_with (go_at_call 93; refine C2.out.mono ?_; rintro e w2 ⟨hb2, hk2, rfl⟩)
    rw [← HZ.out, opensF, hb]
    exact ⟨rfl, HB1.out.trans hb2, HT1.out.trans (KeepT.ofR hk2.R), Sk.keep _ _ _ HP1.out W1.out.rd.rb hk2.R hb2, rfl⟩
  | ok u st1 =>
    rw [hb] at C2
    have HBG := Aside0.mk (beginsF_ok hb)
    have HB0 := Aside0.mk hb
    clear hb
    go_wp2_with (go_at_call 93; refine C2.out.mono ?_)
    rintro e w2 ⟨hb2, hk2, rfl, hr2⟩
    have W2 := Aside0.mk (W1.out.step hb2 hk2 hr2)
    have W3 := Aside0.mk (W2.out.store (st1.at_ + 1) ((st1.at_ : Int) + 1) (by omega))
    have hat1 : st1.at_ < s.size := by rw [HBG.out.1]; exact HA.out
    have hsz := HS.out
    clear hb2 hk2 hr2 C2 c1
    obtain ⟨c1, z1⟩ : w2.cell? ⟨r, 1, none⟩ = some (.int .i64 st1.at_) ∧ w2.frozen? ⟨r, 1, none⟩ = false := by
      obtain ⟨x0, ov, pv, bv, x1, x2⟩ := W2.out.rd
      obtain ⟨c0, c1, -, -, -, z1, -⟩ := Rd.cells x1
      exact ⟨c1, z1⟩
    have C3 := Aside0.mk (nameP_calls B r Sk.tell s { st1 with at_ := st1.at_ + 1 } _ W3.out.rd (by simp only; omega) HS.out)
    cases hN : nameP s { st1 with at_ := st1.at_ + 1 } with
    | bad a y =>
      rw [hN] at C3
      go_wp2_with (go_at_call 116; refine C3.out.mono ?_; rintro e w4 ⟨hb4, hk4, rfl⟩)
      have W4k := W3.out.kx.trans hk4
      have W4b := W3.out.bel.trans hb4
      rw [← HZ.out, opensF, HB0.out]
      simp only
      rw [hN]
      exact ⟨rfl, HB1.out.trans W4b, HT1.out.trans (KeepT.ofR W4k.R), Sk.keep _ _ _ HP1.out W1.out.rd.rb W4k.R W4b, rfl⟩
    | ok n st2 =>
      rw [hN] at C3
      have HN := Aside0.mk hN
      obtain ⟨hn1, hn2, hn3, hn4⟩ := nameP_ok hN (by simp only; omega)
      have HST2 := Aside0.mk hn1
      clear hN hn1 hn2 hn4
      go_wp2_with (go_at_call 116; refine C3.out.mono ?_)
      rintro e w4 ⟨hb4, hk4, rfl, hr4⟩
      have W4 := Aside0.mk (W3.out.step hb4 hk4 hr4)
      clear hb4 hk4 hr4 C3 W3 W2 c1 z1
      have hle4 := W4.out.bel.size
      have hal := (Below.refl w4.heap.size w4).alloc (Nat.le_refl _) (.cells #[.int .i64 1, .string n, .slice none 0 0, .string ⟨#[]⟩] 58)
      have X5 := Aside0.mk (show OW B r Sk.tell s (flushS st) w1 n w4.heap.size (.slice none 0 0) st2 [] _ from ⟨W4.out.near (hal.mono hle4), blk_new w4 _, hle4, Kd.R_nil _ _ _ _ _, fun x hx => (List.not_mem_nil hx).elim, Nat.zero_le _⟩)
      have HRES : res = match atsF s (s.size + 1) st2 [] with
          | .bad a y => (flushE st, .bad a y)
          | .ok (l, true) st3 => (flushE st ++ [startEv n (sortA l)] ++ [endEv n], .ok () st3)
          | .ok (l, false) st3 => (flushE st ++ [startEv n (sortA l)], .ok () { st3 with opn := st3.opn ++ [n] }) := by
        rw [← HZ.out, opensF, HB0.out]
        simp only
        rw [HN.out]
        rfl
      generalize hval : atsF s (s.size + 1) st2 [] = val at HRES
      have HR := Aside0.mk HRES
      have HV := Aside0.mk hval
      have hop2 : st2.opn.length < 64 := by rw [HST2.out]; simp only; rw [HBG.out.1]; exact HBG.out.2.2
      have HON := Aside0.mk hop2
      go_wp2
      clear HRES hval hal hle4 hop2 HZ HB0 HN HBG HST2 W4 HA hat1 HNO
      generalize hw5 : w4.alloc (.cells #[.int .i64 1, .string n, .slice none 0 0, .string ⟨#[]⟩] 58) = w5 at *
      generalize hgx : w4.heap.size = gx at *
      clear hw5 hgx
      go_loopg [3, 4] s.size (fun gg s3 s4 wr => ∃ (stx : St) (l : List S61) (v : Value), stx.at_ ≤ s.size ∧ s.size - stx.at_ ≤ gg ∧ stx.opn.length < 64 ∧ Aside0 (OW B r Sk.tell s (flushS st) w1 n gx v stx l wr) ∧ Aside0 (atsF s (gg + 1) stx l = val))
      case atStart => exact ⟨st2, [], _, hn3, Nat.sub_le _ _, HON.out, X5, HV⟩
      case round =>
        obtain ⟨stx, l, v, hax, hgk, hop, HX, HVx⟩ := hrel
        clear X5 HV HON hn3
        have HON := Aside0.mk hop
        clear hop
        have C6 := Aside0.mk (blanks_calls B r Sk.tell s stx wr HX.out.way.rd hax (by omega))
        go_wp2_with (go_at_call 117; refine C6.out.mono ?_)
        rintro e w5' ⟨hb5, hk5, rfl, hr5⟩
        have X6 := Aside0.mk (HX.out.step hb5 hk5 hr5)
        have hab : skipF s blankV stx.at_ ≤ s.size := skipF_le _ _ _ hax
        have hge : stx.at_ ≤ skipF s blankV stx.at_ := skipF_ge _ _ _
        clear hb5 hk5 hr5 C6 HX
        have C7 := Aside0.mk (next_calls B r Sk.tell s { stx with at_ := skipF s blankV stx.at_ } w5' X6.out.way.rd hab)
        cases hQ : nextF s { stx with at_ := skipF s blankV stx.at_ } with
        | bad a y =>
          rw [hQ] at C7
          go_wp2_with (go_at_call 115; refine C7.out.mono ?_; rintro e w6 ⟨hb6, hk6, rfl⟩)
          have k6 := X6.out.way.kx.trans hk6
          have b6 := X6.out.way.bel.trans hb6
          rw [HR.out, ← HVx.out, atsF_succ, hQ]
          exact ⟨rfl, HB1.out.trans b6, HT1.out.trans (KeepT.ofR k6.R), Sk.keep _ _ _ HP1.out W1.out.rd.rb k6.R b6, rfl⟩
        | ok cx st6 =>
          obtain ⟨hst6, hcx, hlt⟩ := nextF_ok hQ hab
          simp only at hlt
          subst hst6
          have HQ := Aside0.mk hQ
          have hcr := bt_range s ((skipF s blankV stx.at_ : Nat) : Int)
          have hcr2 : 0 ≤ cx ∧ cx ≤ 255 := by rw [hcx]; exact hcr
          rw [hQ] at C7
          have HCR := Aside0.mk hcr2
          clear hQ hcx hcr hcr2
          generalize hsb : skipF s blankV stx.at_ = ab at *
          have HSB := Aside0.mk hsb
          clear hsb
          by_cases h47 : cx = 47
          · have f1 : (cx == 47) = true := beq_iff_eq.mpr h47
            have H47 := Aside0.mk h47
            clear h47
            go_wp2_with (go_at_call 115; refine C7.out.mono ?_)
            rintro e w6 ⟨hb6, hk6, rfl, hr6⟩
            have X6b := Aside0.mk (X6.out.step hb6 hk6 hr6)
            have X6c := Aside0.mk (X6b.out.store (ab + 1) ((ab : Int) + 1) (by omega))
            obtain ⟨c0, c1, z1, -⟩ := X6b.out.cells
            clear hb6 hk6 hr6 C7 X6
            have C8 := Aside0.mk (must_calls B r Sk.tell s { stx with at_ := ab + 1 } 62 _ X6c.out.way.rd (by simp only; omega) (by omega))
            cases hM : mustF s { stx with at_ := ab + 1 } 62 with
            | bad a y =>
              rw [hM] at C8
              go_wp2_with (go_at_call 118; refine C8.out.mono ?_; rintro e w7 ⟨hb7, hk7, rfl⟩)
              have k7 := X6c.out.way.kx.trans hk7
              have b7 := X6c.out.way.bel.trans hb7
              rw [HR.out, ← HVx.out, atsF_succ, HSB.out, HQ.out]
              simp only [Res.bind]
              rw [if_pos H47.out, hM]
              exact ⟨rfl, HB1.out.trans b7, HT1.out.trans (KeepT.ofR k7.R), Sk.keep _ _ _ HP1.out W1.out.rd.rb k7.R b7, rfl⟩
            | ok u7 stq =>
              rw [hM] at C8
              have HM := Aside0.mk hM
              clear hM
              go_wp2_with (go_at_call 118; refine C8.out.mono ?_)
              rintro e w7 ⟨hb7, hk7, rfl, hr7⟩
              have XQ := Aside0.mk (X6c.out.step hb7 hk7 hr7)
              clear hb7 hk7 hr7 C8 X6b X6c c0 c1 z1
              go_wp2_with fail
              have XQd := Aside0.mk XQ.out.drew
              have CS := Aside0.mk (sorted_calls (startEv n l) v w7.drew w1.heap.size (fun _ => True) XQd.out.hr XQd.out.ap (show l.length < _ by have := XQd.out.ll; omega))
              have hlv : ∀ k, v.ownBlock = some k → w1.heap.size ≤ k := fun k hk => ((Kd.R_bound XQd.out.hr).1 k hk).2.1
              have hgv := XQd.out.hr.2.ne_block XQd.out.hx (by decide)
              have HLV := Aside0.mk hlv
              have HGV := Aside0.mk hgv
              clear hlv hgv
              obtain ⟨A, c1, rfl⟩ := Kd.R_slice XQd.out.hr
              have eg := Sk.eg
              go_region_held3 (fun W => Rd B r Sk.tell s stq W ∧ W.cell? ⟨r, 6, none⟩ = some (.func (.func Sk.g) #[] Sk.lb) ∧ W.cell? ⟨gx, 0, none⟩ = some (.int .i64 1) ∧ W.cell? ⟨gx, 1, none⟩ = some (.string n) ∧ W.cell? ⟨gx, 2, none⟩ = some (.slice A l.length c1) ∧ W.cell? ⟨gx, 3, none⟩ = some (.string ⟨#[]⟩))
                (first | exact OS_of Sk XQd.out.way.rd XQd.out.hx | exact OS_of Sk W8.rd hx8 | exact OS_of Sk (W8.rd.keepS hK9 hB9.size) (hK9 gx _ hx8 (.inl XQd.out.lx)))
                (first
                  | (go_at_call 119; refine CS.out.mono ?_; rintro e w8 ⟨rfl, hR8, hG8⟩; have W8 := XQd.out.way.near (grown_below hG8 HLV.out (Nat.le_trans XQd.out.lx (Nat.le_of_lt (lt_of_heap XQd.out.hx)))); have hx8 := blk_grown XQd.out.hx hG8 HGV.out)
                  | (refine (Sk.call (l0 ++ flushE st) (startEv n (sortA l)) w1 w8 (.slice A l.length c1) HP1.out ⟨HLE.out, .inl rfl⟩ W8.r0.rb W8.kx.R W8.bel W8.r0.1 hR8).mono ?_; rintro e w9 ⟨rfl, hP9, hK9, hB9⟩))
              have hR9 := W8.rd.keepS hK9 hB9.size
              have HX9 := Aside0.mk (hK9 gx _ hx8 (.inl XQd.out.lx))
              have HT9 := Aside0.mk ((KeepT.ofR W8.kx.R).trans (KeepT.ofS hK9))
              have HBL9 := Aside0.mk (W8.bel.trans hB9)
              have HP9 := Aside0.mk hP9
              have HR9 := Aside0.mk hR9
              clear hP9 hR9 hK9 hB9 W8 hx8 hR8 hG8 CS XQd
              go_wp2_with fail
              have hde : 0 < deep (l0 ++ flushE st ++ [startEv n (sortA l)]) := by
                rw [deep_append, deep_append, flushE_deep]
                have := HDP.out
                show 0 < deep l0 + 0 + 1
                omega
              have HC := Aside0.mk (Sk.call _ (endEv n) w9 w9.drew (.slice none 0 0) HP9.out ⟨by have := flushE_len st; have := HL0.out; rw [List.length_append, List.length_append]; simp only [List.length_singleton]; omega, .inr (.inr ⟨rfl, hde⟩)⟩ HR9.out.rb (KeepX.drewN r w9 1).R (Below.drew (Below.refl B w9)) HR9.out.1 (Kd.R_nil _ _ _ _ _))
              clear hde
              refine start_ (n := 8) (S := fun w' => w'.cell? ⟨r, 6, none⟩ = some (.func (.func Sk.g) #[] Sk.lb) ∧ w'.cell? ⟨gx, 1, none⟩ = some (.string n)) (ds := [7]) #[false, false, false, false, false, false, false, false] (by kernel_rfl) rfl rfl ⟨cell6 HR9.out, (blk_cell (w := w9.drew) HX9.out 1).trans rfl⟩ (fun hHeld => ?_)
              refine pure_ (i := 0) (N := some 52) (v := ?_) (a' := ?_) #[true, false, false, false, false, false, false, false] rfl rfl (by kernel_rfl) (fun _ _ _ h => h) (Or.inl ⟨by rfl, ?_⟩) ?_ ?_
              rotate_left
              · intro w'
                go_simp
                with_reducible rfl
              rotate_left
              · simp only [Act.put, List.setIfInBounds_toArray, List.set_cons_zero, List.set_cons_succ, i64_w, i32_w]
                rfl
              refine pure_ (i := 1) (N := some 53) (v := ?_) (a' := ?_) #[true, true, false, false, false, false, false, false] rfl rfl (by kernel_rfl) (fun _ _ _ h => h) (Or.inl ⟨by rfl, ?_⟩) ?_ ?_
              rotate_left
              · intro w'
                go_simp
                with_reducible rfl
              rotate_left
              · simp only [Act.put, List.setIfInBounds_toArray, List.set_cons_zero, List.set_cons_succ, i64_w, i32_w]
                rfl
              refine pure_ (i := 2) (N := some 54) (v := ?_) (a' := ?_) #[true, true, true, false, false, false, false, false] rfl rfl (by kernel_rfl) (fun _ _ _ h => h) (Or.inl ⟨by rfl, ?_⟩) ?_ ?_
              rotate_left
              · intro w'
                go_simp
                with_reducible rfl
              rotate_left
              · simp only [Act.put, List.setIfInBounds_toArray, List.set_cons_zero, List.set_cons_succ, i64_w, i32_w]
                rfl
              refine pure_ (i := 4) (N := some 56) (v := ?_) (a' := ?_) #[true, true, true, false, true, false, false, false] rfl rfl (by kernel_rfl) (fun _ _ _ h => h) (Or.inl ⟨by rfl, ?_⟩) ?_ ?_
              rotate_left
              · intro w'
                go_simp
                with_reducible rfl
              rotate_left
              · simp only [Act.put, List.setIfInBounds_toArray, List.set_cons_zero, List.set_cons_succ, i64_w, i32_w]
                rfl
              refine take_ (i := 3) (N := some 55) (v := ?_) (a' := ?_) #[true, true, true, true, true, false, false, false] rfl rfl (by kernel_rfl) (fun _ _ _ h => h) (Or.inl ⟨by rfl, ?_⟩) hHeld ?_ ?_
              rotate_left
              · rintro w' ⟨s0, s1⟩
                go_simp
                with_reducible rfl
              rotate_left
              · simp only [Act.put, List.setIfInBounds_toArray, List.set_cons_zero, List.set_cons_succ, i64_w, i32_w]
                rfl
              refine take_ (i := 5) (N := some 57) (v := ?_) (a' := ?_) #[true, true, true, true, true, true, false, false] rfl rfl (by kernel_rfl) (fun _ _ _ h => h) (Or.inl ⟨by rfl, ?_⟩) hHeld ?_ ?_
              rotate_left
              · rintro w' ⟨s0, s1⟩
                go_simp
                with_reducible rfl
              rotate_left
              · simp only [Act.put, List.setIfInBounds_toArray, List.set_cons_zero, List.set_cons_succ, i64_w, i32_w]
                rfl
              refine pure_ (i := 6) (N := some 58) (v := ?_) (a' := ?_) #[true, true, true, true, true, true, true, false] rfl rfl (by kernel_rfl) (fun _ _ _ h => h) (Or.inl ⟨by rfl, ?_⟩) ?_ ?_
              rotate_left
              · intro w'
                go_simp
                with_reducible rfl
              rotate_left
              · simp only [Act.put, List.setIfInBounds_toArray, List.set_cons_zero, List.set_cons_succ, i64_w, i32_w]
                rfl
              refine last_ (i := 7) (N := some 59) #[true, true, true, true, true, true, true, true] rfl rfl (by kernel_rfl) (by decide) (fun K hK => ?_)
              refine call_ Sk.g (#[(endEv n).val (.slice none 0 0)] ++ Sk.lb) (by rfl) rfl ?_ ?_
              · go_simp
                rfl
              refine HC.out.mono ?_
              rintro e w10 ⟨rfl, hP10, hK10, hB10⟩
              refine ⟨_, rfl, ?_⟩
              refine hK.out _ _ ?_
              clear hK K
              refine norm_ (a' := ?_) ?_ ?_
              rotate_left
              · show Act.put _ (some 59) _ = _
                simp only [Act.put, List.setIfInBounds_toArray, List.set_cons_zero, List.set_cons_succ, i64_w, i32_w]
                rfl
              refine done_ (by kernel_rfl) ?_

              go_wp2_with fail
              refine bodyPost_ret (results_none rfl _ _ _) rfl ?_
              have hR10 := HR9.out.keepS (w1 := w10) hK10 hB10.size
              rw [HR.out, ← HVx.out, atsF_succ, HSB.out, HQ.out]
              simp only [Res.bind]
              rw [if_pos H47.out, HM.out]
              exact ⟨(HB1.out.trans HBL9.out).trans ((Below.drew (Below.refl B w9)).trans hB10), (HT1.out.trans HT9.out).trans (KeepT.ofS (w := w9) hK10), by simpa [List.append_assoc] using hP10, rfl, hR10⟩
          have f1 : (cx == 47) = false := beq_eq_false_iff_ne.mpr h47
          have H47 := Aside0.mk h47
          clear h47
          by_cases h62 : cx = 62
          · have f2 : (cx == 62) = true := beq_iff_eq.mpr h62
            have H62 := Aside0.mk h62
            clear h62
            go_wp2_with (go_at_call 115; refine C7.out.mono ?_)
            rintro e w6 ⟨hb6, hk6, rfl, hr6⟩
            have X6b := Aside0.mk (X6.out.step hb6 hk6 hr6)
            have XQ := Aside0.mk (X6b.out.store (ab + 1) ((ab : Int) + 1) (by omega))
            obtain ⟨c0, c1, z1, -⟩ := X6b.out.cells
            obtain ⟨stq, hstq⟩ : ∃ q : St, q = { stx with at_ := ab + 1 } := ⟨_, rfl⟩
            have hXQ := XQ.out
            clear XQ
            have XQ := Aside0.mk (show OW B r Sk.tell s (flushS st) w1 n gx v stq l _ from hstq ▸ hXQ)
            have HONQ := Aside0.mk (show stq.opn.length < 64 by rw [hstq]; exact HON.out)
            have HSTQ := Aside0.mk hstq
            clear hb6 hk6 hr6 C7 X6 X6b hXQ hstq
            go_wp2_with fail
            generalize hw7 : w6.setCell ⟨r, 1, none⟩ (.int .i64 ((ab : Int) + 1)) = w7 at *
            clear hw7 c0 c1 z1
            have XQd := Aside0.mk XQ.out.drew
            have CS := Aside0.mk (sorted_calls (startEv n l) v w7.drew w1.heap.size (fun _ => True) XQd.out.hr XQd.out.ap (show l.length < _ by have := XQd.out.ll; omega))
            have hlv : ∀ k, v.ownBlock = some k → w1.heap.size ≤ k := fun k hk => ((Kd.R_bound XQd.out.hr).1 k hk).2.1
            have hgv := XQd.out.hr.2.ne_block XQd.out.hx (by decide)
            have HLV := Aside0.mk hlv
            have HGV := Aside0.mk hgv
            clear hlv hgv
            obtain ⟨A, c1, rfl⟩ := Kd.R_slice XQd.out.hr
            have eg := Sk.eg
            go_region_held3 (fun W => Rd B r Sk.tell s stq W ∧ W.cell? ⟨r, 6, none⟩ = some (.func (.func Sk.g) #[] Sk.lb) ∧ W.cell? ⟨gx, 0, none⟩ = some (.int .i64 1) ∧ W.cell? ⟨gx, 1, none⟩ = some (.string n) ∧ W.cell? ⟨gx, 2, none⟩ = some (.slice A l.length c1) ∧ W.cell? ⟨gx, 3, none⟩ = some (.string ⟨#[]⟩))
              (first | exact OS_of Sk XQd.out.way.rd XQd.out.hx | exact OS_of Sk W8.rd hx8 | exact OS_of Sk (W8.rd.keepS hK9 hB9.size) (hK9 gx _ hx8 (.inl XQd.out.lx)))
              (first
                | (go_at_call 119; refine CS.out.mono ?_; rintro e w8 ⟨rfl, hR8, hG8⟩; have W8 := XQd.out.way.near (grown_below hG8 HLV.out (Nat.le_trans XQd.out.lx (Nat.le_of_lt (lt_of_heap XQd.out.hx)))); have hx8 := blk_grown XQd.out.hx hG8 HGV.out)
                | (refine (Sk.call (l0 ++ flushE st) (startEv n (sortA l)) w1 w8 (.slice A l.length c1) HP1.out ⟨HLE.out, .inl rfl⟩ W8.r0.rb W8.kx.R W8.bel W8.r0.1 hR8).mono ?_; rintro e w9 ⟨rfl, hP9, hK9, hB9⟩))
            have hR9 := W8.rd.keepS hK9 hB9.size
            have HX9 := Aside0.mk (hK9 gx _ hx8 (.inl XQd.out.lx))
            have HT9 := Aside0.mk ((KeepT.ofR W8.kx.R).trans (KeepT.ofS hK9))
            have HBL9 := Aside0.mk (W8.bel.trans hB9)
            have HP9 := Aside0.mk hP9
            have HR9 := Aside0.mk hR9
            clear hP9 hR9 hK9 hB9 W8 hx8 hR8 hG8 CS XQd
            go_wp2_with fail
            obtain ⟨h09, ov, pv, bv, h19, h29⟩ := HR9.out
            obtain ⟨Ao, co, rfl⟩ := own_slice h29
            have HB9 := Aside0.mk (show B ≤ w9.drew.heap.size from h09)
            have H1 := Aside0.mk (show Bld 86 B r 3 (rcells s stq (.slice Ao stq.opn.length co) pv bv Sk.tell) (Lib.byteCells stq.text) w9.drew from h19)
            have HO := Aside0.mk (show w9.drew.ownsRow B 9 1 (.slice Ao stq.opn.length co) stq.opn.length (pw_strs stq.opn) from h29)
            have HON := HONQ
            clear h09 h19 h29
            refine start_ (n := 12) (S := fun w' => w'.cell? ⟨r, 2, none⟩ = some (.slice Ao stq.opn.length co) ∧ w'.cell? ⟨gx, 1, none⟩ = some (.string n)) (ds := [11]) #[false, false, false, false, false, false, false, false, false, false, false, false] (by kernel_rfl) rfl rfl ⟨(blk_cell H1.out.2.1 2).trans rfl, (blk_cell (w := w9.drew) HX9.out 1).trans rfl⟩ (fun hHeld => ?_)
            refine pure_ (i := 0) (N := some 77) (v := ?_) (a' := ?_) #[true, false, false, false, false, false, false, false, false, false, false, false] rfl rfl (by kernel_rfl) (fun _ _ _ h => h) (Or.inl ⟨by rfl, ?_⟩) ?_ ?_
            rotate_left
            · intro w'
              go_simp
              with_reducible rfl
            rotate_left
            · simp only [Act.put, List.setIfInBounds_toArray, List.set_cons_zero, List.set_cons_succ, i64_w, i32_w]
              rfl
            refine pure_ (i := 1) (N := some 78) (v := ?_) (a' := ?_) #[true, true, false, false, false, false, false, false, false, false, false, false] rfl rfl (by kernel_rfl) (fun _ _ _ h => h) (Or.inl ⟨by rfl, ?_⟩) ?_ ?_
            rotate_left
            · intro w'
              go_simp
              with_reducible rfl
            rotate_left
            · simp only [Act.put, List.setIfInBounds_toArray, List.set_cons_zero, List.set_cons_succ, i64_w, i32_w]
              rfl
            refine pure_ (i := 2) (N := some 79) (v := ?_) (a' := ?_) #[true, true, true, false, false, false, false, false, false, false, false, false] rfl rfl (by kernel_rfl) (fun _ _ _ h => h) (Or.inl ⟨by rfl, ?_⟩) ?_ ?_
            rotate_left
            · intro w'
              go_simp
              with_reducible rfl
            rotate_left
            · simp only [Act.put, List.setIfInBounds_toArray, List.set_cons_zero, List.set_cons_succ, i64_w, i32_w]
              rfl
            refine pure_ (i := 3) (N := some 80) (v := ?_) (a' := ?_) #[true, true, true, true, false, false, false, false, false, false, false, false] rfl rfl (by kernel_rfl) (fun _ _ _ h => h) (Or.inl ⟨by rfl, ?_⟩) ?_ ?_
            rotate_left
            · intro w'
              go_simp
              with_reducible rfl
            rotate_left
            · simp only [Act.put, List.setIfInBounds_toArray, List.set_cons_zero, List.set_cons_succ, i64_w, i32_w]
              rfl
            refine pure_ (i := 5) (N := some 82) (v := ?_) (a' := ?_) #[true, true, true, true, false, true, false, false, false, false, false, false] rfl rfl (by kernel_rfl) (fun _ _ _ h => h) (Or.inl ⟨by rfl, ?_⟩) ?_ ?_
            rotate_left
            · intro w'
              go_simp
              with_reducible rfl
            rotate_left
            · simp only [Act.put, List.setIfInBounds_toArray, List.set_cons_zero, List.set_cons_succ, i64_w, i32_w]
              rfl
            refine take_ (i := 4) (N := some 81) (v := ?_) (a' := ?_) #[true, true, true, true, true, true, false, false, false, false, false, false] rfl rfl (by kernel_rfl) (fun _ _ _ h => h) (Or.inl ⟨by rfl, ?_⟩) hHeld ?_ ?_
            rotate_left
            · rintro w' ⟨s0, s1⟩
              go_simp
              with_reducible rfl
            rotate_left
            · simp only [Act.put, List.setIfInBounds_toArray, List.set_cons_zero, List.set_cons_succ, i64_w, i32_w]
              rfl
            refine take_ (i := 6) (N := some 83) (v := ?_) (a' := ?_) #[true, true, true, true, true, true, true, false, false, false, false, false] rfl rfl (by kernel_rfl) (fun _ _ _ h => h) (Or.inl ⟨by rfl, ?_⟩) hHeld ?_ ?_
            rotate_left
            · rintro w' ⟨s0, s1⟩
              go_simp
              with_reducible rfl
            rotate_left
            · simp only [Act.put, List.setIfInBounds_toArray, List.set_cons_zero, List.set_cons_succ, i64_w, i32_w]
              rfl
            refine one_ (i := 7) (N := some 84) #[true, true, true, true, true, true, true, true, false, false, false, false] rfl rfl (by kernel_rfl) (by decide) (fun K hK => ?_)
            refine value_ (w1 := ?_) (v := ?_) (by rfl) rfl ?_ ?_
            rotate_left 2
            · go_simp
              constructor
              · rfl
              · rfl
            refine hK.out _ _ ⟨(blk_cell (blkU_below (below_alloc (Below.refl _ _) _) H1.out.2.1) 2).trans rfl, (blk_cell (blkU_below (W := w9.drew) (below_alloc (Below.refl _ _) _) HX9.out) 1).trans rfl⟩ (fun hHeld => ?_)
            clear hK K
            refine norm_ (a' := ?_) ?_ ?_
            rotate_left
            · show Act.put _ (some 84) _ = _
              simp only [Act.put, List.setIfInBounds_toArray, List.set_cons_zero, List.set_cons_succ, i64_w, i32_w]
              rfl
            refine one_ (i := 8) (N := some 85) #[true, true, true, true, true, true, true, true, true, false, false, false] rfl rfl (by kernel_rfl) (by decide) (fun K hK => ?_)
            refine step_append_cells (w0 := w9.drew) B (by rfl) (.tmp 81) (.tmp 84) 49 9 (.string ⟨#[]⟩) 1 16 rfl Tryz.underlying49 infoS15 rfl (by decide) (by decide) (.slice Ao stq.opn.length co) stq.opn.length (pw_strs stq.opn) [.string n] (by rfl) (by rfl) rfl (by intro u hu; rw [List.mem_singleton.mp hu]; rfl) HO.out (Below.refl _ _) HB9.out (by have := HON.out; omega) ?_
            intro v10 w10 hown10 hB10 hG10 hat10
            obtain ⟨hr10, hR11, hK11⟩ := Rd.pushed HB9.out H1.out HO.out hG10 hown10
            have hx10 := blk_grown (w := w9.drew) HX9.out hG10 (own_ne HO.out HX9.out (by decide))
            obtain ⟨A10, c10, rfl⟩ := own_slice hown10
            have z10 := blk_frozen hr10 2
            refine hK.out _ _ ⟨(blk_cell hr10 2).trans rfl, (blk_cell hx10 1).trans rfl⟩ (fun hHeld => ?_)
            clear hK K
            refine norm_ (a' := ?_) ?_ ?_
            rotate_left
            · show Act.put _ (some 85) _ = _
              simp only [Act.put, List.setIfInBounds_toArray, List.set_cons_zero, List.set_cons_succ, i64_w, i32_w]
              rfl
            refine pure_ (i := 9) (N := some 86) (v := ?_) (a' := ?_) #[true, true, true, true, true, true, true, true, true, true, false, false] rfl rfl (by kernel_rfl) (fun _ _ _ h => h) (Or.inl ⟨by rfl, ?_⟩) ?_ ?_
            rotate_left
            · intro w'
              go_simp
              with_reducible rfl
            rotate_left
            · simp only [Act.put, List.setIfInBounds_toArray, List.set_cons_zero, List.set_cons_succ, i64_w, i32_w]
              rfl
            refine pure_ (i := 10) (N := some 87) (v := ?_) (a' := ?_) #[true, true, true, true, true, true, true, true, true, true, true, false] rfl rfl (by kernel_rfl) (fun _ _ _ h => h) (Or.inl ⟨by rfl, ?_⟩) ?_ ?_
            rotate_left
            · intro w'
              go_simp
              with_reducible rfl
            rotate_left
            · simp only [Act.put, List.setIfInBounds_toArray, List.set_cons_zero, List.set_cons_succ, i64_w, i32_w]
              rfl
            refine last_ (i := 11) (N := none) #[true, true, true, true, true, true, true, true, true, true, true, true] rfl rfl (by kernel_rfl) (by decide) (fun K hK => ?_)
            refine skip_ (w1 := ?_) (by rfl) rfl ?_ ?_
            rotate_left
            · go_simp
              rfl
            refine hK.out _ _ ?_
            clear hK K
            refine done_ (by kernel_rfl) ?_

            go_wp2_with fail
            refine bodyPost_ret (results_none rfl _ _ _) rfl ?_
            have hbe : Below B w9.drew (w10.setCell ⟨r, 2, none⟩ (.slice A10 (stq.opn.length + 1) c10)) := hB10.setCell (p := ⟨r, 2, none⟩) H1.out.1 _
            have hPd := Sk.keep _ w9 w9.drew HP9.out HR9.out.rb (KeepX.drewN r w9 1).R (Below.drew (Below.refl B w9))
            have hPe := Sk.keep _ w9.drew _ hPd HR9.out.rb hK11 hbe
            rw [HR.out, ← HVx.out, atsF_succ, HSB.out, HQ.out]
            simp only [Res.bind]
            rw [if_neg H47.out, if_pos H62.out]
            have hR12 : Rd B r Sk.tell s { stx with at_ := ab + 1, opn := stx.opn ++ [n] } (w10.setCell ⟨r, 2, none⟩ (.slice A10 (stq.opn.length + 1) c10)) := by
              have e := HSTQ.out
              rw [show ({ stx with at_ := ab + 1, opn := stx.opn ++ [n] } : St) = { stq with opn := stq.opn ++ [n] } by rw [e]]
              exact hR11
            exact ⟨(HB1.out.trans HBL9.out).trans ((Below.drew (Below.refl B w9)).trans hbe), (HT1.out.trans HT9.out).trans (KeepT.ofR (w := w9) hK11), by simpa [List.append_assoc] using hPe, rfl, hR12⟩
          have f2 : (cx == 62) = false := beq_eq_false_iff_ne.mpr h62
          have H62 := Aside0.mk h62
          clear h62
          cases hA : decide (stx.at_ < ab) with
          | false =>
            have HC := Aside0.mk (show ¬ (stx.at_ < ab ∧ letterV cx = true) from fun e => absurd e.1 (of_decide_eq_false hA))
            go_wp2_with (first
              | (go_at_call 115; refine C7.out.mono ?_; rintro e w6 ⟨hb6, hk6, rfl, hr6⟩; have X6b := Aside0.mk (X6.out.step hb6 hk6 hr6); obtain ⟨c0, c1, z1, -⟩ := X6b.out.cells; clear hb6 hk6 hr6)
              | (go_at_call 43; refine (fail_calls r _ 3 _).mono ?_; rintro e w' ⟨rfl, rfl⟩))
            rw [HR.out, ← HVx.out, atsF_succ, HSB.out, HQ.out]
            simp only [Res.bind]
            rw [if_neg H47.out, if_neg H62.out, if_neg HC.out]
            exact ⟨rfl, HB1.out.trans X6b.out.way.bel, HT1.out.trans (KeepT.ofR X6b.out.way.kx.R), Sk.keep _ _ _ HP1.out W1.out.rd.rb X6b.out.way.kx.R X6b.out.way.bel, rfl⟩
          | true =>
            cases hLv : letterV cx with
            | false =>
              have HC := Aside0.mk (show ¬ (stx.at_ < ab ∧ letterV cx = true) from fun e => by rw [hLv] at e; exact absurd e.2 (by decide))
              have HLV0 := Aside0.mk hLv
              clear hLv
              go_wp2_with (first
                | (go_at_call 115; refine C7.out.mono ?_; rintro e w6 ⟨hb6, hk6, rfl, hr6⟩; have X6b := Aside0.mk (X6.out.step hb6 hk6 hr6); obtain ⟨c0, c1, z1, -⟩ := X6b.out.cells; clear hb6 hk6 hr6)
                | (go_at_call 91; (with_reducible refine (scan_letter.calls 64 cx false _ (by rw [letterV_f _ HCR.out.1 HCR.out.2, HLV0.out])).mono ?_); rintro e w' ⟨rfl, ⟨nd, rfl⟩⟩)
                | (go_at_call 43; refine (fail_calls r _ 3 _).mono ?_; rintro e w' ⟨rfl, rfl⟩))
              have X6d := X6b.out.drewN nd
              rw [HR.out, ← HVx.out, atsF_succ, HSB.out, HQ.out]
              simp only [Res.bind]
              rw [if_neg H47.out, if_neg H62.out, if_neg HC.out]
              exact ⟨rfl, HB1.out.trans X6d.way.bel, HT1.out.trans (KeepT.ofR X6d.way.kx.R), Sk.keep _ _ _ HP1.out W1.out.rd.rb X6d.way.kx.R X6d.way.bel, rfl⟩
            | true =>
              have HC := Aside0.mk (show (stx.at_ < ab ∧ letterV cx = true) from ⟨of_decide_eq_true hA, hLv⟩)
              have HLV0 := Aside0.mk hLv
              clear hLv
              go_wp2_with (first
                | (go_at_call 115; refine C7.out.mono ?_; rintro e w6 ⟨hb6, hk6, rfl, hr6⟩; have X6b := Aside0.mk (X6.out.step hb6 hk6 hr6); obtain ⟨c0, c1, z1, -⟩ := X6b.out.cells; clear hb6 hk6 hr6)
                | (go_at_call 91; (with_reducible refine (scan_letter.calls 64 cx true _ (by rw [letterV_f _ HCR.out.1 HCR.out.2, HLV0.out])).mono ?_); rintro e w' ⟨rfl, ⟨nd, rfl⟩⟩))
              have X6d := Aside0.mk (X6b.out.drewN nd)
              generalize hwd : w6.drewN nd = wd at *
              clear hwd c0 c1 z1 X6b C7 X6
              obtain ⟨A, c1, rfl⟩ := Kd.R_slice X6d.out.hr
              have XD := Aside0.mk X6d.out.drew
              have C8 := Aside0.mk (show Calls Tryz.prog 120 #[.pointer (some ⟨r, 0, none⟩), .slice A l.length c1] wd.drew (Ends B r Sk.tell s (fun a => .agg #[.string a.f0, .string a.f1]) wd.drew (sAttrF s { stx with at_ := ab } l)) from attr_calls B r Sk.tell s { stx with at_ := ab } A c1 l wd.drew XD.out.way.rd XD.out.way.env w1.heap.size XD.out.hr hab HS.out)
              cases hT : sAttrF s { stx with at_ := ab } l with
              | bad a y =>
                rw [hT] at C8
                refine start_ (n := 10) (S := fun w' => w'.cell? ⟨gx, 2, none⟩ = some (.slice A l.length c1)) (ds := [9]) #[false, false, false, false, false, false, false, false, false, false] (by kernel_rfl) rfl rfl ((blk_cell XD.out.hx 2).trans rfl) (fun hHeld => ?_)
                refine pure_ (i := 0) (N := some 94) (v := ?_) (a' := ?_) #[true, false, false, false, false, false, false, false, false, false] rfl rfl (by kernel_rfl) (fun _ _ _ h => h) (Or.inl ⟨by rfl, ?_⟩) ?_ ?_
                rotate_left
                · intro w'
                  go_simp
                  with_reducible rfl
                rotate_left
                · simp only [Act.put, List.setIfInBounds_toArray, List.set_cons_zero, List.set_cons_succ, i64_w, i32_w]
                  rfl
                refine pure_ (i := 2) (N := some 96) (v := ?_) (a' := ?_) #[true, false, true, false, false, false, false, false, false, false] rfl rfl (by kernel_rfl) (fun _ _ _ h => h) (Or.inl ⟨by rfl, ?_⟩) ?_ ?_
                rotate_left
                · intro w'
                  go_simp
                  with_reducible rfl
                rotate_left
                · simp only [Act.put, List.setIfInBounds_toArray, List.set_cons_zero, List.set_cons_succ, i64_w, i32_w]
                  rfl
                refine pure_ (i := 3) (N := some 97) (v := ?_) (a' := ?_) #[true, false, true, true, false, false, false, false, false, false] rfl rfl (by kernel_rfl) (fun _ _ _ h => h) (Or.inl ⟨by rfl, ?_⟩) ?_ ?_
                rotate_left
                · intro w'
                  go_simp
                  with_reducible rfl
                rotate_left
                · simp only [Act.put, List.setIfInBounds_toArray, List.set_cons_zero, List.set_cons_succ, i64_w, i32_w]
                  rfl
                refine take_ (i := 1) (N := some 95) (v := ?_) (a' := ?_) #[true, true, true, true, false, false, false, false, false, false] rfl rfl (by kernel_rfl) (fun _ _ _ h => h) (Or.inl ⟨by rfl, ?_⟩) hHeld ?_ ?_
                rotate_left
                · intro w' s0
                  go_simp
                  with_reducible rfl
                rotate_left
                · simp only [Act.put, List.setIfInBounds_toArray, List.set_cons_zero, List.set_cons_succ, i64_w, i32_w]
                  rfl
                refine take_ (i := 4) (N := some 98) (v := ?_) (a' := ?_) #[true, true, true, true, true, false, false, false, false, false] rfl rfl (by kernel_rfl) (fun _ _ _ h => h) (Or.inl ⟨by rfl, ?_⟩) hHeld ?_ ?_
                rotate_left
                · intro w' s0
                  go_simp
                  with_reducible rfl
                rotate_left
                · simp only [Act.put, List.setIfInBounds_toArray, List.set_cons_zero, List.set_cons_succ, i64_w, i32_w]
                  rfl
                refine one_ (i := 5) (N := some 99) #[true, true, true, true, true, true, false, false, false, false] rfl rfl (by kernel_rfl) (by decide) (fun K hK => ?_)
                refine goesP_ Tryz.func120 (by kernel_rfl) rfl #[.pointer (some ⟨r, 0, none⟩), .slice A l.length c1] (by rfl) rfl (by simp only [List.map_toArray, List.map_cons, List.map_nil]; rfl) ?_
                with_reducible refine (C8.out).mono ?_
                rintro e w7 ⟨hb7, hk7, rfl⟩
                refine ⟨_, rfl, ?_⟩
                simp only [Exit.inBlock, Exit.then]
                have k7 := XD.out.way.kx.trans hk7
                have b7 := XD.out.way.bel.trans hb7
                rw [HR.out, ← HVx.out, atsF_succ, HSB.out, HQ.out]
                simp only [Res.bind]
                rw [if_neg H47.out, if_neg H62.out, if_pos HC.out, hT]
                exact ⟨rfl, HB1.out.trans b7, HT1.out.trans (KeepT.ofR k7.R), Sk.keep _ _ _ HP1.out W1.out.rd.rb k7.R b7, rfl⟩
              | ok a stq =>
                rw [hT] at C8
                have HT := Aside0.mk hT
                obtain ⟨hq1, hq2, hq3, hq4, hq5⟩ := sAttrF_ok hT hab
                simp only at hq2
                have HAP := Aside0.mk (apartA_snoc XD.out.ap hq5)
                have HLN := Aside0.mk hq4
                have HQ1 := Aside0.mk hq1
                clear hT hq1 hq4 hq5
                obtain ⟨gk, rfl⟩ : ∃ m, gk = m + 1 := ⟨gk - 1, by omega⟩
                refine start_ (n := 10) (S := fun w' => w'.cell? ⟨gx, 2, none⟩ = some (.slice A l.length c1)) (ds := [9]) #[false, false, false, false, false, false, false, false, false, false] (by kernel_rfl) rfl rfl ((blk_cell XD.out.hx 2).trans rfl) (fun hHeld => ?_)
                refine pure_ (i := 0) (N := some 94) (v := ?_) (a' := ?_) #[true, false, false, false, false, false, false, false, false, false] rfl rfl (by kernel_rfl) (fun _ _ _ h => h) (Or.inl ⟨by rfl, ?_⟩) ?_ ?_
                rotate_left
                · intro w'
                  go_simp
                  with_reducible rfl
                rotate_left
                · simp only [Act.put, List.setIfInBounds_toArray, List.set_cons_zero, List.set_cons_succ, i64_w, i32_w]
                  rfl
                refine pure_ (i := 2) (N := some 96) (v := ?_) (a' := ?_) #[true, false, true, false, false, false, false, false, false, false] rfl rfl (by kernel_rfl) (fun _ _ _ h => h) (Or.inl ⟨by rfl, ?_⟩) ?_ ?_
                rotate_left
                · intro w'
                  go_simp
                  with_reducible rfl
                rotate_left
                · simp only [Act.put, List.setIfInBounds_toArray, List.set_cons_zero, List.set_cons_succ, i64_w, i32_w]
                  rfl
                refine pure_ (i := 3) (N := some 97) (v := ?_) (a' := ?_) #[true, false, true, true, false, false, false, false, false, false] rfl rfl (by kernel_rfl) (fun _ _ _ h => h) (Or.inl ⟨by rfl, ?_⟩) ?_ ?_
                rotate_left
                · intro w'
                  go_simp
                  with_reducible rfl
                rotate_left
                · simp only [Act.put, List.setIfInBounds_toArray, List.set_cons_zero, List.set_cons_succ, i64_w, i32_w]
                  rfl
                refine take_ (i := 1) (N := some 95) (v := ?_) (a' := ?_) #[true, true, true, true, false, false, false, false, false, false] rfl rfl (by kernel_rfl) (fun _ _ _ h => h) (Or.inl ⟨by rfl, ?_⟩) hHeld ?_ ?_
                rotate_left
                · intro w' s0
                  go_simp
                  with_reducible rfl
                rotate_left
                · simp only [Act.put, List.setIfInBounds_toArray, List.set_cons_zero, List.set_cons_succ, i64_w, i32_w]
                  rfl
                refine take_ (i := 4) (N := some 98) (v := ?_) (a' := ?_) #[true, true, true, true, true, false, false, false, false, false] rfl rfl (by kernel_rfl) (fun _ _ _ h => h) (Or.inl ⟨by rfl, ?_⟩) hHeld ?_ ?_
                rotate_left
                · intro w' s0
                  go_simp
                  with_reducible rfl
                rotate_left
                · simp only [Act.put, List.setIfInBounds_toArray, List.set_cons_zero, List.set_cons_succ, i64_w, i32_w]
                  rfl
                refine one_ (i := 5) (N := some 99) #[true, true, true, true, true, true, false, false, false, false] rfl rfl (by kernel_rfl) (by decide) (fun K hK => ?_)
                refine goes_ Tryz.func120 (by kernel_rfl) rfl #[.pointer (some ⟨r, 0, none⟩), .slice A l.length c1] (by rfl) rfl rfl (by simp only [List.map_toArray, List.map_cons, List.map_nil]; rfl) ?_
                with_reducible refine (C8.out).mono ?_
                rintro e w7 ⟨hb7, hk7, rfl, hr7⟩
                refine ⟨_, rfl, ?_⟩
                have X7 := XD.out.step hb7 hk7 hr7
                clear hb7 hk7 hr7
                refine hK.out _ _ ((blk_cell X7.hx 2).trans rfl) (fun hHeld => ?_)
                clear hK K
                refine norm_ (a' := ?_) ?_ ?_
                rotate_left
                · show Act.put _ (some 99) _ = _
                  simp only [Act.put, List.setIfInBounds_toArray, List.set_cons_zero, List.set_cons_succ, i64_w, i32_w]
                  rfl
                refine one_ (i := 6) (N := some 100) #[true, true, true, true, true, true, true, false, false, false] rfl rfl (by kernel_rfl) (by decide) (fun K hK => ?_)
                refine value_ (w1 := ?_) (v := ?_) (by rfl) rfl ?_ ?_
                rotate_left 2
                · go_simp
                  constructor
                  · rfl
                  · rfl
                refine hK.out _ _ ((blk_cell (blkU_below (below_alloc (Below.refl _ _) _) X7.hx) 2).trans rfl) (fun hHeld => ?_)
                clear hK K
                refine norm_ (a' := ?_) ?_ ?_
                rotate_left
                · show Act.put _ (some 100) _ = _
                  simp only [Act.put, List.setIfInBounds_toArray, List.set_cons_zero, List.set_cons_succ, i64_w, i32_w]
                  rfl
                refine one_ (i := 7) (N := some 101) #[true, true, true, true, true, true, true, true, false, false] rfl rfl (by kernel_rfl) (by decide) (fun K hK => ?_)
                refine Kd.R_append_step k61 (w0 := w7) w1.heap.size (by rfl) (.tmp 95) (.tmp 100) 33 61 (.agg #[(.string ⟨#[]⟩), (.string ⟨#[]⟩)]) 32 rfl Tryz.underlying33 infoA15 rfl (by decide) (by decide) (.slice A l.length c1) l a [.string a.f0, .string a.f1] (fun _ => True) (fun _ => False) (by rfl) (by rfl) (k61_mkM w7 _ _ a) (fun k h => h.elim) (fun _ _ => trivial) X7.hr (Below.refl _ _) (Nat.le_trans X7.lx (Nat.le_of_lt (lt_of_heap X7.hx))) (by have := X7.ll; omega) ?_
                intro v8 w8 hR8 hB8 hG8 hat8
                obtain ⟨A8, c8, rfl⟩ := Kd.R_slice hR8
                obtain ⟨hx8, X9⟩ := X7.app hB8 hG8 hR8 HAP.out (by rw [List.length_append]; have := HLN.out; simp only [List.length_singleton]; omega)
                have z8 := blk_frozen hx8 2
                have X9 := Aside0.mk X9
                refine hK.out _ _ ((blk_cell hx8 2).trans rfl) (fun hHeld => ?_)
                clear hK K
                refine norm_ (a' := ?_) ?_ ?_
                rotate_left
                · show Act.put _ (some 101) _ = _
                  simp only [Act.put, List.setIfInBounds_toArray, List.set_cons_zero, List.set_cons_succ, i64_w, i32_w]
                  rfl
                refine pure_ (i := 8) (N := some 102) (v := ?_) (a' := ?_) #[true, true, true, true, true, true, true, true, true, false] rfl rfl (by kernel_rfl) (fun _ _ _ h => h) (Or.inl ⟨by rfl, ?_⟩) ?_ ?_
                rotate_left
                · intro w'
                  go_simp
                  with_reducible rfl
                rotate_left
                · simp only [Act.put, List.setIfInBounds_toArray, List.set_cons_zero, List.set_cons_succ, i64_w, i32_w]
                  rfl
                refine last_ (i := 9) (N := none) #[true, true, true, true, true, true, true, true, true, true] rfl rfl (by kernel_rfl) (by decide) (fun K hK => ?_)
                refine skip_ (w1 := ?_) (by rfl) rfl ?_ ?_
                rotate_left
                · go_simp
                  rfl
                refine hK.out _ _ ?_
                clear hK K
                refine done_ (by kernel_rfl) ?_

                go_wp2_with fail
                go_roundg gk
                case measure => omega
                case rel =>
                  refine ⟨stq, l ++ [a], .slice A8 (l.length + 1) c8, hq3, by omega, by rw [HQ1.out]; exact HON.out, ⟨by have h := X9.out; rw [show (l ++ [a]).length = l.length + 1 by simp] at h; exact h⟩, ⟨?_⟩⟩
                  rw [← HVx.out, atsF_succ s (gk + 1), HSB.out, HQ.out]
                  simp only [Res.bind]
                  rw [if_neg H47.out, if_neg H62.out, if_pos HC.out, HT.out]
end Go.Proofs.YtealmfcimoomlaaGreatDoor.PA

