/- espalierref04.print: the walk. -/
import Derived.Test.YtealmfcimoomlaaDoorURefPrint
namespace Go.Proofs.YtealmfcimoomlaaDoor.PA
open Go.RowKit Go.Proofs.YtealmfcimoomlaaDoorW.PrintWords Go.Proofs.YtealmfcimoomlaaDoorW.PrintLast Go.Proofs.YtealmfcimoomlaaDoorW.PrintMore
set_option linter.unusedVariables false
set_option linter.unusedSimpArgs false
set_option maxHeartbeats 8000000 in
set_option maxRecDepth 100000 in
theorem rprint_calls (k : Nat) (w0 : World) : ∀ (n : Nat) (l : List S36), SizeOf.sizeOf l ≤ n → ∀ (A : Option Addr) (c : Nat) (v : Value) (bs r : List UInt8) (w : World),
    Kd.C k36 w0 A l.length l → l.length ≤ c → w.ownsRow w0.heap.size 5 1 v bs.length (Lib.byteCells bs) → Below w0.heap.size w0 w → rkidsF k l bs = some r →
    Calls Tryd.prog 20 #[v, .slice A l.length c] w fun e w' => ∃ v', e = .returned v' ∧ RW w0 w v' r w' := by
  obtain ⟨i0, hi, hz0, hz1, hz2⟩ := info_parts (show (Tryd.prog.info? 5).map (fun i => (i.zero, i.size, i.bytes)) = some (some (.int .u8 0), 1, 1) by kernel_rfl)
  have tS : Tryd.prog.underlying 40 = some (.slice 5) := by kernel_rfl
  have tG : Tryd.prog.underlying 9 = some .string := by kernel_rfl
  intro n
  induction n with
  | zero => intro l h; cases l <;> simp at h
  | succ n ih =>
    intro l hn A c v bs r w hC hc hown hB hf
    have R0 := Aside0.mk (RW.mk hown hB (Below.refl _ w) (Lib.OthersKept.refl _ _ w))
    obtain ⟨Av, cv, rfl⟩ := own_slice hown
    have HC := Aside0.mk hC
    have HF := Aside0.mk hf
    have HN := Aside0.mk hn
    have IH := Aside0.mk ih
    have hbig : l.length ≤ 9223372036854775807 := hC.2.1
    clear hown hB hC hf hn ih
    go_enter Tryd.func20, Tryd.ntmps20
    go_wp2
    go_loopw [0, 5] (fun s0 s5 wr => ∃ (i : Nat) (Ab : Option Addr) (cb : Nat) (bd : List UInt8), i ≤ l.length ∧ s5 = .int .i64 i ∧ s0 = .slice Ab bd.length cb ∧ Aside0 (rkidsF k (l.drop i) bd = some r ∧ RW w0 w (.slice Ab bd.length cb) bd wr)) (fun _ s5 _ => l.length - (intOf s5).toNat)
    case atStart => exact ⟨0, _, _, bs, Nat.zero_le _, rfl, rfl, ⟨⟨HF.out, R0.out⟩⟩⟩
    case round =>
      obtain ⟨i, Ab, cb, bd, hi', rfl, rfl, ⟨hbd, R1⟩⟩ := hrel
      by_cases hlt : i < l.length
      case neg =>
        rw [List.drop_of_length_le (by omega), rkidsF] at hbd
        obtain rfl := Option.some.inj hbd
        have hltz : decide ((i : Int) < (l.length : Int)) = false := decide_eq_false (by omega)
        have R2 := Aside0.mk R1
        clear R1 hbd
        go_wp2
        go_ret
        exact ⟨_, rfl, R2.out⟩
      have hltz : (i : Int) < (l.length : Int) := by omega
      rw [drop36 _ _ hlt, rkidsF] at hbd
      by_cases hfull : bd.length ≤ 262144
      case neg =>
        rw [if_neg hfull] at hbd
        obtain rfl := Option.some.inj hbd
        have hfd : decide ((bd.length : Int) ≤ 262144) = false := decide_eq_false (by omega)
        have R2 := Aside0.mk R1
        clear R1 hbd
        go_wp2
        go_ret
        exact ⟨_, rfl, R2.out⟩
      rw [if_pos hfull] at hbd
      have hfd : decide ((bd.length : Int) ≤ 262144) = true := decide_eq_true (by omega)
      obtain ⟨ad, B2, c52, B4, c54, rfl, y0, y1, y2, y3, y4, z2, z3, z4, z5⟩ := at_T36 HC.out (i : Int) (by omega) hltz
      have y0 := pw_cell_below (R1.bel0) y0
      have y1 := pw_cell_below (R1.bel0) y1
      have y2 := pw_cell_below (R1.bel0) y2
      have y3 := pw_cell_below (R1.bel0) y3
      have y4 := pw_cell_below (R1.bel0) y4
      rw [Int.toNat_natCast] at y0 y1 y2 y3 y4
      have hmem : rd_T36 l (i : Int) ∈ l := rd36_mem _ _ hlt
      have hsz : SizeOf.sizeOf (rd_T36 l (i : Int)).f4 ≤ n := by
        have h1 := List.sizeOf_lt_of_mem hmem
        have h2 := HN.out
        have h3 := size_kids (rd_T36 l (i : Int))
        omega
      generalize rd_T36 l (i : Int) = a at hbd y0 y1 y2 y3 y4 z2 z3 z4 z5 hsz
      obtain ⟨b1, hb1, hbd2⟩ := Option.bind_eq_some_iff.mp hbd
      have hb1' : rtreeF k ⟨a.f0, a.f1, a.f2, a.f3, a.f4⟩ bd = some b1 := by rw [tree_one]; exact hb1
      rw [rtreeF] at hb1'
      have hal := (Below.refl wr.heap.size wr).alloc (Nat.le_refl _) (.cells #[.int .i64 a.f0, .string a.f1, .slice B2 a.f2.length c52, .string a.f3, .slice B4 a.f4.length c54] 36)
      have X0 := Aside0.mk (R1.move hal)
      have Q0 := Aside0.mk (RB.mk (heap_alloc_new wr (.cells #[.int .i64 a.f0, .string a.f1, .slice B2 a.f2.length c52, .string a.f3, .slice B4 a.f4.length c54] 36)) (by decide))
      have q0 := (Q0.out.cell 0).trans rfl
      have q1 := (Q0.out.cell 1).trans rfl
      have q2 := (Q0.out.cell 2).trans rfl
      have q3 := (Q0.out.cell 3).trans rfl
      have q4 := (Q0.out.cell 4).trans rfl
      have HF2 := Aside0.mk hbd2
      have Z2 := Aside0.mk z2
      have Z3 := Aside0.mk z3
      have Z4 := Aside0.mk z4
      have Z5 := Aside0.mk z5
      clear z2 z3 z4 z5 hbd hbd2 hb1 hmem R1 hal hfull hlt
      by_cases h2 : a.f0 = 2
      · rw [if_pos h2] at hb1'
        obtain ⟨e2, he2, hp⟩ := Option.bind_eq_some_iff.mp hb1'
        obtain ⟨hp1, hz1'⟩ := rput_some hp
        have E1 := Aside0.mk hz1'
        clear hz1'
        have hd2 : (a.f0 == 2) = true := beq_iff_eq.mpr h2
        have HE := Aside0.mk (espalierref02_Escape.calls k a.f3 false e2.1 e2.2.1 e2.2.2 (wr.alloc (.cells #[.int .i64 a.f0, .string a.f1, .slice B2 a.f2.length c52, .string a.f3, .slice B4 a.f4.length c54] 36)) he2)
        have HP := Aside0.mk hp1
        clear h2 hb1' he2 hp hp1
        go_wp2_with (go_at_call 37; refine HE.out.mono ?_)
        rintro e w2 ⟨rfl, hB2⟩
        have X1 := Aside0.mk (X0.out.move hB2)
        have hown := X1.out.own
        have hbs := X1.out.bel0.size
        clear X0 q0 q1 q2 q3 q4 Q0 HE y0 y1 y2 y3 y4
        go_wp2_with (at_builtin; refine Lib.wpList_append_own_string _ rfl _ _ 40 9 rfl w0.heap.size 5 i0 tS tG hi hz0 hz1 hz2 _ _ _ rfl hown e2.1 rfl ?c3 ?c4 ?c5 ?_)
        case c3 => have := HP.out; unfold maxLen; omega
        case c4 => have := HP.out; omega
        case c5 => exact hbs
        intro v' w3 hown' hgrow _
        have X2 := Aside0.mk (RW.app E1.out X1.out hown' hgrow)
        obtain ⟨A', c', rfl⟩ := X2.out.slice
        clear hown' hgrow X1 hown hbs hB2
        go_wp2
        exact ⟨⟨i + 1, _, _, _, by omega, rfl, rfl, ⟨⟨HF2.out, X2.out⟩⟩⟩, by simp [intOf]; omega⟩
      rw [if_neg h2] at hb1'
      have hd2 : (a.f0 == 2) = false := beq_eq_false_iff_ne.mpr h2
      by_cases h3 : a.f1.size ≤ 100000
      case neg => rw [if_neg h3] at hb1'; cases hb1'
      rw [if_pos h3] at hb1'
      obtain ⟨c1, hc1, hx1⟩ := Option.bind_eq_some_iff.mp hb1'
      obtain ⟨c2, hc2, hx2⟩ := Option.bind_eq_some_iff.mp hx1
      obtain ⟨hh, hhol, hx3⟩ := Option.bind_eq_some_iff.mp hx2
      obtain ⟨hp1, hz1'⟩ := rput_some hc1
      have E1 := Aside0.mk hz1'
      clear hz1'
      have HP := Aside0.mk hp1
      have H3 := Aside0.mk h3
      have HA := Aside0.mk hc2
      have HH := Aside0.mk hhol
      have HX := Aside0.mk hx3
      clear h2 hb1' hc1 hx1 hc2 hx2 hhol hx3 hp1
      have hown := X0.out.own
      have hbs := X0.out.bel0.size
      go_wp2_with (at_builtin; refine Lib.wpList_append_own_string _ rfl _ _ 40 9 rfl w0.heap.size 5 i0 tS tG hi hz0 hz1 hz2 _ _ _ rfl hown (⟨#[60]⟩ ++ a.f1) rfl ?c3 ?c4 ?c5 ?_)
      case c3 => have := HP.out; unfold maxLen; omega
      case c4 => have := HP.out; omega
      case c5 => exact hbs
      intro v' wn_X1 hown' hgrow _
      have X1 := Aside0.mk (RW.app E1.out X0.out hown' hgrow)
      have Q1 := Aside0.mk (Q0.out.grown hown hgrow)
      obtain ⟨A_X1, c_X1, rfl⟩ := X1.out.slice
      clear hown' hgrow hown hbs X0 Q0
      clear q0 q1 q2 q3 q4 y0 y1 y2 y3 y4
      have q0 := (Q1.out.cell 0).trans rfl
      have q1 := (Q1.out.cell 1).trans rfl
      have q2 := (Q1.out.cell 2).trans rfl
      have q3 := (Q1.out.cell 3).trans rfl
      have q4 := (Q1.out.cell 4).trans rfl
      have hbig2 : a.f2.length ≤ 9223372036854775807 := Z3.out.2.1
      go_wp2
      go_loopw [0, 10] (fun s0 s10 wx => ∃ (j : Nat) (Ae : Option Addr) (ce : Nat) (be : List UInt8), j ≤ a.f2.length ∧ s10 = .int .i64 j ∧ s0 = .slice Ae be.length ce ∧ Aside0 (rattrF k (a.f2.drop j) be = some c2 ∧ RW w0 w (.slice Ae be.length ce) be wx ∧ RB wr.heap.size #[.int .i64 a.f0, .string a.f1, .slice B2 a.f2.length c52, .string a.f3, .slice B4 a.f4.length c54] 36 wx)) (fun _ s10 _ => a.f2.length - (intOf s10).toNat)
      case atStart => exact ⟨0, _, _, _, Nat.zero_le _, rfl, rfl, ⟨⟨HA.out, X1.out, Q1.out⟩⟩⟩
      case round =>
        obtain ⟨j, Ae, ce, be, hj, rfl, rfl, ⟨hbe, X2', Q2'⟩⟩ := hrel
        have X2 := Aside0.mk X2'
        have Q2 := Aside0.mk Q2'
        clear X2' Q2' q0 q1 q2 q3 q4 Q1 X1
        have q0 := (Q2.out.cell 0).trans rfl
        have q1 := (Q2.out.cell 1).trans rfl
        have q2 := (Q2.out.cell 2).trans rfl
        have q3 := (Q2.out.cell 3).trans rfl
        have q4 := (Q2.out.cell 4).trans rfl
        by_cases hltj : j < a.f2.length
        · have hltjz : (j : Int) < (a.f2.length : Int) := by omega
          rw [drop54 _ _ hltj, rattrF] at hbe
          obtain ⟨ad2, rfl, y0, y1⟩ := at_T54 Z3.out (j : Int) (by omega) hltjz
          have y0 := pw_cell_below (X2.out.bel0) y0
          have y1 := pw_cell_below (X2.out.bel0) y1
          rw [Int.toNat_natCast] at y0 y1
          generalize rd_T54 a.f2 (j : Int) = x at hbe y0 y1
          by_cases ha : x.f0.size ≤ 100000
          case neg => rw [if_neg ha] at hbe; cases hbe
          rw [if_pos ha] at hbe
          obtain ⟨e2, he2, hbe2⟩ := Option.bind_eq_some_iff.mp hbe
          by_cases hes : e2.1.size ≤ 1000000
          case neg => rw [if_neg hes] at hbe2; cases hbe2
          rw [if_pos hes] at hbe2
          obtain ⟨d1, hd1, hbe3⟩ := Option.bind_eq_some_iff.mp hbe2
          obtain ⟨hp2, hz1'⟩ := rput_some hd1
          have E2 := Aside0.mk hz1'
          clear hz1'
          have HP2 := Aside0.mk hp2
          have HF3 := Aside0.mk hbe3
          have HE := Aside0.mk (espalierref02_Escape.calls k x.f1 true e2.1 e2.2.1 e2.2.2 wr he2)
          clear hbe he2 hbe2 hd1 hbe3 hp2
          go_wp2_with (go_at_call 37; refine HE.out.mono ?_)
          rintro e w4 ⟨rfl, hB4⟩
          have X3 := Aside0.mk (X2.out.move hB4)
          have Q3 := Aside0.mk (Q2.out.below hB4)
          have y0 := pw_cell_below hB4 y0
          have y1 := pw_cell_below hB4 y1
          clear X2 q0 q1 q2 q3 q4 Q2 HE hB4
          have q0 := (Q3.out.cell 0).trans rfl
          have q1 := (Q3.out.cell 1).trans rfl
          have q2 := (Q3.out.cell 2).trans rfl
          have q3 := (Q3.out.cell 3).trans rfl
          have q4 := (Q3.out.cell 4).trans rfl
          have hown := X3.out.own
          have hbs := X3.out.bel0.size
          go_wp2_with (at_builtin; refine Lib.wpList_append_own_string _ rfl _ _ 40 9 rfl w0.heap.size 5 i0 tS tG hi hz0 hz1 hz2 _ _ _ rfl hown (⟨#[32]⟩ ++ x.f0 ++ ⟨#[61, 34]⟩ ++ e2.1 ++ ⟨#[34]⟩) rfl ?c3 ?c4 ?c5 ?_)
          case c3 => have := HP2.out; unfold maxLen; omega
          case c4 => have := HP2.out; omega
          case c5 => exact hbs
          intro v' wn_X4 hown' hgrow _
          have X4 := Aside0.mk (RW.app E2.out X3.out hown' hgrow)
          have Q4 := Aside0.mk (Q3.out.grown hown hgrow)
          obtain ⟨A_X4, c_X4, rfl⟩ := X4.out.slice
          clear hown' hgrow hown hbs X3 Q3
          go_wp2
          go_roundw
          case rel => exact ⟨j + 1, _, _, _, by omega, rfl, rfl, ⟨⟨HF3.out, X4.out, Q4.out⟩⟩⟩
          case measure => simp [intOf]; omega
        · rw [List.drop_of_length_le (by omega), rattrF] at hbe
          obtain rfl := Option.some.inj hbe
          have hltjd : decide ((j : Int) < (a.f2.length : Int)) = false := decide_eq_false (by omega)
          have HHc := Aside0.mk (espalierref04_hollow.calls k B4 c54 a.f4 hh wr (Kd.C_below Z5.out X2.out.bel0) Z4.out HH.out)
          clear hbe
          go_wp2_with (go_at_call 38; refine HHc.out.mono ?_)
          rintro e w4 ⟨rfl, hB4⟩
          have X3 := Aside0.mk (X2.out.move hB4.below)
          have Q3 := Aside0.mk (Q2.out.below hB4.below)
          clear X2 q0 q1 q2 q3 q4 Q2 HHc hB4
          have q0 := (Q3.out.cell 0).trans rfl
          have q1 := (Q3.out.cell 1).trans rfl
          have q2 := (Q3.out.cell 2).trans rfl
          have q3 := (Q3.out.cell 3).trans rfl
          have q4 := (Q3.out.cell 4).trans rfl
          have hown := X3.out.own
          have hbs := X3.out.bel0.size
          have hx := HX.out
          cases hh with
          | true =>
            rw [if_pos rfl] at hx
            obtain ⟨hp2, hz1'⟩ := rput_some hx
            have E2 := Aside0.mk hz1'
            clear hz1'
            have HP2 := Aside0.mk hp2
            clear hx hp2 HX
            go_wp2_with (at_builtin; refine Lib.wpList_append_own_string _ rfl _ _ 40 9 rfl w0.heap.size 5 i0 tS tG hi hz0 hz1 hz2 _ _ _ rfl hown ⟨#[47, 62]⟩ rfl ?c3 ?c4 ?c5 ?_)
            case c3 => have := HP2.out; unfold maxLen; omega
            case c4 => have := HP2.out; omega
            case c5 => exact hbs
            intro v' wn_X4 hown' hgrow _
            have X4 := Aside0.mk (RW.app E2.out X3.out hown' hgrow)
            have Q4 := Aside0.mk (Q3.out.grown hown hgrow)
            obtain ⟨A_X4, c_X4, rfl⟩ := X4.out.slice
            clear hown' hgrow hown hbs X3 Q3
            go_wp2
            exact ⟨⟨i + 1, _, _, _, by omega, rfl, rfl, ⟨⟨HF2.out, X4.out⟩⟩⟩, by simp [intOf]; omega⟩
          | false =>
            rw [if_neg (by decide)] at hx
            obtain ⟨b3, hb3, hx4⟩ := Option.bind_eq_some_iff.mp hx
            obtain ⟨b4, hb4, hx5⟩ := Option.bind_eq_some_iff.mp hx4
            obtain ⟨hp3, hz1'⟩ := rput_some hb3
            have E3 := Aside0.mk hz1'
            clear hz1'
            obtain ⟨hp5, hz1'⟩ := rput_some hx5
            have E5 := Aside0.mk hz1'
            clear hz1'
            have HP3 := Aside0.mk hp3
            have HP5 := Aside0.mk hp5
            have HK := Aside0.mk hb4
            clear hx hb3 hx4 hb4 hx5 hp3 hp5 HX
            have hal2 := (Below.refl w4.heap.size w4).alloc (Nat.le_refl _) (.cells #[.int .u8 62] 5)
            have hcl := heap_alloc_new w4 (.cells #[.int .u8 62] 5)
            have X3a := Aside0.mk (X3.out.move hal2)
            have Q3a := Aside0.mk (Q3.out.below hal2)
            have hown := X3a.out.own
            have hbs := X3a.out.bel0.size
            clear q0 q1 q2 q3 q4 X3 Q3
            have q0 := (Q3a.out.cell 0).trans rfl
            have q1 := (Q3a.out.cell 1).trans rfl
            have q2 := (Q3a.out.cell 2).trans rfl
            have q3 := (Q3a.out.cell 3).trans rfl
            have q4 := (Q3a.out.cell 4).trans rfl
            go_wp2_with (at_builtin; refine wpList_append_own _ rfl _ _ 40 rfl w0.heap.size 5 i0 (.int .u8 0) 1 1 tS hi hz0 hz1 hz2 rfl (by decide) _ _ _ rfl hown _ 1 1 [.int .u8 62] rfl rfl ?n1 ?n2 ?c3 ?c4 ?c5 ?_)
            case n1 => intro j u hu; match j with | 0 => (injection hu with hu; subst hu; rw [Addr.add_lit]; exact (blk_cell hcl 0).trans rfl) | j + 1 => cases hu
            case n2 => intro u hu; rcases List.mem_cons.1 hu with rfl | hu; rfl; cases hu
            case c3 => have := HP3.out; unfold maxLen; omega
            case c4 => have := HP3.out; omega
            case c5 => exact hbs
            intro v' w5 hown' hgrow _
            have X4 := Aside0.mk (RW.app (s := ⟨#[62]⟩) E3.out X3a.out hown' hgrow)
            have Q4 := Aside0.mk (Q3a.out.grown hown hgrow)
            obtain ⟨A4, c4', rfl⟩ := X4.out.slice
            clear hown' hgrow hown hbs X3a Q3a q0 q1 q2 q3 q4 hcl hal2
            have q0 := (Q4.out.cell 0).trans rfl
            have q1 := (Q4.out.cell 1).trans rfl
            have q2 := (Q4.out.cell 2).trans rfl
            have q3 := (Q4.out.cell 3).trans rfl
            have q4 := (Q4.out.cell 4).trans rfl
            have HI := Aside0.mk (IH.out a.f4 hsz B4 c54 (.slice A4 _ c4') _ b4 w5 Z5.out Z4.out X4.out.own X4.out.bel0 HK.out)
            go_wp2_with (go_at_call 20; refine HI.out.mono ?_)
            rintro e w6 ⟨v6, rfl, hR6⟩
            have X5 := Aside0.mk (X4.out.keeps hR6)
            have Q5 := Aside0.mk (Q4.out.step hR6.kept)
            obtain ⟨A5, c5', rfl⟩ := hR6.slice
            clear hR6 HI X4 Q4 q0 q1 q2 q3 q4
            have q0 := (Q5.out.cell 0).trans rfl
            have q1 := (Q5.out.cell 1).trans rfl
            have q2 := (Q5.out.cell 2).trans rfl
            have q3 := (Q5.out.cell 3).trans rfl
            have q4 := (Q5.out.cell 4).trans rfl
            have hown := X5.out.own
            have hbs := X5.out.bel0.size
            go_wp2_with (at_builtin; refine Lib.wpList_append_own_string _ rfl _ _ 40 9 rfl w0.heap.size 5 i0 tS tG hi hz0 hz1 hz2 _ _ _ rfl hown (⟨#[60, 47]⟩ ++ a.f1 ++ ⟨#[62]⟩) rfl ?c3 ?c4 ?c5 ?_)
            case c3 => have := HP5.out; unfold maxLen; omega
            case c4 => have := HP5.out; omega
            case c5 => exact hbs
            intro v' wn_X6 hown' hgrow _
            have X6 := Aside0.mk (RW.app E5.out X5.out hown' hgrow)
            have Q6 := Aside0.mk (Q5.out.grown hown hgrow)
            obtain ⟨A_X6, c_X6, rfl⟩ := X6.out.slice
            clear hown' hgrow hown hbs X5 Q5
            go_wp2
            go_roundw
            case rel => exact ⟨i + 1, _, _, _, by omega, rfl, rfl, ⟨⟨HF2.out, X6.out⟩⟩⟩
            case measure => simp [intOf]; omega
end Go.Proofs.YtealmfcimoomlaaDoor.PA
