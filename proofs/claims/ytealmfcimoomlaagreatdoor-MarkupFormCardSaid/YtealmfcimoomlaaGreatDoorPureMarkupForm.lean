/- Texts of this claim, one behind the other: UForm04, PT7, PureMarkupForm. Conditions: those of each theorem. -/
import Derived.Test.YtealmfcimoomlaaGreatDoorUMarkLib
import Derived.Test.YtealmfcimoomlaaGreatDoorUSame
import Derived.Test.YtealmfcimoomlaaGreatDoorPT6
import Derived.Test.YtealmfcimoomlaaGreatDoorPA9
import Derived.Test.YtealmfcimoomlaaGreatDoorPT5
import Derived.Test.YtealmfcimoomlaaGreatDoorPText
/- espalierlaw04.MarkupForm: the walk. -/
namespace Go.Proofs.YtealmfcimoomlaaGreatDoor.PA
open Go.RowKit Go.Proofs.YtealmfcimoomlaaGreatDoorW.PrintWords Go.Proofs.YtealmfcimoomlaaGreatDoorW.PrintLast Go.Proofs.YtealmfcimoomlaaGreatDoorW.PrintMore
set_option linter.unusedVariables false
set_option linter.unusedSimpArgs false
/-- What the law asks of a forest that was parsed. -/
structure FormOk (k : Nat) (l : List TreeS) : Prop where
  len : l.length ≤ 4096
  normal : espalierlaw04_normal.f k l = some true
  size : ∃ n : Int, n ≤ 4096 ∧ espalierlaw04_size.f k l = some n
  check : ∀ t ∈ l, tree_Check.f k t.f0 t.f1 t.f2 t.f3 t.f4 = some 0
  print : markup_Print.f k l = some (⟨#[]⟩, 2) ∨ ∃ t, markup_Print.f k l = some (t, 0) ∧ parseF t = (l, 0, 0)
  same : markup_Same.f k l l = some true
structure FormAsks (k : Nat) (s : ByteArray) (r : Bool) : Prop where
  yes : r = true
  hs : s.size ≤ 140737488351232
  bad : (parseF s).2.2 ≠ 0 → (parseF s).1 = [] ∧ 0 ≤ (parseF s).2.1 ∧ (parseF s).2.1 ≤ (s.size : Int)
  ok : (parseF s).2.2 = 0 → (parseF s).2.1 = 0 ∧ FormOk k (parseF s).1
theorem rd_mem35 (l : List TreeS) (i : Nat) (h : i < l.length) : rd_T35 l (i : Int) ∈ l := by
  unfold rd_T35
  rw [Int.toNat_natCast, List.getD_eq_getElem?_getD, List.getElem?_eq_getElem h]
  exact List.getElem_mem h
set_option maxHeartbeats 16000000 in
set_option maxRecDepth 100000 in
theorem espalierlaw04_MarkupForm.calls (k : Nat) (s : ByteArray) (r : Bool) (w : World) (h : FormAsks k s r) (hG : Glob w := by first | exact Glob.step HG.out (by repeat (first | (with_reducible first | exact HB.out | apply below_alloc | apply pw_below_drewN | apply below_drew1) | exact HB.out | (refine below_set ?_ (Aside0.out (by assumption))))) | exact HG.out | assumption) (hG2 : Glob2 w := by first | exact Glob2.step HG2.out (by repeat (first | (with_reducible first | exact HB.out | apply below_alloc | apply pw_below_drewN | apply below_drew1) | exact HB.out | (refine below_set ?_ (Aside0.out (by assumption))))) | exact HG2.out | assumption) (hG3 : Glob3 w := by first | exact Glob3.step HG3.out (by repeat (first | (with_reducible first | exact HB.out | apply below_alloc | apply pw_below_drewN | apply below_drew1) | exact HB.out | (refine below_set ?_ (Aside0.out (by assumption))))) | exact HG3.out | assumption) :
    Calls Tryz.prog 4 #[.string s] w fun e w' => e = .returned (.bool r) ∧ Below w.heap.size w w' := by
  obtain ⟨rfl, hs, hbad, hok⟩ := h
  have E0 : Env w.heap.size w := ⟨w, rfl, hG, hG2, hG3, Below.refl _ _⟩
  have HE0 := Aside0.mk E0
  have CL := Aside0.mk (lives_calls w E0)
  have CP := Aside0.mk (fun w1 => Parse_calls s w1)
  have HS := Aside0.mk hs
  clear hG hG2 hG3 E0 hs
  generalize parseF s = pr at *
  obtain ⟨l, a, e⟩ := pr
  by_cases he : e = 0
  case neg =>
    obtain ⟨h1, h2, h3⟩ := hbad he
    simp only at h1 h2 h3
    subst h1
    have f0 : (e != 0) = true := bne_iff_ne.mpr he
    have f1 : (e == 0) = false := beq_eq_false_iff_ne.mpr he
    have f2 : decide (0 ≤ a) = true := decide_eq_true h2
    have f3 : decide (a ≤ (s.size : Int)) = true := decide_eq_true h3
    clear he hbad hok h2 h3
    go_enter Tryz.func4, Tryz.ntmps4
    go_wp2_with (go_at_call 13; refine CL.out.mono ?_; rintro x w1 ⟨rfl, hB1⟩; have HB1 := Aside0.mk hB1; clear hB1 CL)
    have HP := Aside0.mk (CP.out w1 (HE0.out.step HB1.out).at_)
    go_wp2_with (go_at_call 10; refine HP.out.mono ?_)
    rintro x w2 ⟨v, rfl, hR, hB2⟩
    obtain ⟨A, c, rfl⟩ : ∃ A c, v = .slice A 0 c := Kd.R_slice hR
    have HB2 := Aside0.mk (HB1.out.trans (hB2.mono HB1.out.size))
    clear hR hB2 HP CP
    go_wp2
    go_ret
    exact ⟨rfl, HB2.out⟩
  obtain ⟨h1, h2, h3, ⟨n, hn, h4⟩, h5, h6, h7⟩ := hok he
  simp only at h1 h2 h3 h4 h5 h6 h7
  subst he
  subst h1
  have f0 : ((0 : Int) != 0) = false := rfl
  have f1 : decide ((4096 : Int) < n) = false := decide_eq_false (by omega)
  have H3 := Aside0.mk h3
  have H4 := Aside0.mk h4
  have H5 := Aside0.mk h5
  have H6 := Aside0.mk h6
  have H7 := Aside0.mk h7
  clear hbad hok h3 h4 h5 h6 h7 hn
  go_enter Tryz.func4, Tryz.ntmps4
  go_wp2_with (go_at_call 13; refine CL.out.mono ?_; rintro x w1 ⟨rfl, hB1⟩; have HB1 := Aside0.mk hB1; clear hB1 CL)
  have HP := Aside0.mk (CP.out w1 (HE0.out.step HB1.out).at_)
  go_wp2_with (go_at_call 10; refine HP.out.mono ?_)
  rintro x w2 ⟨v, rfl, hR, hB2⟩
  obtain ⟨A, c, rfl⟩ := Kd.R_slice hR
  have HC2 := Aside0.mk ((Kd.R_reads' hR).2)
  have HB2 := Aside0.mk (HB1.out.trans (hB2.mono HB1.out.size))
  clear hR hB2 HP CP HB1
  have HP := Aside0.mk (espalierlaw04_normal.calls k A c l true w2 HC2.out.2 HC2.out.1 H3.out)
  go_wp2_with (go_at_call 14; refine HP.out.mono ?_)
  rintro x w3 ⟨rfl, hB3⟩
  have hB3 := hB3.below
  have HC3 := Aside0.mk (And.intro HC2.out.1 (Kd.C_below HC2.out.2 hB3))
  have HB3 := Aside0.mk (HB2.out.trans (hB3.mono HB2.out.size))
  clear HP hB3 HC2 HB2
  have HP := Aside0.mk (espalierlaw04_size.calls k A c l n w3 HC3.out.2 HC3.out.1 H4.out)
  go_wp2_with (go_at_call 15; refine HP.out.mono ?_)
  rintro x w4 ⟨rfl, hB4⟩
  have hB4 := hB4.below
  have HC4 := Aside0.mk (And.intro HC3.out.1 (Kd.C_below HC3.out.2 hB4))
  have HB4 := Aside0.mk (HB3.out.trans (hB4.mono HB3.out.size))
  clear HP hB4 HC3 HB3
  go_wp2
  go_loopg [6] l.length (fun gg v6 wr => ∃ i : Nat, v6 = .int .i64 (i : Int) ∧ i ≤ l.length ∧ l.length - i ≤ gg ∧ Aside0 (l.length ≤ c ∧ Kd.C k35 wr A l.length l) ∧ Aside0 (Below w.heap.size w wr))
  case atStart => exact ⟨0, rfl, Nat.zero_le _, Nat.le_refl _, HC4, HB4⟩
  case round =>
    clear HC4 HB4
    obtain ⟨i, rfl, hi, hg, HC, HB⟩ := hrel
    by_cases hlt : i < l.length
    · have hck := H5.out (rd_T35 l (i : Int)) (rd_mem35 l i hlt)
      have p0 : (0 : Int) ≤ (i : Int) := by omega
      have q0 : (i : Int) < (l.length : Int) := by omega
      obtain ⟨ad, A2, c2, A4, c4, rfl, x0, x1, x2, x3, x4, l2, g2, l4, g4⟩ := at_T35 HC.out.2 (i : Int) p0 q0
      simp only [Int.toNat_natCast] at x0 x1 x2 x3 x4
      have HCK := Aside0.mk (tree_Check.calls k _ _ A2 c2 _ _ A4 c4 _ 0 wr g2 l2 g4 l4 hck (HE0.out.step HB.out).g1)
      have p1 := eq_true p0
      have q1 := eq_true q0
      have q2 := eq_true hlt
      have qd : decide ((i : Int) < (l.length : Int)) = true := decide_eq_true q0
      clear l2 g2 l4 g4 hck p0 q0
      go_wp2_with (go_at_call 16; refine HCK.out.mono ?_)
      rintro x w5 ⟨rfl, hB5⟩
      have HC5 := Aside0.mk (And.intro HC.out.1 (Kd.C_below HC.out.2 hB5))
      have HB5 := Aside0.mk (HB.out.trans (hB5.mono HB.out.size))
      clear hB5 HCK x0 x1 x2 x3 x4 p1 q1 q2 qd
      go_wp2
      go_roundg (l.length - (i + 1))
      case measure => omega
      case rel => exact ⟨i + 1, by go_num, by omega, Nat.le_refl _, HC5, HB5⟩
    · obtain rfl : i = l.length := by omega
      have qd : decide ((l.length : Int) < (l.length : Int)) = false := decide_eq_false (by omega)
      clear hi hg hlt H5 H4 H3
      rcases H6.out with hp | ⟨t, hp, hpt⟩
      · have HP := Aside0.mk (markup_Print.calls k A c l ⟨#[]⟩ 2 wr HC.out.2 HC.out.1 hp (HE0.out.step HB.out).g1)
        clear hp
        go_wp2_with (go_at_call 17; refine HP.out.mono ?_; rintro x w5 ⟨rfl, hB5⟩; have HB5 := Aside0.mk (HB.out.trans (hB5.mono HB.out.size)); clear hB5 HP)
        go_ret
        exact ⟨rfl, HB5.out⟩
      · have HP := Aside0.mk (markup_Print.calls k A c l t 0 wr HC.out.2 HC.out.1 hp (HE0.out.step HB.out).g1)
        have HPR := Aside0.mk hp
        have HPT := Aside0.mk hpt
        clear hp hpt
        go_wp2_with (go_at_call 17; refine HP.out.mono ?_; rintro x w5 ⟨rfl, hB5⟩; have HC5 := Aside0.mk (And.intro HC.out.1 (Kd.C_below HC.out.2 hB5)); have HB5 := Aside0.mk (HB.out.trans (hB5.mono HB.out.size)); clear hB5 HP)
        have hpp := Parse_calls t w5 (HE0.out.step HB5.out).at_
        rw [HPT.out] at hpp
        have HP := Aside0.mk hpp
        clear hpp
        go_wp2_with (go_at_call 10; refine HP.out.mono ?_; rintro x w6 ⟨v, rfl, hR, hB6⟩; obtain ⟨A6, c6, rfl⟩ := Kd.R_slice hR; have HD6 := Aside0.mk ((Kd.R_reads' hR).2); have HC6 := Aside0.mk (And.intro HC5.out.1 (Kd.C_below HC5.out.2 hB6)); have HB6 := Aside0.mk (HB5.out.trans (hB6.mono HB5.out.size)); clear hR hB6 HP HC5 HB5 HC HB)
        have HP := Aside0.mk (markup_Print.calls k A6 c6 l t 0 w6 HD6.out.2 HD6.out.1 HPR.out (HE0.out.step HB6.out).g1)
        go_wp2_with (go_at_call 17; refine HP.out.mono ?_; rintro x w7 ⟨rfl, hB7⟩; have HD7 := Aside0.mk (And.intro HD6.out.1 (Kd.C_below HD6.out.2 hB7)); have HC7 := Aside0.mk (And.intro HC6.out.1 (Kd.C_below HC6.out.2 hB7)); have HB7 := Aside0.mk (HB6.out.trans (hB7.mono HB6.out.size)); clear hB7 HP HC6 HB6 HD6)
        have HP := Aside0.mk (markup_Same.calls k A6 c6 l A c l true w7 HD7.out.2 HD7.out.1 HC7.out.2 HC7.out.1 H7.out)
        go_wp2_with (go_at_call 18; refine HP.out.mono ?_; rintro x w8 ⟨rfl, hB8⟩; have HB8 := Aside0.mk (HB7.out.trans (hB8.mono HB7.out.size)); clear hB8 HP)
        go_ret
        exact ⟨rfl, HB8.out⟩
end Go.Proofs.YtealmfcimoomlaaGreatDoor.PA

/- Normal forests, asked by the law's own functions. -/
namespace Go.Proofs.YtealmfcimoomlaaGreatDoor.PA
open Go.RowKit Go.Proofs.YtealmfcimoomlaaGreatDoorW.PrintWords Go.Proofs.YtealmfcimoomlaaGreatDoorW.PrintLast Go.Proofs.YtealmfcimoomlaaGreatDoorW.PrintMore
set_option linter.unusedVariables false
set_option linter.unusedSimpArgs false
theorem nodK_len : ∀ l : List TreeS, l.length ≤ nodK l
  | [] => Nat.zero_le _
  | t :: l => by
    have := nodK_len l
    have := nodT_pos t
    rw [nodK, List.length_cons]
    omega
theorem fine_small {l : List AttrS} (h : fineA l) : (∀ a ∈ l, a.f0.size ≤ 140737488351232 ∧ a.f1.size ≤ 140737488351232) ∧ l.length * 32 ≤ 140737488351232 := by
  refine ⟨fun a ha => ?_, by have := h.len; omega⟩
  have h1 := nameB_size (h.all a ha).1
  have h2 := (textR_ok (h.all a ha).2).1
  exact ⟨by omega, by omega⟩
mutual
theorem nrm_okT : ∀ (t : TreeS) (d : Nat), nrmT t d → nodT t ≤ 4096 → okT t
  | ⟨f0, f1, f2, f3, f4⟩, d, h, hn => by
    rw [nrmT] at h
    rw [nodT] at hn
    rcases h with ⟨-, ⟨rfl, g1, g2, rfl, hk⟩ | ⟨rfl, rfl, rfl, ht, hne, rfl⟩⟩
    · rw [if_pos rfl] at hn
      have h1 := nameB_size g1
      have h2 := nodK_len f4
      exact ⟨by decide, by omega, fine_small g2, by decide, nrm_okK f4 (d + 1) hk (by omega), by omega⟩
    · have h1 := (textR_ok ht).1
      exact ⟨by decide, by decide, ⟨fun _ h => (List.not_mem_nil h).elim, by decide⟩, by omega, trivial, by decide⟩
theorem nrm_okK : ∀ (l : List TreeS) (d : Nat), nrmK l d → nodK l ≤ 4096 → okK l
  | [], _, _, _ => trivial
  | t :: l, d, h, hn => by
    rw [nrmK] at h
    rw [nodK] at hn
    exact ⟨nrm_okT t d h.1 (by omega), nrm_okK l d h.2.2 (by omega)⟩
end
theorem nrmK_pre : ∀ (a b : List TreeS) (d : Nat), nrmK (a ++ b) d → nrmK a d
  | [], _, _, _ => trivial
  | t :: a, b, d, h => by
    rw [List.cons_append, nrmK] at h
    rw [nrmK]
    refine ⟨h.1, fun c u r e => h.2.1 c u (r ++ b) (by rw [e]; rfl), nrmK_pre a b d h.2.2⟩
theorem rd_prev (pre l : List TreeS) (t : TreeS) (h : 0 < pre.length) : ∃ z, pre.getLast? = some z ∧ rd_T35 (pre ++ t :: l) ((pre.length - 1 : Nat) : Int) = z := by
  have hne : pre ≠ [] := List.length_pos_iff.mp h
  refine ⟨pre.getLast hne, List.getLast?_eq_some_getLast hne, ?_⟩
  unfold rd_T35
  rw [Int.toNat_natCast, List.getD_eq_getElem?_getD, List.getElem?_append_left (by omega), List.getElem?_eq_getElem (by omega), Option.getD_some, List.getLast_eq_getElem]
mutual
theorem normal_evT : ∀ (t : TreeS) (d : Nat), nrmT t d → nodT t ≤ 4096 → t.f0 = 1 → Ev (fun k => espalierlaw04_normal.f k t.f4) true
  | ⟨f0, f1, f2, f3, f4⟩, d, h, hn, h1 => by
    refine Ev.step (fun k => by rw [espalierlaw04_normal.f.eq_2]) ?_
    rw [nrmT] at h
    rw [nodT] at hn
    rcases h with ⟨-, ⟨rfl, -, -, -, hk⟩ | ⟨e, -⟩⟩
    · rw [if_pos rfl] at hn
      exact normal_evL f4 [] (d + 1) hk (by rw [List.nil_append]; omega)
    · exact absurd (h1.symm.trans e) (by decide)
theorem normal_evL : ∀ (l pre : List TreeS) (d : Nat), nrmK (pre ++ l) d → nodK (pre ++ l) ≤ 4096 → Ev (fun k => espalierlaw04_normal.l0 k (pre ++ l) ((pre.length : Nat) : Int)) true
  | [], pre, d, h, hn => Ev.step (f := fun _ => some true) (fun k => by rw [espalierlaw04_normal.l0.eq_2, if_neg (by simp)]) (Ev.now _)
  | t :: l, pre, d, h, hn => by
    have hlen := nodK_len (pre ++ t :: l)
    have hll : (pre ++ t :: l).length = pre.length + (l.length + 1) := by rw [List.length_append, List.length_cons]
    have HW := Aside0.mk (show wrap64 ((pre.length : Int) + 1) = (((pre ++ [t]).length : Nat) : Int) by simp only [List.length_append, List.length_cons, List.length_nil]; unfold wrap64; omega)
    have hs := (nrmK_snoc pre t d).mp (nrmK_pre (pre ++ [t]) l d (by rw [← app_step]; exact h))
    have hnt : nodT t ≤ 4096 := by rw [nodK_app, nodK] at hn; omega
    have ih := normal_evL l (pre ++ [t]) d (by rw [← app_step]; exact h) (by rw [← app_step]; exact hn)
    rw [← app_step] at ih
    have hj : Ev (fun k => espalierlaw04_normal.j1 k (pre ++ t :: l) ((pre.length : Nat) : Int) false) true := by
      refine Ev.step (f := fun k => if t.f0 = 1 then (espalierlaw04_normal.f k t.f4).bind fun b => (if b = true then espalierlaw04_normal.l0 k (pre ++ t :: l) (wrap64 ((pre.length : Int) + 1)) else some false) else espalierlaw04_normal.l0 k (pre ++ t :: l) (wrap64 ((pre.length : Int) + 1))) (fun k => by rw [espalierlaw04_normal.j1.eq_2, if_neg (by decide), if_pos (by omega), if_pos (by omega), rd_app]) ?_
      by_cases h1 : t.f0 = 1
      · simp only [if_pos h1, HW.out]
        refine Ev.bind (normal_evT t d hs.2.1 hnt h1) ?_
        simp only [if_true]
        exact ih
      · simp only [if_neg h1, HW.out]
        exact ih
    refine Ev.step (f := fun k => espalierlaw04_normal.j1 k (pre ++ t :: l) ((pre.length : Nat) : Int) false) (fun k => ?_) hj
    rw [espalierlaw04_normal.l0.eq_2, if_pos (by omega), if_pos (by omega), rd_app]
    by_cases h2 : t.f0 = 2
    · rw [if_pos h2]
      have hne : ¬ t.f3.toList = ([] : List UInt8) := by
        obtain ⟨f0, f1, f2, f3, f4⟩ := t
        have := hs.2.1
        rw [nrmT] at this
        rcases this with ⟨-, ⟨e, -⟩ | ⟨-, -, -, -, e, -⟩⟩
        · exact absurd (h2.symm.trans e) (by decide)
        · rw [Lib.toList_data]; exact e
      rw [if_neg hne]
      by_cases h0 : 0 < pre.length
      · obtain ⟨z, hz, hr⟩ := rd_prev pre l t h0
        have HW1 := Aside0.mk (show wrap64 ((pre.length : Int) - 1) = ((pre.length - 1 : Nat) : Int) by unfold wrap64; omega)
        have hzz := hs.2.2 h2 z hz
        rw [if_pos (by omega), HW1.out, if_pos (by omega), if_pos (by omega), hr, beq_eq_false_iff_ne.mpr hzz]
      · rw [if_neg (by omega)]
    · rw [if_neg h2]
end
theorem normal_ev1 (l : List TreeS) (h : nrmK l 1) (hn : nodK l ≤ 4096) : Ev (fun k => espalierlaw04_normal.f k l) true :=
  Ev.step (f := fun k => espalierlaw04_normal.l0 k l 0) (fun k => by rw [espalierlaw04_normal.f.eq_2]) (normal_evL l [] 1 h hn)
mutual
theorem sizeL_evT : ∀ (t : TreeS), nodT t ≤ 4096 → t.f0 = 1 → Ev (fun k => espalierlaw04_size.f k t.f4) ((nodK t.f4 : Nat) : Int)
  | ⟨f0, f1, f2, f3, f4⟩, hn, h1 => by
    refine Ev.step (fun k => by rw [espalierlaw04_size.f.eq_2]) ?_
    rw [nodT] at hn
    rw [if_pos h1] at hn
    have hl := nodK_len f4
    have := sizeL_evL f4 [] f4.length (by rw [List.nil_append]; omega) (by omega)
    rw [show f4.length + nodK f4 - f4.length = nodK f4 by omega] at this
    exact this
theorem sizeL_evL : ∀ (l pre : List TreeS) (n : Nat), nodK (pre ++ l) ≤ 4096 → n + nodK l ≤ 100000 → Ev (fun k => espalierlaw04_size.l0 k (pre ++ l) (n : Int) ((pre.length : Nat) : Int)) ((n + nodK l - l.length : Nat) : Int)
  | [], pre, n, hn, hb => by
    rw [nodK, List.length_nil]
    exact Ev.step (f := fun _ => some (n : Int)) (fun k => by rw [espalierlaw04_size.l0.eq_2, if_neg (by simp)]) (Ev.now _)
  | t :: l, pre, n, hn, hb => by
    have hb' := hb
    rw [nodK] at hb'
    have hlen := nodK_len (pre ++ t :: l)
    have hll : (pre ++ t :: l).length = pre.length + (l.length + 1) := by rw [List.length_append, List.length_cons]
    have HW := Aside0.mk (show wrap64 ((pre.length : Int) + 1) = (((pre ++ [t]).length : Nat) : Int) by simp only [List.length_append, List.length_cons, List.length_nil]; unfold wrap64; omega)
    have hnt : nodT t ≤ 4096 := by rw [nodK_app, nodK] at hn; omega
    have hl2 := nodK_len l
    refine Ev.step (f := fun k => if t.f0 = 1 then (espalierlaw04_size.f k t.f4).bind fun b => espalierlaw04_size.l0 k (pre ++ t :: l) (wrap64 ((n : Int) + b)) (wrap64 ((pre.length : Int) + 1)) else espalierlaw04_size.l0 k (pre ++ t :: l) (n : Int) (wrap64 ((pre.length : Int) + 1))) (fun k => by rw [espalierlaw04_size.l0.eq_2, if_pos (by omega), if_pos (by omega), rd_app]) ?_
    have hpos := nodT_pos t
    by_cases h1 : t.f0 = 1
    · have hnod : nodT t = 1 + nodK t.f4 := by
        obtain ⟨f0, f1, f2, f3, f4⟩ := t
        rw [nodT, if_pos h1]
      simp only [if_pos h1, HW.out]
      refine Ev.bind (sizeL_evT t hnt h1) ?_
      have HW2 := Aside0.mk (show wrap64 ((n : Int) + ((nodK t.f4 : Nat) : Int)) = ((n + nodK t.f4 : Nat) : Int) by unfold wrap64; omega)
      simp only [HW2.out]
      have ih := sizeL_evL l (pre ++ [t]) (n + nodK t.f4) (by rw [← app_step]; exact hn) (by rw [nodK] at hb; omega)
      rw [← app_step] at ih
      have e : n + nodK (t :: l) - (t :: l).length = n + nodK t.f4 + nodK l - l.length := by rw [nodK, List.length_cons]; omega
      rw [e]
      exact ih
    · have hnod : nodT t = 1 := by
        obtain ⟨f0, f1, f2, f3, f4⟩ := t
        rw [nodT, if_neg h1]
      simp only [if_neg h1, HW.out]
      have ih := sizeL_evL l (pre ++ [t]) n (by rw [← app_step]; exact hn) (by rw [nodK] at hb; omega)
      rw [← app_step] at ih
      have e : n + nodK (t :: l) - (t :: l).length = n + nodK l - l.length := by rw [nodK, List.length_cons]; omega
      rw [e]
      exact ih
end
end Go.Proofs.YtealmfcimoomlaaGreatDoor.PA

/- MarkupForm, in plain: at so many rounds all that the law asks is so. -/
namespace Go.Proofs.YtealmfcimoomlaaGreatDoor.Pure
open Go.RowKit Go.Proofs.YtealmfcimoomlaaGreatDoorW.PrintWords Go.Proofs.YtealmfcimoomlaaGreatDoorW.PrintLast Go.Proofs.YtealmfcimoomlaaGreatDoorW.PrintMore Go.Proofs.YtealmfcimoomlaaGreatDoor.PA
set_option linter.unusedVariables false
theorem check_all : ∀ l : List TreeS, okK l → (∀ t ∈ l, (lookE t 1 0).1 = 0) → ∃ K, ∀ k, K ≤ k → ∀ t ∈ l, tree_Check.f k t.f0 t.f1 t.f2 t.f3 t.f4 = some 0
  | [], _, _ => ⟨0, fun _ _ _ h => (List.not_mem_nil h).elim⟩
  | t :: l, h, hl => by
    obtain ⟨K1, h1⟩ := check_all l h.2 fun u hu => hl u (List.mem_cons_of_mem _ hu)
    obtain ⟨K2, h2⟩ := Check_evP t h.1
    rw [hl t List.mem_cons_self] at h2
    refine ⟨K1 + K2, fun k hk u hu => ?_⟩
    rcases List.mem_cons.mp hu with rfl | hu
    · exact h2 k (by omega)
    · exact h1 k (by omega) u hu
theorem form_ok (l : List TreeS) (h : nrmK l 1) (hn : nodK l ≤ 4096) : ∃ k, FormOk k l := by
  have hok := nrm_okK l 1 h hn
  have hl := nodK_len l
  obtain ⟨K1, e1⟩ := normal_ev1 l h hn
  obtain ⟨K2, e2⟩ := Ev.step (g := fun k => espalierlaw04_size.f k l) (f := fun k => espalierlaw04_size.l0 k l (l.length : Int) 0) (fun k => by rw [espalierlaw04_size.f.eq_2]) (sizeL_evL l [] l.length (by rw [List.nil_append]; exact hn) (by omega))
  obtain ⟨K3, e3⟩ := check_all l hok (first_nrm l h hn).2
  obtain ⟨K4, e4⟩ := print_evP l hok (by omega)
  obtain ⟨K5, e5⟩ := same_evP l l hok
  have h1 := e1 (K1 + K2 + K3 + K4 + K5) (by omega)
  have h2 := e2 (K1 + K2 + K3 + K4 + K5) (by omega)
  have h3 := e3 (K1 + K2 + K3 + K4 + K5) (by omega)
  have h4 := e4 (K1 + K2 + K3 + K4 + K5) (by omega)
  have h5 := e5 (K1 + K2 + K3 + K4 + K5) (by omega)
  rw [sameE_refl] at h5
  rw [printE_eq, if_pos (can_nrm h hn)] at h4
  refine ⟨K1 + K2 + K3 + K4 + K5, by omega, h1, ⟨_, by omega, h2⟩, h3, ?_, h5⟩
  by_cases hb : 262144 < (prK l).length
  · rw [if_pos hb] at h4
    exact .inl h4
  · rw [if_neg hb] at h4
    exact .inr ⟨_, h4, parse_print h hn (by omega)⟩
theorem MarkupForm (text : ByteArray) (q0 : text.size ≤ 140737488351232) : ∃ k, FormAsks k text true := by
  rcases parse_cases text with ⟨h1, h2, h3, h4⟩ | ⟨h1, h2, h3, h4⟩
  · obtain ⟨k, hk⟩ := form_ok _ h3 h4
    exact ⟨k, rfl, q0, fun c => absurd h1 c, fun _ => ⟨h2, hk⟩⟩
  · exact ⟨0, rfl, q0, fun _ => ⟨h2, h3, h4⟩, fun c => absurd c h1⟩
end Go.Proofs.YtealmfcimoomlaaGreatDoor.Pure
