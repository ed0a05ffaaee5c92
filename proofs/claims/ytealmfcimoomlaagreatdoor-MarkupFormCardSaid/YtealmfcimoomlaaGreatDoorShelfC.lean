/- Texts of this claim, one behind the other: UScan3, UScan4, UScan5, UScan6, ShelfC. Conditions: those of each theorem. -/
import Derived.Test.YtealmfcimoomlaaGreatDoorUUtf8
import Derived.Test.YtealmfcimoomlaaGreatDoorPA3
import Derived.Lib.BufferKept
import Derived.Test.YtealmfcimoomlaaGreatDoorPA2
import Derived.Deep.RegionHeld3
/- scan.reader: blanks. -/
namespace Go.Proofs.YtealmfcimoomlaaGreatDoor.PA
open Go.RowKit Go.Proofs.YtealmfcimoomlaaGreatDoorW.PrintWords Go.Proofs.YtealmfcimoomlaaGreatDoorW.PrintLast Go.Proofs.YtealmfcimoomlaaGreatDoorW.PrintMore
set_option linter.unusedVariables false
set_option linter.unusedSimpArgs false
def blankV (c : Int) : Bool := (scan_blank.f c).getD false
theorem blankV_f (c : Int) : scan_blank.f c = some (blankV c) := by
  unfold blankV scan_blank.f
  split
  · rfl
  split
  · rfl
  split
  · rfl
  · rfl
/-- The first place from i on at which p does not hold. -/
def upTo (s : ByteArray) (p : Int → Bool) : Nat → Nat → Nat
  | 0, i => i
  | d + 1, i => if p (bt s (i : Int)) = true then upTo s p d (i + 1) else i
def skipF (s : ByteArray) (p : Int → Bool) (i : Nat) : Nat := upTo s p (s.size - i) i
theorem skipF_yes {s : ByteArray} {p : Int → Bool} {i : Nat} (h : i < s.size) (hp : p (bt s (i : Int)) = true) : skipF s p i = skipF s p (i + 1) := by
  unfold skipF
  obtain ⟨d, hd⟩ : ∃ d, s.size - i = d + 1 := ⟨s.size - i - 1, by omega⟩
  rw [hd, upTo, if_pos hp]
  congr 1
  omega
theorem skipF_no {s : ByteArray} {p : Int → Bool} {i : Nat} (h : i < s.size) (hp : p (bt s (i : Int)) = false) : skipF s p i = i := by
  unfold skipF
  obtain ⟨d, hd⟩ : ∃ d, s.size - i = d + 1 := ⟨s.size - i - 1, by omega⟩
  rw [hd, upTo, if_neg (by rw [hp]; decide)]
theorem skipF_end {s : ByteArray} {p : Int → Bool} {i : Nat} (h : ¬ i < s.size) : skipF s p i = i := by
  unfold skipF
  rw [show s.size - i = 0 by omega, upTo]
set_option maxHeartbeats 4000000 in
set_option maxRecDepth 100000 in
theorem blanks_calls (B r : Nat) (tell : Value) (s : ByteArray) (st : St) (w : World) (h : Rd B r tell s st w) (ha : st.at_ ≤ s.size) (hs : s.size ≤ 140737488355328) :
    Calls Tryz.prog 117 #[.pointer (some ⟨r, 0, none⟩)] w (Ends B r tell s (fun b => .bool b) w (.ok (decide (st.at_ < skipF s blankV st.at_)) { st with at_ := skipF s blankV st.at_ })) := by
  have HR := Aside0.mk h
  have HB0 := Aside0.mk (Below.refl B w)
  obtain ⟨h0, ov, pv, bv, h1, h2⟩ := h
  obtain ⟨c0, c1, c2, c5, c6, z1, z2, z5⟩ := Rd.cells h1
  clear h1 h2 c2 c5 c6 z2 z5
  go_enter Tryz.func117, Tryz.ntmps117
  go_wp2
  clear c0 c1 z1
  go_loopg [] (s.size - st.at_) (fun gg wr => ∃ i : Nat, st.at_ ≤ i ∧ i ≤ s.size ∧ s.size - i ≤ gg ∧ skipF s blankV st.at_ = skipF s blankV i ∧ Aside0 (Rd B r tell s { st with at_ := i } wr ∧ Below B w wr ∧ KeepX r w wr))
  case atStart => exact ⟨st.at_, Nat.le_refl _, ha, Nat.le_refl _, rfl, ⟨HR.out, Below.refl _ _, KeepX.refl _ _⟩⟩
  case round =>
    obtain ⟨i, hi1, hi2, hg, hsk, ⟨hR, hB, hK⟩⟩ := hrel
    have HR1 := Aside0.mk hR
    have HB1 := Aside0.mk hB
    have HK1 := Aside0.mk hK
    obtain ⟨h0, ov, pv, bv, h1, h2⟩ := hR
    obtain ⟨c0, c1, c2, c5, c6, z1, z2, z5⟩ := Rd.cells h1
    have c1 : wr.cell? ⟨r, 1, none⟩ = some (.int .i64 (i : Int)) := c1
    have H1 := Aside0.mk h1
    have H2 := Aside0.mk h2
    clear h1 h2 c2 c5 c6 z2 z5 hB hK HR HB0
    by_cases hlt : i < s.size
    · have hl : (i : Int) < (s.size : Int) := by omega
      have hbt := Aside0.mk (show ((s[i]'hlt).toNat : Int) = bt s (i : Int) by have := bt_at s (i : Int) (by simpa using hlt); simpa using this)
      have c17 : decide ((i : Int) < (s.size : Int)) = true := decide_eq_true hl
      have p6 := eq_true (show (0 : Int) ≤ (i : Int) by omega)
      have q6 := eq_true hl
      clear hl
      cases hbl : blankV (bt s (i : Int)) with
      | true =>
        go_wp2
        go_quiet (first | (go_at_call 130; (with_reducible refine (scan_blank.calls ((s[i]'hlt).toNat : Int) true _ (by rw [hbt.out, blankV_f, hbl])).mono ?_); rintro e w' ⟨rfl, ⟨nd, rfl⟩⟩; (try first | exact ⟨rfl, _, World.drewN_drewN _ _ _⟩ | exact ⟨rfl, _, Eq.trans (World.drewN_drewN _ _ _) (congrArg (World.drewN _) (Nat.add_assoc _ _ _))⟩)))
        go_wp2
        go_roundg (s.size - (i + 1))
        case measure => omega
        case rel =>
          refine ⟨i + 1, by omega, by omega, Nat.le_refl _, hsk.trans (skipF_yes hlt hbl), ⟨?_, ?_, ?_⟩⟩
          · exact Rd.store (st := { st with at_ := i }) (st' := { st with at_ := i + 1 }) (w := wr.drewN nq) h0 (H1.out : Bld _ _ _ _ _ _ wr) H2.out 1 _ (by decide) (by decide) (by simp [rcells]) rfl rfl
          · exact (pw_below_drewN HB1.out nq).setCell (p := ⟨r, 1, none⟩) H1.out.1 _
          · exact (HK1.out.trans (KeepX.drewN r wr nq)).trans (KeepX.set (wr.drewN nq) 1 _)
      | false =>
        go_wp2
        go_quiet (first | (go_at_call 130; (with_reducible refine (scan_blank.calls ((s[i]'hlt).toNat : Int) false _ (by rw [hbt.out, blankV_f, hbl])).mono ?_); rintro e w' ⟨rfl, ⟨nd, rfl⟩⟩; (try first | exact ⟨rfl, _, World.drewN_drewN _ _ _⟩ | exact ⟨rfl, _, Eq.trans (World.drewN_drewN _ _ _) (congrArg (World.drewN _) (Nat.add_assoc _ _ _))⟩)))
        go_wp2
        go_ret
        rw [hsk, skipF_no hlt hbl]
        refine ⟨pw_below_drewN HB1.out nq, HK1.out.trans (KeepX.drewN r wr nq), ?_, HR1.out⟩
        first | rfl | (congr 2; exact decide_eq_decide.mpr (by omega))
    · have c17 : decide ((i : Int) < (s.size : Int)) = false := decide_eq_false (by omega)
      go_wp2
      go_quiet (fail)
      go_wp2
      go_ret
      rw [hsk, skipF_end hlt]
      refine ⟨pw_below_drewN HB1.out nq, HK1.out.trans (KeepX.drewN r wr nq), ?_, HR1.out⟩
      first | rfl | (congr 2; exact decide_eq_decide.mpr (by omega))
end Go.Proofs.YtealmfcimoomlaaGreatDoor.PA

/- scan.reader: name. -/
namespace Go.Proofs.YtealmfcimoomlaaGreatDoor.PA
open Go.RowKit Go.Proofs.YtealmfcimoomlaaGreatDoorW.PrintWords Go.Proofs.YtealmfcimoomlaaGreatDoorW.PrintLast Go.Proofs.YtealmfcimoomlaaGreatDoorW.PrintMore
set_option linter.unusedVariables false
set_option linter.unusedSimpArgs false
def namedV (c : Int) : Bool := (scan_named.f 64 c).getD false
theorem namedV_fin : ∀ n : Fin 256, scan_named.f 64 (n.val : Int) = some (namedV (n.val : Int)) := by decide +kernel
theorem namedV_f (c : Int) (h0 : 0 ≤ c) (h1 : c ≤ 255) : scan_named.f 64 c = some (namedV c) := by
  obtain ⟨n, rfl⟩ : ∃ n : Nat, c = (n : Int) := ⟨c.toNat, by omega⟩
  exact namedV_fin ⟨n, by omega⟩
def nameF (s : ByteArray) (st : St) (b : Bool) : Res ByteArray := if b = true then .ok (s.extract st.at_ (skipF s namedV st.at_)) { st with at_ := skipF s namedV st.at_ } else .bad st.at_ 6
theorem upTo_ge (s : ByteArray) (p : Int → Bool) : ∀ d i, i ≤ upTo s p d i
  | 0, i => Nat.le_refl _
  | d + 1, i => by
    rw [upTo]
    split
    · exact Nat.le_trans (Nat.le_succ i) (upTo_ge s p d (i + 1))
    · exact Nat.le_refl _
theorem upTo_le (s : ByteArray) (p : Int → Bool) : ∀ d i, upTo s p d i ≤ i + d
  | 0, i => Nat.le_refl _
  | d + 1, i => by
    rw [upTo]
    split
    · have := upTo_le s p d (i + 1); omega
    · omega
theorem skipF_ge (s : ByteArray) (p : Int → Bool) (i : Nat) : i ≤ skipF s p i := upTo_ge s p _ i
theorem skipF_le (s : ByteArray) (p : Int → Bool) (i : Nat) (h : i ≤ s.size) : skipF s p i ≤ s.size := by have := upTo_le s p (s.size - i) i; unfold skipF; omega
set_option maxHeartbeats 4000000 in
set_option maxRecDepth 100000 in
theorem name_calls (B r : Nat) (tell : Value) (s : ByteArray) (st : St) (w : World) (k : Nat) (b : Bool) (h : Rd B r tell s st w) (hb : chars_Name.f k (s.extract st.at_ (skipF s namedV st.at_)) = some b) (ha : st.at_ ≤ s.size) (hs : s.size ≤ 140737488355328) :
    Calls Tryz.prog 116 #[.pointer (some ⟨r, 0, none⟩)] w (Ends B r tell s (fun v => .string v) w (nameF s st b)) := by
  have HR := Aside0.mk h
  have HB0 := Aside0.mk (Below.refl B w)
  have HN := Aside0.mk hb
  clear hb
  obtain ⟨h0, ov, pv, bv, h1, h2⟩ := h
  obtain ⟨c0, c1, c2, c5, c6, z1, z2, z5⟩ := Rd.cells h1
  clear h1 h2 c2 c5 c6 z2 z5
  go_enter Tryz.func116, Tryz.ntmps116
  go_wp2
  clear c0 c1 z1
  go_loopg [] (s.size - st.at_) (fun gg wr => ∃ i : Nat, st.at_ ≤ i ∧ i ≤ s.size ∧ s.size - i ≤ gg ∧ skipF s namedV st.at_ = skipF s namedV i ∧ Aside0 (Rd B r tell s { st with at_ := i } wr ∧ Below B w wr ∧ KeepX r w wr))
  case atStart => exact ⟨st.at_, Nat.le_refl _, ha, Nat.le_refl _, rfl, ⟨HR.out, Below.refl _ _, KeepX.refl _ _⟩⟩
  case round =>
    obtain ⟨i, hi1, hi2, hg, hsk, ⟨hR, hB, hK⟩⟩ := hrel
    have HR1 := Aside0.mk hR
    have HB1 := Aside0.mk hB
    have HK1 := Aside0.mk hK
    obtain ⟨h0, ov, pv, bv, h1, h2⟩ := hR
    obtain ⟨c0, c1, c2, c5, c6, z1, z2, z5⟩ := Rd.cells h1
    have c1 : wr.cell? ⟨r, 1, none⟩ = some (.int .i64 (i : Int)) := c1
    have H1 := Aside0.mk h1
    have H2 := Aside0.mk h2
    clear h1 h2 c2 c5 c6 z2 z5 hB hK HR HB0
    by_cases hlt : i < s.size
    · have hl : (i : Int) < (s.size : Int) := by omega
      have hbt := Aside0.mk (show ((s[i]'hlt).toNat : Int) = bt s (i : Int) by have := bt_at s (i : Int) (by simpa using hlt); simpa using this)
      have c17 : decide ((i : Int) < (s.size : Int)) = true := decide_eq_true hl
      have p6 := eq_true (show (0 : Int) ≤ (i : Int) by omega)
      have q6 := eq_true hl
      clear hl
      cases hbl : namedV (bt s (i : Int)) with
      | true =>
        go_wp2
        go_quiet (first | (go_at_call 129; (with_reducible refine (scan_named.calls 64 ((s[i]'hlt).toNat : Int) true _ (by rw [hbt.out, namedV_f _ (bt_range s _).1 (bt_range s _).2, hbl])).mono ?_); rintro e w' ⟨rfl, ⟨nd, rfl⟩⟩; (try first | exact ⟨rfl, _, World.drewN_drewN _ _ _⟩ | exact ⟨rfl, _, Eq.trans (World.drewN_drewN _ _ _) (congrArg (World.drewN _) (Nat.add_assoc _ _ _))⟩)))
        go_wp2
        go_roundg (s.size - (i + 1))
        case measure => omega
        case rel =>
          refine ⟨i + 1, by omega, by omega, Nat.le_refl _, hsk.trans (skipF_yes hlt hbl), ⟨?_, ?_, ?_⟩⟩
          · exact Rd.store (st := { st with at_ := i }) (st' := { st with at_ := i + 1 }) (w := wr.drewN nq) h0 (H1.out : Bld _ _ _ _ _ _ wr) H2.out 1 _ (by decide) (by decide) (by simp [rcells]) rfl rfl
          · exact (pw_below_drewN HB1.out nq).setCell (p := ⟨r, 1, none⟩) H1.out.1 _
          · exact (HK1.out.trans (KeepX.drewN r wr nq)).trans (KeepX.set (wr.drewN nq) 1 _)
      | false =>
        go_wp2
        go_quiet (first | (go_at_call 129; (with_reducible refine (scan_named.calls 64 ((s[i]'hlt).toNat : Int) false _ (by rw [hbt.out, namedV_f _ (bt_range s _).1 (bt_range s _).2, hbl])).mono ?_); rintro e w' ⟨rfl, ⟨nd, rfl⟩⟩; (try first | exact ⟨rfl, _, World.drewN_drewN _ _ _⟩ | exact ⟨rfl, _, Eq.trans (World.drewN_drewN _ _ _) (congrArg (World.drewN _) (Nat.add_assoc _ _ _))⟩)))
        go_wp2
        have a1 := eq_true (show (0 : Int) ≤ (st.at_ : Int) by omega)
        have a2 := eq_true (show (st.at_ : Int) ≤ (i : Int) by omega)
        have a3 := eq_true (show (i : Int) ≤ (s.size : Int) by omega)
        rw [hsk, skipF_no hlt hbl] at HN
        generalize hw : wr.drewN nq = w1
        have HR2 := Aside0.mk (show Rd B r tell s { st with at_ := i } w1 from hw ▸ (HR1.out.drewN nq))
        have HB2 := Aside0.mk (show Below B w w1 from hw ▸ (pw_below_drewN HB1.out nq))
        have HK2 := Aside0.mk (show KeepX r w w1 from hw ▸ (HK1.out.trans (KeepX.drewN r wr nq)))
        have d0 : w1.cell? ⟨r, 0, none⟩ = some (.string s) := hw ▸ c0
        have d1 : w1.cell? ⟨r, 1, none⟩ = some (.int .i64 (i : Int)) := hw ▸ c1
        clear hw c0 c1 z1
        go_quiet (fail)
        cases b with
        | true =>
          go_wp2_with (go_at_call 71; refine (chars_Name.calls k (s.extract st.at_ i) true _ HN.out).mono ?_; rintro e w' ⟨rfl, hd⟩)
          go_ret
          unfold nameF
          rw [hsk, skipF_no hlt hbl, if_pos rfl]
          exact ⟨(pw_below_drewN HB2.out _).trans (hd.below.mono HR2.out.1), (HK2.out.trans (KeepX.drewN r w1 _)).trans (KeepX.below hd.below), rfl, (HR2.out.drewN _).move hd.below⟩
        | false =>
          go_wp2_with (first
            | (go_at_call 71; refine (chars_Name.calls k (s.extract st.at_ i) false _ HN.out).mono ?_; rintro e w' ⟨rfl, hd⟩)
            | (go_at_call 43; refine (fail_calls r _ 6 _).mono ?_; rintro e w' ⟨rfl, rfl⟩))
          refine ⟨rfl, ?_⟩
          unfold nameF
          rw [if_neg (by decide)]
          exact ⟨(pw_below_drewN HB2.out _).trans (hd.below.mono HR2.out.1), (HK2.out.trans (KeepX.drewN r w1 _)).trans (KeepX.below hd.below), rfl⟩
    · have c17 : decide ((i : Int) < (s.size : Int)) = false := decide_eq_false (by omega)
      have a1 := eq_true (show (0 : Int) ≤ (st.at_ : Int) by omega)
      have a2 := eq_true (show (st.at_ : Int) ≤ (i : Int) by omega)
      have a3 := eq_true (show (i : Int) ≤ (s.size : Int) by omega)
      go_wp2
      go_quiet (fail)
      go_wp2
      rw [hsk, skipF_end hlt] at HN
      generalize hw : wr.drewN nq = w1
      have HR2 := Aside0.mk (show Rd B r tell s { st with at_ := i } w1 from hw ▸ (HR1.out.drewN nq))
      have HB2 := Aside0.mk (show Below B w w1 from hw ▸ (pw_below_drewN HB1.out nq))
      have HK2 := Aside0.mk (show KeepX r w w1 from hw ▸ (HK1.out.trans (KeepX.drewN r wr nq)))
      have d0 : w1.cell? ⟨r, 0, none⟩ = some (.string s) := hw ▸ c0
      have d1 : w1.cell? ⟨r, 1, none⟩ = some (.int .i64 (i : Int)) := hw ▸ c1
      clear hw c0 c1 z1
      go_quiet (fail)
      cases b with
      | true =>
        go_wp2_with (go_at_call 71; refine (chars_Name.calls k (s.extract st.at_ i) true _ HN.out).mono ?_; rintro e w' ⟨rfl, hd⟩)
        go_ret
        unfold nameF
        rw [hsk, skipF_end hlt, if_pos rfl]
        exact ⟨(pw_below_drewN HB2.out _).trans (hd.below.mono HR2.out.1), (HK2.out.trans (KeepX.drewN r w1 _)).trans (KeepX.below hd.below), rfl, (HR2.out.drewN _).move hd.below⟩
      | false =>
        go_wp2_with (first
          | (go_at_call 71; refine (chars_Name.calls k (s.extract st.at_ i) false _ HN.out).mono ?_; rintro e w' ⟨rfl, hd⟩)
          | (go_at_call 43; refine (fail_calls r _ 6 _).mono ?_; rintro e w' ⟨rfl, rfl⟩))
        refine ⟨rfl, ?_⟩
        unfold nameF
        rw [if_neg (by decide)]
        exact ⟨(pw_below_drewN HB2.out _).trans (hd.below.mono HR2.out.1), (HK2.out.trans (KeepX.drewN r w1 _)).trans (KeepX.below hd.below), rfl⟩
end Go.Proofs.YtealmfcimoomlaaGreatDoor.PA

/- scan.reader: adds. -/
namespace Go.Proofs.YtealmfcimoomlaaGreatDoor.PA
open Go.RowKit Go.Proofs.YtealmfcimoomlaaGreatDoorW.PrintWords Go.Proofs.YtealmfcimoomlaaGreatDoorW.PrintLast Go.Proofs.YtealmfcimoomlaaGreatDoorW.PrintMore
set_option linter.unusedVariables false
set_option linter.unusedSimpArgs false
theorem lies_reader : liesAt Tryz.prog Tryz.prog.depth 86 (7 / Tryz.prog.cellsOf 86) 3 70 1 = true := by kernel_rfl
theorem textLen_calls (B r : Nat) (tell : Value) (s : ByteArray) (st : St) (w : World) (h : Rd B r tell s st w) :
    Calls Tryz.prog 50 #[.pointer (some ⟨r, 3, none⟩)] w fun e w' => e = .returned (.int .i64 st.text.length) ∧ w' = w := by
  obtain ⟨h0, ov, pv, bv, h1, h2⟩ := h
  have := Len_at 86 B r 3 _ _ w h1
  rw [Lib.byteCells_length] at this
  exact this
/-- What the builder's writing leaves of the reader's other fields. -/
theorem out_cells {s : ByteArray} {st : St} {ov pv bv tell : Value} {cs : Array Value} (h : Out 3 (rcells s st ov pv bv tell) cs) : ∃ pv' bv', cs = rcells s st ov pv' bv' tell := by
  have hs : cs.size = 7 := h.1
  have e := fun j h1 h2 => h.2 j h1 h2
  refine ⟨cs[3]'(by omega), cs[4]'(by omega), Array.ext (hs.trans rfl) fun i h1 h2 => ?_⟩
  have hi : i = 0 ∨ i = 1 ∨ i = 2 ∨ i = 3 ∨ i = 4 ∨ i = 5 ∨ i = 6 := by omega
  have g := fun (j : Nat) (hj : j < cs.size) (h3 : j ≠ 3) (h4 : j ≠ 3 + 1) => (Array.getElem?_eq_getElem hj).symm.trans (e j h3 h4)
  rcases hi with rfl | rfl | rfl | rfl | rfl | rfl | rfl
  · exact Option.some.inj ((g 0 h1 (by decide) (by decide)).trans rfl)
  · exact Option.some.inj ((g 1 h1 (by decide) (by decide)).trans rfl)
  · exact Option.some.inj ((g 2 h1 (by decide) (by decide)).trans rfl)
  · rfl
  · rfl
  · exact Option.some.inj ((g 5 h1 (by decide) (by decide)).trans rfl)
  · exact Option.some.inj ((g 6 h1 (by decide) (by decide)).trans rfl)
theorem textWrite_calls (B r : Nat) (tell : Value) (s x : ByteArray) (st : St) (w : World) (h : Rd B r tell s st w) (hl : st.text.length + x.size ≤ 140737488355328) :
    Calls Tryz.prog 58 #[.pointer (some ⟨r, 3, none⟩), .string x] w fun e w' => e = .returned (.tuple #[.int .i64 x.size, .nilIface]) ∧ Rd B r tell s { st with text := st.text ++ x.data.toList } w' ∧ Below B w w' ∧ KeepR r w w' := by
  obtain ⟨h0, ov, pv, bv, h1, h2⟩ := h
  refine (WriteString_at 86 B r 3 _ _ x w h1 (by rw [Lib.byteCells_length]; exact hl) h0 (by decide) lies_reader).mono ?_
  rintro e w' ⟨rfl, cs', ho, hb, hB, hK⟩
  obtain ⟨pv', bv', rfl⟩ := out_cells ho
  refine ⟨rfl, ⟨Nat.le_trans h0 hB.size, ov, pv', bv', ?_, ?_⟩, hB, KeepR.of hK⟩
  · show Bld _ _ _ _ _ (Lib.byteCells (st.text ++ x.data.toList)) w'
    rw [Lib.byteCells_append]
    exact hb
  · refine own_move h2 fun k hk => ?_
    obtain ⟨cells, hc⟩ := own_typed h2 k hk
    exact (hK k _ hc (fun e => by obtain rfl := Option.some.inj e; exact own_ne h2 h1.2.1 (by decide) hk.symm) (fun c fz e => by injection e with _ e _; exact absurd e (by decide))).trans hc.symm
def writeF (st : St) (x : ByteArray) (at_ : Int) : Res Unit := if 16384 < st.text.length + x.size then .bad at_ 2 else .ok () { st with text := st.text ++ x.data.toList }
def addsF (st : St) (x : ByteArray) (at_ : Int) : Res Unit := if st.text.length = 0 then (beginsF st at_).bind fun _ st => writeF st x at_ else writeF st x at_
/-- The ending of a method that writes text. -/
def EndsR {α : Type} (B r : Nat) (tell : Value) (s : ByteArray) (enc : α → Value) (w : World) (res : Res α) (e : Ending) (w' : World) : Prop :=
  Below B w w' ∧ KeepR r w w' ∧ match res with
  | .ok v st => e = .returned (enc v) ∧ Rd B r tell s st w'
  | .bad a y => e = .panicked [{ v := faultV a y, recovered := false }]
set_option maxHeartbeats 4000000 in
set_option maxRecDepth 100000 in
theorem adds_calls (B r : Nat) (tell : Value) (s x : ByteArray) (st : St) (at_ : Int) (w : World) (h : Rd B r tell s st w) (ht : st.text.length ≤ 16384) (hx : x.size ≤ 140737488351232) (hn : st.nodes ≤ 4611686018427387904) :
    Calls Tryz.prog 67 #[.pointer (some ⟨r, 0, none⟩), .string x, .int .i64 at_] w (EndsR B r tell s (fun _ => .tuple #[]) w (addsF st x at_)) := by
  have HL1 := Aside0.mk (textLen_calls B r tell s st w h)
  unfold addsF
  by_cases h0 : st.text.length = 0
  · rw [if_pos h0]
    have hd0 : ((st.text.length : Int) == 0) = true := beq_iff_eq.mpr (by omega)
    have h0' := Aside0.mk (show (st.text.length : Int) = 0 by omega)
    have HBG := Aside0.mk (begins_calls B r tell s st at_ w h hn)
    cases hb : beginsF st at_ with
    | bad a y =>
      rw [hb] at HBG
      simp only [Res.bind]
      clear h0
      go_enter Tryz.func67, Tryz.ntmps67
      go_wp2_with (first
        | (go_at_call 50; refine HL1.out.mono ?_; rintro e w' ⟨rfl, hw⟩; have hw2 := hw.symm; clear hw; subst hw2)
        | (go_at_call 93; refine HBG.out.mono ?_; rintro e w' ⟨hb', hk', rfl⟩))
      exact ⟨rfl, hb', hk'.R, rfl⟩
    | ok v st1 =>
      have hst : st1.text = st.text := by
        unfold beginsF at hb
        split at hb
        · cases hb
        split at hb
        · cases hb
        · injection hb with _ h2; rw [← h2]
      rw [hb] at HBG
      simp only [Res.bind]
      have ht1 : st1.text.length ≤ 16384 := by rw [hst]; exact ht
      clear h0 ht hst
      go_enter Tryz.func67, Tryz.ntmps67
      go_wp2_with (first
        | (go_at_call 50; refine HL1.out.mono ?_; rintro e w' ⟨rfl, hw⟩; have hw2 := hw.symm; clear hw; subst hw2)
        | (go_at_call 93; refine HBG.out.mono ?_))
      rintro e w2 ⟨hb2, hK2x, rfl, hR2⟩
      have hK2 := hK2x.R
      have HL2 := Aside0.mk (textLen_calls B r tell s st1 w2 hR2)
      have HR2 := Aside0.mk hR2
      by_cases hov : 16384 < st1.text.length + x.size
      · have hq := Aside0.mk hov
        have hd : decide ((st1.text.length : Int) + (x.size : Int) > 16384) = true := decide_eq_true (by omega)
        have hd' : decide ((16384 : Int) < (st1.text.length : Int) + (x.size : Int)) = true := decide_eq_true (by omega)
        go_wp2_with (first
          | (go_at_call 50; refine HL2.out.mono ?_; rintro e w' ⟨rfl, hw⟩; have hw2 := hw.symm; clear hw; subst hw2)
          | (go_at_call 43; refine (fail_calls r at_ 2 _).mono ?_; rintro e w' ⟨rfl, rfl⟩))
        refine ⟨rfl, ?_⟩; unfold writeF; rw [if_pos hq.out]; exact ⟨hb2, hK2, rfl⟩
      · have hq := Aside0.mk hov
        have hd : decide ((st1.text.length : Int) + (x.size : Int) > 16384) = false := decide_eq_false (by omega)
        have hd' : decide ((16384 : Int) < (st1.text.length : Int) + (x.size : Int)) = false := decide_eq_false (by omega)
        have HWx := Aside0.mk (textWrite_calls B r tell s x st1 w2 hR2 (by omega))
        go_wp2_with (first
          | (go_at_call 50; refine HL2.out.mono ?_; rintro e w' ⟨rfl, hw⟩; have hw2 := hw.symm; clear hw; subst hw2)
          | (go_at_call 58; refine HWx.out.mono ?_; rintro e w' ⟨rfl, hR5, hB5, hK5⟩))
        go_end0
        unfold writeF; rw [if_neg hq.out]; exact ⟨hb2.trans hB5, hK2.trans hK5, rfl, hR5⟩
  · rw [if_neg h0]
    have hd0 : ((st.text.length : Int) == 0) = false := beq_eq_false_iff_ne.mpr (by omega)
    go_enter Tryz.func67, Tryz.ntmps67
    have HL2 := Aside0.mk (textLen_calls B r tell s st w h)
    have HR2 := Aside0.mk h
    by_cases hov : 16384 < st.text.length + x.size
    · have hq := Aside0.mk hov
      have hd : decide ((st.text.length : Int) + (x.size : Int) > 16384) = true := decide_eq_true (by omega)
      have hd' : decide ((16384 : Int) < (st.text.length : Int) + (x.size : Int)) = true := decide_eq_true (by omega)
      go_wp2_with (first
        | (go_at_call 50; refine HL2.out.mono ?_; rintro e w' ⟨rfl, hw⟩; have hw2 := hw.symm; clear hw; subst hw2)
        | (go_at_call 43; refine (fail_calls r at_ 2 _).mono ?_; rintro e w' ⟨rfl, rfl⟩))
      refine ⟨rfl, ?_⟩; unfold writeF; rw [if_pos hq.out]; exact ⟨Below.refl B _, KeepR.refl _ _, rfl⟩
    · have hq := Aside0.mk hov
      have hd : decide ((st.text.length : Int) + (x.size : Int) > 16384) = false := decide_eq_false (by omega)
      have hd' : decide ((16384 : Int) < (st.text.length : Int) + (x.size : Int)) = false := decide_eq_false (by omega)
      have HWx := Aside0.mk (textWrite_calls B r tell s x st w h (by omega))
      go_wp2_with (first
        | (go_at_call 50; refine HL2.out.mono ?_; rintro e w' ⟨rfl, hw⟩; have hw2 := hw.symm; clear hw; subst hw2)
        | (go_at_call 58; refine HWx.out.mono ?_; rintro e w' ⟨rfl, hR5, hB5, hK5⟩))
      go_end0
      unfold writeF; rw [if_neg hq.out]; exact ⟨(Below.refl B w).trans hB5, (KeepR.refl r w).trans hK5, rfl, hR5⟩
end Go.Proofs.YtealmfcimoomlaaGreatDoor.PA

/- scan.reader: char. -/
namespace Go.Proofs.YtealmfcimoomlaaGreatDoor.PA
open Go.RowKit Go.Proofs.YtealmfcimoomlaaGreatDoorW.PrintWords Go.Proofs.YtealmfcimoomlaaGreatDoorW.PrintLast Go.Proofs.YtealmfcimoomlaaGreatDoorW.PrintMore
set_option linter.unusedVariables false
set_option linter.unusedSimpArgs false
/-- In a region of no fixed order: the reader as it was, and only new memory. -/
structure CH (B r : Nat) (tell : Value) (s : ByteArray) (st : St) (w W : World) : Prop where
  rd : Rd B r tell s st W
  bel : Below w.heap.size w W
theorem CH.step {B r : Nat} {tell : Value} {s : ByteArray} {st : St} {w W W' : World} (h : CH B r tell s st w W) (hb : Below W.heap.size W W') : CH B r tell s st w W' := ⟨h.rd.move hb, h.bel.trans (hb.mono h.bel.size)⟩
theorem CH.drew {B r : Nat} {tell : Value} {s : ByteArray} {st : St} {w W : World} (h : CH B r tell s st w W) : CH B r tell s st w W.drew := ⟨h.rd, h.bel.drew⟩
theorem CH.all {B r : Nat} {tell : Value} {s : ByteArray} {st : St} {w W : World} (h : CH B r tell s st w W) : CH B r tell s st w W ∧ W.cell? ⟨r, 0, none⟩ = some (.string s) ∧ W.cell? ⟨r, 1, none⟩ = some (.int .i64 st.at_) := by
  obtain ⟨h0, ov, pv, bv, h1, h2⟩ := h.rd
  obtain ⟨c0, c1, _⟩ := Rd.cells h1
  exact ⟨h, c0, c1⟩
def charF (s : ByteArray) (st : St) (n : Nat) (e : Int) : Res ByteArray := if e = 0 then .ok (s.extract st.at_ (st.at_ + n)) { st with at_ := st.at_ + n } else .bad st.at_ e
set_option maxHeartbeats 4000000 in
set_option maxRecDepth 100000 in
theorem char_calls (B r : Nat) (tell : Value) (s : ByteArray) (st : St) (w : World) (k n : Nat) (r1 e1 : Int) (h : Rd B r tell s st w) (hf : chars_First.f k (s.extract st.at_ s.size) = some (r1, (n : Int), e1)) (hn : st.at_ + n ≤ s.size) (hs : s.size ≤ 140737488355328) (hG : Glob w) :
    Calls Tryz.prog 69 #[.pointer (some ⟨r, 0, none⟩)] w (Ends B r tell s (fun v => .string v) w (charF s st n e1)) := by
  have HC := Aside0.mk (CH.mk h (Below.refl _ w))
  have HG := Aside0.mk hG
  have HF := Aside0.mk hf
  have hB := h.1
  obtain ⟨-, c0, c1⟩ := HC.out.all
  clear h hG hf
  have a1 := eq_true (show (0 : Int) ≤ (st.at_ : Int) by omega)
  have a2 := eq_true (show (st.at_ : Int) ≤ (s.size : Int) by omega)
  go_enter Tryz.func69, Tryz.ntmps69
  go_wp2
  go_region_held3 (fun W => CH B r tell s st w W ∧ W.cell? ⟨r, 0, none⟩ = some (.string s) ∧ W.cell? ⟨r, 1, none⟩ = some (.int .i64 st.at_))
    (first | exact HC.out.drew.all | (go_split_ands; exact (CH.step (by assumption) (by assumption)).all))
    (first | (go_at_call 96; (with_reducible refine (chars_First.calls k (s.extract st.at_ s.size) r1 (n : Int) e1 _ HF.out ?_).mono ?_); (next => (go_split_ands; exact Glob.step HG.out (CH.bel (by assumption)))); rintro e w7 ⟨rfl, hb7⟩))
  have HC7 := Aside0.mk (show CH B r tell s st w w7 by (go_split_ands; assumption))
  try clear hb7
  have HB7 := Aside0.mk (show Below B w w7 from HC7.out.bel.mono hB)
  have HK7 := Aside0.mk (KeepX.below (r := r) HC7.out.bel)
  by_cases he : e1 = 0
  · have hd : (e1 != 0) = false := bne_eq_false_iff_eq.mpr he
    have hq := Aside0.mk he
    clear he
    obtain ⟨h0, ov, pv, bv, h1, h2⟩ := HC7.out.rd
    obtain ⟨d0, d1, _, _, _, z1, _, _⟩ := Rd.cells h1
    have H8 := Aside0.mk (Rd.store (st' := { st with at_ := st.at_ + n }) h0 h1 h2 1 (.int .i64 ((st.at_ : Int) + (n : Int))) (by decide) (by decide) (by simp [rcells]) rfl rfl)
    have HB8 := Aside0.mk (HB7.out.setCell (p := ⟨r, 1, none⟩) h1.1 (.int .i64 ((st.at_ : Int) + (n : Int))))
    have HK8 := Aside0.mk (HK7.out.trans (KeepX.set (r := r) w7 1 (.int .i64 ((st.at_ : Int) + (n : Int)))))
    clear h1 h2 c0 c1
    go_wp2
    generalize hw : w7.setCell ⟨r, 1, none⟩ (.int .i64 ((st.at_ : Int) + (n : Int))) = w8 at *
    clear hw d0 d1 z1
    obtain ⟨h0', ov', pv', bv', h1, h2⟩ := H8.out
    obtain ⟨d0, d1, _⟩ := Rd.cells h1
    have d1 : w8.cell? ⟨r, 1, none⟩ = some (.int .i64 ((st.at_ : Int) + (n : Int))) := d1
    have b1 := eq_true (show (st.at_ : Int) ≤ (st.at_ : Int) + (n : Int) by omega)
    have b2 := eq_true (show (st.at_ : Int) + (n : Int) ≤ (s.size : Int) by omega)
    clear h1 h2
    go_quiet (fail)
    go_wp2
    go_ret
    unfold charF
    rw [if_pos hq.out]
    refine ⟨pw_below_drewN HB8.out _, HK8.out.trans (KeepX.drewN r _ _), ?_, H8.out.drewN _⟩
    first | rfl | (have : ((st.at_ : Int) + (n : Int)).toNat = st.at_ + n := by omega
                   first | (rw [this]) | (simp [this]))
  · have hd : (e1 != 0) = true := bne_iff_ne.mpr he
    have hq := Aside0.mk he
    clear he
    obtain ⟨h0, ov, pv, bv, h1, h2⟩ := HC7.out.rd
    obtain ⟨d0, d1, _⟩ := Rd.cells h1
    clear h1 h2 c0 c1
    go_wp2_with (go_at_call 43; refine (fail_calls r _ e1 _).mono ?_; rintro e w' ⟨rfl, rfl⟩)
    refine ⟨rfl, ?_⟩
    unfold charF
    rw [if_neg hq.out]
    exact ⟨HB7.out, HK7.out, rfl⟩
end Go.Proofs.YtealmfcimoomlaaGreatDoor.PA

-- More of the shelf's contracts at this translation, in plain words: written by the kit's lay-shelf.mjs and lay-plain.mjs through wip/tools/shelfc.py.
set_option linter.unusedVariables false
namespace Go.Proofs
open Go.Shelf
def Tryz.lays137_ren : Go.Shelf.Ren := ⟨fun | 137 => 94 | 217 => 98 | 266 => 122 | n => n, fun | 9 => 9 | 5 => 5 | 3 => 3 | n => n, fun | n => n⟩
theorem Tryz.lays137 : Go.Proofs.Lays.n137 Tryz.prog Tryz.lays137_ren := {
  mixed := by kernel_rfl
  f137 := Tryz.func94.trans (congrArg some (by kernel_rfl))
  f217 := Tryz.func98.trans (congrArg some (by kernel_rfl))
  f266 := Tryz.func122.trans (congrArg some (by kernel_rfl))
  t3 := Tryz.underlying3
  a3 := Tryz.isAgg3
  z3 := Tryz.sizeOf3
  v3 := Tryz.zeroValue3
  t5 := Tryz.underlying5
  a5 := Tryz.isAgg5
  z5 := Tryz.sizeOf5
  v5 := Tryz.zeroValue5
  t9 := Tryz.underlying9
  a9 := Tryz.isAgg9
  z9 := Tryz.sizeOf9
  v9 := Tryz.zeroValue9 }
open Go.RowKit in
/-- strings.IndexByte: "IndexByte returns the index of the first instance of c in s, or -1 if c is not present in s.": IT RETURNS 'Lib.indexByte s c'; the world is as it was. (LAID: no walk: one application.) -/
theorem Tryz.strings_IndexByte (s : ByteArray) (c : Int) (w : World) :
    Calls Tryz.prog 94 #[.string s, .int .u8 c] w fun e w' => e = .returned (.int .i64 (Lib.indexByte s.data.toList c.toNat.toUInt8)) ∧ w' = w := Any.strings_IndexByte Tryz.lays137 s c w
end Go.Proofs
