/- Texts of this claim, one behind the other: UScan17, UScan18. Conditions: those of each theorem. -/
import Derived.Test.YtealmfcimoomlaaGreatDoorUScan16
import Derived.Test.YtealmfcimoomlaaGreatDoorUUtf8
/- scan.reader: tag. -/
namespace Go.Proofs.YtealmfcimoomlaaGreatDoor.PA
open Go.RowKit Go.Proofs.YtealmfcimoomlaaGreatDoorW.PrintWords Go.Proofs.YtealmfcimoomlaaGreatDoorW.PrintLast Go.Proofs.YtealmfcimoomlaaGreatDoorW.PrintMore
set_option linter.unusedVariables false
set_option linter.unusedSimpArgs false
def restL (s : ByteArray) (i : Nat) : List UInt8 := (s.extract i s.size).data.toList
def remarkL : List UInt8 := [60, 33, 45, 45]
def rawL : List UInt8 := [60, 33, 91, 67, 68, 65, 84, 65, 91]
/-- Is it the beginning of something, and no more? -/
def shortT (t : List UInt8) : Bool := t == [60] || (!(t == remarkL) && Lib.hasPrefix remarkL t) || (!(t == rawL) && Lib.hasPrefix rawL t)
/-- The characters of a raw part. -/
def cdF (s : ByteArray) (to_ : Nat) : Nat → St → Res Unit
  | 0, st => .ok () st
  | d + 1, st => if st.at_ + 3 < to_ then (charP s st).bind fun t st1 => (addsF st1 t st.at_).bind fun _ st2 => cdF s to_ d st2 else .ok () st
theorem cdF_succ (s : ByteArray) (to_ d : Nat) (st : St) : cdF s to_ (d + 1) st = if st.at_ + 3 < to_ then (charP s st).bind fun t st1 => (addsF st1 t st.at_).bind fun _ st2 => cdF s to_ d st2 else .ok () st := rfl
def cdataF (s : ByteArray) (st : St) : Res Unit :=
  (pastF s st (st.at_ + 9) ⟨#[93, 93, 62]⟩).bind fun _ st1 => (cdF s st1.at_ (s.size + 1) { st1 with at_ := st.at_ + 9 }).bind fun _ st2 => .ok () { st2 with at_ := st1.at_ }
/-- What stands at a < tells and comes to. -/
def tagF (s : ByteArray) (st : St) : List Evt × Res Unit :=
  if shortT (restL s st.at_) = true then ([], .bad st.at_ 4)
  else if Lib.hasPrefix (restL s st.at_) remarkL = true then ([], pastF s st (st.at_ + 4) ⟨#[45, 45, 62]⟩)
  else if Lib.hasPrefix (restL s st.at_) [60, 63] = true then ([], pastF s st (st.at_ + 2) ⟨#[63, 62]⟩)
  else if Lib.hasPrefix (restL s st.at_) rawL = true then ([], cdataF s st)
  else if Lib.hasPrefix (restL s st.at_) [60, 47] = true then closesF s st
  else if letterV (bt s ((st.at_ + 1 : Nat) : Int)) = true then opensF s st
  else ([], .bad st.at_ 3)
theorem short_paths (t : List UInt8) : (shortT t = true ∧ ((t == [60]) = true ∨ ((t == [60]) = false ∧ (t == remarkL) = false ∧ Lib.hasPrefix remarkL t = true) ∨ ((t == [60]) = false ∧ (t == remarkL) = false ∧ Lib.hasPrefix remarkL t = false ∧ (t == rawL) = false ∧ Lib.hasPrefix rawL t = true))) ∨
    (shortT t = false ∧ (((t == [60]) = false ∧ (t == remarkL) = true ∧ (t == rawL) = false ∧ Lib.hasPrefix rawL t = false) ∨ ((t == [60]) = false ∧ (t == remarkL) = false ∧ Lib.hasPrefix remarkL t = false ∧ (t == rawL) = true) ∨ ((t == [60]) = false ∧ (t == remarkL) = false ∧ Lib.hasPrefix remarkL t = false ∧ (t == rawL) = false ∧ Lib.hasPrefix rawL t = false))) := by
  unfold shortT
  cases h1 : (t == [60])
  · cases h2 : (t == remarkL)
    · cases h3 : Lib.hasPrefix remarkL t
      · cases h4 : (t == rawL)
        · cases h5 : Lib.hasPrefix rawL t <;> simp
        · simp
      · simp
    · have : t = remarkL := by simpa using h2
      subst this
      right
      exact ⟨by decide, .inl ⟨rfl, rfl, by decide, by decide⟩⟩
  · simp
theorem rest_len (s : ByteArray) (i : Nat) : (restL s i).length = s.size - i := by
  unfold restL
  rw [← Lib.size_eq, ByteArray.size_extract]
  omega
theorem prefix_len {s p : List UInt8} (h : Lib.hasPrefix s p = true) : p.length ≤ s.length := (List.isPrefixOf_iff_prefix.mp h).length_le
/-- The ending of a method that tells nothing, as one that tells. -/
theorem EndsE.quiet {B r : Nat} {Sk : Sink B r} {s : ByteArray} {l0 : List Evt} {w w1 : World} {res : Res Unit} {e : Ending} {w' : World} {st0 st : St} (h0 : Way B r Sk.tell s st0 w st w1) (hP : Sk.P l0 w) (h : Ends B r Sk.tell s (fun _ => .tuple #[]) w1 res e w') : EndsE Sk s l0 w ([], res) e w' := by
  obtain ⟨hb, hk, hr⟩ := h
  have k := h0.kx.trans hk
  have b := h0.bel.trans hb
  refine ⟨b, KeepT.ofR k.R, by rw [List.append_nil]; exact Sk.keep _ _ _ hP h0.r0.rb k.R b, ?_⟩
  cases res <;> exact hr
/-- The same where the method stops here. -/
theorem EndsE.stop {B r : Nat} {Sk : Sink B r} {s : ByteArray} {l0 : List Evt} {w w1 : World} {st0 st : St} {a y : Int} (h0 : Way B r Sk.tell s st0 w st w1) (hP : Sk.P l0 w) : EndsE Sk s l0 w ([], .bad a y) (.panicked [{ v := faultV a y, recovered := false }]) w1 :=
  EndsE.quiet h0 hP ⟨Below.refl _ _, KeepX.refl _ _, rfl⟩
/-- What began at a world that a method has come to without telling. -/
theorem EndsE.later {B r : Nat} {Sk : Sink B r} {s : ByteArray} {l0 : List Evt} {w w1 : World} {out : List Evt × Res Unit} {e : Ending} {w' : World} {st0 st : St} (h0 : Way B r Sk.tell s st0 w st w1) (h : EndsE Sk s l0 w1 out e w') : EndsE Sk s l0 w out e w' :=
  ⟨h0.bel.trans h.1, (KeepT.ofR h0.kx.R).trans h.2.1, h.2.2.1, h.2.2.2⟩
theorem index_fit : ∀ (l sub : List UInt8), 0 ≤ Lib.index l sub → Lib.index l sub + sub.length ≤ l.length
  | [], sub, h => by
    rw [Lib.index] at h ⊢
    split
    · rename_i he
      rw [List.isEmpty_iff.mp he]; simp
    · rename_i he
      rw [if_neg he] at h
      exact absurd h (by decide)
  | b :: l, sub, h => by
    rw [Lib.index] at h ⊢
    split
    · rename_i hp
      have := (List.isPrefixOf_iff_prefix.mp hp).length_le
      omega
    · rename_i hp
      rw [if_neg hp] at h
      split
      · rename_i he
        rw [if_pos he] at h
        exact absurd h (by decide)
      · rename_i he
        rw [if_neg he] at h
        have hge := Lib.index_ge l sub
        have hne : Lib.index l sub ≠ -1 := fun e => he (by rw [e]; rfl)
        have := index_fit l sub (by omega)
        rw [List.length_cons]
        omega
theorem pastF_ok {s mark : ByteArray} {st st' : St} {fr : Nat} {u : Unit} (h : pastF s st fr mark = .ok u st') (hf : fr ≤ s.size) : st' = { st with at_ := st'.at_ } ∧ fr + mark.size ≤ st'.at_ ∧ st'.at_ ≤ s.size := by
  unfold pastF at h
  split at h
  · cases h
  · rename_i hi
    injection h with _ h
    subst h
    have := index_fit _ mark.data.toList (Int.not_lt.mp hi)
    rw [← Lib.size_eq, ← Lib.size_eq, ByteArray.size_extract] at this
    exact ⟨rfl, by simp only; omega, by simp only; omega⟩
theorem addsF_ok {st st' : St} {x : ByteArray} {a : Int} {u : Unit} (h : addsF st x a = .ok u st') : st'.at_ = st.at_ ∧ st'.opn = st.opn ∧ st'.text = st.text ++ x.data.toList ∧ st'.text.length ≤ 16384 ∧ st'.nodes = st.nodes + (if st.text.length = 0 then 1 else 0) ∧ (st.text.length = 0 → st'.nodes ≤ 4096) := by
  have key : ∀ (st1 : St), writeF st1 x a = .ok u st' → st' = { st1 with text := st1.text ++ x.data.toList } ∧ st'.text.length ≤ 16384 := by
    intro st1 h1
    unfold writeF at h1
    split at h1
    · cases h1
    · rename_i hx
      injection h1 with _ h1
      subst h1
      refine ⟨rfl, ?_⟩
      simp only
      rw [List.length_append, ← Lib.size_eq]
      omega
  unfold addsF at h
  split at h
  · rename_i h0
    obtain ⟨u1, st1, h1, h2⟩ := Res.bind_ok h
    obtain ⟨e1, e2, e3⟩ := beginsF_ok h1
    obtain ⟨f1, f2⟩ := key st1 h2
    rw [f1, e1]
    rw [f1, e1] at f2
    exact ⟨rfl, rfl, rfl, f2, by rw [if_pos h0], fun _ => by simp only; omega⟩
  · rename_i h0
    obtain ⟨f1, f2⟩ := key st h
    rw [f1]
    rw [f1] at f2
    exact ⟨rfl, rfl, rfl, f2, by rw [if_neg h0]; rfl, fun e => absurd e h0⟩
end Go.Proofs.YtealmfcimoomlaaGreatDoor.PA

/- scan.reader: tag, the walk. -/
namespace Go.Proofs.YtealmfcimoomlaaGreatDoor.PA
open Go.RowKit Go.Proofs.YtealmfcimoomlaaGreatDoorW.PrintWords Go.Proofs.YtealmfcimoomlaaGreatDoorW.PrintLast Go.Proofs.YtealmfcimoomlaaGreatDoorW.PrintMore
set_option linter.unusedVariables false
set_option linter.unusedSimpArgs false
/-- Under way since the world w0, text having been written or not. -/
structure WayR (B r : Nat) (tell : Value) (s : ByteArray) (w0 : World) (st : St) (w : World) : Prop where
  rd : Rd B r tell s st w
  kr : KeepR r w0 w
  bel : Below B w0 w
  env : Env B w
section
variable {B r : Nat} {tell : Value} {s : ByteArray} {st st' : St} {w0 w w' : World}
theorem Way.R {st0 : St} (h : Way B r tell s st0 w0 st w) : WayR B r tell s w0 st w := ⟨h.rd, h.kx.R, h.bel, h.env⟩
theorem WayR.step (h : WayR B r tell s w0 st w) (hb : Below B w w') (hk : KeepR r w w') (hr : Rd B r tell s st' w') : WayR B r tell s w0 st' w' := ⟨hr, h.kr.trans hk, h.bel.trans hb, h.env.step hb⟩
theorem WayR.store (h : WayR B r tell s w0 st w) (a : Nat) (z : Int) (hz : z = (a : Int)) : WayR B r tell s w0 { st with at_ := a } (w.setCell ⟨r, 1, none⟩ (.int .i64 z)) := by
  subst hz
  obtain ⟨h0, ov, pv, bv, h1, h2⟩ := h.rd
  exact h.step ((Below.refl B w).setCell (p := ⟨r, 1, none⟩) h1.1 _) (KeepX.set w 1 _).R (Rd.store (st' := { st with at_ := a }) h0 h1 h2 1 _ (by decide) (by decide) (by simp [rcells]) rfl rfl)
theorem WayR.cells (h : WayR B r tell s w0 st w) : w.cell? ⟨r, 0, none⟩ = some (.string s) ∧ w.cell? ⟨r, 1, none⟩ = some (.int .i64 st.at_) ∧ w.frozen? ⟨r, 1, none⟩ = false := by
  obtain ⟨h0, ov, pv, bv, h1, h2⟩ := h.rd
  obtain ⟨c0, c1, -, -, -, z1, -, -⟩ := Rd.cells h1
  exact ⟨c0, c1, z1⟩
theorem WayR.bad {Sk : Sink B r} {l0 : List Evt} {a y : Int} (h : WayR B r Sk.tell s w0 st w) (hr : RB r w0) (hP : Sk.P l0 w0) (hb : Below B w w') (hk : KeepR r w w') : EndsE Sk s l0 w0 ([], .bad a y) (.panicked [{ v := faultV a y, recovered := false }]) w' :=
  ⟨h.bel.trans hb, KeepT.ofR (h.kr.trans hk), by rw [List.append_nil]; exact Sk.keep _ _ _ hP hr (h.kr.trans hk) (h.bel.trans hb), rfl⟩
theorem WayR.good {Sk : Sink B r} {l0 : List Evt} (h : WayR B r Sk.tell s w0 st w) (hr : RB r w0) (hP : Sk.P l0 w0) (u : Unit) : EndsE Sk s l0 w0 ([], .ok u st) (.returned (.tuple #[])) w :=
  ⟨h.bel, KeepT.ofR h.kr, by rw [List.append_nil]; exact Sk.keep _ _ _ hP hr h.kr h.bel, rfl, h.rd⟩
end
theorem past_at (B r : Nat) (tell : Value) (s mark : ByteArray) (st : St) (w : World) (h : Rd B r tell s st w) (hE : Env B w) (z : Int) (fr : Nat) (hz : z = (fr : Int)) (hf : fr ≤ s.size) (hs : s.size ≤ 262144) (hm : mark.size ≤ 100) :
    Calls Tryz.prog 89 #[.pointer (some ⟨r, 0, none⟩), .int .i64 z, .string mark] w (Ends B r tell s (fun _ => .tuple #[]) w (pastF s st fr mark)) := by
  subst hz
  exact past_calls B r tell s mark st fr _ w h rfl (indexP B s mark fr w hE hs) hf hs hm (by have := Lib.index_le (s.extract fr s.size).data.toList mark.data.toList; rw [← Lib.size_eq, ByteArray.size_extract] at this; omega)
set_option maxHeartbeats 32000000 in
set_option maxRecDepth 100000 in
theorem tag_calls (B r : Nat) (Sk : Sink B r) (s : ByteArray) (st : St) (l0 : List Evt) (w : World) (h : Rd B r Sk.tell s st w) (hE : Env B w) (hP : Sk.P l0 w) (ha : st.at_ < s.size) (h60 : bt s (st.at_ : Int) = 60) (hs : s.size ≤ 262144) (hl : l0.length ≤ 16380) (hd : deep l0 = st.opn.length) (ho : st.opn.length ≤ 64) (hn : st.nodes ≤ 4096) (ht : st.text.length ≤ 16384) :
    Calls Tryz.prog 66 #[.pointer (some ⟨r, 0, none⟩)] w (EndsE Sk s l0 w (tagF s st)) := by
  have W0 := Aside0.mk (Way.start h hE)
  have HP0 := Aside0.mk hP
  have HD := Aside0.mk hd
  have HL := Aside0.mk hl
  have HOP := Aside0.mk ho
  have HNO := Aside0.mk hn
  have HTX := Aside0.mk ht
  have HS := Aside0.mk hs
  have HA := Aside0.mk ha
  have H60 := Aside0.mk h60
  obtain ⟨h0, ov, pv, bv, h1, h2⟩ := h
  obtain ⟨c0, c1, -⟩ := Rd.cells h1
  have hrl : restL s st.at_ = (s.extract st.at_ s.size).toList := (Lib.toList_data _).symm
  have hrd : restL s st.at_ = List.take (s.size - st.at_) (List.drop st.at_ s.data.toList) := Lib.extract_data s st.at_ s.size
  have HRD := Aside0.mk hrd
  have HLEN := Aside0.mk (rest_len s st.at_)
  have HW0 := Aside0.mk (fun nq => (W0.out.drewN nq))
  clear h1 h2 h0 hE hP hl hd ho hn ht h60
  have a1 := eq_true (show (0 : Int) ≤ (st.at_ : Int) by omega)
  have a2 := eq_true (show (st.at_ : Int) ≤ (s.size : Int) by omega)
  generalize hres : tagF s st = res
  have HZ := Aside0.mk hres
  clear hres
  have sp := short_paths (restL s st.at_)
  rcases sp with ⟨hsh, hp⟩ | ⟨hsh, hp⟩
  · have HSH := Aside0.mk hsh
    have key : ((s.extract st.at_ s.size).toList == [60]) = true ∨ (((s.extract st.at_ s.size).toList == [60]) = false ∧ ((s.extract st.at_ s.size).toList == [60, 33, 45, 45]) = false ∧ Lib.hasPrefix [60, 33, 45, 45] (List.take (s.size - st.at_) (List.drop st.at_ s.data.toList)) = true) ∨ (((s.extract st.at_ s.size).toList == [60]) = false ∧ ((s.extract st.at_ s.size).toList == [60, 33, 45, 45]) = false ∧ Lib.hasPrefix [60, 33, 45, 45] (List.take (s.size - st.at_) (List.drop st.at_ s.data.toList)) = false ∧ ((s.extract st.at_ s.size).toList == [60, 33, 91, 67, 68, 65, 84, 65, 91]) = false ∧ Lib.hasPrefix [60, 33, 91, 67, 68, 65, 84, 65, 91] (List.take (s.size - st.at_) (List.drop st.at_ s.data.toList)) = true) := by
      rw [← hrl, ← hrd]; exact hp
    clear hrl hrd hsh hp
    rcases key with q1 | ⟨q1, q2, q3⟩ | ⟨q1, q2, q3, q4, q5⟩
    all_goals
      go_enter Tryz.func66, Tryz.ntmps66
      go_wp2_with fail
      go_quiet (fail)
      have W1 := Aside0.mk (HW0.out nq)
      generalize hw1 : w.drewN nq = w1 at *
      clear hw1 HW0
      go_wp2_with (first
        | (go_at_call 88; refine (Tryz.strings_HasPrefix _ _ _).mono ?_; rintro e w' ⟨rfl, rfl⟩)
        | (go_at_call 43; refine (fail_calls r _ 4 _).mono ?_; rintro e w' ⟨rfl, rfl⟩))
      rw [← HZ.out, tagF, if_pos HSH.out]
      exact ⟨rfl, EndsE.stop W1.out HP0.out⟩
  · have HSH := Aside0.mk hsh
    have key : (((s.extract st.at_ s.size).toList == [60]) = false ∧ ((s.extract st.at_ s.size).toList == [60, 33, 45, 45]) = true ∧ ((s.extract st.at_ s.size).toList == [60, 33, 91, 67, 68, 65, 84, 65, 91]) = false ∧ Lib.hasPrefix [60, 33, 91, 67, 68, 65, 84, 65, 91] (List.take (s.size - st.at_) (List.drop st.at_ s.data.toList)) = false) ∨ (((s.extract st.at_ s.size).toList == [60]) = false ∧ ((s.extract st.at_ s.size).toList == [60, 33, 45, 45]) = false ∧ Lib.hasPrefix [60, 33, 45, 45] (List.take (s.size - st.at_) (List.drop st.at_ s.data.toList)) = false ∧ ((s.extract st.at_ s.size).toList == [60, 33, 91, 67, 68, 65, 84, 65, 91]) = true) ∨ (((s.extract st.at_ s.size).toList == [60]) = false ∧ ((s.extract st.at_ s.size).toList == [60, 33, 45, 45]) = false ∧ Lib.hasPrefix [60, 33, 45, 45] (List.take (s.size - st.at_) (List.drop st.at_ s.data.toList)) = false ∧ ((s.extract st.at_ s.size).toList == [60, 33, 91, 67, 68, 65, 84, 65, 91]) = false ∧ Lib.hasPrefix [60, 33, 91, 67, 68, 65, 84, 65, 91] (List.take (s.size - st.at_) (List.drop st.at_ s.data.toList)) = false) := by
      rw [← hrl, ← hrd]; exact hp
    clear hrl hrd hsh hp
    rcases key with ⟨q1, q2, q4, q5⟩ | ⟨q1, q2, q3, q4⟩ | ⟨q1, q2, q3, q4, q5⟩
    all_goals
      go_enter Tryz.func66, Tryz.ntmps66
      go_wp2_with fail
      go_quiet (fail)
      have W1 := Aside0.mk (HW0.out nq)
      generalize hw1 : w.drewN nq = w1 at *
      clear hw1 HW0
      cases h4 : Lib.hasPrefix (restL s st.at_) remarkL with
      | true =>
        have f4 : Lib.hasPrefix (List.take (s.size - st.at_) (List.drop st.at_ s.data.toList)) [60, 33, 45, 45] = true := by rw [← HRD.out]; exact h4
        have hsz : st.at_ + 4 ≤ s.size := by have := prefix_len h4; rw [HLEN.out] at this; have e : remarkL.length = 4 := rfl; omega
        have CP := Aside0.mk (past_at B r Sk.tell s ⟨#[45, 45, 62]⟩ st w1 W1.out.rd W1.out.env ((st.at_ : Int) + 4) (st.at_ + 4) (by omega) hsz HS.out (by decide))
        cases hpf : pastF s st (st.at_ + 4) ⟨#[45, 45, 62]⟩ with
        | bad a y =>
          rw [hpf] at CP
          go_wp2_with (first
            | (go_at_call 88; refine (Tryz.strings_HasPrefix _ _ _).mono ?_; rintro e w' ⟨rfl, rfl⟩)
            | (go_at_call 89; refine CP.out.mono ?_; rintro e w2 ⟨hb2, hk2, rfl⟩))
          rw [← HZ.out, tagF, if_neg (by rw [HSH.out]; decide), if_pos h4]
          rw [hpf]
          exact ⟨rfl, EndsE.quiet W1.out HP0.out ⟨hb2, hk2, rfl⟩⟩
        | ok u st2 =>
          rw [hpf] at CP
          go_wp2_with (first
            | (go_at_call 88; refine (Tryz.strings_HasPrefix _ _ _).mono ?_; rintro e w' ⟨rfl, rfl⟩)
            | (go_at_call 89; refine CP.out.mono ?_; rintro e w2 ⟨hb2, hk2, rfl, hr2⟩))
          go_end0
          rw [← HZ.out, tagF, if_neg (by rw [HSH.out]; decide), if_pos h4]
          rw [hpf]
          exact EndsE.quiet W1.out HP0.out ⟨hb2, hk2, rfl, hr2⟩
      | false =>
        have f4 : Lib.hasPrefix (List.take (s.size - st.at_) (List.drop st.at_ s.data.toList)) [60, 33, 45, 45] = false := by rw [← HRD.out]; exact h4
        cases h5 : Lib.hasPrefix (restL s st.at_) [60, 63] with
        | true =>
          have f5 : Lib.hasPrefix (List.take (s.size - st.at_) (List.drop st.at_ s.data.toList)) [60, 63] = true := by rw [← HRD.out]; exact h5
          have hsz : st.at_ + 2 ≤ s.size := by have := prefix_len h5; rw [HLEN.out] at this; have e : ([60, 63] : List UInt8).length = 2 := rfl; omega
          have CP := Aside0.mk (past_at B r Sk.tell s ⟨#[63, 62]⟩ st w1 W1.out.rd W1.out.env ((st.at_ : Int) + 2) (st.at_ + 2) (by omega) hsz HS.out (by decide))
          cases hpf : pastF s st (st.at_ + 2) ⟨#[63, 62]⟩ with
          | bad a y =>
            rw [hpf] at CP
            go_wp2_with (first
              | (go_at_call 88; refine (Tryz.strings_HasPrefix _ _ _).mono ?_; rintro e w' ⟨rfl, rfl⟩)
              | (go_at_call 89; refine CP.out.mono ?_; rintro e w2 ⟨hb2, hk2, rfl⟩))
            rw [← HZ.out, tagF, if_neg (by rw [HSH.out]; decide), if_neg (by rw [h4]; decide), if_pos h5]
            rw [hpf]
            exact ⟨rfl, EndsE.quiet W1.out HP0.out ⟨hb2, hk2, rfl⟩⟩
          | ok u st2 =>
            rw [hpf] at CP
            go_wp2_with (first
              | (go_at_call 88; refine (Tryz.strings_HasPrefix _ _ _).mono ?_; rintro e w' ⟨rfl, rfl⟩)
              | (go_at_call 89; refine CP.out.mono ?_; rintro e w2 ⟨hb2, hk2, rfl, hr2⟩))
            go_end0
            rw [← HZ.out, tagF, if_neg (by rw [HSH.out]; decide), if_neg (by rw [h4]; decide), if_pos h5]
            rw [hpf]
            exact EndsE.quiet W1.out HP0.out ⟨hb2, hk2, rfl, hr2⟩
        | false =>
          have f5 : Lib.hasPrefix (List.take (s.size - st.at_) (List.drop st.at_ s.data.toList)) [60, 63] = false := by rw [← HRD.out]; exact h5
          cases h6 : Lib.hasPrefix (restL s st.at_) rawL with
          | true =>
            have f6 : Lib.hasPrefix (List.take (s.size - st.at_) (List.drop st.at_ s.data.toList)) [60, 33, 91, 67, 68, 65, 84, 65, 91] = true := by rw [← HRD.out]; exact h6
            have hsz : st.at_ + 9 ≤ s.size := by have := prefix_len h6; rw [HLEN.out] at this; have e : rawL.length = 9 := rfl; omega
            have CP := Aside0.mk (past_at B r Sk.tell s ⟨#[93, 93, 62]⟩ st w1 W1.out.rd W1.out.env ((st.at_ : Int) + 9) (st.at_ + 9) (by omega) hsz HS.out (by decide))
            cases hpf : pastF s st (st.at_ + 9) ⟨#[93, 93, 62]⟩ with
            | bad a y =>
              rw [hpf] at CP
              go_wp2_with (first
                | (go_at_call 88; refine (Tryz.strings_HasPrefix _ _ _).mono ?_; rintro e w' ⟨rfl, rfl⟩)
                | (go_at_call 89; refine CP.out.mono ?_; rintro e w2 ⟨hb2, hk2, rfl⟩))
              rw [← HZ.out, tagF, if_neg (by rw [HSH.out]; decide), if_neg (by rw [h4]; decide), if_neg (by rw [h5]; decide), if_pos h6, cdataF]
              rw [hpf]
              exact ⟨rfl, EndsE.quiet W1.out HP0.out ⟨hb2, hk2, rfl⟩⟩
            | ok u st2 =>
              rw [hpf] at CP
              obtain ⟨hp1, hp2, hp3⟩ := pastF_ok hpf hsz
              have hp4 : st.at_ + 12 ≤ st2.at_ := hp2
              have HP1 := Aside0.mk hp1
              have HPF := Aside0.mk hpf
              clear hp1 hp2 hpf
              go_wp2_with (first
                | (go_at_call 88; refine (Tryz.strings_HasPrefix _ _ _).mono ?_; rintro e w' ⟨rfl, rfl⟩)
                | (go_at_call 89; refine CP.out.mono ?_; rintro e w2 ⟨hb2, hk2, rfl, hr2⟩; have W2 := Aside0.mk ((W1.out.step hb2 hk2 hr2).R); obtain ⟨c0, c1, z1⟩ := W2.out.cells; clear hb2 hk2 hr2))
              have W3 := Aside0.mk (W2.out.store (st.at_ + 9) ((st.at_ : Int) + 9) (by omega))
              have HRES : res = ([], (cdF s st2.at_ (s.size + 1) { st2 with at_ := st.at_ + 9 }).bind fun _ st3 => .ok () { st3 with at_ := st2.at_ }) := by
                rw [← HZ.out, tagF, if_neg (by rw [HSH.out]; decide), if_neg (by rw [h4]; decide), if_neg (by rw [h5]; decide), if_pos h6, cdataF]
                rw [HPF.out]
                rfl
              generalize hval : cdF s st2.at_ (s.size + 1) { st2 with at_ := st.at_ + 9 } = val at HRES
              have HR := Aside0.mk HRES
              have HV := Aside0.mk hval
              have HT0 := Aside0.mk (show st2.text.length ≤ 16384 by rw [HP1.out]; exact HTX.out)
              have HN0 := Aside0.mk (show st2.nodes ≤ 4096 by rw [HP1.out]; exact HNO.out)
              clear HRES hval c0 c1 z1 W2 CP f4 f5 f6 h4 h5 h6
              generalize hw3 : w2.setCell ⟨r, 1, none⟩ (.int .i64 ((st.at_ : Int) + 9)) = w3 at *
              clear hw3
              go_loopg [5] s.size (fun gg s5 wr => ∃ stx : St, s.size - stx.at_ ≤ gg ∧ stx.text.length ≤ 16384 ∧ stx.nodes ≤ 4096 ∧ Aside0 (WayR B r Sk.tell s w stx wr) ∧ Aside0 (cdF s st2.at_ (gg + 1) stx = val))
              case atStart => exact ⟨{ st2 with at_ := st.at_ + 9 }, Nat.sub_le _ _, HT0.out, HN0.out, W3, HV⟩
              case round =>
                obtain ⟨stx, hgx, htx, hnx, HX, HVx⟩ := hrel
                clear W3 HV HT0 HN0
                obtain ⟨c0, c1, z1⟩ := HX.out.cells
                by_cases hlt : stx.at_ + 3 < st2.at_
                · have g1 : decide ((stx.at_ : Int) < (st2.at_ : Int) - 3) = true := decide_eq_true (by omega)
                  have HLT := Aside0.mk hlt
                  have CC := Aside0.mk (charP_calls B r Sk.tell s stx wr HX.out.rd HX.out.env (by omega) HS.out)
                  obtain ⟨gk, rfl⟩ : ∃ m, gk = m + 1 := ⟨gk - 1, by omega⟩
                  cases hT : charP s stx with
                  | bad a y =>
                    rw [hT] at CC
                    go_wp2_with (go_at_call 69; refine CC.out.mono ?_; rintro e w4 ⟨hb4, hk4, rfl⟩)
                    rw [HR.out, ← HVx.out, cdF_succ, if_pos HLT.out, hT]
                    exact ⟨rfl, HX.out.bad W0.out.r0.rb HP0.out hb4 hk4.R⟩
                  | ok t st4 =>
                    rw [hT] at CC
                    have HT := Aside0.mk hT
                    obtain ⟨ht1, ht2, ht3, ht4⟩ := charP_ok hT (by omega)
                    have HT1 := Aside0.mk ht1
                    clear hT
                    go_wp2_with (go_at_call 69; refine CC.out.mono ?_; rintro e w4 ⟨hb4, hk4, rfl, hr4⟩; have W4 := Aside0.mk (HX.out.step hb4 hk4.R hr4); clear hb4 hk4 hr4)
                    have CA := Aside0.mk (adds_calls B r Sk.tell s t st4 (stx.at_ : Int) w4 W4.out.rd (by rw [HT1.out]; exact htx) (by omega) (by rw [HT1.out]; simp only; omega))
                    cases hAd : addsF st4 t (stx.at_ : Int) with
                    | bad a y =>
                      rw [hAd] at CA
                      refine CA.out.mono ?_
                      rintro e w5 ⟨hb5, hk5, rfl⟩
                      go_wp2_with fail
                      rw [HR.out, ← HVx.out, cdF_succ, if_pos HLT.out, HT.out]
                      simp only [Res.bind]
                      rw [hAd]
                      exact ⟨rfl, W4.out.bad W0.out.r0.rb HP0.out hb5 hk5⟩
                    | ok u5 st5 =>
                      rw [hAd] at CA
                      have HAD := Aside0.mk hAd
                      obtain ⟨ha1, ha2, ha3, ha4, ha5, ha6⟩ := addsF_ok hAd
                      have hn5 : st5.nodes ≤ 4096 := by
                        by_cases e : st4.text.length = 0
                        · exact ha6 e
                        · rw [ha5, if_neg e, HT1.out]; exact hnx
                      clear hAd ha3 ha5 ha6
                      refine CA.out.mono ?_
                      rintro e w5 ⟨hb5, hk5, rfl, hr5⟩
                      have W5 := W4.out.step hb5 hk5 hr5
                      go_wp2_with fail
                      go_roundg gk
                      case measure => omega
                      case rel =>
                        refine ⟨st5, by omega, ha4, hn5, ⟨W5⟩, ⟨?_⟩⟩
                        rw [← HVx.out, cdF_succ s st2.at_ (gk + 1), if_pos HLT.out, HT.out]
                        simp only [Res.bind]
                        rw [HAD.out]
                · have g1 : decide ((stx.at_ : Int) < (st2.at_ : Int) - 3) = false := decide_eq_false (by omega)
                  have HLT := Aside0.mk hlt
                  have W6 := HX.out.store st2.at_ (st2.at_ : Int) rfl
                  go_wp2_with fail
                  go_end0
                  rw [HR.out, ← HVx.out, cdF_succ, if_neg HLT.out]
                  exact W6.good W0.out.r0.rb HP0.out ()
          | false =>
            have f6 : Lib.hasPrefix (List.take (s.size - st.at_) (List.drop st.at_ s.data.toList)) [60, 33, 91, 67, 68, 65, 84, 65, 91] = false := by rw [← HRD.out]; exact h6
            have HPd := Aside0.mk (fun k => Sk.keep _ _ _ HP0.out W0.out.r0.rb (W1.out.drewN k).kx.R (W1.out.drewN k).bel)
            have hsz2 : st.at_ + 2 ≤ s.size := by
              rcases Nat.lt_or_ge (st.at_ + 1) s.size with h | h
              · exact h
              · exfalso
                have hl1 : (restL s st.at_).length = 1 := by rw [HLEN.out]; omega
                obtain ⟨c, hc⟩ := List.length_eq_one_iff.mp hl1
                have hb : bt s (st.at_ : Int) = 60 := H60.out
                rw [bt_byte s st.at_ HA.out] at hb
                have hc0 : (restL s st.at_)[0]? = some (s.get! st.at_) := by
                  unfold restL
                  rw [Lib.extract_data, List.getElem?_take, if_pos (by omega), List.getElem?_drop, Nat.add_zero, get_list, List.getD_eq_getElem?_getD, List.getElem?_eq_getElem (by rw [← Lib.size_eq]; exact HA.out)]
                  rfl
                rw [hc] at hc0
                have hc1 : c = s.get! st.at_ := Option.some.inj hc0
                have hc2 : c = 60 := by rw [hc1]; exact UInt8.toNat_inj.mp (by have : (60 : UInt8).toNat = 60 := rfl; omega)
                have : shortT (restL s st.at_) = true := by rw [hc, hc2]; decide
                rw [HSH.out] at this
                cases this
            cases h7 : Lib.hasPrefix (restL s st.at_) [60, 47] with
            | true =>
              have f7 : Lib.hasPrefix (List.take (s.size - st.at_) (List.drop st.at_ s.data.toList)) [60, 47] = true := by rw [← HRD.out]; exact h7
              rcases hpf : closesF s st with ⟨ev, rs⟩
              have CP := Aside0.mk (hpf ▸ closes_calls B r Sk s st l0 w1 W1.out.rd W1.out.env (HPd.out 0) hsz2 HS.out HL.out HD.out HOP.out)
              cases rs with
              | bad a y =>
                go_wp2_with (first
                  | (go_at_call 88; refine (Tryz.strings_HasPrefix _ _ _).mono ?_; rintro e w' ⟨rfl, rfl⟩)
                  | (go_at_call 90; refine (CP.out).mono ?_; rintro e w2 ⟨hb2, hk2, hP2, rfl⟩))
                rw [← HZ.out, tagF, if_neg (by rw [HSH.out]; decide), if_neg (by rw [h4]; decide), if_neg (by rw [h5]; decide), if_neg (by rw [h6]; decide), if_pos h7]
                rw [hpf]
                exact ⟨rfl, EndsE.later W1.out ⟨hb2, hk2, hP2, rfl⟩⟩
              | ok u st2 =>
                go_wp2_with (first
                  | (go_at_call 88; refine (Tryz.strings_HasPrefix _ _ _).mono ?_; rintro e w' ⟨rfl, rfl⟩)
                  | (go_at_call 90; refine (CP.out).mono ?_; rintro e w2 ⟨hb2, hk2, hP2, rfl, hr2⟩))
                go_end0
                rw [← HZ.out, tagF, if_neg (by rw [HSH.out]; decide), if_neg (by rw [h4]; decide), if_neg (by rw [h5]; decide), if_neg (by rw [h6]; decide), if_pos h7]
                rw [hpf]
                exact EndsE.later W1.out ⟨hb2, hk2, hP2, rfl, hr2⟩
            | false =>
              have f7 : Lib.hasPrefix (List.take (s.size - st.at_) (List.drop st.at_ s.data.toList)) [60, 47] = false := by rw [← HRD.out]; exact h7
              have HIX := Aside0.mk (show ∀ h, ((((s.extract st.at_ s.size)[1]'h).toNat : Nat) : Int) = bt s ((st.at_ + 1 : Nat) : Int) from fun h => by
                rw [bt_byte s (st.at_ + 1) (by omega), ← get_extract s st.at_ 1, Utf8W.get!_of_lt _ 1 h])
              have p1 := eq_true (show 1 < s.size - st.at_ by omega)
              have hbr := bt_range s ((st.at_ + 1 : Nat) : Int)
              have HBR := Aside0.mk hbr
              clear hbr
              cases hLv : letterV (bt s ((st.at_ + 1 : Nat) : Int)) with
              | true =>
                have HLV := Aside0.mk (show scan_letter.f 64 (bt s ((st.at_ + 1 : Nat) : Int)) = some true by rw [letterV_f _ HBR.out.1 HBR.out.2, hLv])
                rcases hpf : opensF s st with ⟨ev, rs⟩
                have CP := Aside0.mk (fun nd => hpf ▸ opens_calls B r Sk s st l0 (w1.drewN nd) (W1.out.drewN nd).rd (W1.out.drewN nd).env (HPd.out nd) HA.out HS.out HNO.out HL.out (by rw [HD.out]; omega))
                cases rs with
                | bad a y =>
                  go_wp2_with (first
                    | (go_at_call 88; refine (Tryz.strings_HasPrefix _ _ _).mono ?_; rintro e w' ⟨rfl, rfl⟩)
                    | (go_at_call 91; (with_reducible refine (scan_letter.calls 64 _ true _ (by rw [HIX.out]; exact HLV.out)).mono ?_); rintro e w' ⟨rfl, ⟨nd, rfl⟩⟩)
                    | (go_at_call 92; refine (CP.out _).mono ?_; rintro e w2 ⟨hb2, hk2, hP2, rfl⟩))
                  rw [← HZ.out, tagF, if_neg (by rw [HSH.out]; decide), if_neg (by rw [h4]; decide), if_neg (by rw [h5]; decide), if_neg (by rw [h6]; decide), if_neg (by rw [h7]; decide), if_pos hLv]
                  rw [hpf]
                  exact ⟨rfl, EndsE.later (W1.out.drewN nd) ⟨hb2, hk2, hP2, rfl⟩⟩
                | ok u st2 =>
                  go_wp2_with (first
                    | (go_at_call 88; refine (Tryz.strings_HasPrefix _ _ _).mono ?_; rintro e w' ⟨rfl, rfl⟩)
                    | (go_at_call 91; (with_reducible refine (scan_letter.calls 64 _ true _ (by rw [HIX.out]; exact HLV.out)).mono ?_); rintro e w' ⟨rfl, ⟨nd, rfl⟩⟩)
                    | (go_at_call 92; refine (CP.out _).mono ?_; rintro e w2 ⟨hb2, hk2, hP2, rfl, hr2⟩))
                  go_end0
                  rw [← HZ.out, tagF, if_neg (by rw [HSH.out]; decide), if_neg (by rw [h4]; decide), if_neg (by rw [h5]; decide), if_neg (by rw [h6]; decide), if_neg (by rw [h7]; decide), if_pos hLv]
                  rw [hpf]
                  exact EndsE.later (W1.out.drewN nd) ⟨hb2, hk2, hP2, rfl, hr2⟩
              | false =>
                have HLV := Aside0.mk (show scan_letter.f 64 (bt s ((st.at_ + 1 : Nat) : Int)) = some false by rw [letterV_f _ HBR.out.1 HBR.out.2, hLv])
                go_wp2_with (first
                  | (go_at_call 88; refine (Tryz.strings_HasPrefix _ _ _).mono ?_; rintro e w' ⟨rfl, rfl⟩)
                  | (go_at_call 91; (with_reducible refine (scan_letter.calls 64 _ false _ (by rw [HIX.out]; exact HLV.out)).mono ?_); rintro e w' ⟨rfl, ⟨nd, rfl⟩⟩)
                  | (go_at_call 43; refine (fail_calls r _ 3 _).mono ?_; rintro e w' ⟨rfl, rfl⟩))
                rw [← HZ.out, tagF, if_neg (by rw [HSH.out]; decide), if_neg (by rw [h4]; decide), if_neg (by rw [h5]; decide), if_neg (by rw [h6]; decide), if_neg (by rw [h7]; decide), if_neg (by rw [hLv]; decide)]
                exact ⟨rfl, EndsE.stop (W1.out.drewN nd) HP0.out⟩
end Go.Proofs.YtealmfcimoomlaaGreatDoor.PA
