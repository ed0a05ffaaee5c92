/- Texts of this claim, one behind the other: UScan8, UScan9. Conditions: those of each theorem. -/
import Derived.Test.YtealmfcimoomlaaGreatDoorPA4
import Derived.Test.YtealmfcimoomlaaGreatDoorUUnescape
import Derived.Test.YtealmfcimoomlaaGreatDoorShelfC
/- scan.reader: reference. -/
namespace Go.Proofs.YtealmfcimoomlaaGreatDoor.PA
open Go.RowKit Go.Proofs.YtealmfcimoomlaaGreatDoorW.PrintWords Go.Proofs.YtealmfcimoomlaaGreatDoorW.PrintLast Go.Proofs.YtealmfcimoomlaaGreatDoorW.PrintMore
theorem mn_nat (a b : Nat) : mn (a : Int) (b : Int) = ((min a b : Nat) : Int) := by unfold mn; split <;> omega
theorem min2_nat (k k' : IntKind) (x y : Int) : Builtin.min2 (.int k x) (.int k' y) = pure (.int k (mn x y)) := by rw [min2_int]; rfl
attribute [local go_sem] min2_nat min_two
set_option linter.unusedVariables false
set_option linter.unusedSimpArgs false
theorem indexByte_lt : ∀ (l : List UInt8) (c : UInt8), Lib.indexByte l c < (l.length : Int) ∨ l = []
  | [], _ => .inr rfl
  | b :: l, c => by
    left
    rw [Lib.indexByte]
    simp only [List.length_cons]
    split
    · omega
    split
    · omega
    rename_i h1 h2
    rcases indexByte_lt l c with h | rfl
    · omega
    · exact absurd h2 (by simp [Lib.indexByte])
/-- The at most ten bytes from a place on, up to the first semicolon. -/
def refS (s : ByteArray) (i : Nat) : ByteArray :=
  if Lib.indexByte (s.extract i (min (i + 10) s.size)).data.toList 59 < 0 then s.extract i (min (i + 10) s.size) else (s.extract i (min (i + 10) s.size)).extract 0 (Lib.indexByte (s.extract i (min (i + 10) s.size)).data.toList 59 + 1).toNat
def refF (s : ByteArray) (st : St) (t : ByteArray) (e : Int) : Res ByteArray := if e = 0 then .ok t { st with at_ := st.at_ + (refS s st.at_).size } else .bad st.at_ e
theorem refS_size (s : ByteArray) (i : Nat) : (refS s i).size ≤ 10 := by
  unfold refS
  split
  · simp [ByteArray.size_extract]; omega
  · simp [ByteArray.size_extract]; omega
theorem cells_at {s : ByteArray} {st st' : St} {ov pv bv tell : Value} {z : Int} (h : { st with at_ := st'.at_ } = st') (hz : (st'.at_ : Int) = z) : (rcells s st ov pv bv tell).setIfInBounds 1 (.int .i64 z) = rcells s st' ov pv bv tell := by
  subst hz
  rw [← h]
  simp [rcells]
set_option maxHeartbeats 4000000 in
set_option maxRecDepth 100000 in
theorem reference_calls (B r : Nat) (tell : Value) (s : ByteArray) (st : St) (w : World) (k : Nat) (t : ByteArray) (n1 e1 : Int) (h : Rd B r tell s st w) (hf : chars_Unescape.f k (refS s st.at_) = some (t, n1, e1)) (ha : st.at_ ≤ s.size) (hs : s.size ≤ 140737488355328) (hG : Glob w) (hG2 : Glob2 w) :
    Calls Tryz.prog 68 #[.pointer (some ⟨r, 0, none⟩)] w (Ends B r tell s (fun v => .string v) w (refF s st t e1)) := by
  have HR := Aside0.mk h
  have HG := Aside0.mk hG
  have HG2 := Aside0.mk hG2
  have HF := Aside0.mk hf
  obtain ⟨h0, ov, pv, bv, h1, h2⟩ := h
  obtain ⟨c0, c1, _⟩ := Rd.cells h1
  have hm : mn ((st.at_ : Int) + 10) (s.size : Int) = ((min (st.at_ + 10) s.size : Nat) : Int) := by have := mn_nat (st.at_ + 10) s.size; push_cast at this ⊢; exact this
  clear hf hG hG2 h1 h2
  have HQ := Aside0.mk (rfl : refS s st.at_ = refS s st.at_)
  have hms := Aside0.mk (Nat.min_le_right (st.at_ + 10) s.size)
  generalize hM : min (st.at_ + 10) s.size = M at *
  have a1 := eq_true (show (0 : Int) ≤ (st.at_ : Int) by omega)
  have a2 := eq_true (show (st.at_ : Int) ≤ (M : Int) by omega)
  have a3 := eq_true (show (M : Int) ≤ (s.size : Int) by omega)
  go_enter Tryz.func68, Tryz.ntmps68
  go_wp2
  go_quiet (fail)
  generalize hw : w.drewN nq = w1
  have HR1 := Aside0.mk (show Rd B r tell s st w1 from hw ▸ (HR.out.drewN nq))
  have HB1 := Aside0.mk (show Below B w w1 from hw ▸ (pw_below_drewN (Below.refl B w) nq))
  have HK1 := Aside0.mk (show KeepX r w w1 from hw ▸ (KeepX.drewN r w nq))
  have HG1 := Aside0.mk (show Glob w1 from hw ▸ HG.out)
  have HG21 := Aside0.mk (show Glob2 w1 from hw ▸ HG2.out)
  have d0 : w1.cell? ⟨r, 0, none⟩ = some (.string s) := hw ▸ c0
  have d1 : w1.cell? ⟨r, 1, none⟩ = some (.int .i64 (st.at_ : Int)) := hw ▸ c1
  clear hw c0 c1 HR HG HG2
  have hx : ∃ x, x = s.extract st.at_ M := ⟨_, rfl⟩
  obtain ⟨x, hx⟩ := hx
  rw [← hx]
  have hxs : x.size ≤ 10 := by rw [hx]; simp [ByteArray.size_extract]; omega
  have hil := Aside0.mk (indexByte_lt x.data.toList 59)
  have hig := Aside0.mk (Lib.indexByte_ge x.data.toList 59)
  have HQ : Aside0 (refS s st.at_ = if Lib.indexByte x.data.toList 59 < 0 then x else x.extract 0 (Lib.indexByte x.data.toList 59 + 1).toNat) := ⟨by unfold refS; rw [hM, ← hx]⟩
  have HX := Aside0.mk hx
  clear hx
  have hin := Aside0.mk (show x.data.toList = [] → Lib.indexByte x.data.toList 59 = -1 from fun h => by rw [h]; rfl)
  have HI := Aside0.mk (fun w => Tryz.strings_IndexByte x 59 w)
  rw [show (59 : Int).toNat.toUInt8 = 59 from rfl] at HI
  generalize hi : Lib.indexByte x.data.toList 59 = i at *
  clear hi
  by_cases hneg : i < 0
  · have hd : decide (i ≥ 0) = false := decide_eq_false (by omega)
    have hd' : decide ((0 : Int) ≤ i) = false := decide_eq_false (by omega)
    rw [if_pos hneg] at HQ
    clear hneg
    go_wp2_with (first
      | (go_at_call 94; refine (HI.out _).mono ?_; rintro e w' ⟨rfl, hw⟩; have hw2 := hw.symm; clear hw; subst hw2)
      | (go_at_call 95; refine (chars_Unescape.calls k x t n1 e1 _ (by rw [← HQ.out]; exact HF.out) HG1.out HG21.out).mono ?_))
    rintro e w2 ⟨rfl, hb⟩
    have HR2 := Aside0.mk (HR1.out.move hb)
    have HB2 := Aside0.mk (HB1.out.trans (hb.mono HR1.out.1))
    have HK2 := Aside0.mk (HK1.out.trans (KeepX.below (r := r) hb))
    clear hb d0 d1
    obtain ⟨h0', ov', pv', bv', h1, h2⟩ := HR2.out
    obtain ⟨d0, d1, _, _, _, z1, _, _⟩ := Rd.cells h1
    have hsz := Aside0.mk (show ((st.at_ + (refS s st.at_).size : Nat) : Int) = (st.at_ : Int) + (x.size : Int) by rw [HQ.out]; rfl)
    by_cases he : e1 = 0
    · have hd2 : (e1 != 0) = false := bne_eq_false_iff_eq.mpr he
      have H8 := Aside0.mk (Rd.store (st' := { st with at_ := st.at_ + (refS s st.at_).size }) h0' h1 h2 1 (.int .i64 ((st.at_ : Int) + (x.size : Int))) (by decide) (by decide) (cells_at rfl hsz.out) rfl rfl)
      have HB8 := Aside0.mk (HB2.out.setCell (p := ⟨r, 1, none⟩) h1.1 (.int .i64 ((st.at_ : Int) + (x.size : Int))))
      have HK8 := Aside0.mk (HK2.out.trans (KeepX.set (r := r) w2 1 (.int .i64 ((st.at_ : Int) + (x.size : Int)))))
      have hq := Aside0.mk he
      clear he h1 h2
      go_wp2
      go_ret
      unfold refF
      rw [if_pos hq.out]
      exact ⟨HB8.out, HK8.out, rfl, H8.out⟩
    · have hd2 : (e1 != 0) = true := bne_iff_ne.mpr he
      have hq := Aside0.mk he
      clear he h1 h2 z1
      go_wp2_with (go_at_call 43; refine (fail_calls r _ e1 _).mono ?_; rintro e w' ⟨rfl, rfl⟩)
      refine ⟨rfl, ?_⟩
      unfold refF
      rw [if_neg hq.out]
      exact ⟨HB2.out, HK2.out, rfl⟩
  · have hd : decide (i ≥ 0) = true := decide_eq_true (by omega)
    have hd' : decide ((0 : Int) ≤ i) = true := decide_eq_true (by omega)
    rw [if_neg hneg] at HQ
    obtain ⟨n, rfl⟩ : ∃ n : Nat, i = (n : Int) := ⟨i.toNat, by omega⟩
    have hnx : n + 1 ≤ x.size := by
      rcases hil.out with h | h
      · have e : x.data.toList.length = x.size := Array.length_toList
        omega
      · exact absurd (hin.out h) (by omega)
    rw [show ((n : Int) + 1).toNat = n + 1 by omega] at HQ
    have HS : Aside0 ((x.extract 0 (n + 1)).size = n + 1) := ⟨by rw [ByteArray.size_extract]; omega⟩
    have b1 := eq_true (show (0 : Int) ≤ (n : Int) + 1 by omega)
    have b2 := eq_true (show (n : Int) + 1 ≤ (x.size : Int) by omega)
    have hts := Aside0.mk (show ((n : Int) + 1).toNat = n + 1 by omega)
    clear hneg
    go_wp2_with (first
      | (go_at_call 94; refine (HI.out _).mono ?_; rintro e w' ⟨rfl, hw⟩; have hw2 := hw.symm; clear hw; subst hw2)
      | (go_at_call 95; refine (chars_Unescape.calls k (x.extract 0 (n + 1)) t n1 e1 _ (by rw [← HQ.out]; exact HF.out) HG1.out HG21.out).mono ?_))
    rintro e w2 ⟨rfl, hb⟩
    have HR2 := Aside0.mk (HR1.out.move hb)
    have HB2 := Aside0.mk (HB1.out.trans (hb.mono HR1.out.1))
    have HK2 := Aside0.mk (HK1.out.trans (KeepX.below (r := r) hb))
    clear hb d0 d1
    obtain ⟨h0', ov', pv', bv', h1, h2⟩ := HR2.out
    obtain ⟨d0, d1, _, _, _, z1, _, _⟩ := Rd.cells h1
    have hsz := Aside0.mk (show ((st.at_ + (refS s st.at_).size : Nat) : Int) = (st.at_ : Int) + ((n : Int) + 1) by rw [HQ.out]; rw [Int.natCast_add, HS.out]; rfl)
    by_cases he : e1 = 0
    · have hd2 : (e1 != 0) = false := bne_eq_false_iff_eq.mpr he
      have H8 := Aside0.mk (Rd.store (st' := { st with at_ := st.at_ + (refS s st.at_).size }) h0' h1 h2 1 (.int .i64 ((st.at_ : Int) + ((n : Int) + 1))) (by decide) (by decide) (cells_at rfl hsz.out) rfl rfl)
      have HB8 := Aside0.mk (HB2.out.setCell (p := ⟨r, 1, none⟩) h1.1 (.int .i64 ((st.at_ : Int) + ((n : Int) + 1))))
      have HK8 := Aside0.mk (HK2.out.trans (KeepX.set (r := r) w2 1 (.int .i64 ((st.at_ : Int) + ((n : Int) + 1)))))
      have hq := Aside0.mk he
      clear he h1 h2
      go_wp2
      go_ret
      unfold refF
      rw [if_pos hq.out]
      exact ⟨HB8.out, HK8.out, rfl, H8.out⟩
    · have hd2 : (e1 != 0) = true := bne_iff_ne.mpr he
      have hq := Aside0.mk he
      clear he h1 h2 z1
      go_wp2_with (go_at_call 43; refine (fail_calls r _ e1 _).mono ?_; rintro e w' ⟨rfl, rfl⟩)
      refine ⟨rfl, ?_⟩
      unfold refF
      rw [if_neg hq.out]
      exact ⟨HB2.out, HK2.out, rfl⟩
end Go.Proofs.YtealmfcimoomlaaGreatDoor.PA

/- scan.reader: what is told, and to whom; flush. -/
namespace Go.Proofs.YtealmfcimoomlaaGreatDoor.PA
open Go.RowKit Go.Proofs.YtealmfcimoomlaaGreatDoorW.PrintWords Go.Proofs.YtealmfcimoomlaaGreatDoorW.PrintLast Go.Proofs.YtealmfcimoomlaaGreatDoorW.PrintMore
set_option linter.unusedVariables false
set_option linter.unusedSimpArgs false
/-- An event. -/
structure Evt where
  kind : Int
  name : ByteArray
  attrs : List S61
  text : ByteArray
def Evt.val (e : Evt) (v : Value) : Value := .agg #[.int .i64 e.kind, .string e.name, v, .string e.text]
/-- How deep one is behind events. -/
def deep : List Evt → Int
  | [] => 0
  | e :: l => (if e.kind = 1 then 1 else if e.kind = 3 then -1 else 0) + deep l
/-- What may be told next. -/
def okEv (l : List Evt) (e : Evt) : Prop := l.length ≤ 16384 ∧ (e.kind = 1 ∨ e.kind = 2 ∨ e.kind = 3 ∧ 0 < deep l)
/-- What being told leaves alone: what is new, and what is of these types. -/
def keptTys : List TypeId := [86, 5, 9, 3, 23, 61, 70]
def KeepS (n : Nat) (w w' : World) : Prop := ∀ k o, w.heap[k]? = some o → (n ≤ k ∨ ∃ c t fz, o = .cells c t fz ∧ t ∈ keptTys) → w'.heap[k]? = some o
/-- The reader stands there. -/
def RB (r : Nat) (w : World) : Prop := ∃ cs, w.heap[r]? = some (.cells cs 86 (0, 0))
theorem Rd.rb {B r : Nat} {tell : Value} {s : ByteArray} {st : St} {w : World} (h : Rd B r tell s st w) : RB r w := by
  obtain ⟨h0, ov, pv, bv, h1, h2⟩ := h
  exact ⟨_, h1.2.1⟩
theorem Rd.keepS {B r n : Nat} {tell : Value} {s : ByteArray} {st : St} {w w1 : World} (h : Rd B r tell s st w) (hk : KeepS n w w1) (hs : w.heap.size ≤ w1.heap.size) : Rd B r tell s st w1 := by
  obtain ⟨h0, ov, pv, bv, ⟨b0, b1, b2, v, b3, b4, b5⟩, h2⟩ := h
  refine ⟨Nat.le_trans h0 hs, ov, pv, bv, ⟨b0, hk r _ b1 (.inr ⟨_, _, _, rfl, by decide⟩), b2, v, b3, ⟨b4.1, ?_⟩, b5⟩, ?_⟩
  · rcases b4.2 with e0 | ⟨g, cap, cur, fz, e1, e2, e3, e4⟩
    · exact .inl e0
    · exact .inr ⟨g, cap, cur, fz, e1, e2, hk g _ e3 (.inr ⟨_, _, _, rfl, by decide⟩), e4⟩
  · refine own_move h2 fun k hkk => ?_
    obtain ⟨cells, hc⟩ := own_typed h2 k hkk
    exact (hk k _ hc (.inr ⟨_, _, _, rfl, by decide⟩)).trans hc.symm
/-- To whom the reader tells: a function with captured variables; what it holds once it was told so much; nothing but itself writes there. -/
structure Sink (B r : Nat) where
  P : List Evt → World → Prop
  g : Nat
  lb : Array Value
  eg : ∀ args w, (callFunc g args).run Tryz.prog w = .ok (.enter g args) w
  keep : ∀ l w w', P l w → RB r w → KeepR r w w' → Below B w w' → P l w'
  grow : ∀ l w w', P l w → Below w.heap.size w w' → P l w'
  put : ∀ l w g c t fz u, P l w → w.heap[g]? = some (.cells c t fz) → t = 3 ∨ t = 23 → P l (w.setCell ⟨g, 0, none⟩ u)
  call : ∀ l e w0 w v, P l w0 → okEv l e → RB r w0 → KeepR r w0 w → Below B w0 w → B ≤ w0.heap.size → Kd.R k61 61 w w0.heap.size (fun _ => True) v e.attrs →
    Calls Tryz.prog g (#[e.val v] ++ lb) w fun x w' => x = .returned (.tuple #[]) ∧ P (l ++ [e]) w' ∧ KeepS w0.heap.size w w' ∧ Below B w w'
def Sink.tell {B r : Nat} (K : Sink B r) : Value := .func (.func K.g) #[] K.lb
/-- What stays for one who called the reader: numbers. -/
def KeepT (r : Nat) (w w' : World) : Prop := ∀ k c t fz, w.heap[k]? = some (.cells c t fz) → (t = 3 ∨ t = 23) → k ≠ r → w'.heap[k]? = some (.cells c t fz)
theorem KeepT.refl (r : Nat) (w : World) : KeepT r w w := fun _ _ _ _ h _ _ => h
theorem KeepT.trans {r : Nat} {a b c : World} (h : KeepT r a b) (k : KeepT r b c) : KeepT r a c := fun i o t f h1 h2 h3 => k i o t f (h i o t f h1 h2 h3) h2 h3
theorem KeepT.ofR {r : Nat} {w w' : World} (h : KeepR r w w') : KeepT r w w' := fun k c t fz h1 h2 h3 => h k _ h1 h3 (fun c' f' e => by injection e with _ e _; subst e; exact absurd h2 (by decide)) (fun c' f' e => by injection e with _ e _; subst e; exact absurd h2 (by decide))
theorem KeepT.ofS {r n : Nat} {w w' : World} (h : KeepS n w w') : KeepT r w w' := fun k c t fz h1 h2 h3 => h k _ h1 (.inr ⟨_, _, _, rfl, by rcases h2 with rfl | rfl <;> decide⟩)
set_option maxHeartbeats 2000000 in
set_option maxRecDepth 100000 in
theorem Reset_at (T : TypeId) (B b o : Nat) (cs : Array Value) (bs : List Value) (w : World) (h : Bld T B b o cs bs w) :
    Calls Tryz.prog 70 #[.pointer (some ⟨b, o, none⟩)] w fun e w' => e = .returned (.tuple #[]) ∧ ∃ cs', Out o cs cs' ∧ Bld T B b o cs' [] w' ∧ Below B w w' ∧ Lib.OthersKept 5 (some b) w w' := by
  have hin0 := h.in0
  have hin1 := h.in1
  obtain ⟨hB, hbk, ha, v, hv, hown, hne⟩ := h
  obtain ⟨y0, hy0⟩ : ∃ y, w.cell? ⟨b, o, none⟩ = some y := by
    rw [Lib.cell_of_heap hbk]
    rcases ha with e | e <;> exact ⟨_, e⟩
  have hy1 : w.cell? ⟨b, o + 1, none⟩ = some v := by rw [Lib.cell_of_heap hbk]; exact hv
  have f0 : w.frozen? ⟨b, o, none⟩ = false := Lib.frozen_of_heap hbk o
  have f1 : w.frozen? ⟨b, o + 1, none⟩ = false := Lib.frozen_of_heap hbk (o + 1)
  go_enter Tryz.func70, Tryz.ntmps70
  go_wp2
  go_end0
  have hb1 : (w.setCell ⟨b, o, none⟩ (.pointer none)).heap[b]? = _ := heap_set hbk o (.pointer none)
  refine ⟨rfl, _, (Out.set0 o cs (.pointer none)).trans (Out.set1 o _ (.slice none 0 0)), ⟨hB, heap_set hb1 (o + 1) (.slice none 0 0), .inl ?_, .slice none 0 0, ?_, ⟨rfl, .inl ⟨rfl, rfl⟩⟩, by simp [Value.ownBlock]⟩, ((Below.refl B w).setCell (p := ⟨b, o, none⟩) hB _).setCell (p := ⟨b, o + 1, none⟩) hB _, ((Lib.OthersKept.refl _ _ w).setCell ⟨b, o, none⟩ rfl _).setCell ⟨b, o + 1, none⟩ rfl _⟩
  · rw [Array.getElem?_setIfInBounds, if_neg (by omega), Array.getElem?_setIfInBounds, if_pos rfl, if_pos hin0]
  · rw [Array.getElem?_setIfInBounds, if_pos rfl, if_pos (by simpa using hin1)]
theorem textString_calls (B r : Nat) (tell : Value) (s : ByteArray) (st : St) (w : World) (h : Rd B r tell s st w) :
    Calls Tryz.prog 31 #[.pointer (some ⟨r, 3, none⟩)] w fun e w' => e = .returned (.string ⟨st.text.toArray⟩) ∧ Rd B r tell s st w' ∧ Below B w w' ∧ KeepR r w w' := by
  obtain ⟨h0, ov, pv, bv, h1, h2⟩ := h
  refine (String_at 86 B r 3 _ st.text w h1 h0).mono ?_
  rintro e w' ⟨rfl, hb, hB, hK⟩
  refine ⟨rfl, ⟨Nat.le_trans h0 hB.size, ov, pv, bv, hb, own_move h2 fun k hk => ?_⟩, hB, KeepR.of hK⟩
  obtain ⟨cells, hc⟩ := own_typed h2 k hk
  exact (hK k _ hc (fun e => by obtain rfl := Option.some.inj e; exact own_ne h2 h1.2.1 (by decide) hk.symm) (fun c fz e => by injection e with _ e _; exact absurd e (by decide))).trans hc.symm
theorem textReset_calls (B r : Nat) (tell : Value) (s : ByteArray) (st : St) (w : World) (h : Rd B r tell s st w) :
    Calls Tryz.prog 70 #[.pointer (some ⟨r, 3, none⟩)] w fun e w' => e = .returned (.tuple #[]) ∧ Rd B r tell s { st with text := [] } w' ∧ Below B w w' ∧ KeepR r w w' := by
  obtain ⟨h0, ov, pv, bv, h1, h2⟩ := h
  refine (Reset_at 86 B r 3 _ _ w h1).mono ?_
  rintro e w' ⟨rfl, cs', ho, hb, hB, hK⟩
  obtain ⟨pv', bv', rfl⟩ := out_cells ho
  refine ⟨rfl, ⟨Nat.le_trans h0 hB.size, ov, pv', bv', hb, own_move h2 fun k hk => ?_⟩, hB, KeepR.of hK⟩
  obtain ⟨cells, hc⟩ := own_typed h2 k hk
  exact (hK k _ hc (fun e => by obtain rfl := Option.some.inj e; exact own_ne h2 h1.2.1 (by decide) hk.symm) (fun c fz e => by injection e with _ e _; exact absurd e (by decide))).trans hc.symm
def wordsEv (t : List UInt8) : Evt := ⟨2, ByteArray.empty, [], ⟨t.toArray⟩⟩
def flushE (st : St) : List Evt := if st.text = [] then [] else [wordsEv st.text]
def flushS (st : St) : St := { st with text := [] }
theorem cell6 {B r : Nat} {tell : Value} {s : ByteArray} {st : St} {w : World} (h : Rd B r tell s st w) : w.cell? ⟨r, 6, none⟩ = some tell := by
  obtain ⟨x0, ov, pv, bv, x1, x2⟩ := h
  obtain ⟨c0, c1, c2, c5, c6, z1, z2, z5⟩ := Rd.cells x1
  exact c6
set_option maxHeartbeats 4000000 in
set_option maxRecDepth 100000 in
theorem flush_calls (B r : Nat) (K : Sink B r) (s : ByteArray) (st : St) (l : List Evt) (w : World) (h : Rd B r K.tell s st w) (hP : K.P l w) (hl : l.length ≤ 16384) :
    Calls Tryz.prog 42 #[.pointer (some ⟨r, 0, none⟩)] w fun e w' => e = .returned (.tuple #[]) ∧ Rd B r K.tell s (flushS st) w' ∧ K.P (l ++ flushE st) w' ∧ Below B w w' ∧ KeepT r w w' := by
  have HL := Aside0.mk (textLen_calls B r K.tell s st w h)
  have HR := Aside0.mk h
  have HP := Aside0.mk hP
  unfold flushE
  by_cases ht : st.text = []
  · have h0 : decide ((st.text.length : Int) > 0) = false := decide_eq_false (by rw [ht]; decide)
    have h0' : decide ((0 : Int) < (st.text.length : Int)) = false := decide_eq_false (by rw [ht]; decide)
    have h0n : decide (0 < st.text.length) = false := decide_eq_false (by rw [ht]; decide)
    rw [if_pos ht]
    have HT := Aside0.mk ht
    clear h hP ht
    go_enter Tryz.func42, Tryz.ntmps42
    go_wp2_with (go_at_call 50; refine HL.out.mono ?_; rintro e w' ⟨rfl, hw⟩; have hw2 := hw.symm; clear hw; subst hw2)
    go_end0
    have e : flushS st = st := by unfold flushS; cases st; have := HT.out; simp_all
    rw [e]
    exact ⟨rfl, HR.out, by rw [List.append_nil]; exact HP.out, Below.refl _ _, KeepT.refl _ _⟩
  · have hpos : 0 < st.text.length := List.length_pos_iff.mpr ht
    have h0 : decide ((st.text.length : Int) > 0) = true := decide_eq_true (by omega)
    have h0' : decide ((0 : Int) < (st.text.length : Int)) = true := decide_eq_true (by omega)
    have h0n : decide (0 < st.text.length) = true := decide_eq_true hpos
    rw [if_neg ht]
    have HC := Aside0.mk (fun (w1 : World) (hr : RB r w1) (hk : KeepR r w w1) (hb : Below B w w1) => K.call l (wordsEv st.text) w w1 (.slice none 0 0) hP ⟨hl, .inr (.inl rfl)⟩ h.rb hk hb h.1 (Kd.R_nil _ _ _ _ _))
    have HRd := Aside0.mk (show Rd B r K.tell s st w.drew from h)
    have HBd := Aside0.mk (Below.drew (Below.refl B w))
    clear hpos ht hl
    have eg := K.eg
    obtain ⟨x0, ov, pv, bv, x1, x2⟩ := h
    obtain ⟨c0, c1, c2, c5, c6, z1, z2, z5⟩ := Rd.cells x1
    clear x1 x2
    go_enter Tryz.func42, Tryz.ntmps42
    go_wp2_with (go_at_call 50; refine HL.out.mono ?_; rintro e w' ⟨rfl, hw⟩; have hw2 := hw.symm; clear hw; subst hw2)
    go_region_held3 (fun W => Rd B r K.tell s st W ∧ W.cell? ⟨r, 6, none⟩ = some (.func (.func K.g) #[] K.lb))
      (first | exact ⟨HRd.out, c6⟩ | exact ⟨hR7, cell6 hR7⟩ | exact ⟨hR7.keepS hK8 hB8.size, cell6 (hR7.keepS hK8 hB8.size)⟩)
      (first
        | (go_at_call 31; refine (textString_calls B r K.tell s st _ HRd.out).mono ?_; rintro e w7 ⟨rfl, hR7, hB7, hK7⟩)
        | (refine (HC.out _ hR7.rb hK7 (HBd.out.trans hB7)).mono ?_; rintro e w8 ⟨rfl, hP8, hK8, hB8⟩))
    have hR8 := Aside0.mk (hR7.keepS hK8 hB8.size)
    have hZ := Aside0.mk (textReset_calls B r K.tell s st w8 hR8.out)
    go_wp2_with (go_at_call 70; refine hZ.out.mono ?_; rintro e w9 ⟨rfl, hR9, hB9, hK9⟩)
    go_end0
    refine ⟨rfl, hR9, K.keep _ _ _ hP8 hR8.out.rb hK9 hB9, ((HBd.out.trans hB7).trans hB8).trans hB9, ?_⟩
    exact (((KeepT.ofR hK7).trans (KeepT.ofS hK8)).trans (KeepT.ofR hK9))
end Go.Proofs.YtealmfcimoomlaaGreatDoor.PA
