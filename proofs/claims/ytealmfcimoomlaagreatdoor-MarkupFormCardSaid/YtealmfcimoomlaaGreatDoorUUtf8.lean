/- Texts of this claim, one behind the other: UScan1, UScan2, ShelfB, Shelf, UUtf8. Conditions: those of each theorem. -/
import Derived.Test.YtealmfcimoomlaaGreatDoorUBuild
import Derived.Lib.OwnKind
import Derived.WalkSmall
import Derived.Deep.QuietTactic
import Derived.BigQuiet
import Derived.Test.YtealmfcimoomlaaGreatDoorProg
import Derived.Shelf.Strings.BuilderK
import Derived.KernelRfl
import Derived.Shelf.Strings.Builder1
import Derived.Shelf.Small.Bits
import Derived.Shelf.Small.Strs
import Derived.Shelf.Strings.BuilderF
import Derived.Shelf.Utf8.RuneCount
import Derived.Shelf.Strconv.Itoa0
import Derived.Shelf.Strconv.Itoa1
import Derived.Shelf.LaysM
import Derived.Shelf.Strconv.Itoa2
import Derived.Shelf.Strconv.Itoa3
import Derived.Shelf.Strconv.ParseIntEmpty
import Derived.Shelf.Strconv.Clone
import Derived.Shelf.Strconv.SyntaxError
import Derived.Shelf.LaysC
import Derived.Shelf.Strconv.ToError
import Derived.Shelf.Strconv.Lower
import Derived.Shelf.Strconv.ParseUint10
import Derived.Shelf.Strconv.ParseUint10Empty
import Derived.Shelf.Strconv.ParseUint10Any
import Derived.Shelf.Strconv.ParseInt10
import Derived.Shelf.Strconv.RangeError
import Derived.Shelf.Strconv.ToErrorRange
import Derived.Shelf.Strconv.ParseUintEmpty
import Derived.Shelf.Strconv.ParseUint10b64
import Derived.Shelf.Strconv.ParseUint10b32
import Derived.Shelf.Strconv.ParseUint10b16
import Derived.Shelf.Strconv.ParseUint10b8
import Derived.Shelf.Strconv.ParseUint10At
import Derived.Shelf.Strconv.ParseInt10At64
import Derived.Shelf.Strconv.ParseInt10At32
import Derived.Shelf.Strconv.ParseInt10At16
import Derived.Shelf.Strconv.ParseInt10At8
import Derived.Shelf.Strconv.ParseInt10All
import Derived.Shelf.Strconv.ParseIntPublic10
import Derived.Shelf.Strconv.ErrVarParseInt
import Derived.Shelf.Strings.Search1
import Derived.Shelf.Strings.Search2
import Derived.Shelf.Strings.Search3
import Derived.Shelf.Strings.Count
import Derived.Shelf.Strings.Shaped
import Derived.Shelf.Strings.LastIndex
import Derived.Shelf.Strings.Prefix
import Derived.Shelf.Strings.Split
import Derived.Shelf.Unicode.Decode
import Derived.Shelf.Strings.RuneCount
import Derived.Shelf.Unicode.DecodeSlow
import Derived.Shelf.Unicode.DecodeAny
import Derived.Shelf.Strings.BuilderCap
/- scan.reader: its state in memory; fail, begins. -/
namespace Go.Proofs.YtealmfcimoomlaaGreatDoor.PA
open Go.RowKit Go.Proofs.YtealmfcimoomlaaGreatDoorW.PrintWords Go.Proofs.YtealmfcimoomlaaGreatDoorW.PrintLast Go.Proofs.YtealmfcimoomlaaGreatDoorW.PrintMore
set_option linter.unusedVariables false
set_option linter.unusedSimpArgs false
/-- A reader: how far it is, what is open, the text under way, how many nodes began. -/
structure St where
  at_ : Nat
  opn : List ByteArray
  text : List UInt8
  nodes : Nat
def rcells (s : ByteArray) (st : St) (ov pv bv tell : Value) : Array Value := #[.string s, .int .i64 st.at_, ov, pv, bv, .int .i64 st.nodes, tell]
/-- The reader stands in the block r. -/
def Rd (B r : Nat) (tell : Value) (s : ByteArray) (st : St) (w : World) : Prop :=
  B ≤ w.heap.size ∧ ∃ ov pv bv, Bld 86 B r 3 (rcells s st ov pv bv tell) (Lib.byteCells st.text) w ∧ w.ownsRow B 9 1 ov st.opn.length (pw_strs st.opn)
def faultV (at_ why : Int) : Value := .iface 88 (.agg #[.int .i64 at_, .int .i64 why])
set_option maxHeartbeats 1000000 in
set_option maxRecDepth 100000 in
theorem fail_calls (r : Nat) (at_ why : Int) (w : World) :
    Calls Tryz.prog 43 #[.pointer (some ⟨r, 0, none⟩), .int .i64 at_, .int .i64 why] w fun e w' => e = .panicked [{ v := faultV at_ why, recovered := false }] ∧ w' = w := by
  go_enter Tryz.func43, Tryz.ntmps43
  go_wp2
  exact ⟨rfl, rfl, rfl⟩
/-- What a reader's method leaves alone: whatever is no reader, no bytes, no row of texts. -/
def KeepR (r : Nat) (w w' : World) : Prop := ∀ k o, w.heap[k]? = some o → k ≠ r → (∀ c fz, o ≠ .cells c 5 fz) → (∀ c fz, o ≠ .cells c 9 fz) → w'.heap[k]? = some o
theorem KeepR.refl (r : Nat) (w : World) : KeepR r w w := fun _ _ h _ _ _ => h
theorem KeepR.trans {r : Nat} {a b c : World} (h : KeepR r a b) (k : KeepR r b c) : KeepR r a c := fun i o h1 h2 h3 h4 => k i o (h i o h1 h2 h3 h4) h2 h3 h4
theorem KeepR.of {r : Nat} {w w' : World} (h : Lib.OthersKept 5 (some r) w w') : KeepR r w w' := fun k o h1 h2 h3 _ => h k o h1 (fun e => h2 (Option.some.inj e)) h3
theorem KeepR.below {r : Nat} {w w' : World} (h : Below w.heap.size w w') : KeepR r w w' := fun k o h1 _ _ _ => (h.block k (blk_lt h1)).trans h1
theorem KeepR.set {r : Nat} (w : World) (j : Nat) (u : Value) : KeepR r w (w.setCell ⟨r, j, none⟩ u) := fun k o h1 h2 _ _ => (Below.heap_setCell _ _ _ _ h2).trans h1
/-- What a method leaves alone that neither writes text nor opens or closes: all other blocks, and the reader's other fields. -/
def KeepX (r : Nat) (w w' : World) : Prop := (∀ k o, w.heap[k]? = some o → k ≠ r → w'.heap[k]? = some o) ∧ ∀ j v, j ≠ 1 → j ≠ 5 → w.cell? ⟨r, j, none⟩ = some v → w'.cell? ⟨r, j, none⟩ = some v
theorem KeepX.refl (r : Nat) (w : World) : KeepX r w w := ⟨fun _ _ h _ => h, fun _ _ _ _ h => h⟩
theorem KeepX.trans {r : Nat} {a b c : World} (h : KeepX r a b) (k : KeepX r b c) : KeepX r a c := ⟨fun i o h1 h2 => k.1 i o (h.1 i o h1 h2) h2, fun j v h1 h2 h3 => k.2 j v h1 h2 (h.2 j v h1 h2 h3)⟩
theorem KeepX.below {r : Nat} {w w' : World} (h : Below w.heap.size w w') : KeepX r w w' := ⟨fun k o h1 _ => (h.block k (blk_lt h1)).trans h1, fun j v _ _ h1 => by
  have hlt : r < w.heap.size := by
    rcases Nat.lt_or_ge r w.heap.size with h' | h'
    · exact h'
    · simp [World.cell?, Array.getElem?_eq_none h'] at h1
  have hb := h.block r hlt
  unfold World.cell? at h1 ⊢
  rw [hb]
  exact h1⟩
theorem KeepX.set {r : Nat} (w : World) (j : Nat) (u : Value) (hj : j = 1 ∨ j = 5 := by decide) : KeepX r w (w.setCell ⟨r, j, none⟩ u) := ⟨fun k o h1 h2 => (Below.heap_setCell _ _ _ _ h2).trans h1, fun i v h1 h2 h3 => by
  rw [World.cell?_setCell_other _ _ _ _ (by intro h; simp only [Addr.mk.injEq] at h; omega)]
  exact h3⟩
theorem KeepX.R {r : Nat} {w w' : World} (h : KeepX r w w') : KeepR r w w' := fun k o h1 h2 _ _ => h.1 k o h1 h2
theorem Rd.move {B r : Nat} {tell : Value} {s : ByteArray} {st : St} {w w1 : World} (h : Rd B r tell s st w) (hb : Below w.heap.size w w1) : Rd B r tell s st w1 := by
  obtain ⟨h0, ov, pv, bv, h1, h2⟩ := h
  exact ⟨Nat.le_trans h0 hb.size, ov, pv, bv, h1.move hb, pw_own_below h2 hb⟩
/-- A store to one of the reader's own fields but the builder's. -/
theorem Rd.store {B r : Nat} {tell : Value} {s : ByteArray} {st st' : St} {w : World} {ov pv bv : Value} (h0 : B ≤ w.heap.size) (h1 : Bld 86 B r 3 (rcells s st ov pv bv tell) (Lib.byteCells st.text) w) (h2 : w.ownsRow B 9 1 ov st.opn.length (pw_strs st.opn))
    (j : Nat) (u : Value) (h3 : j ≠ 3) (h4 : j ≠ 3 + 1) (hc : (rcells s st ov pv bv tell).setIfInBounds j u = rcells s st' ov pv bv tell) (ht : st'.text = st.text) (ho : st'.opn = st.opn) : Rd B r tell s st' (w.setCell ⟨r, j, none⟩ u) := by
  refine ⟨by simpa [World.setCell] using h0, ov, pv, bv, ?_, ?_⟩
  · have := h1.other j h3 h4 u
    rw [hc] at this
    rw [ht]
    exact this
  · rw [ho]
    refine own_setCell h2 (fun e => ?_) u
    exact own_ne h2 h1.2.1 (by decide) e
theorem Rd.cells {B r : Nat} {tell : Value} {s : ByteArray} {st : St} {w : World} {ov pv bv : Value} (h1 : Bld 86 B r 3 (rcells s st ov pv bv tell) (Lib.byteCells st.text) w) :
    w.cell? ⟨r, 0, none⟩ = some (.string s) ∧ w.cell? ⟨r, 1, none⟩ = some (.int .i64 st.at_) ∧ w.cell? ⟨r, 2, none⟩ = some ov ∧ w.cell? ⟨r, 5, none⟩ = some (.int .i64 st.nodes) ∧ w.cell? ⟨r, 6, none⟩ = some tell ∧ w.frozen? ⟨r, 1, none⟩ = false ∧ w.frozen? ⟨r, 2, none⟩ = false ∧ w.frozen? ⟨r, 5, none⟩ = false :=
  ⟨(blk_cell h1.2.1 0).trans rfl, (blk_cell h1.2.1 1).trans rfl, (blk_cell h1.2.1 2).trans rfl, (blk_cell h1.2.1 5).trans rfl, (blk_cell h1.2.1 6).trans rfl, blk_frozen h1.2.1 1, blk_frozen h1.2.1 2, blk_frozen h1.2.1 5⟩
/-- What comes of a reader's method: it goes on, or it fails somewhere with a reason. -/
inductive Res (α : Type)
  | ok (v : α) (st : St)
  | bad (at_ why : Int)
def beginsF (st : St) (at_ : Int) : Res Unit := if 4096 ≤ st.nodes then .bad at_ 2 else if 64 ≤ st.opn.length then .bad at_ 2 else .ok () { st with nodes := st.nodes + 1 }
/-- The ending of a method, by its result. -/
def Ends {α : Type} (B r : Nat) (tell : Value) (s : ByteArray) (enc : α → Value) (w : World) (res : Res α) (e : Ending) (w' : World) : Prop :=
  Below B w w' ∧ KeepX r w w' ∧ match res with
  | .ok v st => e = .returned (enc v) ∧ Rd B r tell s st w'
  | .bad a y => e = .panicked [{ v := faultV a y, recovered := false }]
set_option maxHeartbeats 2000000 in
set_option maxRecDepth 100000 in
theorem begins_calls (B r : Nat) (tell : Value) (s : ByteArray) (st : St) (at_ : Int) (w : World) (h : Rd B r tell s st w) (hn : st.nodes ≤ 4611686018427387904) :
    Calls Tryz.prog 93 #[.pointer (some ⟨r, 0, none⟩), .int .i64 at_] w (Ends B r tell s (fun _ => .tuple #[]) w (beginsF st at_)) := by
  obtain ⟨h0, ov, pv, bv, h1, h2⟩ := h
  obtain ⟨c0, c1, c2, c5, c6, z1, z2, z5⟩ := Rd.cells h1
  have HB := Aside0.mk h1
  have HO := Aside0.mk h2
  obtain ⟨Ao, co, rfl⟩ := own_slice h2
  unfold beginsF
  clear h1 h2
  by_cases hn1 : 4096 ≤ st.nodes
  · have hd : decide ((st.nodes : Int) ≥ 4096) = true := decide_eq_true (by omega)
    have hd' : decide ((4096 : Int) ≤ (st.nodes : Int)) = true := decide_eq_true (by omega)
    rw [if_pos hn1]
    clear hn1
    go_enter Tryz.func93, Tryz.ntmps93
    go_wp2_with (go_at_call 43; refine (fail_calls r at_ 2 _).mono ?_; rintro e w' ⟨rfl, rfl⟩)
    exact ⟨rfl, Below.refl _ _, KeepX.refl _ _, rfl⟩
  have hd : decide ((st.nodes : Int) ≥ 4096) = false := decide_eq_false (by omega)
  have hd' : decide ((4096 : Int) ≤ (st.nodes : Int)) = false := decide_eq_false (by omega)
  rw [if_neg hn1]
  by_cases hn2 : 64 ≤ st.opn.length
  · have he : decide ((st.opn.length : Int) ≥ 64) = true := decide_eq_true (by omega)
    have he' : decide ((64 : Int) ≤ (st.opn.length : Int)) = true := decide_eq_true (by omega)
    rw [if_pos hn2]
    clear hn1 hn2
    go_enter Tryz.func93, Tryz.ntmps93
    go_wp2_with (go_at_call 43; refine (fail_calls r at_ 2 _).mono ?_; rintro e w' ⟨rfl, rfl⟩)
    exact ⟨rfl, Below.refl _ _, KeepX.refl _ _, rfl⟩
  have he : decide ((st.opn.length : Int) ≥ 64) = false := decide_eq_false (by omega)
  have he' : decide ((64 : Int) ≤ (st.opn.length : Int)) = false := decide_eq_false (by omega)
  rw [if_neg hn2]
  clear hn1 hn2
  go_enter Tryz.func93, Tryz.ntmps93
  go_wp2
  go_end0
  refine ⟨(Below.refl B w).setCell (p := ⟨r, 5, none⟩) HB.out.1 _, KeepX.set w 5 _, rfl, ?_⟩
  exact Rd.store (st' := { st with nodes := st.nodes + 1 }) h0 HB.out HO.out 5 _ (by decide) (by decide) (by simp [rcells]) rfl rfl
end Go.Proofs.YtealmfcimoomlaaGreatDoor.PA

/- scan.reader: next, must. -/
namespace Go.Proofs.YtealmfcimoomlaaGreatDoor.PA
open Go.RowKit Go.Proofs.YtealmfcimoomlaaGreatDoorW.PrintWords Go.Proofs.YtealmfcimoomlaaGreatDoorW.PrintLast Go.Proofs.YtealmfcimoomlaaGreatDoorW.PrintMore
set_option linter.unusedVariables false
set_option linter.unusedSimpArgs false
theorem Rd.drewN {B r : Nat} {tell : Value} {s : ByteArray} {st : St} {w : World} (h : Rd B r tell s st w) (n : Nat) : Rd B r tell s st (w.drewN n) := h
theorem KeepX.drewN (r : Nat) (w : World) (n : Nat) : KeepX r w (w.drewN n) := ⟨fun _ _ h _ => h, fun _ _ _ _ h => h⟩
def nextF (s : ByteArray) (st : St) : Res Int := if st.at_ = s.size then .bad st.at_ 4 else .ok (bt s st.at_) st
set_option maxHeartbeats 2000000 in
set_option maxRecDepth 100000 in
theorem next_calls (B r : Nat) (tell : Value) (s : ByteArray) (st : St) (w : World) (h : Rd B r tell s st w) (ha : st.at_ ≤ s.size) :
    Calls Tryz.prog 115 #[.pointer (some ⟨r, 0, none⟩)] w (Ends B r tell s (fun v => .int .u8 v) w (nextF s st)) := by
  have HR := Aside0.mk h
  obtain ⟨h0, ov, pv, bv, h1, h2⟩ := h
  obtain ⟨c0, c1, c2, c5, c6, z1, z2, z5⟩ := Rd.cells h1
  clear h1 h2 c2 c5 c6 z1 z2 z5
  unfold nextF
  by_cases hn : st.at_ = s.size
  · have hd : ((st.at_ : Int) == (s.size : Int)) = true := beq_iff_eq.mpr (by omega)
    rw [if_pos hn]
    clear hn
    go_enter Tryz.func115, Tryz.ntmps115
    go_wp2
    go_quiet (fail)
    go_wp2_with (go_at_call 43; refine (fail_calls r _ 4 _).mono ?_; rintro e w' ⟨rfl, rfl⟩)
    exact ⟨rfl, pw_below_drewN (Below.refl B w) _, KeepX.drewN r w _, rfl⟩
  · have hd : ((st.at_ : Int) == (s.size : Int)) = false := beq_eq_false_iff_ne.mpr (by omega)
    have hl : (st.at_ : Int) < (s.size : Int) := by omega
    rw [if_neg hn]
    clear hn
    go_enter Tryz.func115, Tryz.ntmps115
    go_wp2
    go_quiet (fail)
    go_wp2
    go_quiet (fail)
    go_wp2
    go_ret
    refine ⟨pw_below_drewN (pw_below_drewN (Below.refl B w) _) _, KeepX.trans (KeepX.drewN r w _) (KeepX.drewN r _ _), ?_, HR.out⟩
    have := bt_at s (st.at_ : Int) (by simpa using (by omega : st.at_ < s.size))
    rw [← this]
    rfl
/-- One behind the other. -/
def Res.bind {α β : Type} (x : Res α) (f : α → St → Res β) : Res β := match x with | .ok v st => f v st | .bad a y => .bad a y
def mustF (s : ByteArray) (st : St) (c : Int) : Res Unit := (nextF s st).bind fun v st => if v = c then .ok () { st with at_ := st.at_ + 1 } else .bad st.at_ 3
set_option maxHeartbeats 2000000 in
set_option maxRecDepth 100000 in
theorem must_calls (B r : Nat) (tell : Value) (s : ByteArray) (st : St) (c : Int) (w : World) (h : Rd B r tell s st w) (ha : st.at_ ≤ s.size) (hs : s.size ≤ 140737488355328) :
    Calls Tryz.prog 118 #[.pointer (some ⟨r, 0, none⟩), .int .u8 c] w (Ends B r tell s (fun _ => .tuple #[]) w (mustF s st c)) := by
  have HN := Aside0.mk (next_calls B r tell s st w h ha)
  have hB := h.1
  unfold mustF
  cases hx : nextF s st with
  | bad a y =>
    rw [hx] at HN
    simp only [Res.bind]
    clear h
    go_enter Tryz.func118, Tryz.ntmps118
    go_wp2_with (go_at_call 115; refine HN.out.mono ?_; rintro e w' ⟨hb, hk, rfl⟩)
    exact ⟨rfl, hb, hk, rfl⟩
  | ok v st1 =>
    have hst : st1 = st := by
      unfold nextF at hx
      split at hx
      · cases hx
      · injection hx with _ h2; exact h2.symm
    subst hst
    rw [hx] at HN
    simp only [Res.bind]
    clear h hx
    by_cases hv : v = c
    · have hd : (v != c) = false := bne_eq_false_iff_eq.mpr hv
      rw [if_pos hv]
      clear hv
      go_enter Tryz.func118, Tryz.ntmps118
      go_wp2_with (go_at_call 115; refine HN.out.mono ?_)
      rintro e w1 ⟨hb, hK, rfl, hR⟩
      obtain ⟨h0, ov, pv, bv, h1, h2⟩ := hR
      obtain ⟨c0, c1, c2, c5, c6, z1, z2, z5⟩ := Rd.cells h1
      have HB := Aside0.mk h1
      have HO := Aside0.mk h2
      clear h1 h2 c0 c2 c5 c6 z2 z5
      go_wp2
      go_end0
      refine ⟨(hb).setCell (p := ⟨r, 1, none⟩) HB.out.1 _, hK.trans (KeepX.set w1 1 _), rfl, ?_⟩
      exact Rd.store (st' := { st1 with at_ := st1.at_ + 1 }) h0 HB.out HO.out 1 _ (by decide) (by decide) (by simp [rcells]) rfl rfl
    · have hd : (v != c) = true := bne_iff_ne.mpr hv
      rw [if_neg hv]
      clear hv
      go_enter Tryz.func118, Tryz.ntmps118
      go_wp2_with (go_at_call 115; refine HN.out.mono ?_)
      rintro e w1 ⟨hb, hK, rfl, hR⟩
      obtain ⟨h0, ov, pv, bv, h1, h2⟩ := hR
      obtain ⟨c0, c1, c2, c5, c6, z1, z2, z5⟩ := Rd.cells h1
      clear h1 h2 c0 c2 c5 c6 z2 z5
      go_wp2_with (go_at_call 43; refine (fail_calls r _ 3 _).mono ?_; rintro e w' ⟨rfl, rfl⟩)
      exact ⟨rfl, hb, hK, rfl⟩
end Go.Proofs.YtealmfcimoomlaaGreatDoor.PA

-- The layings of (*strings.Builder)'s writers at this translation: written by wip/tools/shelf.py.
set_option linter.unusedVariables false
namespace Go.Proofs
def Tryz.lays166_ren : Go.Shelf.Ren := ⟨fun | 166 => 58 | 240 => 77 | 276 => 104 | n => n, fun | 0 => 0 | 3 => 3 | 4 => 4 | 9 => 9 | 20 => 20 | 37 => 44 | 70 => 68 | 72 => 70 | 75 => 102 | 80 => 74 | 164 => 125 | 5 => 5 | n => n, fun | n => n⟩
theorem Tryz.lays166 : Go.Proofs.Lays.n166 Tryz.prog Tryz.lays166_ren := {
  mixed := by kernel_rfl
  f166 := Tryz.func58.trans (congrArg some (by kernel_rfl))
  f240 := Tryz.func77.trans (congrArg some (by kernel_rfl))
  f276 := Tryz.func104.trans (congrArg some (by kernel_rfl))
  t0 := Tryz.underlying0
  a0 := Tryz.isAgg0
  z0 := Tryz.sizeOf0
  v0 := Tryz.zeroValue0
  t3 := Tryz.underlying3
  a3 := Tryz.isAgg3
  z3 := Tryz.sizeOf3
  v3 := Tryz.zeroValue3
  t4 := Tryz.underlying4
  a4 := Tryz.isAgg4
  z4 := Tryz.sizeOf4
  v4 := Tryz.zeroValue4
  t9 := Tryz.underlying9
  a9 := Tryz.isAgg9
  z9 := Tryz.sizeOf9
  v9 := Tryz.zeroValue9
  t20 := Tryz.underlying20
  a20 := Tryz.isAgg20
  z20 := Tryz.sizeOf20
  v20 := Tryz.zeroValue20
  t37 := Tryz.underlying44
  a37 := Tryz.isAgg44
  z37 := Tryz.sizeOf44
  v37 := Tryz.zeroValue44
  t70 := Tryz.underlying68
  a70 := Tryz.isAgg68
  z70 := Tryz.sizeOf68
  v70 := Tryz.zeroValue68
  t72 := Tryz.underlying70
  a72 := Tryz.isAgg70
  z72 := Tryz.sizeOf70
  v72 := Tryz.zeroValue70
  t75 := Tryz.underlying102
  a75 := Tryz.isAgg102
  z75 := Tryz.sizeOf102
  v75 := Tryz.zeroValue102
  t164 := Tryz.underlying125
  a164 := Tryz.isAgg125
  z164 := Tryz.sizeOf125
  v164 := Tryz.zeroValue125 }
def Tryz.lays167_ren : Go.Shelf.Ren := ⟨fun | 167 => 59 | 240 => 77 | 276 => 104 | n => n, fun | 0 => 0 | 4 => 4 | 5 => 5 | 9 => 9 | 20 => 20 | 37 => 44 | 70 => 68 | 72 => 70 | 75 => 102 | 80 => 74 | 164 => 125 | n => n, fun | n => n⟩
theorem Tryz.lays167 : Go.Proofs.Lays.n167 Tryz.prog Tryz.lays167_ren := {
  mixed := by kernel_rfl
  f167 := Tryz.func59.trans (congrArg some (by kernel_rfl))
  f240 := Tryz.func77.trans (congrArg some (by kernel_rfl))
  f276 := Tryz.func104.trans (congrArg some (by kernel_rfl))
  t0 := Tryz.underlying0
  a0 := Tryz.isAgg0
  z0 := Tryz.sizeOf0
  v0 := Tryz.zeroValue0
  t4 := Tryz.underlying4
  a4 := Tryz.isAgg4
  z4 := Tryz.sizeOf4
  v4 := Tryz.zeroValue4
  t5 := Tryz.underlying5
  a5 := Tryz.isAgg5
  z5 := Tryz.sizeOf5
  v5 := Tryz.zeroValue5
  t9 := Tryz.underlying9
  a9 := Tryz.isAgg9
  z9 := Tryz.sizeOf9
  v9 := Tryz.zeroValue9
  t20 := Tryz.underlying20
  a20 := Tryz.isAgg20
  z20 := Tryz.sizeOf20
  v20 := Tryz.zeroValue20
  t37 := Tryz.underlying44
  a37 := Tryz.isAgg44
  z37 := Tryz.sizeOf44
  v37 := Tryz.zeroValue44
  t70 := Tryz.underlying68
  a70 := Tryz.isAgg68
  z70 := Tryz.sizeOf68
  v70 := Tryz.zeroValue68
  t72 := Tryz.underlying70
  a72 := Tryz.isAgg70
  z72 := Tryz.sizeOf70
  v72 := Tryz.zeroValue70
  t75 := Tryz.underlying102
  a75 := Tryz.isAgg102
  z75 := Tryz.sizeOf102
  v75 := Tryz.zeroValue102
  t164 := Tryz.underlying125
  a164 := Tryz.isAgg125
  z164 := Tryz.sizeOf125
  v164 := Tryz.zeroValue125 }
end Go.Proofs

-- The shelf's contracts at this translation, in plain words: written by the kit's lay-shelf.mjs and lay-plain.mjs through wip/tools/shelf.py.
set_option linter.unusedVariables false
namespace Go.Proofs
open Go.Shelf
def Tryz.lays170_ren : Go.Shelf.Ren := ⟨fun | 170 => 50 | n => n, fun | 70 => 68 | 3 => 3 | 0 => 0 | 72 => 70 | 37 => 44 | 5 => 5 | n => n, fun | n => n⟩
theorem Tryz.lays170 : Go.Proofs.Lays.n170 Tryz.prog Tryz.lays170_ren := {
  mixed := by kernel_rfl
  f170 := Tryz.func50.trans (congrArg some (by kernel_rfl))
  t0 := Tryz.underlying0
  a0 := Tryz.isAgg0
  z0 := Tryz.sizeOf0
  v0 := Tryz.zeroValue0
  t3 := Tryz.underlying3
  a3 := Tryz.isAgg3
  z3 := Tryz.sizeOf3
  v3 := Tryz.zeroValue3
  t37 := Tryz.underlying44
  a37 := Tryz.isAgg44
  z37 := Tryz.sizeOf44
  v37 := Tryz.zeroValue44
  t70 := Tryz.underlying68
  a70 := Tryz.isAgg68
  z70 := Tryz.sizeOf68
  v70 := Tryz.zeroValue68
  t72 := Tryz.underlying70
  a72 := Tryz.isAgg70
  z72 := Tryz.sizeOf70
  v72 := Tryz.zeroValue70 }
theorem Tryz.Builder_Extra_167 : Builder.Extra Tryz.prog Tryz.lays167_ren := {
  sizeBuilder := by kernel_rfl
  liesBuilder := by kernel_rfl
  t5 := Tryz.underlying5
  a5 := Tryz.isAgg5
  z5 := Tryz.sizeOf5
  v5 := Tryz.zeroValue5
  infoByte := by kernel_rfl
  cellsByte := by kernel_rfl
  sizeByte := by kernel_rfl
  neB5 := by decide }
theorem Tryz.Builder_Extra_166 : Builder.Extra Tryz.prog Tryz.lays166_ren := {
  sizeBuilder := by kernel_rfl
  liesBuilder := by kernel_rfl
  t5 := Tryz.underlying5
  a5 := Tryz.isAgg5
  z5 := Tryz.sizeOf5
  v5 := Tryz.zeroValue5
  infoByte := by kernel_rfl
  cellsByte := by kernel_rfl
  sizeByte := by kernel_rfl
  neB5 := by decide }
def Tryz.lays169_ren : Go.Shelf.Ren := ⟨fun | 169 => 31 | n => n, fun | 70 => 68 | 9 => 9 | 0 => 0 | 72 => 70 | 37 => 44 | 127 => 96 | 3 => 3 | 5 => 5 | n => n, fun | n => n⟩
theorem Tryz.lays169 : Go.Proofs.Lays.n169 Tryz.prog Tryz.lays169_ren := {
  mixed := by kernel_rfl
  f169 := Tryz.func31.trans (congrArg some (by kernel_rfl))
  t0 := Tryz.underlying0
  a0 := Tryz.isAgg0
  z0 := Tryz.sizeOf0
  v0 := Tryz.zeroValue0
  t3 := Tryz.underlying3
  a3 := Tryz.isAgg3
  z3 := Tryz.sizeOf3
  v3 := Tryz.zeroValue3
  t9 := Tryz.underlying9
  a9 := Tryz.isAgg9
  z9 := Tryz.sizeOf9
  v9 := Tryz.zeroValue9
  t37 := Tryz.underlying44
  a37 := Tryz.isAgg44
  z37 := Tryz.sizeOf44
  v37 := Tryz.zeroValue44
  t70 := Tryz.underlying68
  a70 := Tryz.isAgg68
  z70 := Tryz.sizeOf68
  v70 := Tryz.zeroValue68
  t72 := Tryz.underlying70
  a72 := Tryz.isAgg70
  z72 := Tryz.sizeOf70
  v72 := Tryz.zeroValue70
  t127 := Tryz.underlying96
  a127 := Tryz.isAgg96
  z127 := Tryz.sizeOf96
  v127 := Tryz.zeroValue96 }
theorem Tryz.Builder_Extra_169 : Builder.Extra Tryz.prog Tryz.lays169_ren := {
  sizeBuilder := by kernel_rfl
  liesBuilder := by kernel_rfl
  t5 := Tryz.underlying5
  a5 := Tryz.isAgg5
  z5 := Tryz.sizeOf5
  v5 := Tryz.zeroValue5
  infoByte := by kernel_rfl
  cellsByte := by kernel_rfl
  sizeByte := by kernel_rfl
  neB5 := by decide }
open Go.RowKit in
/-- (*strings.Builder).Len: "Len returns the number of accumulated bytes; b.Len() == len(b.String()).": the world is as it was. (THE FORM '_f': 'Lib.IsBuilderF'.) (LAID: no walk: one application.) -/
theorem Tryz.Builder_Len_f (B b : Nat) (bs : List Value) (w : World) (h : Lib.IsBuilderF 70 5 B b bs w) :
    Calls Tryz.prog 50 #[.pointer (some ⟨b, 0, none⟩)] w fun e w' => e = .returned (.int .i64 bs.length) ∧ w' = w := Any.Builder_Len_f Tryz.lays170 B b bs w h
open Go.RowKit in
/-- (*strings.Builder).WriteByte: "WriteByte appends the byte c to b's buffer. The returned error is always nil.": UNDER Go's OWN LIMIT: the new length takes at most 2^47 bytes. (LAID: no walk: one application.) -/
theorem Tryz.Builder_WriteByte_k (B b : Nat) (bs : List Value) (c : Int) (w : World) (h : Lib.IsBuilderF 70 5 B b bs w) (hlen : bs.length + 1 ≤ 140737488355328) (hBw : B ≤ w.heap.size) :
    Calls Tryz.prog 59 #[.pointer (some ⟨b, 0, none⟩), .int .u8 c] w fun e w' => e = .returned .nilIface ∧ (Lib.BuilderAtF 70 5 B b (.pointer (some ⟨b, 0, none⟩)) (bs ++ [.int .u8 c]) w' ∧ Below B w w' ∧ Lib.OthersKept 5 (some b) w w') := Any.Builder_WriteByte_k Tryz.lays167 Tryz.Builder_Extra_167 B b bs c w h hlen hBw
open Go.RowKit in
/-- (*strings.Builder).WriteString: "WriteString appends the contents of s to b's buffer. It returns the length of s and a nil error.": UNDER Go's OWN LIMIT: the new length takes at most 2^47 bytes. THE FORM '_k': OVER 'Lib.IsBuilderF' (a builder that 'String()' may have read), AND WITH THE FRAME THAT REACHES ABOVE THE BUILDER: 'Lib.OthersKept': every block that is not b and is no row of uint8's stands as it stood: the iterator of a range among them.' HAS READ, TOO: the bytes go in BEHIND what is frozen, or, where there is no room, all goes over into a new row.) (LAID: no walk: one application.) -/
theorem Tryz.Builder_WriteString_k (B b : Nat) (bs : List Value) (s : ByteArray) (w : World) (h : Lib.IsBuilderF 70 5 B b bs w) (hlen : bs.length + s.size ≤ 140737488355328) (hBw : B ≤ w.heap.size) :
    Calls Tryz.prog 58 #[.pointer (some ⟨b, 0, none⟩), .string s] w fun e w' => e = .returned (.tuple #[.int .i64 s.size, .nilIface]) ∧ (Lib.BuilderAtF 70 5 B b (.pointer (some ⟨b, 0, none⟩)) (bs ++ Lib.strCells s) w' ∧ Below B w w' ∧ Lib.OthersKept 5 (some b) w w') := Any.Builder_WriteString_k Tryz.lays166 Tryz.Builder_Extra_166 B b bs s w h hlen hBw
open Go.RowKit in
/-- (*strings.Builder).String: "String returns the accumulated string.": WHATEVER THE BUILDER HOLDS; THE FORM '_k': OVER 'Lib.IsBuilderF' (a builder that 'String()' may have read), AND WITH THE FRAME THAT REACHES ABOVE THE BUILDER: 'Lib.OthersKept': every block that is not b and is no row of uint8's stands as it stood: the iterator of a range among them. (LAID: no walk: one application.) -/
theorem Tryz.Builder_String_any_k (B b : Nat) (l : List UInt8) (w : World) (h : Lib.IsBuilderF 70 5 B b (Lib.byteCells l) w) (hBw : B ≤ w.heap.size) :
    Calls Tryz.prog 31 #[.pointer (some ⟨b, 0, none⟩)] w fun e w' => e = .returned (.string ⟨l.toArray⟩) ∧ (Lib.IsBuilderF 70 5 B b (Lib.byteCells l) w' ∧ Below B w w' ∧ Lib.OthersKept 5 (some b) w w') := Any.Builder_String_any_k Tryz.lays169 Tryz.Builder_Extra_169 B b l w h hBw
def Tryz.lays195_ren : Go.Shelf.Ren := ⟨fun | 195 => 52 | n => n, fun | 9 => 9 | 3 => 3 | 0 => 0 | 4 => 4 | n => n, fun | n => n⟩
theorem Tryz.lays195 : Go.Proofs.Lays.n195 Tryz.prog Tryz.lays195_ren := {
  mixed := by kernel_rfl
  f195 := Tryz.func52.trans (congrArg some (by kernel_rfl))
  t0 := Tryz.underlying0
  a0 := Tryz.isAgg0
  z0 := Tryz.sizeOf0
  v0 := Tryz.zeroValue0
  t3 := Tryz.underlying3
  a3 := Tryz.isAgg3
  z3 := Tryz.sizeOf3
  v3 := Tryz.zeroValue3
  t4 := Tryz.underlying4
  a4 := Tryz.isAgg4
  z4 := Tryz.sizeOf4
  v4 := Tryz.zeroValue4
  t9 := Tryz.underlying9
  a9 := Tryz.isAgg9
  z9 := Tryz.sizeOf9
  v9 := Tryz.zeroValue9 }
open Go.RowKit in
/-- unicode/utf8.RuneCountInString: "RuneCountInString is like RuneCount but its input is a string." ("RuneCount returns the number of runes in p. Erroneous and short encodings are treated as single runes of width 1 byte."): EVERY STRING, valid UTF-8 or not: 'Lib.runeCount s' (plain Lean over the model's own 'Utf8.decode'; 'Lib.runeCount_le': at most len(s); 'Lib.runeCount_ascii': on ASCII: len(s)). THE ONE CONDITION: len(s) below 2^63 - 1 (the counter does not wrap): the form's reach pays it. THE WORLD BEHIND THE CALL: ONE BLOCK MORE: the model's iterator over s, at its end: all else as it was. (LAID: no walk: one application.) -/
theorem Tryz.utf8_RuneCountInString (s : ByteArray) (w : World) (hs : s.size < 9223372036854775807) :
    Calls Tryz.prog 52 #[.string s] w fun e w' => e = .returned (.int .i64 (Lib.runeCount s)) ∧ ∃ pos, w' = w.iter s pos := Any.utf8_RuneCountInString Tryz.lays195 s w hs
def Tryz.lays321_ren : Go.Shelf.Ren := ⟨fun | 321 => 171 | n => n, fun | 5 => 5 | n => n, fun | n => n⟩
theorem Tryz.lays321 : Go.Proofs.Lays.n321 Tryz.prog Tryz.lays321_ren := {
  mixed := by kernel_rfl
  f321 := Tryz.func171.trans (congrArg some (by kernel_rfl))
  t5 := Tryz.underlying5
  a5 := Tryz.isAgg5
  z5 := Tryz.sizeOf5
  v5 := Tryz.zeroValue5 }
open Go.RowKit in
/-- internal/strconv.lower: 'c | ('x' - 'X')': the bit 32 set. The world is as it was. (LAID: no walk: one application.) -/
theorem Tryz.internal_strconv_lower (c : Int) (w : World) :
    Calls Tryz.prog 171 #[.int .u8 c] w fun e w' => e = .returned (.int .u8 (bits .or .u8 c 32)) ∧ w' = w := Any.internal_strconv_lower Tryz.lays321 c w
def Tryz.lays99_ren : Go.Shelf.Ren := ⟨fun | 99 => 88 | 206 => 114 | n => n, fun | 9 => 9 | 4 => 4 | 3 => 3 | n => n, fun | n => n⟩
theorem Tryz.lays99 : Go.Proofs.Lays.n99 Tryz.prog Tryz.lays99_ren := {
  mixed := by kernel_rfl
  f99 := Tryz.func88.trans (congrArg some (by kernel_rfl))
  f206 := Tryz.func114.trans (congrArg some (by kernel_rfl))
  t3 := Tryz.underlying3
  a3 := Tryz.isAgg3
  z3 := Tryz.sizeOf3
  v3 := Tryz.zeroValue3
  t4 := Tryz.underlying4
  a4 := Tryz.isAgg4
  z4 := Tryz.sizeOf4
  v4 := Tryz.zeroValue4
  t9 := Tryz.underlying9
  a9 := Tryz.isAgg9
  z9 := Tryz.sizeOf9
  v9 := Tryz.zeroValue9 }
open Go.RowKit Go.Lib in
/-- strings.HasPrefix: "HasPrefix reports whether the string s begins with prefix.": IT RETURNS 'Lib.hasPrefix s prefix'; the world is as it was. (LAID: no walk: one application.) -/
theorem Tryz.strings_HasPrefix (s p : ByteArray) (w : World) :
    Calls Tryz.prog 88 #[.string s, .string p] w fun e w' => e = .returned (.bool (Lib.hasPrefix s.data.toList p.data.toList)) ∧ w' = w := Any.strings_HasPrefix Tryz.lays99 s p w
def Tryz.lays197_ren : Go.Shelf.Ren := ⟨fun | 197 => 102 | 260 => 124 | n => n, fun | 9 => 9 | 21 => 21 | 3 => 3 | 4 => 4 | 5 => 5 | 105 => 122 | 119 => 148 | 0 => 0 | 46 => 121 | 139 => 151 | 138 => 150 | n => n, fun | 3 => 2 | 4 => 3 | n => n⟩
theorem Tryz.lays197 : Go.Proofs.Lays.n197 Tryz.prog Tryz.lays197_ren := {
  mixed := by kernel_rfl
  f197 := Tryz.func102.trans (congrArg some (by kernel_rfl))
  f260 := Tryz.func124.trans (congrArg some (by kernel_rfl))
  t0 := Tryz.underlying0
  a0 := Tryz.isAgg0
  z0 := Tryz.sizeOf0
  v0 := Tryz.zeroValue0
  t3 := Tryz.underlying3
  a3 := Tryz.isAgg3
  z3 := Tryz.sizeOf3
  v3 := Tryz.zeroValue3
  t4 := Tryz.underlying4
  a4 := Tryz.isAgg4
  z4 := Tryz.sizeOf4
  v4 := Tryz.zeroValue4
  t5 := Tryz.underlying5
  a5 := Tryz.isAgg5
  z5 := Tryz.sizeOf5
  v5 := Tryz.zeroValue5
  t9 := Tryz.underlying9
  a9 := Tryz.isAgg9
  z9 := Tryz.sizeOf9
  v9 := Tryz.zeroValue9
  t21 := Tryz.underlying21
  a21 := Tryz.isAgg21
  z21 := Tryz.sizeOf21
  v21 := Tryz.zeroValue21
  t46 := Tryz.underlying121
  a46 := Tryz.isAgg121
  z46 := Tryz.sizeOf121
  v46 := Tryz.zeroValue121
  t105 := Tryz.underlying122
  a105 := Tryz.isAgg122
  z105 := Tryz.sizeOf122
  v105 := Tryz.zeroValue122
  t119 := Tryz.underlying148
  a119 := Tryz.isAgg148
  z119 := Tryz.sizeOf148
  t138 := Tryz.underlying150
  a138 := Tryz.isAgg150
  z138 := Tryz.sizeOf150
  v138 := Tryz.zeroValue150
  t139 := Tryz.underlying151
  a139 := Tryz.isAgg151
  z139 := Tryz.sizeOf151
  v139 := Tryz.zeroValue151
  g3 := by kernel_rfl
  g4 := by kernel_rfl }
open Go.RowKit Go.Lib in
/-- **unicode/utf8.DecodeRuneInString AT EVERY STRING.** (LAID: no walk: one application.) -/
theorem Tryz.utf8_DecodeRuneInString (s : ByteArray) (w : World) (hT : Lib.Utf8Tabs 2 3 w) :
    Calls Tryz.prog 102 #[.string s] w fun e w' => e = .returned (.tuple #[.int .i32 (Lib.decodeGo s).1, .int .i64 (Lib.decodeGo s).2]) ∧ Below w.heap.size w w' := Any.utf8_DecodeRuneInString Tryz.lays197 s w hT
end Go.Proofs

/- unicode/utf8's functions, by the shelf's contracts, in the form in which the printed functions call them. -/
namespace Go.Proofs.YtealmfcimoomlaaGreatDoor.PA
open Go.RowKit Go.Proofs.YtealmfcimoomlaaGreatDoorW.PrintWords Go.Proofs.YtealmfcimoomlaaGreatDoorW.PrintLast Go.Proofs.YtealmfcimoomlaaGreatDoorW.PrintMore
def utf8_DecodeRuneInString.f (a0 : ByteArray) : Option (Int × Int) := some (((Lib.decodeGo a0).1 : Int), ((Lib.decodeGo a0).2 : Int))
theorem utf8_DecodeRuneInString.calls (a0 : ByteArray) (r1 r2 : Int) (w : World) (h : utf8_DecodeRuneInString.f a0 = some (r1, r2)) (hG : Glob w := by first | exact Glob.step HG.out (by repeat (first | (with_reducible first | exact HB.out | apply below_alloc | apply pw_below_drewN | apply below_drew1) | exact HB.out | (refine below_set ?_ (Aside0.out (by assumption))))) | exact HG.out | assumption) :
    Calls Tryz.prog 102 #[.string a0] w fun e w' => e = .returned (.tuple #[.int .i32 r1, .int .i64 r2]) ∧ Below w.heap.size w w' := by
  simp only [utf8_DecodeRuneInString.f, Option.some.injEq, Prod.mk.injEq] at h
  obtain ⟨rfl, rfl⟩ := h
  exact Tryz.utf8_DecodeRuneInString a0 w hG
def utf8_RuneCountInString.f (a0 : ByteArray) : Option Int := if a0.size < 9223372036854775807 then some (Lib.runeCount a0 : Int) else none
theorem utf8_RuneCountInString.calls (a0 : ByteArray) (r : Int) (w : World) (h : utf8_RuneCountInString.f a0 = some r) :
    Calls Tryz.prog 52 #[.string a0] w fun e w' => e = .returned (.int .i64 r) ∧ Below w.heap.size w w' := by
  unfold utf8_RuneCountInString.f at h
  by_cases hs : a0.size < 9223372036854775807
  · rw [if_pos hs] at h
    obtain rfl := Option.some.inj h
    refine (Tryz.utf8_RuneCountInString a0 w hs).mono ?_
    rintro e w' ⟨rfl, pos, rfl⟩
    exact ⟨rfl, (Below.refl _ w).alloc (Nat.le_refl _) _⟩
  · rw [if_neg hs] at h
    exact absurd h (by simp)
end Go.Proofs.YtealmfcimoomlaaGreatDoor.PA
