/- Texts of this claim, one behind the other: UWriter, USolid. Conditions: those of each theorem. -/
import Derived.Test.YtealmfcimoomlaaGreatDoorUBuild
import Derived.Test.YtealmfcimoomlaaGreatDoorPTree
import Derived.Lib.BufferKept
import Derived.Deep.RegionHeld3
import Derived.Shelf.SlicesQ.IndexFunc
import Derived.Lib.Hide
/- markup.writer: full, put, escaped, tree, Print, over a strings.Builder that lies in a writer. -/
namespace Go.Proofs.YtealmfcimoomlaaGreatDoor.PA
open Go.RowKit Go.Proofs.YtealmfcimoomlaaGreatDoorW.PrintWords Go.Proofs.YtealmfcimoomlaaGreatDoorW.PrintLast Go.Proofs.YtealmfcimoomlaaGreatDoorW.PrintMore
set_option linter.unusedVariables false
set_option linter.unusedSimpArgs false
theorem lies_writer : liesAt Tryz.prog Tryz.prog.depth 72 (2 / Tryz.prog.cellsOf 72) 0 70 1 = true := by kernel_rfl
/-- A writer (block b) that has written bs. -/
def Wri (B b : Nat) (bs : List UInt8) (w : World) : Prop := B ≤ w.heap.size ∧ ∃ cs : Array Value, cs.size = 2 ∧ Bld 72 B b 0 cs (Lib.byteCells bs) w
set_option maxHeartbeats 1000000 in
set_option maxRecDepth 100000 in
theorem full_calls (B b : Nat) (bs : List UInt8) (w : World) (h : Wri B b bs w) :
    Calls Tryz.prog 30 #[.pointer (some ⟨b, 0, none⟩)] w fun e w' => e = .returned (.bool (decide (262144 < bs.length))) ∧ w' = w := by
  obtain ⟨hBw, cs, hcs, hb⟩ := h
  go_enter Tryz.func30, Tryz.ntmps30
  go_wp2_with (go_at_call 50; refine (Len_at 72 B b 0 cs (Lib.byteCells bs) _ hb).mono ?_; rintro e w1 ⟨rfl, rfl⟩)
  go_ret
  refine ⟨?_, rfl⟩
  rw [Lib.byteCells_length]
  exact congrArg (fun z => Ending.returned (Value.bool z)) (decide_eq_decide.mpr (show ((262144 : Int) < (bs.length : Int)) ↔ 262144 < bs.length by omega))
theorem cell_same {w w' : World} {a : Addr} (h : w'.heap[a.block]? = w.heap[a.block]?) : w'.cell? a = w.cell? a := by simp only [World.cell?, h]
theorem bytes_str (l : List UInt8) (s : ByteArray) : Lib.byteCells (l ++ s.data.toList) = Lib.byteCells l ++ Lib.strCells s := by rw [Lib.byteCells_append]; rfl
/-- A row of texts that no writer and no buffer is. -/
def Strs (b : Nat) (ad : Addr) (xs : List ByteArray) (w : World) : Prop :=
  (∃ cells T fz, w.heap[ad.block]? = some (.cells cells T fz) ∧ T ≠ 5 ∧ ad.block ≠ b) ∧ ∀ i (h : i < xs.length), w.cell? (ad.add i) = some (.string xs[i])
theorem Strs.step {b : Nat} {ad : Addr} {xs : List ByteArray} {w w' : World} (h : Strs b ad xs w) (k : Lib.OthersKept 5 (some b) w w') : Strs b ad xs w' := by
  obtain ⟨⟨cells, T, fz, h1, h2, h3⟩, h4⟩ := h
  have h5 := k _ _ h1 (fun e => h3 (Option.some.inj e)) (fun c fz' e => by injection e with _ e _; exact h2 e)
  refine ⟨⟨cells, T, fz, h5, h2, h3⟩, fun i hi => ?_⟩
  exact (cell_same (a := ad.add i) (by rw [add_block]; exact h5.trans h1.symm)).trans (h4 i hi)
set_option maxHeartbeats 4000000 in
set_option maxRecDepth 100000 in
theorem put_calls (B b : Nat) (bs : List UInt8) (ad : Addr) (c : Nat) (xs : List ByteArray) (w : World) (h : Wri B b bs w) (hx : Strs b ad xs w) (hs : ∀ s ∈ xs, s.size ≤ 140737488000000) (hl : xs.length ≤ 1000000) :
    Calls Tryz.prog 47 #[.pointer (some ⟨b, 0, none⟩), .slice (some ad) xs.length c] w fun e w' => e = .returned (.tuple #[]) ∧ Wri B b (putF bs xs) w' ∧ Below B w w' ∧ Lib.OthersKept 5 (some b) w w' := by
  have hs' := Aside0.mk hs
  have hx' := Aside0.mk hx
  have h' := Aside0.mk h
  clear hs hx h
  go_enter Tryz.func47, Tryz.ntmps47
  go_wp2
  go_loopw [8] (fun v wr => ∃ i : Nat, i ≤ xs.length ∧ v = .int .i64 i ∧ Aside0 (Wri B b (putF bs (xs.take i)) wr) ∧ Aside0 (Below B w wr) ∧ Aside0 (Lib.OthersKept 5 (some b) w wr)) (fun v _ => xs.length - (intOf v).toNat)
  case atStart => exact ⟨0, Nat.zero_le _, rfl, ⟨h'.out⟩, ⟨Below.refl _ _⟩, ⟨Lib.OthersKept.refl _ _ _⟩⟩
  case round =>
    obtain ⟨i, hi, rfl, hW, hB, hK⟩ := hrel
    by_cases hlt : i < xs.length
    · have hc := (hx'.out.step hK.out).2 i hlt
      have hti := Aside0.mk (show putF bs (xs.take (i + 1)) = put1 (putF bs (xs.take i)) xs[i] by rw [List.take_succ_eq_append_getElem hlt]; unfold putF; rw [List.foldl_append]; rfl)
      obtain ⟨B1, hB1⟩ : ∃ l, putF bs (xs.take i) = l := ⟨_, rfl⟩
      rw [hB1] at hW hti
      by_cases hf : 262144 < B1.length
      · have hd : decide (262144 < B1.length) = true := decide_eq_true hf
        go_wp2_with (go_at_call 30; refine (full_calls B b B1 _ hW.out).mono ?_; rintro e w1 ⟨rfl, rfl⟩)
        go_roundw
        case rel => exact ⟨i + 1, by omega, by go_num, ⟨by rw [hti.out, put1, if_pos hf]; exact hW.out⟩, hB, hK⟩
        case measure => simp [intOf]; omega
      · have hd : decide (262144 < B1.length) = false := decide_eq_false hf
        go_wp2_with (go_at_call 30; refine (full_calls B b B1 _ hW.out).mono ?_; rintro e w1 ⟨rfl, rfl⟩)
        obtain ⟨hBw, cs, hcs, hb⟩ := hW.out
        have hsz := Aside0.mk (hs'.out xs[i] (List.getElem_mem hlt))
        go_wp2_with (go_at_call 58; refine (WriteString_at 72 B b 0 cs (Lib.byteCells B1) xs[i] _ hb (by rw [Lib.byteCells_length]; have := hsz.out; omega) hBw (by decide) (by rw [hcs]; exact lies_writer)).mono ?_; rintro e w2 ⟨rfl, cs2, ho2, hb2, hB2, hK2⟩)
        go_roundw
        case rel => exact ⟨i + 1, by omega, by go_num, ⟨by rw [hti.out, put1, if_neg hf]; exact ⟨Nat.le_trans hBw hB2.size, cs2, ho2.1.trans hcs, by rw [bytes_str]; exact hb2⟩⟩, ⟨hB.out.trans hB2⟩, ⟨hK.out.trans hK2⟩⟩
        case measure => simp [intOf]; omega
    · go_wp2
      go_end0
      have : xs.take i = xs := List.take_of_length_le (by omega)
      rw [this] at hW
      exact ⟨rfl, hW.out, hB.out, hK.out⟩
theorem Wri.alloc {B b : Nat} {bs : List UInt8} {w : World} (h : Wri B b bs w) (x : Obj) : Wri B b bs (w.alloc x) := by
  obtain ⟨h1, cs, h2, h3⟩ := h
  exact ⟨Nat.le_trans h1 (by simp), cs, h2, h3.alloc x⟩
theorem Wri.move {B b : Nat} {bs : List UInt8} {w w1 : World} (h : Wri B b bs w) (hb : Below w.heap.size w w1) : Wri B b bs w1 := by
  obtain ⟨h1, cs, h2, h3⟩ := h
  exact ⟨Nat.le_trans h1 hb.size, cs, h2, h3.move hb⟩
theorem Wri.lt {B b : Nat} {bs : List UInt8} {w : World} (h : Wri B b bs w) : b < w.heap.size := by
  obtain ⟨h1, cs, h2, h3⟩ := h
  exact h3.lt
/-- 'put' of texts that stand in a row made for it. -/
theorem put_built (B b : Nat) (bs : List UInt8) (xs : List ByteArray) (w : World) (q : Nat) (hq : q = w.heap.size) (h : Wri B b bs w) (hs : ∀ s ∈ xs, s.size ≤ 140737488000000) (hl : xs.length ≤ 1000000) :
    Calls Tryz.prog 47 #[.pointer (some ⟨b, 0, none⟩), .slice (some ⟨q, 0, none⟩) xs.length xs.length] (w.alloc (.cells (xs.map Value.string).toArray 9)) fun e w' => e = .returned (.tuple #[]) ∧ Wri B b (putF bs xs) w' ∧ Below B w w' ∧ Lib.OthersKept 5 (some b) w w' := by
  subst hq
  have hnew : (w.alloc (.cells (xs.map Value.string).toArray 9)).heap[w.heap.size]? = some (.cells (xs.map Value.string).toArray 9 (0, 0)) := heap_alloc_new w _
  refine (put_calls B b bs ⟨w.heap.size, 0, none⟩ xs.length xs _ (h.alloc _) ⟨⟨_, _, _, hnew, by decide, by have := h.lt; show w.heap.size ≠ b; omega⟩, fun i hi => ?_⟩ hs hl).mono ?_
  · have : (⟨w.heap.size, 0, none⟩ : Addr).add i = ⟨w.heap.size, i, none⟩ := by rw [Addr.add_lit, Nat.zero_add]
    rw [this, Lib.cell_of_heap hnew]
    simp only [List.getElem?_toArray, List.getElem?_map, List.getElem?_eq_getElem hi, Option.map_some]
  · rintro e w' ⟨rfl, h1, h2, h3⟩
    exact ⟨rfl, h1, ((Below.refl B w).alloc h.1 _).trans h2, ((Lib.OthersKept.refl _ _ w).alloc _).trans h3⟩
set_option maxHeartbeats 4000000 in
set_option maxRecDepth 100000 in
theorem escaped_calls (k B b : Nat) (bs : List UInt8) (s : ByteArray) (q : Bool) (r1 : ByteArray) (r2 r3 : Int) (w : World) (h : Wri B b bs w) (he : chars_Escape.f k s q = some (r1, r2, r3)) (hr : r1.size ≤ 140737488000000) (hG : Glob w) :
    Calls Tryz.prog 46 #[.pointer (some ⟨b, 0, none⟩), .string s, .bool q] w fun e w' => e = .returned (.tuple #[]) ∧ Wri B b (put1 bs r1) w' ∧ Below B w w' ∧ Lib.OthersKept 5 (some b) w w' := by
  have h' := Aside0.mk h
  have hG' := Aside0.mk hG
  have he' := Aside0.mk he
  clear h hG he
  go_enter Tryz.func46, Tryz.ntmps46
  go_wp2_with (go_at_call 37; refine (chars_Escape.calls k s q r1 r2 r3 _ he'.out hG'.out).mono ?_; rintro e w1 ⟨rfl, hb1⟩)
  go_wp2_with (go_at_call 47; refine (put_built B b bs [r1] w1 _ rfl (h'.out.move hb1) (by simpa using hr) (by simp)).mono ?_; rintro e w2 ⟨rfl, h2, hB2, hK2⟩)
  go_end0
  exact ⟨rfl, h2, (hb1.mono h'.out.1).trans hB2, ((Lib.OthersKept.refl _ _ w).below hb1).trans hK2⟩
/-- Under way in 'tree': from the world wS on; the tree stands in the block g. -/
structure TW (w0 wS : World) (b g : Nat) (cs : Array Value) (bs : List UInt8) (w : World) : Prop where
  wri : Wri w0.heap.size b bs w
  bel0 : Below w0.heap.size w0 w
  bel : Below w0.heap.size wS w
  kept : Lib.OthersKept 5 (some b) wS w
  blk : w.heap[g]? = some (.cells cs 35 (0, 0))
  ne : g ≠ b
theorem TW.step {w0 wS w w' : World} {b g : Nat} {cs : Array Value} {bs bs' : List UInt8} (h : TW w0 wS b g cs bs w) (h1 : Wri w0.heap.size b bs' w') (h2 : Below w0.heap.size w w') (h3 : Lib.OthersKept 5 (some b) w w') : TW w0 wS b g cs bs' w' :=
  ⟨h1, h.bel0.trans h2, h.bel.trans h2, h.kept.trans h3, h3 _ _ h.blk (fun e => h.ne (Option.some.inj e)) (fun c fz e => by injection e with _ e _; exact absurd e (by decide)), h.ne⟩
theorem TW.move {w0 wS w w' : World} {b g : Nat} {cs : Array Value} {bs : List UInt8} (h : TW w0 wS b g cs bs w) (hb : Below w.heap.size w w') : TW w0 wS b g cs bs w' :=
  h.step (h.wri.move hb) (hb.mono h.wri.1) ((Lib.OthersKept.refl _ _ w).below hb)
theorem Wri.other {B b : Nat} {bs : List UInt8} {w : World} (h : Wri B b bs w) {g j : Nat} {c : Array Value} {T : TypeId} {fz : Nat × Nat} (hg : w.heap[g]? = some (.cells c T fz)) (hT : T ≠ 5) (hgb : g ≠ b) (u : Value) : Wri B b bs (w.setCell ⟨g, j, none⟩ u) := by
  obtain ⟨h1, cs, h2, hB, hb, ha, v, hv, hown, hne⟩ := h
  refine ⟨by rw [show (w.setCell ⟨g, j, none⟩ u).heap.size = w.heap.size by simp [World.setCell]]; exact h1, cs, h2, hB, ?_, ha, v, hv, ⟨hown.1, ?_⟩, hne⟩
  · rw [Below.heap_setCell _ _ _ _ (show b ≠ g from fun e => hgb e.symm)]; exact hb
  · rcases hown.2 with h0 | ⟨q, cap, cur, fz', e1, e2, e3, e4⟩
    · exact .inl h0
    · refine .inr ⟨q, cap, cur, fz', e1, e2, ?_, e4⟩
      rw [Below.heap_setCell _ _ _ _ (show q ≠ g from fun e => by subst e; rw [hg] at e3; injection e3 with e3; injection e3 with _ e3 _; exact hT e3)]
      exact e3
/-- A store into a block that is new. -/
theorem TW.set {w0 wS w : World} {b g : Nat} {cs : Array Value} {bs : List UInt8} (h : TW w0 wS b g cs bs w) {q j : Nat} {c : Array Value} {T : TypeId} {fz : Nat × Nat} (hq : w.heap[q]? = some (.cells c T fz)) (hT : T ≠ 5) (hn : wS.heap.size ≤ q) (hqg : q ≠ g) (hqb : q ≠ b) (hw : w0.heap.size ≤ q) (u : Value) :
    TW w0 wS b g cs bs (w.setCell ⟨q, j, none⟩ u) :=
  ⟨h.wri.other hq hT hqb u, h.bel0.setCell (p := ⟨q, j, none⟩) hw u, h.bel.setCell (p := ⟨q, j, none⟩) hw u,
    fun k o h1 h2 h3 => by
      have hlt : k < wS.heap.size := (Array.getElem?_eq_some_iff.1 h1).1
      rw [Below.heap_setCell _ _ _ _ (show k ≠ q by omega)]
      exact h.kept k o h1 h2 h3,
    by rw [Below.heap_setCell _ _ _ _ (show g ≠ q from fun e => hqg e.symm)]; exact h.blk, h.ne⟩
theorem TW.cells {w0 wS w : World} {b g : Nat} {bs : List UInt8} {x0 x1 x2 x3 x4 : Value} (h : TW w0 wS b g #[x0, x1, x2, x3, x4] bs w) :
    w.cell? ⟨g, 0, none⟩ = some x0 ∧ w.cell? ⟨g, 1, none⟩ = some x1 ∧ w.cell? ⟨g, 2, none⟩ = some x2 ∧ w.cell? ⟨g, 3, none⟩ = some x3 ∧ w.cell? ⟨g, 4, none⟩ = some x4 := by
  have := h.blk
  refine ⟨?_, ?_, ?_, ?_, ?_⟩ <;> (rw [Lib.cell_of_heap this]; rfl)
/-- The same with a further variable, in the block q. -/
structure TX (w0 wS : World) (b g : Nat) (cs : Array Value) (bs : List UInt8) (q : Nat) (ds : Array Value) (T : TypeId) (w : World) : Prop where
  tw : TW w0 wS b g cs bs w
  blk : w.heap[q]? = some (.cells ds T (0, 0))
  ne : q ≠ b
  ty : T ≠ 5
theorem TX.step {w0 wS w w' : World} {b g q : Nat} {cs ds : Array Value} {T : TypeId} {bs bs' : List UInt8} (h : TX w0 wS b g cs bs q ds T w) (h1 : Wri w0.heap.size b bs' w') (h2 : Below w0.heap.size w w') (h3 : Lib.OthersKept 5 (some b) w w') : TX w0 wS b g cs bs' q ds T w' :=
  ⟨h.tw.step h1 h2 h3, h3 _ _ h.blk (fun e => h.ne (Option.some.inj e)) (fun c fz e => by injection e with _ e _; exact h.ty e), h.ne, h.ty⟩
theorem TX.box {w0 wS w : World} {b g : Nat} {cs : Array Value} {bs : List UInt8} (h : TW w0 wS b g cs bs w) (ds : Array Value) (T : TypeId) (hT : T ≠ 5) : TX w0 wS b g cs bs w.heap.size ds T (w.alloc (.cells ds T)) :=
  ⟨h.move ((Below.refl w.heap.size w).alloc (Nat.le_refl _) _), heap_alloc_new w _, by have := h.wri.lt; omega, hT⟩
theorem TX.cell {w0 wS w : World} {b g q : Nat} {cs ds : Array Value} {T : TypeId} {bs : List UInt8} (h : TX w0 wS b g cs bs q ds T w) (i : Nat) : w.cell? ⟨q, i, none⟩ = ds[i]? := by rw [Lib.cell_of_heap h.blk]
theorem drop54 (l : List S61) (i : Nat) (h : i < l.length) : l.drop i = rd_T61 l (i : Int) :: l.drop (i + 1) := by
  rw [List.drop_eq_getElem_cons h]
  unfold rd_T61
  rw [Int.toNat_natCast, List.getD_eq_getElem?_getD, List.getElem?_eq_getElem h, Option.getD_some]
theorem drop36 (l : List S35) (i : Nat) (h : i < l.length) : l.drop i = rd_T35 l (i : Int) :: l.drop (i + 1) := by
  rw [List.drop_eq_getElem_cons h]
  unfold rd_T35
  rw [Int.toNat_natCast, List.getD_eq_getElem?_getD, List.getElem?_eq_getElem h, Option.getD_some]
end Go.Proofs.YtealmfcimoomlaaGreatDoor.PA

/- slices.ContainsFunc over children that are solid. -/
namespace Go.Proofs.YtealmfcimoomlaaGreatDoor.PA
open Go.RowKit Go.Proofs.YtealmfcimoomlaaGreatDoorW.PrintWords Go.Proofs.YtealmfcimoomlaaGreatDoorW.PrintLast Go.Proofs.YtealmfcimoomlaaGreatDoorW.PrintMore
set_option linter.unusedVariables false
set_option linter.unusedSimpArgs false
set_option maxHeartbeats 1000000 in
set_option maxRecDepth 100000 in
theorem solid_calls (x0 : Int) (x1 : ByteArray) (v2 : Value) (x3 : ByteArray) (v4 : Value) (w : World) (h2 : v2.oneCell' = true) (h4 : v4.oneCell' = true) :
    Calls Tryz.prog 49 #[.agg #[.int .i64 x0, .string x1, v2, .string x3, v4]] w fun e w' => e = .returned (.bool (x0 == 1 || x3.toList != ([] : List UInt8))) ∧ Below w.heap.size w w' := by
  go_enter Tryz.func49, Tryz.ntmps49
  rw [bne_isEmpty]
  by_cases hx : x0 = 1
  · subst hx
    go_wp2
    go_ret
    exact ⟨rfl, (Below.refl _ w).alloc (Nat.le_refl _) _⟩
  · have hb : (x0 == 1) = false := beq_eq_false_iff_ne.mpr hx
    rw [hb]
    clear hx
    go_wp2
    go_ret
    exact ⟨rfl, (Below.refl _ w).alloc (Nat.le_refl _) _⟩
theorem lt_of_eq' {n m : Nat} (h : n = m) (k : Nat) (hk : k < n) : k < m := h ▸ hk
/-- The number of the first one of which it is true; below 0: none. -/
def firstOfT (p : S35 → Bool) (zs : List S35) : Int := Lib.idxBy (fun _ y => p y) zs default
theorem firstOfT_nonneg (p : S35 → Bool) (zs : List S35) : decide (0 ≤ firstOfT p zs) = zs.any p := Lib.idxBy_nonneg_iff (fun _ y => p y) zs default
set_option maxHeartbeats 4000000 in
theorem IndexFunc_trees (g : Nat) (lb : Array Value) (eg : ∀ args w, (callFunc g args).run Tryz.prog w = .ok (.enter g args) w) (A : Option Addr) (c : Nat) (zs : List S35) (p : S35 → Bool) (w : World) (hr : Kd.C k35 w A zs.length zs)
    (hp : ∀ W x, ∀ (A2 A4 : Option Addr) (c2 c4 : Nat), x ∈ zs → Below w.heap.size w W → Calls Tryz.prog g (#[.agg #[.int .i64 x.f0, .string x.f1, .slice A2 x.f2.length c2, .string x.f3, .slice A4 x.f4.length c4]] ++ lb) W fun e w' => e = .returned (.bool (p x)) ∧ Below w.heap.size w w') :
    Calls Tryz.prog 74 #[.slice A zs.length c, .func (.func g) #[] lb] w fun e w' => e = .returned (.int .i64 (firstOfT p zs)) ∧ Below w.heap.size w w' := by
  have hbig : zs.length ≤ 9223372036854775807 := hr.2.1
  generalize hn : zs.length = n at hr hbig
  have HN := Aside0.mk hn
  clear hn
  go_enter Tryz.func74, Tryz.ntmps74
  go_wp2
  go_loopg [5, 8] n (fun gg _ s8 wr => ∃ kk : Nat, kk ≤ n ∧ n - kk ≤ gg ∧ s8 = .int .i64 kk ∧ Aside (Below w.heap.size w wr) ∧ Aside (∀ j, j < kk → p zs[j]! = false))
  case atStart => exact ⟨0, Nat.zero_le _, by omega, rfl, Below.refl _ w, fun j hj => absurd hj (Nat.not_lt_zero _)⟩
  case round =>
    obtain ⟨kk, hkk, hg, rfl, BW, A0⟩ := hrel
    by_cases hlt : kk < n
    · have hltz : (kk : Int) < (n : Int) := by omega
      have hkz : kk < zs.length := lt_of_eq' HN.out.symm kk hlt
      obtain ⟨ad, A2, c2, A4, c4, rfl, hcell, hcell1, hcell2, hcell3, hcell4, -, -, -, -⟩ := at_T35 (Kd.C_below hr BW.out) (kk : Int) (by omega) hltz
      have hy0 : rd_T35 zs (kk : Int) = zs[kk]! := by
        show zs.getD (kk : Int).toNat _ = _
        rw [Int.toNat_natCast, List.getD_eq_getElem?_getD, List.getElem?_eq_getElem hkz, getElem!_pos zs kk hkz]
        rfl
      rw [hy0, Int.toNat_natCast] at hcell hcell1 hcell2 hcell3 hcell4
      have hcall := hp wr zs[kk]! A2 A4 c2 c4 (by rw [getElem!_pos zs kk hkz]; exact List.getElem_mem _) BW.out
      have hmem := hkz
      clear hp hy0 hr hkz
      generalize hy : zs[kk]! = y at hcell hcell1 hcell2 hcell3 hcell4 hcall
      have B : Aside (zs[kk]! = y) := hy
      have HM := Aside0.mk hmem
      clear hy hmem
      cases hq : p y with
      | true =>
        rw [hq] at hcall
        go_wp2_with (go_at_fn g; refine hcall.mono ?_; rintro e w' ⟨rfl, hb'⟩)
        go_ret
        refine ⟨?_, hb'⟩
        have := Lib.idxBy_hit (fun _ y => p y) zs n kk default hlt (by rw [HN.out]; exact Nat.le_refl _) (by show p zs[kk]! = true; rw [B.out]; exact hq) A0.out
        rw [List.take_of_length_le (by rw [HN.out]; exact Nat.le_refl _)] at this
        unfold firstOfT
        rw [this]
        rfl
      | false =>
        rw [hq] at hcall
        go_wp2_with (go_at_fn g; refine hcall.mono ?_; rintro e w' ⟨rfl, hb'⟩)
        go_roundg (n - (kk + 1))
        case measure => omega
        case rel =>
          refine ⟨kk + 1, by omega, by omega, by go_num, hb', (show Aside _ from fun j hj => ?_)⟩
          by_cases e : j = kk
          · subst e
            rw [B.out]; exact hq
          · exact A0.out j (by omega)
    · have hltz : ¬ (kk : Int) < (n : Int) := by omega
      have : kk = n := by omega
      subst this
      go_wp2
      go_ret
      refine ⟨?_, BW.out⟩
      have := Lib.idxBy_miss (fun _ y => p y) zs kk default A0.out
      rw [List.take_of_length_le (by rw [HN.out]; exact Nat.le_refl _)] at this
      unfold firstOfT
      rw [this]
      rfl
theorem ContainsFunc_trees (g : Nat) (lb : Array Value) (eg : ∀ args w, (callFunc g args).run Tryz.prog w = .ok (.enter g args) w) (A : Option Addr) (c : Nat) (zs : List S35) (p : S35 → Bool) (w : World) (hr : Kd.C k35 w A zs.length zs)
    (hp : ∀ W x, ∀ (A2 A4 : Option Addr) (c2 c4 : Nat), x ∈ zs → Below w.heap.size w W → Calls Tryz.prog g (#[.agg #[.int .i64 x.f0, .string x.f1, .slice A2 x.f2.length c2, .string x.f3, .slice A4 x.f4.length c4]] ++ lb) W fun e w' => e = .returned (.bool (p x)) ∧ Below w.heap.size w w') :
    Calls Tryz.prog 48 #[.slice A zs.length c, .func (.func g) #[] lb] w fun e w' => e = .returned (.bool (zs.any p)) ∧ Below w.heap.size w w' := by
  rw [← firstOfT_nonneg]
  have hc := IndexFunc_trees g lb eg A c zs p w hr hp
  generalize firstOfT p zs = i at hc ⊢
  clear hp hr
  have HC := Lib.hid hc
  clear hc
  go_enter Tryz.func48, Tryz.ntmps48
  go_wp2_with (go_at_call 74; refine HC.out.mono ?_; rintro e w' ⟨rfl, hb'⟩)
  go_ret
  exact ⟨rfl, hb'⟩
end Go.Proofs.YtealmfcimoomlaaGreatDoor.PA
