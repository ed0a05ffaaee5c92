/- scan.reader: an attribute. -/
import Derived.Test.YtealmfcimoomlaaGreatDoorUScan11
namespace Go.Proofs.YtealmfcimoomlaaGreatDoor.PA
open Go.RowKit Go.Proofs.YtealmfcimoomlaaGreatDoorW.PrintWords Go.Proofs.YtealmfcimoomlaaGreatDoorW.PrintLast Go.Proofs.YtealmfcimoomlaaGreatDoorW.PrintMore
set_option linter.unusedVariables false
set_option linter.unusedSimpArgs false
theorem lt_of_heap {w : World} {k : Nat} {o : Obj} (h : w.heap[k]? = some o) : k < w.heap.size := by
  rcases Nat.lt_or_ge k w.heap.size with h' | h'
  · exact h'
  · simp [Array.getElem?_eq_none h'] at h
/-- A builder stays where its block and its row stay. -/
theorem Bld.moveK {T : TypeId} {B b o : Nat} {cs : Array Value} {bs : List Value} {w w1 : World} (h : Bld T B b o cs bs w) (hb : w1.heap[b]? = w.heap[b]?) (hg : ∀ v k, cs[o + 1]? = some v → v.ownBlock = some k → w1.heap[k]? = w.heap[k]?) : Bld T B b o cs bs w1 := by
  obtain ⟨hB, hbk, ha, v, hv, hown, hne⟩ := h
  refine ⟨hB, hb.trans hbk, ha, v, hv, ⟨hown.1, ?_⟩, hne⟩
  rcases hown.2 with h0 | ⟨g, cap, cur, fz, h1, h2, h3, h4⟩
  · exact .inl h0
  · exact .inr ⟨g, cap, cur, fz, h1, h2, (hg v g hv (by rw [h1]; rfl)).trans h3, h4⟩
theorem Bld.row_lt {T : TypeId} {B b o : Nat} {cs : Array Value} {bs : List Value} {w : World} (h : Bld T B b o cs bs w) (v : Value) (k : Nat) (hv : cs[o + 1]? = some v) (hk : v.ownBlock = some k) : ∃ cur fz, w.heap[k]? = some (.cells cur 5 fz) := by
  obtain ⟨hB, hbk, ha, v', hv', hown, hne⟩ := h
  obtain rfl := Option.some.inj (hv'.symm.trans hv)
  rcases hown.2 with ⟨h0, _⟩ | ⟨g, cap, cur, fz, h1, h2, h3, h4⟩
  · rw [h0] at hk; cases hk
  · rw [h1] at hk
    obtain rfl := Option.some.inj hk
    exact ⟨cur, fz, h3⟩
/-- A builder of its own stays through a reader's method. -/
theorem Bld.keepX {T : TypeId} {B b o r : Nat} {cs : Array Value} {bs : List Value} {w w1 : World} (h : Bld T B b o cs bs w) (hk : KeepX r w w1) (hr : RB r w) (hb : b ≠ r) : Bld T B b o cs bs w1 := by
  refine h.moveK ((hk.1 b _ h.2.1 hb).trans h.2.1.symm) fun v k hv hkk => ?_
  obtain ⟨cur, fz, hc⟩ := h.row_lt v k hv hkk
  refine (hk.1 k _ hc ?_).trans hc.symm
  rintro rfl
  obtain ⟨cs', hr⟩ := hr
  rw [hr] at hc
  injection hc with hc
  injection hc with _ hc _
  exact absurd hc (by decide)
/-- The reader stays while only what is newer than its method's beginning is written. -/
theorem Rd.near {B r : Nat} {tell : Value} {s : ByteArray} {st0 st : St} {w0 w w' : World} (h0 : Rd B r tell s st0 w0) (hk : KeepX r w0 w) (h : Rd B r tell s st w) (hb : Below w0.heap.size w w') : Rd B r tell s st w' := by
  obtain ⟨g0, ov, pv, bv, h1, h2⟩ := h0
  obtain ⟨g1, ov', pv', bv', k1, k2⟩ := h
  have e2 : ov' = ov := Option.some.inj (((blk_cell k1.2.1 2).symm.trans (hk.2 2 ov (by decide) (by decide) ((blk_cell h1.2.1 2).trans rfl))))
  have e4 : bv' = bv := Option.some.inj (((blk_cell k1.2.1 4).symm.trans (hk.2 4 bv (by decide) (by decide) ((blk_cell h1.2.1 4).trans rfl))))
  subst e2
  subst e4
  refine ⟨Nat.le_trans g1 hb.size, ov', pv', bv', k1.moveK (hb.block r (lt_of_heap h1.2.1)) fun v k hv hkk => ?_, own_move k2 fun k hkk => ?_⟩
  · obtain ⟨cur, fz, hc⟩ := h1.row_lt v k (by have : v = bv' := (Option.some.inj hv).symm; rw [this]; rfl) hkk
    exact hb.block k (lt_of_heap hc)
  · exact hb.block k (own_lt h2 k hkk)
theorem KeepX.near {r : Nat} {w0 w w' : World} (h : KeepX r w0 w) (hr : RB r w0) (hb : Below w0.heap.size w w') : KeepX r w0 w' := by
  obtain ⟨cs, hr⟩ := hr
  refine ⟨fun k o h1 h2 => (hb.block k (lt_of_heap h1)).trans (h.1 k o h1 h2), fun j v h1 h2 h3 => ?_⟩
  have := hb.block r (lt_of_heap hr)
  have h4 := h.2 j v h1 h2 h3
  unfold World.cell? at h4 ⊢
  rw [this]
  exact h4
theorem kept_of {w w' : World} {k : Nat} (hlt : k < w.heap.size) (h : ∀ o, w.heap[k]? = some o → w'.heap[k]? = some o) : w'.heap[k]? = w.heap[k]? := by
  have := Array.getElem?_eq_getElem hlt
  rw [this]
  exact h _ this
theorem attrs_keepX {r base : Nat} {ok : Nat → Prop} {v : Value} {l : List S61} {w w' : World} (h : Kd.R k61 61 w base ok v l) (hk : KeepX r w w') (hr : RB r w) : Kd.R k61 61 w' base ok v l := by
  obtain ⟨cs, hr⟩ := hr
  exact Kd.R_mono (Kd.R_step (Kd.R_types h hr (by decide)) (fun k hk' hlt => kept_of hlt fun o ho => hk.1 k o ho hk'.2)) (fun _ h => h.1)
/-- Under way in a method that began in the world w0 with the state st0. -/
structure Way (B r : Nat) (tell : Value) (s : ByteArray) (st0 : St) (w0 : World) (st : St) (w : World) : Prop where
  r0 : Rd B r tell s st0 w0
  rd : Rd B r tell s st w
  kx : KeepX r w0 w
  bel : Below B w0 w
  env : Env B w
section
variable {B r : Nat} {tell : Value} {s : ByteArray} {st0 st st' : St} {w0 w w' : World}
theorem Way.start (h : Rd B r tell s st w) (hE : Env B w) : Way B r tell s st w st w := ⟨h, h, KeepX.refl _ _, Below.refl _ _, hE⟩
theorem Way.step (h : Way B r tell s st0 w0 st w) (hb : Below B w w') (hk : KeepX r w w') (hr : Rd B r tell s st' w') : Way B r tell s st0 w0 st' w' := ⟨h.r0, hr, h.kx.trans hk, h.bel.trans hb, h.env.step hb⟩
theorem Way.near (h : Way B r tell s st0 w0 st w) (hb : Below w0.heap.size w w') : Way B r tell s st0 w0 st w' :=
  have hB : Below B w w' := hb.mono h.r0.1
  ⟨h.r0, h.r0.near h.kx h.rd hb, h.kx.near h.r0.rb hb, h.bel.trans hB, h.env.step hB⟩
theorem Way.lt (h : Way B r tell s st0 w0 st w) : r < w0.heap.size := by obtain ⟨cs, h⟩ := h.r0.rb; exact lt_of_heap h
end
theorem nextF_ok {s : ByteArray} {st st' : St} {v : Int} (h : nextF s st = .ok v st') (ha : st.at_ ≤ s.size) : st' = st ∧ v = bt s st.at_ ∧ st.at_ < s.size := by
  unfold nextF at h
  split at h
  · cases h
  · injection h with h1 h2
    exact ⟨h2.symm, h1.symm, by omega⟩
theorem mustF_ok {s : ByteArray} {st st' : St} {c : Int} {v : Unit} (h : mustF s st c = .ok v st') (ha : st.at_ ≤ s.size) : st' = { st with at_ := st.at_ + 1 } ∧ st.at_ < s.size := by
  unfold mustF at h
  cases hn : nextF s st with
  | bad a y => rw [hn] at h; cases h
  | ok v1 st1 =>
    rw [hn] at h
    obtain ⟨rfl, h2, h3⟩ := nextF_ok hn ha
    simp only [Res.bind] at h
    split at h
    · injection h with _ h; exact ⟨h.symm, h3⟩
    · cases h
theorem nameP_ok {s : ByteArray} {st st' : St} {v : ByteArray} (h : nameP s st = .ok v st') (ha : st.at_ ≤ s.size) : st' = { st with at_ := st'.at_ } ∧ st.at_ ≤ st'.at_ ∧ st'.at_ ≤ s.size ∧ v.size ≤ 32 := by
  unfold nameP nameF at h
  split at h
  · rename_i hb
    injection h with h1 h2
    rw [← h2, ← h1]
    exact ⟨rfl, skipF_ge _ _ _, skipF_le _ _ _ ha, nameB_size hb⟩
  · cases h
theorem charP_ok {s : ByteArray} {st st' : St} {v : ByteArray} (h : charP s st = .ok v st') (ha : st.at_ < s.size) : st' = { st with at_ := st'.at_ } ∧ st.at_ < st'.at_ ∧ st'.at_ ≤ s.size ∧ v.size ≤ 16384 := by
  have hle := chr_le s st.at_ ha
  unfold charP at h
  split at h
  · cases h
  · rename_i hb
    injection h with h1 h2
    rw [← h2, ← h1]
    exact ⟨rfl, by simp only; omega, hle.1, by rw [ByteArray.size_extract]; omega⟩
theorem unAll_size (s : ByteArray) : ∀ (f : Nat) (acc : List UInt8) (i : Nat), acc.length ≤ 16384 → (unAll s f acc i).1.size ≤ 16384 := by
  intro f
  induction f with
  | zero => intro acc i h; exact h
  | succ f ih =>
    intro acc i h
    unfold unAll
    split
    · split
      · split
        · exact Nat.zero_le _
        · rename_i hg
          refine ih _ _ ?_
          rw [List.length_append, ← Lib.size_eq]
          omega
      · exact Nat.zero_le _
    · exact h
theorem refS_pos (s : ByteArray) (i : Nat) (h : i < s.size) : 0 < (refS s i).size ∧ i + (refS s i).size ≤ s.size := by
  unfold refS
  split
  · simp only [ByteArray.size_extract]
    omega
  · rename_i h0
    rcases indexByte_lt (s.extract i (min (i + 10) s.size)).data.toList 59 with h1 | h1
    · rw [← Lib.size_eq] at h1
      simp only [ByteArray.size_extract] at h1 ⊢
      omega
    · rw [h1] at h0
      exact absurd (by decide) h0
theorem refP_ok {s : ByteArray} {st st' : St} {v : ByteArray} (h : refP s st = .ok v st') (ha : st.at_ < s.size) : st' = { st with at_ := st'.at_ } ∧ st.at_ < st'.at_ ∧ st'.at_ ≤ s.size ∧ v.size ≤ 16384 := by
  unfold refP refF at h
  split at h
  · injection h with h1 h2
    rw [← h2, ← h1]
    refine ⟨rfl, ?_, ?_, unAll_size _ _ _ _ (Nat.zero_le _)⟩
    · have := (refS_pos s st.at_ ha).1; simp only; omega
    · exact (refS_pos s st.at_ ha).2
  · cases h
/-- A builder and an attribute's variable of its own beside the reader. -/
structure AW (B r : Nat) (tell : Value) (s : ByteArray) (st0 : St) (w0 : World) (n : ByteArray) (g4 ga gb : Nat) (st : St) (acc : List UInt8) (w : World) : Prop where
  way : Way B r tell s st0 w0 st w
  h4 : w.heap[g4]? = some (.cells #[.string ⟨#[]⟩, .string ⟨#[]⟩] 61 (0, 0))
  ha : w.heap[ga]? = some (.cells #[.string n, .string ⟨#[]⟩] 61 (0, 0))
  hb : ∃ cs : Array Value, cs.size = 2 ∧ Bld 70 w0.heap.size gb 0 cs (Lib.byteCells acc) w
  l4 : w0.heap.size ≤ g4
  la : w0.heap.size ≤ ga
theorem AW.step {B r : Nat} {tell : Value} {s : ByteArray} {st0 : St} {w0 : World} {n : ByteArray} {g4 ga gb : Nat} {st st' : St} {acc : List UInt8} {w w' : World} (h : AW B r tell s st0 w0 n g4 ga gb st acc w) (hb : Below B w w') (hk : KeepX r w w') (hr : Rd B r tell s st' w') : AW B r tell s st0 w0 n g4 ga gb st' acc w' where
  way := h.way.step hb hk hr
  h4 := hk.1 _ _ h.h4 (by have := h.way.lt; have := h.l4; omega)
  ha := hk.1 _ _ h.ha (by have := h.way.lt; have := h.la; omega)
  hb := by
    obtain ⟨cs, h1, h2⟩ := h.hb
    exact ⟨cs, h1, h2.keepX hk h.way.rd.rb (by have := h.way.lt; have := h2.1; omega)⟩
  l4 := h.l4
  la := h.la
theorem AW.write {B r : Nat} {tell : Value} {s : ByteArray} {st0 : St} {w0 : World} {n : ByteArray} {g4 ga gb : Nat} {st : St} {acc acc' : List UInt8} {w w' : World} (h : AW B r tell s st0 w0 n g4 ga gb st acc w) (hb : Below w0.heap.size w w') (hk : Lib.OthersKept 5 (some gb) w w') {cs : Array Value} (hs : cs.size = 2) (hr : Bld 70 w0.heap.size gb 0 cs (Lib.byteCells acc') w') : AW B r tell s st0 w0 n g4 ga gb st acc' w' where
  way := h.way.near hb
  h4 := hk _ _ h.h4 (fun e => by
    obtain ⟨cs, h1, h2⟩ := h.hb
    obtain rfl := Option.some.inj e
    have := h2.2.1.symm.trans h.h4
    injection this with this
    injection this with _ this _
    exact absurd this (by decide)) (fun c fz e => by injection e with _ e _; exact absurd e (by decide))
  ha := hk _ _ h.ha (fun e => by
    obtain ⟨cs, h1, h2⟩ := h.hb
    obtain rfl := Option.some.inj e
    have := h2.2.1.symm.trans h.ha
    injection this with this
    injection this with _ this _
    exact absurd this (by decide)) (fun c fz e => by injection e with _ e _; exact absurd e (by decide))
  hb := ⟨cs, hs, hr⟩
  l4 := h.l4
  la := h.la
theorem Way.store {B r : Nat} {tell : Value} {s : ByteArray} {st0 st : St} {w0 w : World} (h : Way B r tell s st0 w0 st w) (a : Nat) (z : Int) (hz : z = (a : Int)) : Way B r tell s st0 w0 { st with at_ := a } (w.setCell ⟨r, 1, none⟩ (.int .i64 z)) := by
  subst hz
  obtain ⟨h0, ov, pv, bv, h1, h2⟩ := h.rd
  exact h.step ((Below.refl B w).setCell (p := ⟨r, 1, none⟩) h1.1 _) (KeepX.set w 1 _) (Rd.store (st' := { st with at_ := a }) h0 h1 h2 1 _ (by decide) (by decide) (by simp [rcells]) rfl rfl)
/-- The characters of a value up to the quote. -/
def valF (s : ByteArray) (q : Int) : Nat → St → List UInt8 → Res (List UInt8)
  | 0, st, _ => .bad st.at_ 4
  | d + 1, st, acc => (nextF s st).bind fun c st => if c = q then .ok acc st else if c = 60 then .bad st.at_ 3 else
      (if c = 38 then refP s st else charP s st).bind fun t st1 => if 16384 < acc.length + t.size then .bad st.at_ 2 else valF s q d st1 (acc ++ t.data.toList)
theorem valF_succ (s : ByteArray) (q : Int) (d : Nat) (st : St) (acc : List UInt8) : valF s q (d + 1) st acc = (nextF s st).bind fun c st => if c = q then .ok acc st else if c = 60 then .bad st.at_ 3 else
      (if c = 38 then refP s st else charP s st).bind fun t st1 => if 16384 < acc.length + t.size then .bad st.at_ 2 else valF s q d st1 (acc ++ t.data.toList) := rfl
theorem AW.store {B r : Nat} {tell : Value} {s : ByteArray} {st0 : St} {w0 : World} {n : ByteArray} {g4 ga gb : Nat} {st : St} {acc : List UInt8} {w : World} (h : AW B r tell s st0 w0 n g4 ga gb st acc w) (a : Nat) (z : Int) (hz : z = (a : Int)) : AW B r tell s st0 w0 n g4 ga gb { st with at_ := a } acc (w.setCell ⟨r, 1, none⟩ (.int .i64 z)) := by
  subst hz
  obtain ⟨h0, ov, pv, bv, h1, h2⟩ := h.way.rd
  exact h.step ((Below.refl B w).setCell (p := ⟨r, 1, none⟩) h1.1 _) (KeepX.set w 1 _) (Rd.store (st' := { st with at_ := a }) h0 h1 h2 1 _ (by decide) (by decide) (by simp [rcells]) rfl rfl)
theorem AW.cells {B r : Nat} {tell : Value} {s : ByteArray} {st0 : St} {w0 : World} {n : ByteArray} {g4 ga gb : Nat} {st : St} {acc : List UInt8} {w : World} (h : AW B r tell s st0 w0 n g4 ga gb st acc w) :
    w.cell? ⟨r, 0, none⟩ = some (.string s) ∧ w.cell? ⟨r, 1, none⟩ = some (.int .i64 st.at_) ∧ w.frozen? ⟨r, 1, none⟩ = false ∧ w.cell? ⟨ga, 0, none⟩ = some (.string n) ∧ w.cell? ⟨ga, 1, none⟩ = some (.string ⟨#[]⟩) ∧ w.frozen? ⟨ga, 1, none⟩ = false ∧ w.cell? ⟨g4, 0, none⟩ = some (.string ⟨#[]⟩) ∧ w.cell? ⟨g4, 1, none⟩ = some (.string ⟨#[]⟩) ∧ w.frozen? ⟨g4, 0, none⟩ = false ∧ w.frozen? ⟨g4, 1, none⟩ = false := by
  obtain ⟨h0, ov, pv, bv, h1, h2⟩ := h.way.rd
  obtain ⟨c0, c1, -, -, -, z1, -, -⟩ := Rd.cells h1
  exact ⟨c0, c1, z1, (blk_cell h.ha 0).trans rfl, (blk_cell h.ha 1).trans rfl, blk_frozen h.ha 1, (blk_cell h.h4 0).trans rfl, (blk_cell h.h4 1).trans rfl, blk_frozen h.h4 0, blk_frozen h.h4 1⟩
theorem lies_builder : liesAt Tryz.prog Tryz.prog.depth 70 (2 / Tryz.prog.cellsOf 70) 0 70 1 = true := by kernel_rfl
theorem AW.len {B r : Nat} {tell : Value} {s : ByteArray} {st0 : St} {w0 : World} {n : ByteArray} {g4 ga gb : Nat} {st : St} {acc : List UInt8} {w : World} (h : AW B r tell s st0 w0 n g4 ga gb st acc w) :
    Calls Tryz.prog 50 #[.pointer (some ⟨gb, 0, none⟩)] w fun e w' => e = .returned (.int .i64 acc.length) ∧ w' = w := by
  obtain ⟨cs, h1, h2⟩ := h.hb
  have := Len_at 70 w0.heap.size gb 0 _ _ w h2
  rw [Lib.byteCells_length] at this
  exact this
theorem AW.writes {B r : Nat} {tell : Value} {s : ByteArray} {st0 : St} {w0 : World} {n : ByteArray} {g4 ga gb : Nat} {st : St} {acc : List UInt8} {w : World} (h : AW B r tell s st0 w0 n g4 ga gb st acc w) (x : ByteArray) (hx : acc.length + x.size ≤ 140737488355328) :
    Calls Tryz.prog 58 #[.pointer (some ⟨gb, 0, none⟩), .string x] w fun e w' => e = .returned (.tuple #[.int .i64 x.size, .nilIface]) ∧ AW B r tell s st0 w0 n g4 ga gb st (acc ++ x.data.toList) w' := by
  obtain ⟨cs, h1, h2⟩ := h.hb
  have hle : w0.heap.size ≤ w.heap.size := by have := lt_of_heap h.h4; have := h.l4; omega
  refine (WriteString_at 70 w0.heap.size gb 0 cs _ x w h2 (by rw [Lib.byteCells_length]; exact hx) hle (by decide) (by rw [h1]; exact lies_builder)).mono ?_
  rintro e w' ⟨rfl, cs', ho, hb, hB, hK⟩
  refine ⟨rfl, h.write hB hK (ho.1.trans h1) ?_⟩
  rw [Lib.byteCells_append]
  exact hb
theorem AW.string {B r : Nat} {tell : Value} {s : ByteArray} {st0 : St} {w0 : World} {n : ByteArray} {g4 ga gb : Nat} {st : St} {acc : List UInt8} {w : World} (h : AW B r tell s st0 w0 n g4 ga gb st acc w) :
    Calls Tryz.prog 31 #[.pointer (some ⟨gb, 0, none⟩)] w fun e w' => e = .returned (.string ⟨acc.toArray⟩) ∧ AW B r tell s st0 w0 n g4 ga gb st acc w' := by
  obtain ⟨cs, h1, h2⟩ := h.hb
  have hle : w0.heap.size ≤ w.heap.size := by have := lt_of_heap h.h4; have := h.l4; omega
  refine (String_at 70 w0.heap.size gb 0 cs acc w h2 hle).mono ?_
  rintro e w' ⟨rfl, hb, hB, hK⟩
  exact ⟨rfl, h.write hB hK h1 hb⟩
def sAttrF (s : ByteArray) (st : St) (l : List S61) : Res S61 :=
  (nameP s st).bind fun n st1 => if 32 ≤ l.length then .bad st.at_ 2 else if hasName l n = true then .bad st.at_ 41 else
  (mustF s st1 61).bind fun _ st2 => (nextF s st2).bind fun q st3 => if q = 34 ∨ q = 39 then
    (valF s q (s.size + 1) { st3 with at_ := st3.at_ + 1 } []).bind fun v st4 => .ok ⟨n, ⟨v.toArray⟩⟩ { st4 with at_ := st4.at_ + 1 } else .bad st3.at_ 3
def attrV (a : S61) : Value := .agg #[.string a.f0, .string a.f1]
set_option maxHeartbeats 8000000 in
set_option maxRecDepth 100000 in
theorem attr_calls (B r : Nat) (tell : Value) (s : ByteArray) (st : St) (A : Option Addr) (c : Nat) (l : List S61) (w : World) (h : Rd B r tell s st w) (hE : Env B w) (base : Nat) (hl : Kd.R k61 61 w base (fun _ => True) (.slice A l.length c) l) (ha : st.at_ ≤ s.size) (hs : s.size ≤ 262144) :
    Calls Tryz.prog 120 #[.pointer (some ⟨r, 0, none⟩), .slice A l.length c] w (Ends B r tell s attrV w (sAttrF s st l)) := by
  have W0 := Aside0.mk (Way.start h hE)
  have HL := Aside0.mk hl
  have HS := Aside0.mk hs
  have HA := Aside0.mk ha
  obtain ⟨h0, ov, pv, bv, h1, h2⟩ := h
  obtain ⟨c0, c1, -⟩ := Rd.cells h1
  have hal : Below w.heap.size w (w.alloc (.cells #[.string ⟨#[]⟩, .string ⟨#[]⟩] 61)) := (Below.refl _ w).alloc (Nat.le_refl _) _
  have d1 : (w.alloc (.cells #[.string ⟨#[]⟩, .string ⟨#[]⟩] 61)).cell? ⟨r, 1, none⟩ = some (.int .i64 st.at_) := (hal.cell W0.out.lt).trans c1
  clear h1 h2 hl hE hs ha
  go_enter Tryz.func120, Tryz.ntmps120
  have C1 := Aside0.mk (nameP_calls B r tell s st _ (W0.out.near hal).rd HA.out HS.out)
  generalize hres : sAttrF s st l = res
  have HZ := Aside0.mk hres
  clear hres
  cases hN : nameP s st with
  | bad a y =>
    rw [hN] at C1
    go_wp2_with (go_at_call 116; refine C1.out.mono ?_; rintro e w1 ⟨hb1, hk1, rfl⟩)
    rw [← HZ.out, sAttrF, hN]
    exact ⟨rfl, (hal.mono h0).trans hb1, (KeepX.below hal).trans hk1, rfl⟩
  | ok n st1 =>
    rw [hN] at C1
    go_wp2_with (go_at_call 116; refine C1.out.mono ?_)
    rintro e w1 ⟨hb1, hk1, rfl, hr1⟩
    have W1 := Aside0.mk ((W0.out.near hal).step hb1 hk1 hr1)
    have G4 := Aside0.mk (hk1.1 w.heap.size _ (blk_new w _) (Nat.ne_of_gt W0.out.lt))
    clear hb1 hk1 hr1 c0 c1 d1
    have hal1 := Aside0.mk ((Below.refl w1.heap.size w1).alloc (Nat.le_refl _) (.cells #[.string n, .string ⟨#[]⟩] 61))
    have hle1 := W1.out.bel.size
    have hsz := Aside0.mk (show w.heap.size ≤ w1.heap.size from lt_of_heap G4.out |> Nat.le_of_lt)
    have HLT := Aside0.mk (lt_of_heap G4.out)
    have W2 := Aside0.mk (W1.out.near (hal1.out.mono hsz.out))
    by_cases h32 : 32 ≤ l.length
    · have hd : decide ((l.length : Int) ≥ 32) = true := decide_eq_true (by omega)
      have hd' : decide ((32 : Int) ≤ (l.length : Int)) = true := decide_eq_true (by omega)
      have hdn : decide (32 ≤ l.length) = true := decide_eq_true h32
      have H32 := Aside0.mk h32
      clear h32
      go_wp2_with (go_at_call 43; refine (fail_calls r _ 2 _).mono ?_; rintro e w' ⟨rfl, rfl⟩)
      rw [← HZ.out, sAttrF, hN]
      simp only [Res.bind]
      rw [if_pos H32.out]
      exact ⟨rfl, W2.out.bel, W2.out.kx, rfl⟩
    have hd : decide ((l.length : Int) ≥ 32) = false := decide_eq_false (by omega)
    have hd' : decide ((32 : Int) ≤ (l.length : Int)) = false := decide_eq_false (by omega)
    have hdn : decide (32 ≤ l.length) = false := decide_eq_false h32
    have H32 := Aside0.mk h32
    clear h32 hle1
    have C2 := Aside0.mk (hasName_calls A c l n w1.heap.size _ (Kd.R_reads' (attrs_keepX HL.out W2.out.kx W2.out.r0.rb)).2.2 ((blk_cell (blk_new w1 (.cells #[.string n, .string ⟨#[]⟩] 61)) 0).trans rfl))
    cases hH : hasName l n with
    | true =>
      rw [hH] at C2
      go_wp2_with (first
        | (go_at_call 134; refine C2.out.mono ?_; rintro e w3 ⟨rfl, hb3⟩)
        | (go_at_call 43; refine (fail_calls r _ 41 _).mono ?_; rintro e w' ⟨rfl, rfl⟩))
      have W3 := Aside0.mk (W2.out.near (hb3.mono (Nat.le_trans hsz.out hal1.out.size)))
      rw [← HZ.out, sAttrF, hN]
      simp only [Res.bind]
      rw [if_neg H32.out, if_pos hH]
      exact ⟨rfl, W3.out.bel, W3.out.kx, rfl⟩
    | false =>
      rw [hH] at C2
      go_wp2_with (go_at_call 134; refine C2.out.mono ?_)
      rintro e w3 ⟨rfl, hb3⟩
      have W3 := Aside0.mk (W2.out.near (hb3.mono (Nat.le_trans hsz.out hal1.out.size)))
      have G43 := Aside0.mk ((hb3.block _ (Nat.lt_of_lt_of_le (lt_of_heap G4.out) hal1.out.size)).trans ((hal1.out.block _ (lt_of_heap G4.out)).trans G4.out))
      have GA3 := Aside0.mk ((hb3.block _ (lt_of_heap (blk_new w1 (.cells #[.string n, .string ⟨#[]⟩] 61)))).trans (blk_new w1 (.cells #[.string n, .string ⟨#[]⟩] 61)))
      generalize hga : w1.heap.size = ga at *
      generalize hg4 : w.heap.size = g4 at *
      have HG4 := Aside0.mk hg4
      have HGA := Aside0.mk hga
      have H1 := Aside0.mk (nameP_ok hN HA.out)
      clear hb3 hal hal1 W2 W1 C1 C2 h0 hga hg4 hd hd' hdn G4
      have C3 := Aside0.mk (must_calls B r tell s st1 61 w3 W3.out.rd H1.out.2.2.1 (by have := HS.out; omega))
      cases hM : mustF s st1 61 with
      | bad a y =>
        rw [hM] at C3
        go_wp2_with (go_at_call 118; refine C3.out.mono ?_; rintro e w4 ⟨hb4, hk4, rfl⟩)
        rw [← HZ.out, sAttrF, hN]
        simp only [Res.bind]
        rw [if_neg H32.out, hH, if_neg (by decide), hM]
        exact ⟨rfl, W3.out.bel.trans hb4, W3.out.kx.trans hk4, rfl⟩
      | ok u st2 =>
        rw [hM] at C3
        go_wp2_with (go_at_call 118; refine C3.out.mono ?_)
        rintro e w4 ⟨hb4, hk4, rfl, hr4⟩
        have W4 := Aside0.mk (W3.out.step hb4 hk4 hr4)
        have G44 := Aside0.mk (hk4.1 _ _ G43.out (by have := W3.out.lt; have := HG4.out; omega))
        have GA4 := Aside0.mk (hk4.1 _ _ GA3.out (by have := W3.out.lt; have := hsz.out; have := HG4.out; omega))
        clear hb4 hk4 hr4 C3 W3 G43 GA3
        have H2 := Aside0.mk (mustF_ok hM H1.out.2.2.1)
        have C4 := Aside0.mk (next_calls B r tell s st2 w4 W4.out.rd (by have := H2.out; rw [this.1]; simp only; omega))
        cases hQ : nextF s st2 with
        | bad a y =>
          rw [hQ] at C4
          go_wp2_with (go_at_call 115; refine C4.out.mono ?_; rintro e w5 ⟨hb5, hk5, rfl⟩)
          rw [← HZ.out, sAttrF, hN]
          simp only [Res.bind]
          rw [if_neg H32.out, hH, if_neg (by decide), hM]
          simp only
          rw [hQ]
          exact ⟨rfl, W4.out.bel.trans hb5, W4.out.kx.trans hk5, rfl⟩
        | ok q st3 =>
          rw [hQ] at C4
          go_wp2_with (go_at_call 115; refine C4.out.mono ?_)
          rintro e w5 ⟨hb5, hk5, rfl, hr5⟩
          have W5 := Aside0.mk (W4.out.step hb5 hk5 hr5)
          have G45 := Aside0.mk (hk5.1 _ _ G44.out (by have := W4.out.lt; have := HG4.out; omega))
          have GA5 := Aside0.mk (hk5.1 _ _ GA4.out (by have := W4.out.lt; have := hsz.out; have := HG4.out; omega))
          clear hb5 hk5 hr5 C4 W4 G44 GA4
          obtain ⟨rfl, hq, hat⟩ := nextF_ok hQ (by have := H2.out; rw [this.1]; simp only; omega)
          have HQ := Aside0.mk hq
          clear hq
          have hs := HS.out
          obtain ⟨c0, c1, c2, z1⟩ : w5.cell? ⟨r, 0, none⟩ = some (.string s) ∧ w5.cell? ⟨r, 1, none⟩ = some (.int .i64 st3.at_) ∧ True ∧ w5.frozen? ⟨r, 1, none⟩ = false := by
            obtain ⟨x0, ov, pv, bv, x1, x2⟩ := W5.out.rd
            obtain ⟨c0, c1, -, -, -, z1, -, -⟩ := Rd.cells x1
            exact ⟨c0, c1, trivial, z1⟩
          by_cases hqq : q = 34 ∨ q = 39
          · have HQQ := Aside0.mk hqq
            have hf : (q != 34) = false ∨ ((q != 34) = true ∧ (q != 39) = false) := by
              rcases hqq with rfl | rfl
              · exact .inl rfl
              · exact .inr ⟨rfl, rfl⟩
            clear hqq
            rcases hf with f1 | ⟨f1, f2⟩
            all_goals
              go_wp2
              have hst := Aside0.mk H2.out.1
              have hal6 := (Below.refl (w5.setCell ⟨r, 1, none⟩ (.int .i64 ((st3.at_ : Int) + 1))).heap.size (w5.setCell ⟨r, 1, none⟩ (.int .i64 ((st3.at_ : Int) + 1)))).alloc (Nat.le_refl _) (.cells #[.pointer none, .slice none 0 0] 70)
              have WS6 := W5.out.store (st3.at_ + 1) ((st3.at_ : Int) + 1) (by omega)
              have hle6 : w.heap.size ≤ (w5.setCell ⟨r, 1, none⟩ (.int .i64 ((st3.at_ : Int) + 1))).heap.size := by
                have := lt_of_heap G45.out
                have := HG4.out
                simp only [World.setCell, Array.size_modify]
                omega
              have W6 := Aside0.mk (WS6.near (hal6.mono hle6))
              have hgb : (w5.setCell ⟨r, 1, none⟩ (.int .i64 ((st3.at_ : Int) + 1))).heap.size = w5.heap.size := by simp [World.setCell]
              have hB := fun k (o : Obj) (h : w5.heap[k]? = some o) (hk : k ≠ r) => (hal6.block k (by rw [hgb]; exact lt_of_heap h)).trans ((Below.heap_setCell w5 ⟨r, 1, none⟩ (.int .i64 ((st3.at_ : Int) + 1)) k hk).trans h)
              have hnew := blk_new (w5.setCell ⟨r, 1, none⟩ (.int .i64 ((st3.at_ : Int) + 1))) (.cells #[.pointer none, .slice none 0 0] 70)
              rw [hgb] at hnew
              have X6 := Aside0.mk (show AW B r tell s st w n g4 ga w5.heap.size { st3 with at_ := st3.at_ + 1 } [] _ from ⟨W6.out, hB _ _ G45.out (by have := W5.out.lt; have := HG4.out; omega), hB _ _ GA5.out (by have := W5.out.lt; have := HG4.out; have := hsz.out; omega),
                ⟨_, rfl, by have := lt_of_heap G45.out; have := HG4.out; omega, hnew, .inl rfl, .slice none 0 0, rfl, ⟨rfl, .inl ⟨rfl, rfl⟩⟩, by simp [Value.ownBlock]⟩, by have := HG4.out; omega, by have := HG4.out; have := hsz.out; omega⟩)
              have HRES : res = (valF s q (s.size + 1) { st3 with at_ := st3.at_ + 1 } []).bind fun v st4 => .ok ⟨n, ⟨v.toArray⟩⟩ { st4 with at_ := st4.at_ + 1 } := by
                rw [← HZ.out, sAttrF, hN]
                simp only [Res.bind]
                rw [if_neg H32.out, hH, if_neg (by decide), hM]
                simp only
                rw [hQ]
                simp only
                rw [if_pos HQQ.out]
              generalize hval : valF s q (s.size + 1) { st3 with at_ := st3.at_ + 1 } [] = val at HRES
              have HR := Aside0.mk HRES
              have HV := Aside0.mk hval
              clear HRES hval hB hnew hgb hle6 WS6 hal6 c0 c1 c2 z1 W5 G45 GA5 hN hH hM hQ W6 HZ H2 H1 hst HQ
              generalize hw6 : (w5.setCell ⟨r, 1, none⟩ (.int .i64 ((st3.at_ : Int) + 1))).alloc (.cells #[.pointer none, .slice none 0 0] 70) = w6 at *
              generalize hgb : w5.heap.size = gb at *
              clear hw6 hgb
              go_loopg [9, 10] s.size (fun gg s9 s10 wr => ∃ (stx : St) (acc : List UInt8), stx.at_ ≤ s.size ∧ s.size - stx.at_ ≤ gg ∧ acc.length ≤ 16384 ∧ Aside0 (AW B r tell s st w n g4 ga gb stx acc wr) ∧ Aside0 (valF s q (gg + 1) stx acc = val))
              case atStart => exact ⟨{ st3 with at_ := st3.at_ + 1 }, [], by simp only; omega, by simp only; omega, by simp, X6, HV⟩
              case round =>
                obtain ⟨stx, acc, hax, hgx, hacc, HX, HVx⟩ := hrel
                clear X6 HV
                have C5 := Aside0.mk (next_calls B r tell s stx wr HX.out.way.rd hax)
                cases hQx : nextF s stx with
                | bad a y =>
                  rw [hQx] at C5
                  go_wp2_with (go_at_call 115; refine C5.out.mono ?_; rintro e w7 ⟨hb7, hk7, rfl⟩)
                  rw [HR.out, ← HVx.out, valF_succ, hQx]
                  exact ⟨rfl, HX.out.way.bel.trans hb7, HX.out.way.kx.trans hk7, rfl⟩
                | ok cx sty =>
                  obtain ⟨hsty, hcx, hlt⟩ := nextF_ok hQx hax
                  obtain rfl : stx = sty := hsty.symm
                  have HCX := Aside0.mk hcx
                  have HQX := Aside0.mk hQx
                  rw [hQx] at C5
                  clear hsty hcx hQx
                  by_cases hcq : cx = q
                  · have f3 : (cx != q) = false := bne_eq_false_iff_eq.mpr hcq
                    have HCQ := Aside0.mk hcq
                    clear hcq
                    go_wp2_with (go_at_call 115; refine C5.out.mono ?_; rintro e w7 ⟨hb7, hk7, rfl, hr7⟩; have X7 := HX.out.step hb7 hk7 hr7; have X8 := Aside0.mk (X7.store (stx.at_ + 1) ((stx.at_ : Int) + 1) (by omega)); obtain ⟨c0, c1, z1, -⟩ := X7.cells; clear X7 hb7 hk7 hr7)
                    refine X8.out.string.mono ?_
                    rintro e w9 ⟨rfl, X9⟩
                    have hne : ga ≠ g4 := Nat.ne_of_gt HLT.out
                    have XX := Aside0.mk X9
                    obtain ⟨-, -, -, a0, a1, za, b0, b1, zb0, zb1⟩ := X9.cells
                    clear X9
                    go_wp2
                    have G1 := heap_set (heap_set ((Below.heap_setCell w9 ⟨ga, 1, none⟩ (.string ⟨acc.toArray⟩) g4 hne.symm).trans XX.out.h4) 0 (.string n)) 1 (.string ⟨acc.toArray⟩)
                    have hB9 : Below w.heap.size w9 (((w9.setCell ⟨ga, 1, none⟩ (.string ⟨acc.toArray⟩)).setCell ⟨g4, 0, none⟩ (.string n)).setCell ⟨g4, 1, none⟩ (.string ⟨acc.toArray⟩)) :=
                      (((Below.refl _ w9).setCell (p := ⟨ga, 1, none⟩) XX.out.la _).setCell (p := ⟨g4, 0, none⟩) XX.out.l4 _).setCell (p := ⟨g4, 1, none⟩) XX.out.l4 _
                    have WF := XX.out.way.near hB9
                    refine bodyPost_ret (results_cell_row rfl _ _ g4 61 _ (0, 0) _ rfl G1 Tryz.underlying61 rfl (by kernel_rfl)) rfl ?_
                    rw [HR.out, ← HVx.out, valF_succ, HQX.out]
                    simp only [Res.bind]
                    rw [if_pos HCQ.out]
                    exact ⟨WF.bel, WF.kx, rfl, WF.rd⟩
                  · have f3 : (cx != q) = true := bne_iff_ne.mpr hcq
                    have HCQ := Aside0.mk hcq
                    clear hcq
                    have hbt := Aside0.mk (show ((s[stx.at_]'hlt).toNat : Int) = bt s (stx.at_ : Int) by have := bt_at s (stx.at_ : Int) (by simpa using hlt); simpa using this)
                    have p6 := eq_true (show (0 : Int) ≤ (stx.at_ : Int) by omega)
                    have q6 := eq_true (show (stx.at_ : Int) < (s.size : Int) by omega)
                    by_cases h60 : cx = 60
                    · have f4 : (((s[stx.at_]'hlt).toNat : Int) == 60) = true := beq_iff_eq.mpr (by rw [hbt.out, ← HCX.out, h60])
                      have H60 := Aside0.mk h60
                      clear h60
                      go_wp2_with (first
                        | (go_at_call 115; refine C5.out.mono ?_; rintro e w7 ⟨hb7, hk7, rfl, hr7⟩; have X7 := HX.out.step hb7 hk7 hr7; have X8 := Aside0.mk X7; obtain ⟨c0, c1, z1, -⟩ := X7.cells; clear X7 hb7 hk7 hr7)
                        | (go_at_call 43; refine (fail_calls r _ 3 _).mono ?_; rintro e w' ⟨rfl, rfl⟩))
                      rw [HR.out, ← HVx.out, valF_succ, HQX.out]
                      simp only [Res.bind]
                      rw [if_neg HCQ.out, if_pos H60.out]
                      exact ⟨rfl, X8.out.way.bel, X8.out.way.kx, rfl⟩
                    · have f4 : (((s[stx.at_]'hlt).toNat : Int) == 60) = false := beq_eq_false_iff_ne.mpr (by rw [hbt.out, ← HCX.out]; exact h60)
                      have H60 := Aside0.mk h60
                      clear h60
                      obtain ⟨gk, rfl⟩ : ∃ m, gk = m + 1 := ⟨gk - 1, by omega⟩
                      by_cases h38 : cx = 38
                      · have f5 : (((s[stx.at_]'hlt).toNat : Int) == 38) = true := beq_iff_eq.mpr (by rw [hbt.out, ← HCX.out, h38])
                        have H38 := Aside0.mk h38
                        clear h38
                        go_wp2_with (go_at_call 115; refine C5.out.mono ?_; rintro e w7 ⟨hb7, hk7, rfl, hr7⟩; have X7 := HX.out.step hb7 hk7 hr7; have X8 := Aside0.mk X7; obtain ⟨c0, c1, z1, -⟩ := X7.cells; clear X7 hb7 hk7 hr7)
                        have C6 := Aside0.mk (refP_calls B r tell s stx w7 X8.out.way.rd X8.out.way.env hax hs)
                        cases hT : refP s stx with
                        | bad a y =>
                          rw [hT] at C6
                          refine C6.out.mono ?_
                          rintro e w8 ⟨hb8, hk8, rfl⟩
                          go_wp2
                          rw [HR.out, ← HVx.out, valF_succ, HQX.out]
                          simp only [Res.bind]
                          rw [if_neg HCQ.out, if_neg H60.out, if_pos H38.out, hT]
                          exact ⟨rfl, X8.out.way.bel.trans hb8, X8.out.way.kx.trans hk8, rfl⟩
                        | ok t sty =>
                          rw [hT] at C6
                          refine C6.out.mono ?_
                          rintro e w8 ⟨hb8, hk8, rfl, hr8⟩
                          obtain ⟨-, hat1, hat2, hts⟩ := refP_ok hT hlt
                          have X9 := Aside0.mk (X8.out.step hb8 hk8 hr8)
                          have HT := Aside0.mk hT
                          clear hb8 hk8 hr8 C6 X8 c0 c1 z1 hT
                          by_cases hov : 16384 < acc.length + t.size
                          · have g1 : decide ((acc.length : Int) + (t.size : Int) > 16384) = true := decide_eq_true (by omega)
                            have g2 : decide ((16384 : Int) < (acc.length : Int) + (t.size : Int)) = true := decide_eq_true (by omega)
                            have HO := Aside0.mk hov
                            clear hov
                            go_wp2_with (first
                              | (go_at_call 50; refine X9.out.len.mono ?_; rintro e w' ⟨rfl, hw⟩; have hw2 := hw.symm; clear hw; subst hw2)
                              | (go_at_call 43; refine (fail_calls r _ 2 _).mono ?_; rintro e w' ⟨rfl, rfl⟩))
                            rw [HR.out, ← HVx.out, valF_succ, HQX.out]
                            simp only [Res.bind]
                            rw [if_neg HCQ.out, if_neg H60.out, if_pos H38.out, HT.out]
                            simp only
                            rw [if_pos HO.out]
                            exact ⟨rfl, X9.out.way.bel, X9.out.way.kx, rfl⟩
                          · have g1 : decide ((acc.length : Int) + (t.size : Int) > 16384) = false := decide_eq_false (by omega)
                            have g2 : decide ((16384 : Int) < (acc.length : Int) + (t.size : Int)) = false := decide_eq_false (by omega)
                            have HO := Aside0.mk hov
                            have hlen : acc.length + t.size ≤ 16384 := by omega
                            have HWR := Aside0.mk (X9.out.writes t (by omega))
                            clear hov
                            go_wp2_with (first
                              | (go_at_call 50; refine X9.out.len.mono ?_; rintro e w' ⟨rfl, hw⟩; have hw2 := hw.symm; clear hw; subst hw2)
                              | (go_at_call 58; refine HWR.out.mono ?_; rintro e w10 ⟨rfl, X10⟩))
                            go_roundg gk
                            case measure => omega
                            case rel =>
                              refine ⟨sty, acc ++ t.data.toList, hat2, by omega, by rw [List.length_append, ← Lib.size_eq]; exact hlen, ⟨X10⟩, ⟨?_⟩⟩
                              rw [← HVx.out, valF_succ s q (gk + 1), HQX.out]
                              simp only [Res.bind]
                              rw [if_neg HCQ.out, if_neg H60.out, if_pos H38.out, HT.out]
                              simp only
                              rw [if_neg HO.out]
                      · have f5 : (((s[stx.at_]'hlt).toNat : Int) == 38) = false := beq_eq_false_iff_ne.mpr (by rw [hbt.out, ← HCX.out]; exact h38)
                        have H38 := Aside0.mk h38
                        clear h38
                        go_wp2_with (go_at_call 115; refine C5.out.mono ?_; rintro e w7 ⟨hb7, hk7, rfl, hr7⟩; have X7 := HX.out.step hb7 hk7 hr7; have X8 := Aside0.mk X7; obtain ⟨c0, c1, z1, -⟩ := X7.cells; clear X7 hb7 hk7 hr7)
                        have C6 := Aside0.mk (charP_calls B r tell s stx w7 X8.out.way.rd X8.out.way.env hlt hs)
                        cases hT : charP s stx with
                        | bad a y =>
                          rw [hT] at C6
                          refine C6.out.mono ?_
                          rintro e w8 ⟨hb8, hk8, rfl⟩
                          go_wp2
                          rw [HR.out, ← HVx.out, valF_succ, HQX.out]
                          simp only [Res.bind]
                          rw [if_neg HCQ.out, if_neg H60.out, if_neg H38.out, hT]
                          exact ⟨rfl, X8.out.way.bel.trans hb8, X8.out.way.kx.trans hk8, rfl⟩
                        | ok t sty =>
                          rw [hT] at C6
                          refine C6.out.mono ?_
                          rintro e w8 ⟨hb8, hk8, rfl, hr8⟩
                          obtain ⟨-, hat1, hat2, hts⟩ := charP_ok hT hlt
                          have X9 := Aside0.mk (X8.out.step hb8 hk8 hr8)
                          have HT := Aside0.mk hT
                          clear hb8 hk8 hr8 C6 X8 c0 c1 z1 hT
                          by_cases hov : 16384 < acc.length + t.size
                          · have g1 : decide ((acc.length : Int) + (t.size : Int) > 16384) = true := decide_eq_true (by omega)
                            have g2 : decide ((16384 : Int) < (acc.length : Int) + (t.size : Int)) = true := decide_eq_true (by omega)
                            have HO := Aside0.mk hov
                            clear hov
                            go_wp2_with (first
                              | (go_at_call 50; refine X9.out.len.mono ?_; rintro e w' ⟨rfl, hw⟩; have hw2 := hw.symm; clear hw; subst hw2)
                              | (go_at_call 43; refine (fail_calls r _ 2 _).mono ?_; rintro e w' ⟨rfl, rfl⟩))
                            rw [HR.out, ← HVx.out, valF_succ, HQX.out]
                            simp only [Res.bind]
                            rw [if_neg HCQ.out, if_neg H60.out, if_neg H38.out, HT.out]
                            simp only
                            rw [if_pos HO.out]
                            exact ⟨rfl, X9.out.way.bel, X9.out.way.kx, rfl⟩
                          · have g1 : decide ((acc.length : Int) + (t.size : Int) > 16384) = false := decide_eq_false (by omega)
                            have g2 : decide ((16384 : Int) < (acc.length : Int) + (t.size : Int)) = false := decide_eq_false (by omega)
                            have HO := Aside0.mk hov
                            have hlen : acc.length + t.size ≤ 16384 := by omega
                            have HWR := Aside0.mk (X9.out.writes t (by omega))
                            clear hov
                            go_wp2_with (first
                              | (go_at_call 50; refine X9.out.len.mono ?_; rintro e w' ⟨rfl, hw⟩; have hw2 := hw.symm; clear hw; subst hw2)
                              | (go_at_call 58; refine HWR.out.mono ?_; rintro e w10 ⟨rfl, X10⟩))
                            go_roundg gk
                            case measure => omega
                            case rel =>
                              refine ⟨sty, acc ++ t.data.toList, hat2, by omega, by rw [List.length_append, ← Lib.size_eq]; exact hlen, ⟨X10⟩, ⟨?_⟩⟩
                              rw [← HVx.out, valF_succ s q (gk + 1), HQX.out]
                              simp only [Res.bind]
                              rw [if_neg HCQ.out, if_neg H60.out, if_neg H38.out, HT.out]
                              simp only
                              rw [if_neg HO.out]
          · have f1 : (q != 34) = true := bne_iff_ne.mpr fun e => hqq (.inl e)
            have f2 : (q != 39) = true := bne_iff_ne.mpr fun e => hqq (.inr e)
            have HQQ := Aside0.mk hqq
            clear hqq
            go_wp2_with (go_at_call 43; refine (fail_calls r _ 3 _).mono ?_; rintro e w' ⟨rfl, rfl⟩)
            rw [← HZ.out, sAttrF, hN]
            simp only [Res.bind]
            rw [if_neg H32.out, hH, if_neg (by decide), hM]
            simp only
            rw [hQ]
            simp only
            rw [if_neg HQQ.out]
            exact ⟨rfl, W5.out.bel, W5.out.kx, rfl⟩
end Go.Proofs.YtealmfcimoomlaaGreatDoor.PA
