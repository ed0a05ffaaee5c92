/- What stands in a text, and how the scanner reads it: names, attributes, elements' beginnings and ends, remarks. -/
import Derived.Test.YtealmfcimoomlaaGreatDoorPT1
namespace Go.Proofs.YtealmfcimoomlaaGreatDoor.PA
open Go.RowKit Go.Proofs.YtealmfcimoomlaaGreatDoorW.PrintWords Go.Proofs.YtealmfcimoomlaaGreatDoorW.PrintLast Go.Proofs.YtealmfcimoomlaaGreatDoorW.PrintMore
set_option linter.unusedVariables false
set_option linter.unusedSimpArgs false
/-- A byte that may stand in a name. -/
def inB (c : Int) : Bool := (chars_letter.f c).getD false || decide (48 ≤ c ∧ c ≤ 57) || decide (c = 45) || decide (c = 46)
theorem inB_fin : ∀ n : Fin 256, inB (n.val : Int) = namedV (n.val : Int) := by decide +kernel
theorem letter_fin : ∀ n : Fin 256, (chars_letter.f (n.val : Int)).getD false = letterV (n.val : Int) := by decide +kernel
theorem named_fin : ∀ n : Fin 256, namedV (n.val : Int) = true → blankV (n.val : Int) = false ∧ n.val ≠ 47 ∧ n.val ≠ 62 ∧ n.val ≠ 61 ∧ n.val ≠ 60 ∧ n.val ≠ 33 ∧ n.val ≠ 63 := by decide +kernel
theorem letterN_fin : ∀ n : Fin 256, letterV (n.val : Int) = true → namedV (n.val : Int) = true := by decide +kernel
theorem blank_fin : ∀ n : Fin 256, blankV (n.val : Int) = true → namedV (n.val : Int) = false := by decide +kernel
theorem named_byte (b : UInt8) (h : namedV (b.toNat : Int) = true) : blankV (b.toNat : Int) = false ∧ b.toNat ≠ 47 ∧ b.toNat ≠ 62 ∧ b.toNat ≠ 61 ∧ b.toNat ≠ 60 ∧ b.toNat ≠ 33 ∧ b.toNat ≠ 63 := named_fin ⟨b.toNat, b.toNat_lt⟩ h
theorem letter_named (b : UInt8) (h : letterV (b.toNat : Int) = true) : namedV (b.toNat : Int) = true := letterN_fin ⟨b.toNat, b.toNat_lt⟩ h
theorem l0_step {s : ByteArray} {k i : Nat} (hn : s.size ≤ 140737488355328) (h : chars_Name.l0 (k + 1) s (s.size : Int) (i : Int) = some true) (hi : i < s.size) :
    inB (bt s (i : Int)) = true ∧ chars_Name.l0 k s (s.size : Int) ((i + 1 : Nat) : Int) = some true := by
  have hw : wrap64 ((i : Int) + 1) = ((i + 1 : Nat) : Int) := by rw [wrap_in (by omega) (by omega)]; omega
  obtain ⟨t, ht⟩ := letter_some (bt s (i : Int))
  rw [chars_Name.l0.eq_2, if_pos (by omega), if_pos (by omega), if_pos (by omega), ht, Option.bind_some, hw] at h
  unfold inB
  rw [ht, Option.getD_some]
  generalize bt s (i : Int) = c at h
  cases t with
  | true => rw [if_pos rfl] at h; exact ⟨by simp, h⟩
  | false =>
    rw [if_neg (show ¬ (false = true) by simp)] at h
    by_cases c1 : c = 45
    · subst c1; exact ⟨by simp, by simpa using h⟩
    by_cases c2 : c = 46
    · subst c2; exact ⟨by simp, by simpa using h⟩
    by_cases c3 : c < 48
    · rw [if_pos c3, if_neg c1, if_neg c2] at h; cases h
    · rw [if_neg c3] at h
      by_cases c4 : c > 57
      · rw [if_pos c4, if_neg c1, if_neg c2] at h; cases h
      · rw [if_neg c4] at h
        exact ⟨by simp; omega, h⟩
theorem l0_all {s : ByteArray} (hn : s.size ≤ 140737488355328) : ∀ (k i : Nat), chars_Name.l0 k s (s.size : Int) (i : Int) = some true → ∀ j, i ≤ j → j < s.size → inB (bt s (j : Int)) = true
  | 0, i, h, _, _, _ => by rw [chars_Name.l0.eq_1] at h; cases h
  | k + 1, i, h, j, hij, hj => by
    obtain ⟨h1, h2⟩ := l0_step hn h (by omega)
    by_cases e : i = j
    · subst e; exact h1
    · exact l0_all hn k (i + 1) h2 j (by omega) hj
theorem nameB_all {n : ByteArray} (h : nameB n = true) : ∃ b x, n.data.toList = b :: x ∧ letterV (b.toNat : Int) = true ∧ ∀ z ∈ n.data.toList, namedV (z.toNat : Int) = true := by
  have hz := nameB_size h
  have hs := size_list n
  unfold nameB chars_Name.f at h
  by_cases h1 : n.toList = ([] : List UInt8)
  · rw [if_pos h1, chars_Name.j0.eq_2, if_pos rfl] at h; cases h
  rw [if_neg h1] at h
  rw [if_neg (by omega)] at h
  cases hl : n.data.toList with
  | nil => rw [Lib.toList_data] at h1; exact absurd hl h1
  | cons b x =>
    rw [hl, List.length_cons] at hs
    have hb : bt n 0 = (b.toNat : Int) := by
      have h0 := bt_byte n 0 (by omega)
      rw [get_list, hl] at h0
      exact h0
    obtain ⟨t, ht⟩ := letter_some (bt n 0)
    rw [if_pos (by omega), ht, Option.bind_some, chars_Name.j0.eq_2] at h
    cases t with
    | false => rw [if_pos (show (!false) = true from rfl)] at h; cases h
    | true =>
      rw [if_neg (by decide)] at h
      have hl0 : chars_Name.l0 (n.size + 1) n (n.size : Int) ((0 : Nat) : Int) = some true := by
        obtain ⟨r, hr⟩ := name_ends n (by omega) n.size (n.size + 1) 0 (by omega) (by omega) (by omega)
        have h' : (chars_Name.l0 (n.size + 1) n (n.size : Int) ((0 : Nat) : Int)).getD false = true := h
        rw [hr] at h' ⊢
        exact congrArg some h'
      refine ⟨b, x, rfl, ?_, fun z hz' => ?_⟩
      · rw [← letter_fin ⟨b.toNat, b.toNat_lt⟩]
        show (chars_letter.f (b.toNat : Int)).getD false = true
        rw [← hb, ht]
        rfl
      · rw [← hl] at hz'
        obtain ⟨j, hj, rfl⟩ := List.mem_iff_getElem.mp hz'
        rw [size_list] at hj
        have := l0_all (by omega) _ 0 hl0 j (by omega) hj
        rw [bt_byte n j hj, get_list, List.getD_eq_getElem?_getD, List.getElem?_eq_getElem (by rw [size_list]; exact hj), Option.getD_some] at this
        rw [← inB_fin ⟨(n.data.toList[j]'(by rw [size_list]; exact hj)).toNat, UInt8.toNat_lt _⟩]
        exact this
/-- A name is read as such, where no further byte of a name stands behind it. -/
theorem nameP_run {s : ByteArray} {st : St} {n : ByteArray} (h : Stands s st.at_ n.data.toList) (hn : nameB n = true) (hs : st.at_ + n.size < s.size → namedV (bt s ((st.at_ + n.size : Nat) : Int)) = false) :
    nameP s st = .ok n { st with at_ := st.at_ + n.size } := by
  obtain ⟨b, x, hbx, hb, hall⟩ := nameB_all hn
  have hk : skipF s namedV st.at_ = st.at_ + n.size := by
    rw [← size_list n] at hs ⊢
    exact skipF_run _ _ h hall hs
  have he : s.extract st.at_ (st.at_ + n.size) = n := by
    have := h.extract
    rw [size_list, mkL] at this
    exact this
  unfold nameP nameF
  rw [hk, he, if_pos hn]
theorem bind_run {α β : Type} (v : α) (st : St) (f : α → St → Res β) : (Res.ok v st).bind f = f v st := rfl
theorem nextF_run {s : ByteArray} {st : St} {b : UInt8} {x : List UInt8} (h : Stands s st.at_ (b :: x)) : nextF s st = .ok (b.toNat : Int) st := by
  obtain ⟨hlt, -, hbt, -⟩ := h.head
  unfold nextF
  rw [if_neg (by omega), hbt]
theorem mustF_run {s : ByteArray} {st : St} {b : UInt8} {x : List UInt8} (h : Stands s st.at_ (b :: x)) {c : Int} (hc : c = (b.toNat : Int)) : mustF s st c = .ok () { st with at_ := st.at_ + 1 } := by
  unfold mustF
  rw [nextF_run h, bind_run, if_pos hc.symm]
theorem cast_ne {a b : UInt8} (h : a ≠ b) : ¬ (a.toNat : Int) = (b.toNat : Int) := fun e => h (UInt8.toNat_inj.mp (by omega))
/-- A value up to its quote. -/
theorem valF_run {s : ByteArray} {q : UInt8} : ∀ (cs : List Nat) (d : Nat) (st : St) (acc : List UInt8), (∀ c ∈ cs, okC c) → q ∉ cs.flatMap (escC true) → Stands s st.at_ (cs.flatMap (escC true) ++ [q]) → acc.length + (encs cs).length ≤ 16384 → cs.length < d →
    valF s (q.toNat : Int) d st acc = .ok (acc ++ encs cs) { st with at_ := st.at_ + (cs.flatMap (escC true)).length } := by
  intro cs
  induction cs with
  | nil =>
    intro d st acc _ _ h _ hd
    obtain ⟨d, rfl⟩ : ∃ e, d = e + 1 := ⟨d - 1, by simp only [List.length_nil] at hd; omega⟩
    rw [valF_succ, nextF_run (b := q) (x := []) h, bind_run, if_pos rfl, List.flatMap_nil, List.length_nil, Nat.add_zero, show encs [] = [] from rfl, List.append_nil]
  | cons c cs ih =>
    intro d st acc hc hq h hl hd
    obtain ⟨d, rfl⟩ : ∃ e, d = e + 1 := ⟨d - 1, by simp only [List.length_cons] at hd; omega⟩
    have hok := hc c List.mem_cons_self
    rw [List.flatMap_cons, List.append_assoc] at h
    rw [List.flatMap_cons] at hq
    obtain ⟨h1, h2⟩ := Stands.app.mp h
    have hpos := escC_pos true c hok
    rw [encs_cons, List.length_append] at hl
    obtain ⟨b, l, hbl⟩ : ∃ b l, escC true c = b :: l := by
      cases he : escC true c with
      | nil => rw [he] at hpos; simp at hpos
      | cons b l => exact ⟨b, l, rfl⟩
    have hh := h1
    rw [hbl] at hh
    obtain ⟨hlt, -, hbt, -⟩ := hh.head
    have hbq : b ≠ q := fun e => hq (List.mem_append_left _ (by rw [hbl, e]; exact List.mem_cons_self))
    have hnx := esc_next h1 hok
    rw [hbt] at hnx
    rw [valF_succ, nextF_run hh, bind_run, if_neg (cast_ne hbq), if_neg (show ¬ (b.toNat : Int) = 60 from cast_ne (esc_ne60 hbl)), hnx, bind_run, if_neg (by rw [sizeMk]; omega), listMk, ih d { st with at_ := st.at_ + (escC true c).length } (acc ++ enc c) (fun z hz => hc z (List.mem_cons_of_mem _ hz)) (fun e => hq (List.mem_append_right _ e)) h2 (by rw [List.length_append]; omega) (by simp only [List.length_cons] at hd; omega)]
    rw [List.flatMap_cons, List.length_append, encs_cons, List.append_assoc]
    simp only [Nat.add_assoc]
/-- An attribute as it stands: the blanks ahead, its quote, the characters of its value. -/
structure Att where
  bl : List UInt8
  q : UInt8
  a : S61
  cs : List Nat
def Att.txt (x : Att) : List UInt8 := x.bl ++ (x.a.f0.data.toList ++ (61 :: x.q :: (x.cs.flatMap (escC true) ++ [x.q])))
structure Att.Ok (x : Att) : Prop where
  bl0 : x.bl ≠ []
  bl : ∀ z ∈ x.bl, blankV (z.toNat : Int) = true
  q : x.q = 34 ∨ x.q = 39
  nm : nameB x.a.f0 = true
  val : x.a.f1 = ⟨(encs x.cs).toArray⟩
  ok : ∀ c ∈ x.cs, okC c
  len : (encs x.cs).length ≤ 16384
  nq : x.q ∉ x.cs.flatMap (escC true)
theorem encs_len (cs : List Nat) (h : ∀ c ∈ cs, okC c) : cs.length ≤ (cs.flatMap (escC true)).length := by
  induction cs with
  | nil => exact Nat.zero_le _
  | cons c cs ih =>
    have := ih fun z hz => h z (List.mem_cons_of_mem _ hz)
    have := escC_pos true c (h c List.mem_cons_self)
    rw [List.flatMap_cons, List.length_append, List.length_cons]
    omega
theorem sAttrF_run {s : ByteArray} {st : St} {x : Att} {l : List S61} (hx : x.Ok) (h : Stands s st.at_ (x.a.f0.data.toList ++ (61 :: x.q :: (x.cs.flatMap (escC true) ++ [x.q])))) (hl : l.length < 32) (hf : hasName l x.a.f0 = false) :
    sAttrF s st l = .ok x.a { st with at_ := st.at_ + (x.a.f0.data.toList ++ (61 :: x.q :: (x.cs.flatMap (escC true) ++ [x.q]))).length } := by
  obtain ⟨h1, h2⟩ := Stands.app.mp h
  have hz := size_list x.a.f0
  rw [hz] at h2
  obtain ⟨l1, -, b1, h3⟩ := h2.head
  obtain ⟨l2, -, b2, h4⟩ := h3.head
  have hlen := h4.len
  have hn := nameP_run h1 hx.nm (fun _ => by
    rw [b1]
    have : (61 : UInt8).toNat = 61 := rfl
    exact (by decide +kernel : namedV (((61 : UInt8).toNat : Nat) : Int) = false))
  rw [List.length_append] at hlen
  have hel := encs_len x.cs hx.ok
  have hq34 : (x.q.toNat : Int) = 34 ∨ (x.q.toNat : Int) = 39 := by rcases hx.q with e | e <;> rw [e] <;> decide
  unfold sAttrF
  rw [hn, bind_run, if_neg (by omega), if_neg (by rw [hf]; decide), mustF_run (c := 61) (b := 61) (st := { st with at_ := st.at_ + x.a.f0.size }) h2 rfl, bind_run, nextF_run (b := x.q) (st := { st with at_ := st.at_ + x.a.f0.size + 1 }) h3, bind_run, if_pos hq34,
    valF_run x.cs (s.size + 1) { st with at_ := st.at_ + x.a.f0.size + 1 + 1 } [] hx.ok hx.nq h4 (by have := hx.len; simp only [List.length_nil]; omega) (by omega), bind_run, List.nil_append, ← hx.val]
  have e : ({ st with at_ := st.at_ + x.a.f0.size + 1 + 1 + (x.cs.flatMap (escC true)).length + 1 } : St) = { st with at_ := st.at_ + (x.a.f0.data.toList ++ (61 :: x.q :: (x.cs.flatMap (escC true) ++ [x.q]))).length } := by
    rw [St.mk.injEq]
    refine ⟨?_, rfl, rfl, rfl⟩
    simp only [List.length_append, List.length_cons, List.length_nil, hz]
    omega
  rw [← e]
/-- All blanks. -/
def Blanks (ws : List UInt8) : Prop := ∀ z ∈ ws, blankV (z.toNat : Int) = true
theorem hasName_no {l : List S61} {n : ByteArray} (h : ∀ b ∈ l, b.f0 ≠ n) : hasName l n = false := by
  unfold hasName
  rw [List.any_eq_false]
  intro b hb
  simpa using h b hb
/-- The attributes up to the end of an element's beginning. -/
theorem atsF_run {s : ByteArray} {ws fin : List UInt8} (hw : Blanks ws) (hfin : fin = [47, 62] ∨ fin = [62]) : ∀ (xs : List Att) (d : Nat) (st : St) (l : List S61), (∀ x ∈ xs, x.Ok) → (l ++ xs.map (·.a)).Pairwise (fun a b => a.f0 ≠ b.f0) → l.length + xs.length ≤ 32 →
    Stands s st.at_ (xs.flatMap Att.txt ++ (ws ++ fin)) → xs.length < d → atsF s d st l = .ok (l ++ xs.map (·.a), fin == [47, 62]) { st with at_ := st.at_ + (xs.flatMap Att.txt ++ (ws ++ fin)).length } := by
  intro xs
  induction xs with
  | nil =>
    intro d st l _ _ _ h hd
    obtain ⟨d, rfl⟩ : ∃ e, d = e + 1 := ⟨d - 1, by simp only [List.length_nil] at hd; omega⟩
    rw [List.flatMap_nil, List.nil_append] at h ⊢
    obtain ⟨h1, h2⟩ := Stands.app.mp h
    have hk : skipF s blankV st.at_ = st.at_ + ws.length := skipF_run _ _ h1 hw fun _ => by
      rcases hfin with e | e
      · rw [e] at h2; rw [h2.head.2.2.1]; decide +kernel
      · rw [e] at h2; rw [h2.head.2.2.1]; decide +kernel
    rw [atsF_succ, hk]
    rcases hfin with e | e
    · rw [e] at h2 ⊢
      obtain ⟨-, -, -, h3⟩ := h2.head
      rw [nextF_run (b := 47) (st := { st with at_ := st.at_ + ws.length }) h2, bind_run, if_pos (by decide), mustF_run (c := 62) (b := 62) (st := { st with at_ := st.at_ + ws.length + 1 }) h3 rfl, bind_run, List.map_nil, List.append_nil, List.length_append]
      rfl
    · rw [e] at h2 ⊢
      rw [nextF_run (b := 62) (st := { st with at_ := st.at_ + ws.length }) h2, bind_run, if_neg (by decide), if_pos (by decide), List.map_nil, List.append_nil, List.length_append]
      rfl
  | cons x xs ih =>
    intro d st l hx hp hl h hd
    obtain ⟨d, rfl⟩ : ∃ e, d = e + 1 := ⟨d - 1, by simp only [List.length_cons] at hd; omega⟩
    have hx0 := hx x List.mem_cons_self
    simp only [List.length_cons] at hl hd
    rw [List.flatMap_cons, List.append_assoc, Att.txt, List.append_assoc] at h
    obtain ⟨h1, h2⟩ := Stands.app.mp h
    obtain ⟨h3, h4⟩ := Stands.app.mp h2
    obtain ⟨b, y, hby, hb, hall⟩ := nameB_all hx0.nm
    have h5 := (Stands.app.mp h3).1
    rw [hby] at h5
    have h6 : Stands s (st.at_ + x.bl.length) (b :: y) := h5
    obtain ⟨hlt, -, hbt, -⟩ := h5.head
    have hnb := named_byte b (letter_named b hb)
    have hk : skipF s blankV st.at_ = st.at_ + x.bl.length := skipF_run _ _ h1 hx0.bl fun _ => by rw [hbt]; exact hnb.1
    have hpos : 0 < x.bl.length := List.length_pos_iff.mpr hx0.bl0
    have hpa : ∀ c ∈ l, c.f0 ≠ x.a.f0 := fun c hc => (List.pairwise_append.mp hp).2.2 c hc x.a (by simp)
    have ih := ih d { st with at_ := st.at_ + x.bl.length + (x.a.f0.data.toList ++ (61 :: x.q :: (x.cs.flatMap (escC true) ++ [x.q]))).length } (l ++ [x.a]) (fun z hz => hx z (List.mem_cons_of_mem _ hz)) (by
      rw [List.append_assoc]; exact hp) (by simp only [List.length_append, List.length_cons, List.length_nil]; omega) h4 (by omega)
    rw [atsF_succ, hk, nextF_run (st := { st with at_ := st.at_ + x.bl.length }) h5, bind_run, if_neg (by have := hnb.2.1; omega), if_neg (by have := hnb.2.2.1; omega), if_pos ⟨by omega, hb⟩, sAttrF_run (st := { st with at_ := st.at_ + x.bl.length }) hx0 h3 (by omega) (hasName_no hpa), bind_run, ih, List.map_cons, List.append_assoc, List.singleton_append]
    have e : ({ st with at_ := st.at_ + x.bl.length + (x.a.f0.data.toList ++ (61 :: x.q :: (x.cs.flatMap (escC true) ++ [x.q]))).length + (xs.flatMap Att.txt ++ (ws ++ fin)).length } : St) = { st with at_ := st.at_ + ((x :: xs).flatMap Att.txt ++ (ws ++ fin)).length } := by
      rw [St.mk.injEq]
      refine ⟨?_, rfl, rfl, rfl⟩
      simp only [List.flatMap_cons, Att.txt, List.length_append, List.length_cons, List.length_nil]
      omega
    rw [← e]
/-- An element's beginning, as it stands. -/
def openTxt (n : ByteArray) (xs : List Att) (ws fin : List UInt8) : List UInt8 := 60 :: (n.data.toList ++ (xs.flatMap Att.txt ++ (ws ++ fin)))
theorem beginsF_run {st : St} {a : Int} (hn : st.nodes < 4096) (ho : st.opn.length < 64) : beginsF st a = .ok () { st with nodes := st.nodes + 1 } := by
  unfold beginsF
  rw [if_neg (by omega), if_neg (by omega)]
theorem opensF_run {s : ByteArray} {st : St} {n : ByteArray} {xs : List Att} {ws fin : List UInt8} (hw : Blanks ws) (hfin : fin = [47, 62] ∨ fin = [62]) (hn : nameB n = true) (hx : ∀ x ∈ xs, x.Ok) (hp : (xs.map (·.a)).Pairwise (fun a b => a.f0 ≠ b.f0)) (hl : xs.length ≤ 32)
    (h : Stands s st.at_ (openTxt n xs ws fin)) (hnn : st.nodes < 4096) (ho : st.opn.length < 64) :
    opensF s st = (flushE st ++ [startEv n (sortA (xs.map (·.a)))] ++ (if fin = [47, 62] then [endEv n] else []), .ok () { st with at_ := st.at_ + (openTxt n xs ws fin).length, text := [], nodes := st.nodes + 1, opn := if fin = [47, 62] then st.opn else st.opn ++ [n] }) := by
  obtain ⟨-, -, -, h1⟩ := h.head
  obtain ⟨h2, h3⟩ := Stands.app.mp h1
  have hz := size_list n
  rw [hz] at h3
  have hstop : st.at_ + 1 + n.size < s.size → namedV (bt s ((st.at_ + 1 + n.size : Nat) : Int)) = false := fun _ => by
    cases xs with
    | nil =>
      rw [List.flatMap_nil, List.nil_append] at h3
      cases ws with
      | nil =>
        rw [List.nil_append] at h3
        rcases hfin with e | e
        · rw [e] at h3; rw [h3.head.2.2.1]; decide +kernel
        · rw [e] at h3; rw [h3.head.2.2.1]; decide +kernel
      | cons w ws =>
        rw [h3.head.2.2.1]
        exact blank_fin ⟨w.toNat, w.toNat_lt⟩ (hw w List.mem_cons_self)
    | cons x xs =>
      have hx0 := hx x List.mem_cons_self
      rw [List.flatMap_cons, List.append_assoc, Att.txt, List.append_assoc] at h3
      cases hbl : x.bl with
      | nil => exact absurd hbl hx0.bl0
      | cons w ws' =>
        rw [hbl] at h3
        rw [h3.head.2.2.1]
        exact blank_fin ⟨w.toNat, w.toNat_lt⟩ (hx0.bl w (by rw [hbl]; exact List.mem_cons_self))
  have hxl : xs.length < s.size + 1 := by
    have hlen := h3.len
    have : xs.length ≤ (xs.flatMap Att.txt).length := by
      clear h h1 h3 hlen hstop hp hl
      induction xs with
      | nil => exact Nat.zero_le _
      | cons x xs ih =>
        have := ih fun z hz => hx z (List.mem_cons_of_mem _ hz)
        have hb : 0 < x.bl.length := List.length_pos_iff.mpr (hx x List.mem_cons_self).bl0
        rw [List.flatMap_cons, List.length_append, List.length_cons, Att.txt, List.length_append]
        omega
    rw [List.length_append] at hlen
    omega
  unfold opensF
  rw [beginsF_run (st := flushS st) hnn ho]
  simp only
  rw [nameP_run (st := { (({ flushS st with nodes := (flushS st).nodes + 1 } : St)) with at_ := (flushS st).at_ + 1 }) h2 hn hstop]
  simp only
  rw [atsF_run hw hfin xs (s.size + 1) _ [] hx hp (by simpa using hl) h3 hxl]
  rw [List.nil_append]
  rcases hfin with e | e
  · subst e
    simp only [beq_self_eq_true, if_true]
    congr 2
    simp only [flushS, openTxt, List.length_cons, List.length_append, hz, St.mk.injEq, true_and, and_true]
    omega
  · subst e
    rw [show (([62] : List UInt8) == [47, 62]) = false by decide]
    simp only [if_neg (show ¬ ([62] : List UInt8) = [47, 62] by decide), List.append_nil]
    congr 2
    simp only [flushS, openTxt, List.length_cons, List.length_append, hz, St.mk.injEq, true_and, and_true]
    omega
theorem tag_opens {s : ByteArray} {st : St} {b : UInt8} {x : List UInt8} (h : Stands s st.at_ (60 :: b :: x)) (hb : letterV (b.toNat : Int) = true) : tagF s st = opensF s st := by
  obtain ⟨t, ht⟩ := h.rest
  have hn := named_byte b (letter_named b hb)
  have e33 : b ≠ 33 := fun e => by rw [e] at hn; exact hn.2.2.2.2.2.1 rfl
  have e63 : b ≠ 63 := fun e => by rw [e] at hn; exact hn.2.2.2.2.2.2 rfl
  have e47 : b ≠ 47 := fun e => by rw [e] at hn; exact hn.2.1 rfl
  obtain ⟨-, -, -, h1⟩ := h.head
  unfold tagF
  rw [ht]
  have r1 : shortT (60 :: b :: x ++ t) = false := by simp [shortT, remarkL, rawL, Lib.hasPrefix, List.isPrefixOf, e33]
  have r2 : Lib.hasPrefix (60 :: b :: x ++ t) remarkL = false := by simp [remarkL, Lib.hasPrefix, List.isPrefixOf, e33.symm]
  have r3 : Lib.hasPrefix (60 :: b :: x ++ t) [60, 63] = false := by simp [Lib.hasPrefix, List.isPrefixOf, e63.symm]
  have r4 : Lib.hasPrefix (60 :: b :: x ++ t) rawL = false := by simp [rawL, Lib.hasPrefix, List.isPrefixOf, e33.symm]
  have r5 : Lib.hasPrefix (60 :: b :: x ++ t) [60, 47] = false := by simp [Lib.hasPrefix, List.isPrefixOf, e47.symm]
  rw [r1, r2, r3, r4, r5, if_neg (by decide), if_neg (by decide), if_neg (by decide), if_neg (by decide), if_neg (by decide), if_pos (by rw [h1.head.2.2.1]; exact hb)]
theorem tag_closes {s : ByteArray} {st : St} {x : List UInt8} (h : Stands s st.at_ (60 :: 47 :: x)) : tagF s st = closesF s st := by
  obtain ⟨t, ht⟩ := h.rest
  unfold tagF
  rw [ht]
  have r1 : shortT (60 :: 47 :: x ++ t) = false := by simp [shortT, remarkL, rawL, Lib.hasPrefix, List.isPrefixOf]
  have r2 : Lib.hasPrefix (60 :: 47 :: x ++ t) remarkL = false := by simp [remarkL, Lib.hasPrefix, List.isPrefixOf]
  have r3 : Lib.hasPrefix (60 :: 47 :: x ++ t) [60, 63] = false := by simp [Lib.hasPrefix, List.isPrefixOf]
  have r4 : Lib.hasPrefix (60 :: 47 :: x ++ t) rawL = false := by simp [rawL, Lib.hasPrefix, List.isPrefixOf]
  have r5 : Lib.hasPrefix (60 :: 47 :: x ++ t) [60, 47] = true := by simp [Lib.hasPrefix, List.isPrefixOf]
  rw [r1, r2, r3, r4, r5, if_neg (by decide), if_neg (by decide), if_neg (by decide), if_neg (by decide), if_pos rfl]
/-- An element's end, as it stands. -/
def closeTxt (n : ByteArray) (ws : List UInt8) : List UInt8 := 60 :: 47 :: (n.data.toList ++ (ws ++ [62]))
theorem closesF_run {s : ByteArray} {st : St} {n : ByteArray} {ws : List UInt8} (hw : Blanks ws) (hn : nameB n = true) (h : Stands s st.at_ (closeTxt n ws)) (ho : st.opn.getLast? = some n) :
    closesF s st = (flushE st ++ [endEv n], .ok () { st with at_ := st.at_ + (closeTxt n ws).length, text := [], opn := st.opn.dropLast }) := by
  obtain ⟨-, -, -, h1⟩ := h.head
  obtain ⟨-, -, -, h2⟩ := h1.head
  obtain ⟨h3, h4⟩ := Stands.app.mp h2
  have hz := size_list n
  rw [hz] at h4
  obtain ⟨h5, h6⟩ := Stands.app.mp h4
  obtain ⟨b, y, hby, hb, hall⟩ := nameB_all hn
  have h3' := h3
  rw [hby] at h3'
  have hstop : st.at_ + 1 + 1 + n.size < s.size → namedV (bt s ((st.at_ + 1 + 1 + n.size : Nat) : Int)) = false := fun _ => by
    cases ws with
    | nil => rw [List.nil_append] at h4; rw [h4.head.2.2.1]; decide +kernel
    | cons w ws => rw [h4.head.2.2.1]; exact blank_fin ⟨w.toNat, w.toNat_lt⟩ (hw w List.mem_cons_self)
  have hk : skipF s blankV (st.at_ + 1 + 1 + n.size) = st.at_ + 1 + 1 + n.size + ws.length := skipF_run _ _ h5 hw fun _ => by rw [h6.head.2.2.1]; decide +kernel
  unfold closesF
  rw [show ({ flushS st with at_ := st.at_ + 2 } : St) = { flushS st with at_ := st.at_ + 1 + 1 } from rfl, nextF_run (st := { flushS st with at_ := st.at_ + 1 + 1 }) h3']
  simp only
  rw [if_neg (by rw [hb]; decide), nameP_run (st := { flushS st with at_ := st.at_ + 1 + 1 }) h3 hn hstop]
  simp only
  rw [if_neg (by show ¬ st.opn.getLast? ≠ some n; rw [ho]; simp), hk, mustF_run (b := 62) (st := { flushS st with at_ := st.at_ + 1 + 1 + n.size + ws.length }) h6 (by decide)]
  simp only
  congr 2
  simp only [flushS, closeTxt, List.length_cons, List.length_append, List.length_nil, hz, St.mk.injEq, true_and, and_true]
  omega
/-- A remark, and another one, that are put in between. -/
def remark1 : List UInt8 := [60, 33, 45, 45, 32, 60, 32, 38, 32, 45, 45, 62]
def remark2 : List UInt8 := [60, 63, 97, 32, 62, 32, 98, 63, 62]
theorem pastF_run {s : ByteArray} {st : St} {fr : Nat} {x : List UInt8} {mark : ByteArray} {k : Nat} (h : Stands s fr x) (hi : ∀ t, Lib.index (x ++ t) mark.data.toList = (k : Int)) : pastF s st fr mark = .ok () { st with at_ := fr + k + mark.size } := by
  obtain ⟨t, ht⟩ := h.rest
  unfold restL at ht
  unfold pastF
  rw [ht, hi t, if_neg (by omega)]
  simp only [Int.toNat_natCast]
theorem remark1_tag {s : ByteArray} {st : St} (h : Stands s st.at_ remark1) : tagF s st = ([], .ok () { st with at_ := st.at_ + remark1.length }) := by
  obtain ⟨t, ht⟩ := h.rest
  have h2 : Stands s (st.at_ + 4) [32, 60, 32, 38, 32, 45, 45, 62] := (Stands.app (x := [60, 33, 45, 45]) (y := [32, 60, 32, 38, 32, 45, 45, 62])).mp h |>.2
  unfold tagF
  rw [ht]
  have r1 : shortT (remark1 ++ t) = false := by simp [remark1, shortT, remarkL, rawL, Lib.hasPrefix, List.isPrefixOf]
  have r2 : Lib.hasPrefix (remark1 ++ t) remarkL = true := by simp [remark1, remarkL, Lib.hasPrefix, List.isPrefixOf]
  rw [r1, r2, if_neg (by decide), if_pos rfl, pastF_run (k := 5) h2 (fun t => by simp [Lib.index, List.isPrefixOf])]
  rfl
theorem remark2_tag {s : ByteArray} {st : St} (h : Stands s st.at_ remark2) : tagF s st = ([], .ok () { st with at_ := st.at_ + remark2.length }) := by
  obtain ⟨t, ht⟩ := h.rest
  have h2 : Stands s (st.at_ + 2) [97, 32, 62, 32, 98, 63, 62] := (Stands.app (x := [60, 63]) (y := [97, 32, 62, 32, 98, 63, 62])).mp h |>.2
  unfold tagF
  rw [ht]
  have r1 : shortT (remark2 ++ t) = false := by simp [remark2, shortT, remarkL, rawL, Lib.hasPrefix, List.isPrefixOf]
  have r2 : Lib.hasPrefix (remark2 ++ t) remarkL = false := by simp [remark2, remarkL, Lib.hasPrefix, List.isPrefixOf]
  have r3 : Lib.hasPrefix (remark2 ++ t) [60, 63] = true := by simp [remark2, Lib.hasPrefix, List.isPrefixOf]
  rw [r1, r2, r3, if_neg (by decide), if_neg (by decide), if_pos rfl, pastF_run (k := 5) h2 (fun t => by simp [Lib.index, List.isPrefixOf])]
  rfl
theorem piece_tag {s : ByteArray} {st : St} {x : List UInt8} (h : Stands s st.at_ (60 :: x)) : pieceF s st = tagF s st := by
  unfold pieceF
  rw [if_pos (by rw [h.head.2.2.1]; rfl)]
end Go.Proofs.YtealmfcimoomlaaGreatDoor.PA
