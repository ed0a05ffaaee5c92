/- Texts of this claim, one behind the other: UScan10, PChars, PNumber. Conditions: those of each theorem. -/
import Derived.Test.YtealmfcimoomlaaGreatDoorUScan9
import Derived.Shelf.SlicesQ.IndexFunc
import Derived.Lib.Hide
import Derived.Test.YtealmfcimoomlaaGreatDoorPA5
import Derived.Lib.DecodeNEq
import Derived.Lib.LazyBuf
import Derived.Lib.RuneCountTail
import Derived.Test.YtealmfcimoomlaaGreatDoorUParseInt
/- scan.reader: is a name among attributes (slices.ContainsFunc with a captured variable). -/
namespace Go.Proofs.YtealmfcimoomlaaGreatDoor.PA
open Go.RowKit Go.Proofs.YtealmfcimoomlaaGreatDoorW.PrintWords Go.Proofs.YtealmfcimoomlaaGreatDoorW.PrintLast Go.Proofs.YtealmfcimoomlaaGreatDoorW.PrintMore
set_option linter.unusedVariables false
set_option linter.unusedSimpArgs false
instance : Inhabited S61 := ⟨⟨ByteArray.empty, ByteArray.empty⟩⟩
theorem lt_of_eqA {n m : Nat} (h : n = m) (k : Nat) (hk : k < n) : k < m := h ▸ hk
/-- The number of the first one of which it is true; below 0: none. -/
def firstOfA (p : S61 → Bool) (zs : List S61) : Int := Lib.idxBy (fun _ y => p y) zs default
theorem firstOfA_nonneg (p : S61 → Bool) (zs : List S61) : decide (0 ≤ firstOfA p zs) = zs.any p := Lib.idxBy_nonneg_iff (fun _ y => p y) zs default
set_option maxHeartbeats 4000000 in
theorem IndexFunc_attrs (g : Nat) (lb : Array Value) (eg : ∀ args w, (callFunc g args).run Tryz.prog w = .ok (.enter g args) w) (A : Option Addr) (c : Nat) (zs : List S61) (p : S61 → Bool) (w : World) (hr : Kd.C k61 w A zs.length zs)
    (hp : ∀ W x, x ∈ zs → Below w.heap.size w W → Calls Tryz.prog g (#[.agg #[.string x.f0, .string x.f1]] ++ lb) W fun e w' => e = .returned (.bool (p x)) ∧ Below w.heap.size w w') :
    Calls Tryz.prog 143 #[.slice A zs.length c, .func (.func g) #[] lb] w fun e w' => e = .returned (.int .i64 (firstOfA p zs)) ∧ Below w.heap.size w w' := by
  have hbig : zs.length ≤ 9223372036854775807 := hr.2.1
  generalize hn : zs.length = n at hr hbig
  have HN := Aside0.mk hn
  clear hn
  go_enter Tryz.func143, Tryz.ntmps143
  go_wp2
  go_loopg [5, 8] n (fun gg _ s8 wr => ∃ kk : Nat, kk ≤ n ∧ n - kk ≤ gg ∧ s8 = .int .i64 kk ∧ Aside (Below w.heap.size w wr) ∧ Aside (∀ j, j < kk → p zs[j]! = false))
  case atStart => exact ⟨0, Nat.zero_le _, by omega, rfl, Below.refl _ w, fun j hj => absurd hj (Nat.not_lt_zero _)⟩
  case round =>
    obtain ⟨kk, hkk, hg, rfl, BW, A0⟩ := hrel
    by_cases hlt : kk < n
    · have hltz : (kk : Int) < (n : Int) := by omega
      have hkz : kk < zs.length := lt_of_eqA HN.out.symm kk hlt
      obtain ⟨ad, rfl, hcell, hcell1⟩ := at_T61 (Kd.C_below hr BW.out) (kk : Int) (by omega) hltz
      have hy0 : rd_T61 zs (kk : Int) = zs[kk]! := by
        show zs.getD (kk : Int).toNat _ = _
        rw [Int.toNat_natCast, List.getD_eq_getElem?_getD, List.getElem?_eq_getElem hkz, getElem!_pos zs kk hkz]
        rfl
      rw [hy0, Int.toNat_natCast] at hcell hcell1
      have hcall := hp wr zs[kk]! (by rw [getElem!_pos zs kk hkz]; exact List.getElem_mem _) BW.out
      have hmem := hkz
      clear hp hy0 hr hkz
      generalize hy : zs[kk]! = y at hcell hcell1 hcall
      have B : Aside (zs[kk]! = y) := hy
      have HM := Aside0.mk hmem
      clear hy hmem
      cases hq : p y with
      | true =>
        rw [hq] at hcall
        go_wp2_with (go_at_fn g; refine hcall.mono ?_; rintro e w' ⟨rfl, hb'⟩)
        go_ret
        refine ⟨?_, hb'⟩
        have := Lib.idxBy_hit (fun _ y => p y) zs n kk default hlt (by rw [HN.out]; exact Nat.le_refl _) (by show p zs[kk]! = true; rw [B.out]; exact hq) A0.out
        rw [List.take_of_length_le (by rw [HN.out]; exact Nat.le_refl _)] at this
        unfold firstOfA
        rw [this]
        rfl
      | false =>
        rw [hq] at hcall
        go_wp2_with (go_at_fn g; refine hcall.mono ?_; rintro e w' ⟨rfl, hb'⟩)
        go_roundg (n - (kk + 1))
        case measure => omega
        case rel =>
          refine ⟨kk + 1, by omega, by omega, by go_num, hb', (show Aside _ from fun j hj => ?_)⟩
          by_cases e : j = kk
          · subst e
            rw [B.out]; exact hq
          · exact A0.out j (by omega)
    · have hltz : ¬ (kk : Int) < (n : Int) := by omega
      have : kk = n := by omega
      subst this
      go_wp2
      go_ret
      refine ⟨?_, BW.out⟩
      have := Lib.idxBy_miss (fun _ y => p y) zs kk default A0.out
      rw [List.take_of_length_le (by rw [HN.out]; exact Nat.le_refl _)] at this
      unfold firstOfA
      rw [this]
      rfl
theorem ContainsFunc_attrs (g : Nat) (lb : Array Value) (eg : ∀ args w, (callFunc g args).run Tryz.prog w = .ok (.enter g args) w) (A : Option Addr) (c : Nat) (zs : List S61) (p : S61 → Bool) (w : World) (hr : Kd.C k61 w A zs.length zs)
    (hp : ∀ W x, x ∈ zs → Below w.heap.size w W → Calls Tryz.prog g (#[.agg #[.string x.f0, .string x.f1]] ++ lb) W fun e w' => e = .returned (.bool (p x)) ∧ Below w.heap.size w w') :
    Calls Tryz.prog 134 #[.slice A zs.length c, .func (.func g) #[] lb] w fun e w' => e = .returned (.bool (zs.any p)) ∧ Below w.heap.size w w' := by
  rw [← firstOfA_nonneg]
  have hc := IndexFunc_attrs g lb eg A c zs p w hr hp
  generalize firstOfA p zs = i at hc ⊢
  clear hp hr
  have HC := Lib.hid hc
  clear hc
  go_enter Tryz.func134, Tryz.ntmps134
  go_wp2_with (go_at_call 143; refine HC.out.mono ?_; rintro e w' ⟨rfl, hb'⟩)
  go_ret
  exact ⟨rfl, hb'⟩
theorem eqB (x y : ByteArray) : (x.toList == y.toList) = decide (x = y) := by
  by_cases h : x = y
  · rw [h, decide_eq_true rfl]; exact beq_self_eq_true _
  · rw [decide_eq_false h, beq_eq_false_iff_ne]
    intro e
    rw [Lib.toList_data, Lib.toList_data] at e
    apply h
    cases x; cases y
    simp only at e
    congr 1
    exact Array.toList_inj.mp e
set_option maxHeartbeats 1000000 in
set_option maxRecDepth 100000 in
theorem attr1_calls (x0 x1 y0 : ByteArray) (g : Nat) (w : World) (hc : w.cell? ⟨g, 0, none⟩ = some (.string y0)) :
    Calls Tryz.prog 135 #[.agg #[.string x0, .string x1], .pointer (some ⟨g, 0, none⟩)] w fun e w' => e = .returned (.bool (decide (x0 = y0))) ∧ Below w.heap.size w w' := by
  have hlt : g < w.heap.size := by
    rcases Nat.lt_or_ge g w.heap.size with h' | h'
    · exact h'
    · simp [World.cell?, Array.getElem?_eq_none h'] at hc
  have hc2 : (w.alloc (.cells #[.string x0, .string x1] 61)).cell? ⟨g, 0, none⟩ = some (.string y0) := by
    have hb := Lib.alloc_old w (.cells #[.string x0, .string x1] 61) g hlt
    unfold World.cell? at hc ⊢
    rw [hb]; exact hc
  go_enter Tryz.func135, Tryz.ntmps135
  go_wp2
  go_ret
  exact ⟨by rw [← eqB]; rfl, (Below.refl _ w).alloc (Nat.le_refl _) _⟩
theorem egA (args : Array Value) (w : World) : (callFunc 135 args).run Tryz.prog w = .ok (.enter 135 args) w := (enters_of Tryz.func135 (by kernel_rfl) rfl : Enters _ _) args w
/-- Is a name among those of attributes? -/
def hasName (l : List S61) (n : ByteArray) : Bool := l.any fun b => decide (b.f0 = n)
theorem hasName_calls (A : Option Addr) (c : Nat) (l : List S61) (n : ByteArray) (g : Nat) (w : World) (hr : Kd.C k61 w A l.length l) (hc : w.cell? ⟨g, 0, none⟩ = some (.string n)) :
    Calls Tryz.prog 134 #[.slice A l.length c, .func (.func 135) #[] #[.pointer (some ⟨g, 0, none⟩)]] w fun e w' => e = .returned (.bool (hasName l n)) ∧ Below w.heap.size w w' := by
  have hlt : g < w.heap.size := by
    rcases Nat.lt_or_ge g w.heap.size with h' | h'
    · exact h'
    · simp [World.cell?, Array.getElem?_eq_none h'] at hc
  refine ContainsFunc_attrs 135 #[.pointer (some ⟨g, 0, none⟩)] egA A c l (fun b => decide (b.f0 = n)) w hr fun W x hx hb => ?_
  have hW : W.cell? ⟨g, 0, none⟩ = some (.string n) := by
    have := hb.block g hlt
    unfold World.cell? at hc ⊢
    rw [this]; exact hc
  exact (attr1_calls x.f0 x.f1 n g W hW).mono fun e w' h => ⟨h.1, hb.trans (h.2.mono hb.size)⟩
end Go.Proofs.YtealmfcimoomlaaGreatDoor.PA

/- Characters in plain Lean: what stands at a place of a text, by Go's decoder and by the reference; which texts can be. -/
namespace Go.Proofs.YtealmfcimoomlaaGreatDoor.PA
open Go.RowKit Go.Proofs.YtealmfcimoomlaaGreatDoorW.PrintWords Go.Proofs.YtealmfcimoomlaaGreatDoorW.PrintLast Go.Proofs.YtealmfcimoomlaaGreatDoorW.PrintMore
set_option linter.unusedVariables false
set_option linter.unusedSimpArgs false
/-- Whether a character can be. -/
def canB (r : Int) : Bool := decide (r = 9 ∨ r = 10 ∨ r = 13 ∨ (32 ≤ r ∧ r ≤ 55295) ∨ (57344 ≤ r ∧ r ≤ 65533) ∨ (65536 ≤ r ∧ r ≤ 1114111))
/-- The character that begins at a place, and its bytes; (0, 0): none that can be. -/
def chr (s : ByteArray) (i : Nat) : Nat × Nat :=
  if (Utf8.decode s i).1 = 65533 ∧ (Utf8.decode s i).2 = 1 then (0, 0) else if canB ((Utf8.decode s i).1 : Int) = true then Utf8.decode s i else (0, 0)
theorem wrap_in {n : Int} (h0 : -9223372036854775808 ≤ n) (h1 : n ≤ 9223372036854775807) : wrap64 n = n := by unfold wrap64; omega
theorem canB_can (k : Nat) (r : Int) : chars_can.f (k + 1) r = some (canB r) := by
  unfold chars_can.f canB
  simp only [chars_can.j0]
  by_cases h9 : r = 9
  · subst h9; simp
  by_cases h10 : r = 10
  · subst h10; simp
  by_cases h13 : r = 13
  · subst h13; simp
  simp only [h9, h10, h13, if_false, beq_iff_eq, false_or]
  repeat' split
  all_goals (simp only [Option.some.injEq]; first | (symm; rw [decide_eq_true_iff]; omega) | (symm; rw [decide_eq_false_iff_not]; omega) | (rw [decide_eq_decide]; omega))
theorem bt_byte (s : ByteArray) (i : Nat) (h : i < s.size) : bt s (i : Int) = ((s.get! i).toNat : Int) := by
  rw [Utf8W.get!_of_lt s i h]
  unfold bt
  rw [dif_pos (by simpa using h)]
  simp
theorem byte_lt (s : ByteArray) (i : Nat) : (s.get! i).toNat < 256 := (s.get! i).toNat_lt
/-- A character in the form of the two numbers. -/
def chrOf (d : Nat × Nat) : Nat × Nat := if d.1 = 65533 ∧ d.2 = 1 then (0, 0) else if canB (d.1 : Int) = true then d else (0, 0)
theorem chr_eq (s : ByteArray) (i : Nat) : chr s i = chrOf (Lib.decodeN (s.size - i) (s.get! i).toNat (s.get! (i + 1)).toNat (s.get! (i + 2)).toNat (s.get! (i + 3)).toNat) := by
  unfold chr
  rw [Lib.decode_at]
  rfl
theorem chrOf_wide (v w : Nat) (hw : 2 ≤ w) : chrOf (v, w) = if canB (v : Int) = true then (v, w) else (0, 0) := by
  unfold chrOf
  rw [if_neg (fun h => by have h2 : w = 1 := h.2; omega)]
/-- Its bytes lie in the text. -/
theorem chr_le (s : ByteArray) (i : Nat) (h : i < s.size) : i + (chr s i).2 ≤ s.size ∧ (chr s i).2 ≤ 4 := by
  rw [chr_eq]
  generalize (s.get! i).toNat = b0
  generalize (s.get! (i + 1)).toNat = b1
  generalize (s.get! (i + 2)).toNat = b2
  generalize (s.get! (i + 3)).toNat = b3
  have hw : (Lib.decodeN (s.size - i) b0 b1 b2 b3).2 ≤ s.size - i ∧ (Lib.decodeN (s.size - i) b0 b1 b2 b3).2 ≤ 4 := by
    unfold Lib.decodeN
    repeat' split
    all_goals (simp only; omega)
  unfold chrOf
  repeat' split
  all_goals first | omega | (simp only; omega)
theorem decode_pos (s : ByteArray) (i : Nat) : (Utf8.decode s i).2 ≠ 0 := by
  rw [Lib.decode_at]
  unfold Lib.decodeN
  repeat' split
  all_goals (simp only; omega)
theorem decode_big (s : ByteArray) (i : Nat) : (Utf8.decode s i).1 ≤ 1114111 := by
  rw [Lib.decode_at]
  have := byte_lt s i
  unfold Lib.decodeN
  repeat' split
  all_goals (simp only; omega)
/-- chars.first: the character with which a text begins. -/
theorem first_eq (k : Nat) (s : ByteArray) (h : 0 < s.size) : chars_first.f (k + 1) s = some (if (chr s 0).2 = 0 then (0, 0, 7) else (((chr s 0).1 : Int), ((chr s 0).2 : Int), 0)) := by
  have hp := decode_pos s 0
  have hbg := decode_big s 0
  have hd : Lib.decodeGo s = Utf8.decode s 0 := by unfold Lib.decodeGo; rw [if_neg (by omega)]
  unfold chars_first.f utf8_DecodeRuneInString.f
  rw [hd]
  unfold chr
  generalize Utf8.decode s 0 = d at *
  obtain ⟨r, n⟩ := d
  simp only [Option.bind_some] at *
  rw [wrap_in (n := (r : Int)) (by omega) (by omega), canB_can]
  simp only [Option.bind_some]
  rw [if_neg (show ¬ (n : Int) = 0 by omega)]
  by_cases hb : canB (r : Int) = true
  · by_cases e : r = 65533
    · subst e
      by_cases e2 : n = 1
      · subst e2; simp
      · have : ¬ (n : Int) = 1 := by omega
        simp [this, e2, (show canB 65533 = true by decide), hp]
    · have : ¬ (r : Int) = 65533 := by omega
      simp [this, e, hb, hp]
  · by_cases e : r = 65533
    · subst e
      exact absurd (by decide) hb
    · have : ¬ (r : Int) = 65533 := by omega
      simp [this, e, hb]
theorem get_extract (s : ByteArray) (i j : Nat) : (s.extract i s.size).get! j = s.get! (i + j) := Lib.tail_get! s i j
theorem chr_extract (s : ByteArray) (i : Nat) (h : i ≤ s.size) : chr (s.extract i s.size) 0 = chr s i := by
  rw [chr_eq, chr_eq, get_extract, get_extract, get_extract, get_extract]
  congr 2
  simp
/-- The first place at which no character that can be begins. -/
def scanT (s : ByteArray) : Nat → Nat → Option Nat
  | 0, _ => none
  | f + 1, i => if i < s.size then (if (chr s i).2 = 0 then some i else scanT s f (i + (chr s i).2)) else none
def scanR : Option Nat → Int × Int
  | none => (0, 0)
  | some j => ((j : Int), 7)
/-- Whether a text can be; else the place, and the error. -/
def textR (s : ByteArray) : Int × Int := if s.size > 16384 then (0, 2) else scanR (scanT s s.size 0)
theorem text_loop (s : ByteArray) (hn : s.size ≤ 140737488355328) : ∀ (f k i : Nat), i ≤ s.size → s.size - i ≤ f → f + 2 ≤ k → chars_text.l0 k s i = some (scanR (scanT s f i)) := by
  intro f
  induction f with
  | zero =>
    intro k i h1 h2 h3
    obtain ⟨k, rfl⟩ : ∃ m, k = m + 1 := ⟨k - 1, by omega⟩
    simp only [chars_text.l0]
    rw [if_neg (by omega)]
    rfl
  | succ f ih =>
    intro k i h1 h2 h3
    obtain ⟨k, rfl⟩ : ∃ m, k = m + 2 := ⟨k - 2, by omega⟩
    simp only [chars_text.l0, scanT]
    by_cases hi : i < s.size
    · have hle := chr_le s i hi
      rw [if_pos (show (i : Int) < s.size by omega), if_pos (by omega), if_pos (by omega), if_pos hi]
      rw [show ((i : Int)).toNat = i from by omega, first_eq k _ (by simp; omega), chr_extract s i h1]
      by_cases e : (chr s i).2 = 0
      · rw [if_pos e, if_pos e]
        simp only [Option.bind_some]
        rw [if_neg (by omega)]
        rfl
      · rw [if_neg e, if_neg e, Option.bind_some, if_pos rfl]
        exact (congrArg (chars_text.l0 (k + 1) s) (show wrap64 ((i : Int) + ((chr s i).2 : Int)) = ((i + (chr s i).2 : Nat) : Int) by rw [wrap_in (by omega) (by omega)]; omega)).trans (ih (k + 1) (i + (chr s i).2) (by omega) (by omega) (by omega))
    · rw [if_neg (show ¬ (i : Int) < s.size by omega), if_neg hi]
      rfl
/-- chars.text, and the reference's Text. -/
theorem text_eq (s : ByteArray) (hn : s.size ≤ 140737488355328) (k : Nat) (hk : s.size + 2 ≤ k) : chars_text.f k s = some (textR s) := by
  unfold chars_text.f textR
  by_cases h : s.size > 16384
  · rw [if_pos (by omega), if_pos h]
  · rw [if_neg (by omega), if_neg h]
    exact text_loop s hn s.size k 0 (by omega) (by omega) hk
theorem textR_ok {s : ByteArray} (h : (textR s).2 = 0) : s.size ≤ 16384 ∧ scanT s s.size 0 = none ∧ (textR s).1 = 0 := by
  unfold textR at h ⊢
  by_cases g : s.size > 16384
  · rw [if_pos g] at h; simp at h
  · rw [if_neg g] at h ⊢
    refine ⟨by omega, ?_⟩
    cases e : scanT s s.size 0 with
    | none => exact ⟨rfl, rfl⟩
    | some j => rw [e] at h; simp [scanR] at h
theorem get_list (s : ByteArray) (i : Nat) : s.get! i = s.data.toList.getD i 0 := by
  by_cases h : i < s.size
  · rw [Utf8W.get!_of_lt s i h, List.getD_eq_getElem?_getD, List.getElem?_eq_getElem (by rw [← Lib.size_eq]; exact h)]
    rfl
  · have g : s.get! i = 0 := by
      show s.data[i]! = 0
      exact (getElem!_neg s.data i (show ¬ i < s.data.size from h)).trans rfl
    rw [g, List.getD_eq_getElem?_getD, List.getElem?_eq_none (by rw [← Lib.size_eq]; omega)]
    rfl
end Go.Proofs.YtealmfcimoomlaaGreatDoor.PA

/- References by numbers in plain Lean: chars.numbered and the reference's number. -/
namespace Go.Proofs.YtealmfcimoomlaaGreatDoor.PA
open Go.RowKit Go.Proofs.YtealmfcimoomlaaGreatDoorW.PrintWords Go.Proofs.YtealmfcimoomlaaGreatDoorW.PrintLast Go.Proofs.YtealmfcimoomlaaGreatDoorW.PrintMore
set_option linter.unusedVariables false
set_option linter.unusedSimpArgs false
theorem canB_range {r : Int} (h : canB r = true) : 9 ≤ r ∧ r ≤ 1114111 := by
  simp only [canB, decide_eq_true_eq] at h
  omega
def runD (s : ByteArray) (b : Nat) : Nat → Nat → Nat
  | 0, i => i
  | f + 1, i => if i < s.size ∧ digOk b (s.get! i) = true then runD s b f (i + 1) else i
theorem digit_key10 : ∀ n : Fin 256, chars_digit.f ((n.val : Nat) : Int) 10 = some (decide ((48 ≤ n.val ∧ n.val ≤ 57) ∨ (10 = 16 ∧ ((97 ≤ n.val ∧ n.val ≤ 102) ∨ (65 ≤ n.val ∧ n.val ≤ 70))))) := by decide +kernel
theorem digit_key16 : ∀ n : Fin 256, chars_digit.f ((n.val : Nat) : Int) 16 = some (decide ((48 ≤ n.val ∧ n.val ≤ 57) ∨ (16 = 16 ∧ ((97 ≤ n.val ∧ n.val ≤ 102) ∨ (65 ≤ n.val ∧ n.val ≤ 70))))) := by decide +kernel
theorem digit_eq (b : Nat) (hb : b = 10 ∨ b = 16) (c : UInt8) : chars_digit.f (c.toNat : Int) (b : Int) = some (digOk b c) := by
  rcases hb with rfl | rfl
  · exact digit_key10 ⟨c.toNat, c.toNat_lt⟩
  · exact digit_key16 ⟨c.toNat, c.toNat_lt⟩
/-- The bytes from a place to another one. -/
def seg (s : ByteArray) (a c : Nat) : List UInt8 := (s.extract a c).data.toList
theorem seg_eq (s : ByteArray) (a c : Nat) : seg s a c = (s.data.toList.drop a).take (c - a) := Lib.extract_data s a c
theorem seg_snoc (s : ByteArray) (a c : Nat) (h : a ≤ c) (hc : c < s.size) : seg s a (c + 1) = seg s a c ++ [s.get! c] := by
  rw [seg_eq, seg_eq, show c + 1 - a = (c - a) + 1 from by omega, List.take_succ_eq_append_getElem (by simp; omega)]
  congr 2
  rw [Utf8W.get!_of_lt s c hc]
  simp only [List.getElem_drop]
  have : a + (c - a) = c := by omega
  simp only [this]
  rfl
theorem seg_nil (s : ByteArray) (a : Nat) : seg s a a = [] := by rw [seg_eq]; simp
theorem seg_len (s : ByteArray) (a c : Nat) (h : a ≤ c) (hc : c ≤ s.size) : (seg s a c).length = c - a := by
  rw [seg_eq]; simp; omega
theorem runD_le (s : ByteArray) (b : Nat) : ∀ f i, i ≤ s.size → i ≤ runD s b f i ∧ runD s b f i ≤ s.size ∧ runD s b f i ≤ i + f := by
  intro f
  induction f with
  | zero => intro i h; simp only [runD]; omega
  | succ f ih =>
    intro i h
    simp only [runD]
    split
    · rename_i g
      have := ih (i + 1) (by omega)
      omega
    · omega
/-- What is told of a reference by number: its number, its bytes, what is wrong. -/
def numRes (s : ByteArray) (b a m : Nat) : Int × Int × Int :=
  if m = s.size then (0, 0, 4) else if m = a ∨ s.get! m ≠ 59 then (0, 0, 20) else if canB (numVal b (seg s a m) : Int) = true then ((numVal b (seg s a m) : Int), ((m + 1 : Nat) : Int), 0) else (0, 0, 7)
def encR (x : Int × Int × Int) : ByteArray × Int × Int := if x.2.2 = 0 then (Utf8.encode x.1, x.2.1, 0) else (⟨#[]⟩, 0, x.2.2)
theorem byte59 (c : UInt8) : (c.toNat : Int) = 59 ↔ c = 59 := ⟨fun h => UInt8.toNat_inj.mp (by have : (59 : UInt8).toNat = 59 := rfl; omega), fun h => by rw [h]; rfl⟩
theorem num_end (k : Nat) (hk : 2 ≤ k) (s : ByteArray) (b a m : Nat) (hb : b = 10 ∨ b = 16) (ham : a ≤ m) (hm : m ≤ s.size) (hn : s.size ≤ 140737488355328) (h12 : m - a ≤ 12) (hd : ∀ c ∈ seg s a m, digOk b c = true) :
    chars_numbered.j1 k s a b m = some (encR (numRes s b a m)) := by
  obtain ⟨k, rfl⟩ : ∃ j, k = j + 2 := ⟨k - 2, by omega⟩
  simp only [chars_numbered.j1]
  unfold numRes
  by_cases e0 : m = s.size
  · rw [if_pos (by omega), if_pos e0]; rfl
  rw [if_neg (by omega), if_neg e0, if_pos (by omega), if_pos (by omega), bt_byte s m (by omega)]
  by_cases e1 : s.get! m = 59
  · rw [if_pos ((byte59 _).mpr e1)]
    by_cases e2 : m = a
    · rw [if_pos (by omega), if_pos (show m = a ∨ s.get! m ≠ 59 from .inl e2)]; rfl
    rw [if_neg (by omega), if_neg (show ¬ (m = a ∨ s.get! m ≠ 59) from fun h => h.elim e2 (fun h => h e1)), if_pos (by omega), if_pos (by omega), if_pos (by omega)]
    have hseg : (s.extract ((a : Int)).toNat ((m : Int)).toNat).data.toList = seg s a m := rfl
    have hsz : (s.extract ((a : Int)).toNat ((m : Int)).toNat).size = m - a := by rw [Lib.size_eq, hseg, seg_len s a m ham hm]
    have hP : strconv_ParseInt.f (s.extract ((a : Int)).toNat ((m : Int)).toNat) b 64 = some ((numVal b (seg s a m) : Int), none) := by
      unfold strconv_ParseInt.f
      rw [if_pos ⟨rfl, by omega, by omega, by omega, by rw [hseg]; exact hd⟩, hseg]
      rfl
    have hv := numVal_bound b hb (seg s a m) hd (by rw [seg_len s a m ham hm]; exact h12)
    rw [hP, Option.bind_some, canB_can, Option.bind_some]
    by_cases hc : canB (numVal b (seg s a m) : Int) = true
    · rw [if_pos hc, if_pos hc]
      have hr := canB_range hc
      have hw : wrap32 (numVal b (seg s a m) : Int) = (numVal b (seg s a m) : Int) := by unfold wrap32; omega
      rw [hw, wrap_in (by omega) (by omega)]
      rfl
    · rw [if_neg hc, if_neg hc]; rfl
  · rw [if_neg (fun h => e1 ((byte59 _).mp h)), if_pos (show m = a ∨ s.get! m ≠ 59 from .inr e1)]; rfl
theorem num_loop (s : ByteArray) (b a most : Nat) (hb : b = 10 ∨ b = 16) (hn : s.size ≤ 140737488355328) (h12 : most ≤ 12) : ∀ (f k i : Nat), a ≤ i → i ≤ s.size → i + f = a + most → f + 3 ≤ k → (∀ c ∈ seg s a i, digOk b c = true) →
    chars_numbered.l0 k s a b most i = some (encR (numRes s b a (runD s b f i))) := by
  intro f
  induction f with
  | zero =>
    intro k i h1 h2 h3 h4 h5
    obtain ⟨k, rfl⟩ : ∃ j, k = j + 1 := ⟨k - 1, by omega⟩
    have hE := num_end k (by omega) s b a i hb h1 h2 hn (by omega) h5
    simp only [chars_numbered.l0, runD]
    by_cases hi : i < s.size
    · rw [if_pos (by omega), wrap_in (by omega) (by omega), if_neg (by omega)]; exact hE
    · rw [if_neg (by omega)]; exact hE
  | succ f ih =>
    intro k i h1 h2 h3 h4 h5
    obtain ⟨k, rfl⟩ : ∃ j, k = j + 1 := ⟨k - 1, by omega⟩
    have hE := num_end k (by omega) s b a i hb h1 h2 hn (by omega) h5
    simp only [chars_numbered.l0, runD]
    by_cases hi : i < s.size
    · rw [if_pos (by omega), wrap_in (by omega) (by omega), if_pos (by omega), if_pos (by omega), bt_byte s i hi, digit_eq b hb, Option.bind_some]
      by_cases hd : digOk b (s.get! i) = true
      · rw [if_pos hd, if_pos ⟨hi, hd⟩, wrap_in (n := (i : Int) + 1) (by omega) (by omega)]
        refine ih k (i + 1) (by omega) (by omega) (by omega) (by omega) ?_
        rw [seg_snoc s a i h1 hi]
        intro c hc
        rcases List.mem_append.mp hc with hc | hc
        · exact h5 c hc
        · rw [List.mem_singleton.mp hc]; exact hd
      · rw [if_neg hd, if_neg (fun h => hd h.2)]; exact hE
    · rw [if_neg (by omega), if_neg (fun h => hi h.1)]; exact hE
theorem numbered_eq (s : ByteArray) (b a most : Nat) (hb : b = 10 ∨ b = 16) (hn : s.size ≤ 140737488355328) (h12 : most ≤ 12) (ha : a ≤ s.size) (k : Nat) (hk : most + 3 ≤ k) :
    chars_numbered.f k s a b most = some (encR (numRes s b a (runD s b most a))) := by
  unfold chars_numbered.f
  exact num_loop s b a most hb hn h12 most k a (by omega) ha (by omega) hk (by rw [seg_nil]; intro c hc; cases hc)
def numOf (s : ByteArray) : Int × Int × Int := if 2 < s.size ∧ s.get! 2 = 120 then numRes s 16 3 (runD s 16 6 3) else numRes s 10 2 (runD s 10 7 2)
end Go.Proofs.YtealmfcimoomlaaGreatDoor.PA
