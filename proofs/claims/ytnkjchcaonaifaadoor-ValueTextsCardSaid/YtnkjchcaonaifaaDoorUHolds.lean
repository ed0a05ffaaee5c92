/- value.holds: its contract, out of its walks. -/
import Derived.Test.YtnkjchcaonaifaaDoorUHoldsW
namespace Go.Proofs.YtnkjchcaonaifaaDoor.PA
open Go.RowKit Go.Proofs.YtnkjchcaonaifaaDoorW.PrintWords Go.Proofs.YtnkjchcaonaifaaDoorW.PrintLast Go.Proofs.YtnkjchcaonaifaaDoorW.PrintMore
set_option linter.unusedVariables false
set_option linter.unusedSimpArgs false
structure Val where
  k : Int
  b : Bool
  n : Int
  o : Bool
  s : ByteArray
  l : List ByteArray
def Val.okB (v : Val) : Bool := decide (1 ≤ v.k ∧ v.k ≤ 4) && decide (v.s.size ≤ 281474976710656) && v.l.all (fun x => decide (x.size ≤ 281474976710656))
def asBoolV (v : Val) : Bool := if v.k = 1 then v.b else if v.k = 2 then (if v.o = true then false else v.n != 0) else if v.k = 3 then (v.s.toList != ([] : List UInt8)) else decide ((v.l.length : Int) > 0)
def firstV (l : List ByteArray) : ByteArray := if l.length = 0 then ⟨#[]⟩ else rdOf ByteArray.empty l 0
def numV (v : Val) : Int × Bool := if v.k = 1 then (if v.b = true then (1, true) else (0, true)) else if v.k = 2 then (if v.o = true then (0, false) else (v.n, true)) else if v.k = 3 then readR v.s else readR (firstV v.l)
def cmpV (op : ByteArray) (m n : Int) : Bool := if op.toList = ([61] : List UInt8) then m == n else if op.toList = ([33, 61] : List UInt8) then m != n else if op.toList = ([60] : List UInt8) then decide (m < n) else if op.toList = ([60, 61] : List UInt8) then decide (m ≤ n) else if op.toList = ([62] : List UInt8) then decide (m > n) else decide (m ≥ n)
def isEq (op : ByteArray) : Bool := op.toList == ([61] : List UInt8)
def isNe (op : ByteArray) : Bool := op.toList == ([33, 61] : List UInt8)
def numsV (op : ByteArray) (a b : Val) : Bool := if (numV a).2 && (numV b).2 then cmpV op (numV a).1 (numV b).1 else isNe op
/-- Two values that are no nodes, held against each other. -/
def core (op : ByteArray) (a b : Val) : Bool :=
  if (isEq op || isNe op) = true then
    if a.k = 1 ∨ b.k = 1 then ((asBoolV a == asBoolV b) == isEq op)
    else if a.k = 3 ∧ b.k = 3 then ((a.s.toList == b.s.toList) == isEq op)
    else numsV op a b
  else numsV op a b
def truthV (b : Bool) : Val := ⟨1, b, 0, false, ⟨#[]⟩, []⟩
def textV (s : ByteArray) : Val := ⟨3, false, 0, false, s, []⟩
def holdsV1 (op : ByteArray) (a b : Val) : Bool := if b.k = 4 then (if a.k = 1 then core op a (truthV (asBoolV b)) else b.l.any fun t => core op a (textV t)) else core op a b
def holdsV (op : ByteArray) (a b : Val) : Bool :=
  if a.k = 4 then (if b.k = 1 then core op (truthV (asBoolV a)) b else a.l.any fun s => holdsV1 op (textV s) b)
  else holdsV1 op a b
theorem asBool_eq (v : Val) : value_asBool.f v.k v.b v.n v.o v.s v.l = some (asBoolV v) := by
  unfold value_asBool.f asBoolV
  by_cases h1 : v.k = 1
  · rw [if_pos h1, if_pos h1]
  rw [if_neg h1, if_neg h1]
  by_cases h2 : v.k = 2
  · rw [if_pos h2, if_pos h2]; by_cases h : v.o = true <;> simp [h]
  rw [if_neg h2, if_neg h2]
  by_cases h3 : v.k = 3
  · rw [if_pos h3, if_pos h3]
  rw [if_neg h3, if_neg h3]
theorem first_eqV (l : List ByteArray) : value_first.f l = some (firstV l) := by
  unfold value_first.f firstV
  by_cases h : l.length = 0
  · rw [if_pos h, if_pos (by omega)]
  · rw [if_neg h, if_neg (by omega), if_pos (by omega)]
theorem firstV_size (l : List ByteArray) (h : l.all (fun x => decide (x.size ≤ 281474976710656)) = true) : (firstV l).size ≤ 281474976710656 := by
  unfold firstV
  by_cases h0 : l.length = 0
  · rw [if_pos h0]; show 0 ≤ _; omega
  · rw [if_neg h0]
    have hm : rdOf ByteArray.empty l 0 ∈ l := by
      show l.getD (0 : Int).toNat _ ∈ l
      cases l with
      | nil => exact absurd rfl h0
      | cons x l => simp
    exact of_decide_eq_true (List.all_eq_true.mp h _ hm)
theorem asNumber_eq (v : Val) (hv : v.okB = true) : value_asNumber.f v.k v.b v.n v.o v.s v.l = some (numV v) := by
  simp only [Val.okB, Bool.and_eq_true, decide_eq_true_eq] at hv
  obtain ⟨⟨hk, hs⟩, hl⟩ := hv
  unfold value_asNumber.f numV
  by_cases h1 : v.k = 1
  · rw [if_pos h1, if_pos h1]; by_cases h : v.b = true <;> simp [h]
  rw [if_neg h1, if_neg h1]
  by_cases h2 : v.k = 2
  · rw [if_pos h2, if_pos h2]; by_cases h : v.o = true <;> simp [h]
  rw [if_neg h2, if_neg h2]
  by_cases h3 : v.k = 3
  · rw [if_pos h3, if_pos h3]
    unfold value_read.f
    rw [if_pos hs]; rfl
  rw [if_neg h3, if_neg h3, first_eqV, Option.bind_some]
  unfold value_read.f
  rw [if_pos (firstV_size _ hl)]; rfl
theorem numbers_eq (op : ByteArray) (m n : Int) : value_numbers.f op m n = some (cmpV op m n) := by
  unfold value_numbers.f cmpV
  repeat' split
  all_goals first | rfl | contradiction
theorem truthV_ok (b : Bool) : (truthV b).okB = true := by cases b <;> decide
theorem textV_ok {s : ByteArray} (h : s.size ≤ 281474976710656) : (textV s).okB = true := by
  simp [textV, Val.okB, h]
def Val.agg (v : Val) (A : Option Addr) (c : Nat) : Value := .agg #[.int .i64 v.k, .bool v.b, .int .i64 v.n, .bool v.o, .string v.s, .slice A v.l.length c]
abbrev Holds (op : ByteArray) (a b : Val) (A1 : Option Addr) (c1 : Nat) (A2 : Option Addr) (c2 : Nat) (w : World) (q : Bool) : Prop :=
  Calls Tryd.prog 42 #[.string op, .agg #[.int .i64 a.k, .bool a.b, .int .i64 a.n, .bool a.o, .string a.s, .slice A1 a.l.length c1], .agg #[.int .i64 b.k, .bool b.b, .int .i64 b.n, .bool b.o, .string b.s, .slice A2 b.l.length c2]] w fun e w' => e = .returned (.bool q) ∧ Below w.heap.size w w'
section
variable (op : ByteArray) (a b : Val) (A1 : Option Addr) (c1 : Nat) (A2 : Option Addr) (c2 : Nat) (w : World) (hG3 : Glob3 w)
  (hr1 : Kd.string.C w A1 a.l.length a.l) (hc1 : a.l.length ≤ c1) (hr2 : Kd.string.C w A2 b.l.length b.l) (hc2 : b.l.length ≤ c2) (oka : a.okB = true) (okb : b.okB = true)
include hG3 hr1 hc1 hr2 hc2 oka okb
theorem holds_nums (h4a : a.k ≠ 4) (h4b : b.k ≠ 4) (hcore : core op a b = numsV op a b) (hp : isEq op = false ∧ isNe op = false ∨ a.k ≠ 1 ∧ b.k ≠ 1 ∧ ¬ (a.k = 3 ∧ b.k = 3)) : Holds op a b A1 c1 A2 c2 w (core op a b) := by
  have h14 : (a.k == 4) = false := beq_eq_false_iff_ne.mpr h4a
  have h24 : (b.k == 4) = false := beq_eq_false_iff_ne.mpr h4b
  have n1 := fun W (hb : Below w.heap.size w W) => value_asNumber.calls a.k a.b a.n a.o a.s A1 c1 a.l (numV a).1 (numV a).2 W (Kd.C_below hr1 hb) hc1 (asNumber_eq a oka) (hG3.step hb)
  have n2 := fun W (hb : Below w.heap.size w W) => value_asNumber.calls b.k b.b b.n b.o b.s A2 c2 b.l (numV b).1 (numV b).2 W (Kd.C_below hr2 hb) hc2 (asNumber_eq b okb) (hG3.step hb)
  have nn := fun W => (value_numbers.calls op (numV a).1 (numV b).1 _ W (numbers_eq op _ _)).mono fun _ _ h => (⟨h.1, h.2.below⟩ : _ ∧ Below W.heap.size W _)
  rw [hcore]
  unfold numsV
  rcases hp with ⟨e1, e2⟩ | ⟨k1, k2, k3⟩
  · exact holdsN_o op _ _ _ _ _ _ _ _ _ _ _ _ _ _ _ _ w (numV a) (numV b) _ h14 h24 e1 e2 (Lib.hid n1) (Lib.hid n2) (Lib.hid nn)
  · have h11 : (a.k == 1) = false := beq_eq_false_iff_ne.mpr k1
    have h21 : (b.k == 1) = false := beq_eq_false_iff_ne.mpr k2
    by_cases e1 : isEq op = true
    · have e2 : (op.toList == ([33, 61] : List UInt8)) = false := by
        have := eq_of_beq e1
        rw [this]; rfl
      by_cases k3a : a.k = 3
      · exact holdsN_eq_2 op _ _ _ _ _ _ _ _ _ _ _ _ _ _ _ _ w (numV a) (numV b) _ h14 h24 e1 e2 h11 h21 (beq_iff_eq.mpr k3a) (beq_eq_false_iff_ne.mpr fun h => k3 ⟨k3a, h⟩) (Lib.hid n1) (Lib.hid n2) (Lib.hid nn)
      · exact holdsN_eq_1 op _ _ _ _ _ _ _ _ _ _ _ _ _ _ _ _ w (numV a) (numV b) _ h14 h24 e1 e2 h11 h21 (beq_eq_false_iff_ne.mpr k3a) (Lib.hid n1) (Lib.hid n2) (Lib.hid nn)
    · replace e1 : isEq op = false := by simpa using e1
      by_cases e2 : isNe op = true
      · by_cases k3a : a.k = 3
        · exact holdsN_ne_2 op _ _ _ _ _ _ _ _ _ _ _ _ _ _ _ _ w (numV a) (numV b) _ h14 h24 e1 e2 h11 h21 (beq_iff_eq.mpr k3a) (beq_eq_false_iff_ne.mpr fun h => k3 ⟨k3a, h⟩) (Lib.hid n1) (Lib.hid n2) (Lib.hid nn)
        · exact holdsN_ne_1 op _ _ _ _ _ _ _ _ _ _ _ _ _ _ _ _ w (numV a) (numV b) _ h14 h24 e1 e2 h11 h21 (beq_eq_false_iff_ne.mpr k3a) (Lib.hid n1) (Lib.hid n2) (Lib.hid nn)
      · exact holdsN_o op _ _ _ _ _ _ _ _ _ _ _ _ _ _ _ _ w (numV a) (numV b) _ h14 h24 e1 (by simpa [isNe] using e2) (Lib.hid n1) (Lib.hid n2) (Lib.hid nn)
theorem holds_core (h4a : a.k ≠ 4) (h4b : b.k ≠ 4) : Holds op a b A1 c1 A2 c2 w (core op a b) := by
  by_cases he : (isEq op || isNe op) = true
  · have h14 : (a.k == 4) = false := beq_eq_false_iff_ne.mpr h4a
    have h24 : (b.k == 4) = false := beq_eq_false_iff_ne.mpr h4b
    by_cases k1 : a.k = 1 ∨ b.k = 1
    · have t1 := fun W (hb : Below w.heap.size w W) => value_asBool.calls a.k a.b a.n a.o a.s A1 c1 a.l _ W (Kd.C_below hr1 hb) hc1 (asBool_eq a)
      have t2 := fun W (hb : Below w.heap.size w W) => value_asBool.calls b.k b.b b.n b.o b.s A2 c2 b.l _ W (Kd.C_below hr2 hb) hc2 (asBool_eq b)
      have hc : core op a b = ((asBoolV a == asBoolV b) == isEq op) := by unfold core; rw [if_pos he, if_pos k1]
      rw [hc]
      by_cases e1 : isEq op = true
      · rw [e1]
        by_cases k1a : a.k = 1
        · exact holds12_eq_l op _ _ _ _ _ _ _ _ _ _ _ _ _ _ _ _ w _ _ h14 h24 e1 (beq_iff_eq.mpr k1a) (Lib.hid t1) (Lib.hid t2)
        · exact holds12_eq_r op _ _ _ _ _ _ _ _ _ _ _ _ _ _ _ _ w _ _ h14 h24 e1 (beq_eq_false_iff_ne.mpr k1a) (beq_iff_eq.mpr (k1.resolve_left k1a)) (Lib.hid t1) (Lib.hid t2)
      · replace e1 : isEq op = false := by simpa using e1
        have e2 : isNe op = true := by rw [e1] at he; simpa using he
        rw [e1]
        by_cases k1a : a.k = 1
        · exact holds12_ne_l op _ _ _ _ _ _ _ _ _ _ _ _ _ _ _ _ w _ _ h14 h24 e1 e2 (beq_iff_eq.mpr k1a) (Lib.hid t1) (Lib.hid t2)
        · exact holds12_ne_r op _ _ _ _ _ _ _ _ _ _ _ _ _ _ _ _ w _ _ h14 h24 e1 e2 (beq_eq_false_iff_ne.mpr k1a) (beq_iff_eq.mpr (k1.resolve_left k1a)) (Lib.hid t1) (Lib.hid t2)
    · have k1a : a.k ≠ 1 := fun h => k1 (.inl h)
      have k1b : b.k ≠ 1 := fun h => k1 (.inr h)
      have h11 : (a.k == 1) = false := beq_eq_false_iff_ne.mpr k1a
      have h21 : (b.k == 1) = false := beq_eq_false_iff_ne.mpr k1b
      by_cases k3 : a.k = 3 ∧ b.k = 3
      · have hc : core op a b = ((a.s.toList == b.s.toList) == isEq op) := by unfold core; rw [if_pos he, if_neg k1, if_pos k3]
        rw [hc]
        by_cases e1 : isEq op = true
        · rw [e1]
          exact holds14_eq op _ _ _ _ _ _ _ _ _ _ _ _ _ _ _ _ w h14 h24 e1 h11 h21 (beq_iff_eq.mpr k3.1) (beq_iff_eq.mpr k3.2) _ rfl
        · replace e1 : isEq op = false := by simpa using e1
          have e2 : isNe op = true := by rw [e1] at he; simpa using he
          rw [e1]
          exact holds14_ne op _ _ _ _ _ _ _ _ _ _ _ _ _ _ _ _ w h14 h24 e1 e2 h11 h21 (beq_iff_eq.mpr k3.1) (beq_iff_eq.mpr k3.2) _ rfl
      · exact holds_nums op a b A1 c1 A2 c2 w hG3 hr1 hc1 hr2 hc2 oka okb h4a h4b (by unfold core; rw [if_pos he, if_neg k1, if_neg k3]) (.inr ⟨k1a, k1b, k3⟩)
  · have hn : isEq op = false ∧ isNe op = false := by
      cases h1 : isEq op <;> cases h2 : isNe op <;> simp_all
    exact holds_nums op a b A1 c1 A2 c2 w hG3 hr1 hc1 hr2 hc2 oka okb h4a h4b (by unfold core; rw [if_neg he]) (.inl hn)
theorem holds_1 (h4a : a.k ≠ 4) : Holds op a b A1 c1 A2 c2 w (holdsV1 op a b) := by
  have h14 : (a.k == 4) = false := beq_eq_false_iff_ne.mpr h4a
  unfold holdsV1
  by_cases h4b : b.k = 4
  · rw [if_pos h4b]
    have h24 : (b.k == 4) = true := beq_iff_eq.mpr h4b
    by_cases k1 : a.k = 1
    · rw [if_pos k1]
      have t2 := fun W (hb : Below w.heap.size w W) => value_asBool.calls b.k b.b b.n b.o b.s A2 c2 b.l _ W (Kd.C_below hr2 hb) hc2 (asBool_eq b)
      refine holds_bn op _ _ _ _ _ _ _ _ _ _ _ _ _ _ _ _ w _ _ h14 h24 (beq_iff_eq.mpr k1) (Lib.hid t2) (Lib.hid fun W A c hb => ?_)
      exact holds_core op a (truthV (asBoolV b)) A1 c1 A c W (hG3.step hb) (Kd.C_below hr1 hb) hc1 (C_zero W A) (Nat.zero_le _) oka (truthV_ok _) h4a (by simp [truthV])
    · rw [if_neg k1]
      obtain ⟨cB, hB⟩ := Option.isSome_iff_exists.mp (show Tryd.f68.body.isSome = true by kernel_rfl)
      refine holds_b op _ _ _ _ _ _ _ _ _ _ _ _ _ _ _ _ w _ h14 h24 (beq_eq_false_iff_ne.mpr k1) (Lib.hid fun W g3 g4 g5 hH => ?_)
      refine ContainsFunc_texts _ #[.pointer (some ⟨g3, 0, none⟩), .pointer (some ⟨g4, 0, none⟩)] (Go.Proofs.enters_of Tryd.func68 (by kernel_rfl) hB) A2 c2 b.l _ W (Kd.C_below hr2 hH.bel) fun W' x hx hb => ?_
      have hx' : x.size ≤ 281474976710656 := by
        simp only [Val.okB, Bool.and_eq_true] at okb
        exact of_decide_eq_true (List.all_eq_true.mp okb.2 x hx)
      have hH' := hH.step hb
      refine (cl2 op x a.k a.b a.n a.o a.s A1 c1 a.l.length W' _ g3 g4 ⟨Below.refl _ _, hH'.b3, hH'.b4, hH'.b4⟩ (Lib.hid fun W2 A c hb2 => ?_)).mono fun e w' h => ⟨h.1, below_step hb h.2⟩
      have hw2 := below_step hH'.bel hb2
      exact holds_core op a (textV x) A1 c1 A c W2 (hG3.step hw2) (Kd.C_below hr1 hw2) hc1 (C_zero W2 A) (Nat.zero_le _) oka (textV_ok hx') h4a (by simp [textV])
  · rw [if_neg h4b]
    exact holds_core op a b A1 c1 A2 c2 w hG3 hr1 hc1 hr2 hc2 oka okb h4a h4b
theorem holds_2 : Holds op a b A1 c1 A2 c2 w (holdsV op a b) := by
  unfold holdsV
  by_cases h4a : a.k = 4
  · rw [if_pos h4a]
    have h14 : (a.k == 4) = true := beq_iff_eq.mpr h4a
    by_cases k1 : b.k = 1
    · rw [if_pos k1]
      have t1 := fun W (hb : Below w.heap.size w W) => value_asBool.calls a.k a.b a.n a.o a.s A1 c1 a.l _ W (Kd.C_below hr1 hb) hc1 (asBool_eq a)
      refine holds_an op _ _ _ _ _ _ _ _ _ _ _ _ _ _ _ _ w _ _ h14 (beq_iff_eq.mpr k1) (beq_eq_false_iff_ne.mpr (by omega)) (Lib.hid t1) (Lib.hid fun W A c hb => ?_)
      exact holds_core op (truthV (asBoolV a)) b A c A2 c2 W (hG3.step hb) (C_zero W A) (Nat.zero_le _) (Kd.C_below hr2 hb) hc2 (truthV_ok _) okb (by simp [truthV]) (by omega)
    · rw [if_neg k1]
      obtain ⟨cB, hB⟩ := Option.isSome_iff_exists.mp (show Tryd.f66.body.isSome = true by kernel_rfl)
      refine holds_a op _ _ _ _ _ _ _ _ _ _ _ _ _ _ _ _ w _ h14 (beq_eq_false_iff_ne.mpr k1) _ rfl (Lib.hid fun W g3 g4 g5 hH => ?_)
      refine ContainsFunc_texts _ #[.pointer (some ⟨g3, 0, none⟩), .pointer (some ⟨g5, 0, none⟩)] (Go.Proofs.enters_of Tryd.func66 (by kernel_rfl) hB) A1 c1 a.l _ W (Kd.C_below hr1 hH.bel) fun W' x hx hb => ?_
      have hx' : x.size ≤ 281474976710656 := by
        simp only [Val.okB, Bool.and_eq_true] at oka
        exact of_decide_eq_true (List.all_eq_true.mp oka.2 x hx)
      have hH' := hH.step hb
      refine (cl1 op x b.k b.b b.n b.o b.s A2 c2 b.l.length W' _ g3 g5 ⟨Below.refl _ _, hH'.b3, hH'.b5, hH'.b5⟩ (Lib.hid fun W2 A c hb2 => ?_)).mono fun e w' h => ⟨h.1, below_step hb h.2⟩
      have hw2 := below_step hH'.bel hb2
      exact holds_1 op (textV x) b A c A2 c2 W2 (hG3.step hw2) (C_zero W2 A) (Nat.zero_le _) (Kd.C_below hr2 hw2) hc2 (textV_ok hx') okb (by simp [textV])
  · rw [if_neg h4a]
    exact holds_1 op a b A1 c1 A2 c2 w hG3 hr1 hc1 hr2 hc2 oka okb h4a
end
def value_holds.f (op : ByteArray) (a0 : Int) (a1 : Bool) (a2 : Int) (a3 : Bool) (a4 : ByteArray) (a5 : List ByteArray) (b0 : Int) (b1 : Bool) (b2 : Int) (b3 : Bool) (b4 : ByteArray) (b5 : List ByteArray) : Option Bool :=
  if ((⟨a0, a1, a2, a3, a4, a5⟩ : Val).okB && (⟨b0, b1, b2, b3, b4, b5⟩ : Val).okB) = true then some (holdsV op ⟨a0, a1, a2, a3, a4, a5⟩ ⟨b0, b1, b2, b3, b4, b5⟩) else none
theorem value_holds.calls (a0 : ByteArray) (a1_0 : Int) (a1_1 : Bool) (a1_2 : Int) (a1_3 : Bool) (a1_4 : ByteArray) (A1_5 : Option Addr) (c1_5 : Nat) (l1_5 : List ByteArray) (a2_0 : Int) (a2_1 : Bool) (a2_2 : Int) (a2_3 : Bool) (a2_4 : ByteArray) (A2_5 : Option Addr) (c2_5 : Nat) (l2_5 : List ByteArray) (r : Bool) (w : World)
    (hr1_5 : Kd.C Kd.string w A1_5 l1_5.length l1_5) (hc1_5 : l1_5.length ≤ c1_5) (hr2_5 : Kd.C Kd.string w A2_5 l2_5.length l2_5) (hc2_5 : l2_5.length ≤ c2_5) (h : value_holds.f a0 a1_0 a1_1 a1_2 a1_3 a1_4 l1_5 a2_0 a2_1 a2_2 a2_3 a2_4 l2_5 = some r) (hG3 : Glob3 w := by first | exact Glob3.step HG3.out (by repeat (first | (with_reducible first | exact HB.out | apply below_alloc | apply pw_below_drewN | apply below_drew1) | exact HB.out | (refine below_set ?_ (Aside0.out (by assumption))))) | exact HG3.out | assumption) :
    Calls Tryd.prog 42 #[.string a0, .agg #[.int .i64 a1_0, .bool a1_1, .int .i64 a1_2, .bool a1_3, .string a1_4, .slice A1_5 l1_5.length c1_5], .agg #[.int .i64 a2_0, .bool a2_1, .int .i64 a2_2, .bool a2_3, .string a2_4, .slice A2_5 l2_5.length c2_5]] w fun e w' => e = .returned (.bool r) ∧ Below w.heap.size w w' := by
  unfold value_holds.f at h
  by_cases hk : ((⟨a1_0, a1_1, a1_2, a1_3, a1_4, l1_5⟩ : Val).okB && (⟨a2_0, a2_1, a2_2, a2_3, a2_4, l2_5⟩ : Val).okB) = true
  · rw [if_pos hk] at h
    obtain rfl := Option.some.inj h
    simp only [Bool.and_eq_true] at hk
    exact holds_2 a0 ⟨a1_0, a1_1, a1_2, a1_3, a1_4, l1_5⟩ ⟨a2_0, a2_1, a2_2, a2_3, a2_4, l2_5⟩ A1_5 c1_5 A2_5 c2_5 w hG3 hr1_5 hc1_5 hr2_5 hc2_5 hk.1 hk.2
  · rw [if_neg hk] at h; cases h
end Go.Proofs.YtnkjchcaonaifaaDoor.PA
