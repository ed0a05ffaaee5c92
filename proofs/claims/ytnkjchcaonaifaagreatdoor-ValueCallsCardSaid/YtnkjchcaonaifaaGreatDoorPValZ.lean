/- Values in plain Lean, for a seat without value.holds: what value.check, asBool, asNumber, asText answer. (The lines of XUHolds and XPValue.) -/
import Derived.Test.YtnkjchcaonaifaaGreatDoorPItoa
import Derived.Test.YtnkjchcaonaifaaGreatDoorUCheck
import Derived.Test.YtnkjchcaonaifaaGreatDoorPA2
namespace Go.Proofs.YtnkjchcaonaifaaGreatDoor.PA
open Go.RowKit Go.Proofs.YtnkjchcaonaifaaGreatDoorW.PrintWords Go.Proofs.YtnkjchcaonaifaaGreatDoorW.PrintLast Go.Proofs.YtnkjchcaonaifaaGreatDoorW.PrintMore
set_option linter.unusedVariables false
set_option linter.unusedSimpArgs false
structure Val where
  k : Int
  b : Bool
  n : Int
  o : Bool
  s : ByteArray
  l : List ByteArray
def Val.okB (v : Val) : Bool := decide (1 ≤ v.k ∧ v.k ≤ 4) && decide (v.s.size ≤ 281474976710656) && v.l.all (fun x => decide (x.size ≤ 281474976710656))
def asBoolV (v : Val) : Bool := if v.k = 1 then v.b else if v.k = 2 then (if v.o = true then false else v.n != 0) else if v.k = 3 then (v.s.toList != ([] : List UInt8)) else decide ((v.l.length : Int) > 0)
def firstV (l : List ByteArray) : ByteArray := if l.length = 0 then ⟨#[]⟩ else rdOf ByteArray.empty l 0
def numV (v : Val) : Int × Bool := if v.k = 1 then (if v.b = true then (1, true) else (0, true)) else if v.k = 2 then (if v.o = true then (0, false) else (v.n, true)) else if v.k = 3 then readR v.s else readR (firstV v.l)
def textV (s : ByteArray) : Val := ⟨3, false, 0, false, s, []⟩
theorem asBool_eq (v : Val) : value_asBool.f v.k v.b v.n v.o v.s v.l = some (asBoolV v) := by
  unfold value_asBool.f asBoolV
  by_cases h1 : v.k = 1
  · rw [if_pos h1, if_pos h1]
  rw [if_neg h1, if_neg h1]
  by_cases h2 : v.k = 2
  · rw [if_pos h2, if_pos h2]; by_cases h : v.o = true <;> simp [h]
  rw [if_neg h2, if_neg h2]
  by_cases h3 : v.k = 3
  · rw [if_pos h3, if_pos h3]
  rw [if_neg h3, if_neg h3]
theorem first_eqV (l : List ByteArray) : value_first.f l = some (firstV l) := by
  unfold value_first.f firstV
  by_cases h : l.length = 0
  · rw [if_pos h, if_pos (by omega)]
  · rw [if_neg h, if_neg (by omega), if_pos (by omega)]
theorem firstV_size (l : List ByteArray) (h : l.all (fun x => decide (x.size ≤ 281474976710656)) = true) : (firstV l).size ≤ 281474976710656 := by
  unfold firstV
  by_cases h0 : l.length = 0
  · rw [if_pos h0]; show 0 ≤ _; omega
  · rw [if_neg h0]
    have hm : rdOf ByteArray.empty l 0 ∈ l := by
      show l.getD (0 : Int).toNat _ ∈ l
      cases l with
      | nil => exact absurd rfl h0
      | cons x l => simp
    exact of_decide_eq_true (List.all_eq_true.mp h _ hm)
theorem asNumber_eq (v : Val) (hv : v.okB = true) : value_asNumber.f v.k v.b v.n v.o v.s v.l = some (numV v) := by
  simp only [Val.okB, Bool.and_eq_true, decide_eq_true_eq] at hv
  obtain ⟨⟨hk, hs⟩, hl⟩ := hv
  unfold value_asNumber.f numV
  by_cases h1 : v.k = 1
  · rw [if_pos h1, if_pos h1]; by_cases h : v.b = true <;> simp [h]
  rw [if_neg h1, if_neg h1]
  by_cases h2 : v.k = 2
  · rw [if_pos h2, if_pos h2]; by_cases h : v.o = true <;> simp [h]
  rw [if_neg h2, if_neg h2]
  by_cases h3 : v.k = 3
  · rw [if_pos h3, if_pos h3]
    unfold value_read.f
    rw [if_pos hs]; rfl
  rw [if_neg h3, if_neg h3, first_eqV, Option.bind_some]
  unfold value_read.f
  rw [if_pos (firstV_size _ hl)]; rfl
def tOk (s : ByteArray) : Bool := (textR s).2 == 0
def checkV (v : Val) : Int :=
  if v.k = 3 then (if tOk v.s = true then 0 else 141) else if v.k = 4 then (if v.l.length ≤ 4096 then (if v.l.all tOk = true then 0 else 141) else 141) else if 1 ≤ v.k ∧ v.k ≤ 4 then 0 else 141
/-- A value as it may come in. -/
structure Val.In (v : Val) : Prop where
  n0 : -9223372036854775808 ≤ v.n
  n1 : v.n ≤ 9223372036854775807
  s : v.s.size ≤ 140737488351232
  l : ∀ x ∈ v.l, x.size ≤ 140737488351232
theorem Val.In.of {k : Int} {b : Bool} {n : Int} {o : Bool} {s : ByteArray} {l : List ByteArray} {p q r t : Prop} (h : p ∧ q ∧ (Lit.int .i64 n).wf = true ∧ r ∧ s.size ≤ 140737488351232 ∧ (∀ x ∈ l, x.size ≤ 140737488351232) ∧ t) : (⟨k, b, n, o, s, l⟩ : Val).In := by
  obtain ⟨_, _, h1, _, h2, h3, _⟩ := h
  have hm : IntKind.i64.max = 9223372036854775807 := rfl
  have hm2 : IntKind.i64.min = -9223372036854775808 := rfl
  simp only [Lit.wf, Bool.and_eq_true, decide_eq_true_eq] at h1
  exact ⟨by show _ ≤ n; omega, by show n ≤ _; omega, h2, h3⟩
theorem check_eq (k : Nat) (v : Val) (h : v.In) (hk : 140737488351242 ≤ k) : value_check.f k v.k v.b v.n v.o v.s v.l = some (checkV v) := by
  unfold value_check.f checkV
  have tx : ∀ x : ByteArray, x.size ≤ 140737488351232 → value_textual.f k x = some (tOk x) := fun x hx => textual_eq k x (by omega) (by omega)
  by_cases h3 : v.k = 3
  · rw [if_pos h3, if_pos h3, tx _ h.s]
    rfl
  rw [if_neg h3, if_neg h3]
  by_cases h4 : v.k = 4
  · rw [if_pos h4, if_pos h4]
    by_cases hl : v.l.length ≤ 4096
    · rw [if_pos hl, if_pos hl]
      have e1 : v.l.all (fun x => (value_textual.f k x).isSome) = true := List.all_eq_true.mpr fun x hx => by rw [tx x (h.l x hx)]; rfl
      have e2 : v.l.all (fun x => value_textual.f k x == some true) = v.l.all tOk := by
        rw [Bool.eq_iff_iff, List.all_eq_true, List.all_eq_true]
        constructor
        · intro g x hx
          have := g x hx
          rw [tx x (h.l x hx)] at this
          simpa using this
        · intro g x hx
          rw [tx x (h.l x hx), g x hx]
          rfl
      rw [if_pos e1, e2]
    · rw [if_neg hl, if_neg hl]
  · rw [if_neg h4, if_neg h4]
theorem check_or (v : Val) : checkV v = 0 ∨ checkV v = 141 := by
  unfold checkV
  repeat' split
  all_goals first | exact .inl rfl | exact .inr rfl
theorem check_kind {v : Val} (h : checkV v = 0) : 1 ≤ v.k ∧ v.k ≤ 4 := by
  unfold checkV at h
  by_cases h3 : v.k = 3
  · omega
  rw [if_neg h3] at h
  by_cases h4 : v.k = 4
  · omega
  rw [if_neg h4] at h
  by_cases hk : 1 ≤ v.k ∧ v.k ≤ 4
  · exact hk
  · rw [if_neg hk] at h; exact absurd h (by decide)
def asTextV (v : Val) : ByteArray := if v.k = 1 then ⟨(Lib.formatBool v.b).toArray⟩ else if v.k = 2 then (if v.o = true then ⟨#[78, 97, 78]⟩ else ⟨(Lib.itoa v.n).toArray⟩) else if v.k = 3 then v.s else firstV v.l
theorem asText_eq (v : Val) (h : v.In) : value_asText.f v.k v.b v.n v.o v.s v.l = some (asTextV v) := by
  unfold value_asText.f asTextV
  by_cases h1 : v.k = 1
  · rw [if_pos h1, if_pos h1]; rfl
  rw [if_neg h1, if_neg h1]
  by_cases h2 : v.k = 2
  · rw [if_pos h2, if_pos h2]
    by_cases ho : v.o = true
    · rw [if_pos ho, if_pos ho]
    · rw [if_neg ho, if_neg ho]
      unfold strconv_FormatInt.f
      rw [if_pos ⟨rfl, h.n0, h.n1⟩]
      rfl
  rw [if_neg h2, if_neg h2]
  by_cases h3 : v.k = 3
  · rw [if_pos h3, if_pos h3]
  rw [if_neg h3, if_neg h3, first_eqV]
  rfl
theorem tOk_size {s : ByteArray} (h : tOk s = true) : s.size ≤ 16384 := (textR_ok (eq_of_beq h)).1
theorem tOk_lit (l : List UInt8) (h : (l.all fun b => decide (32 ≤ b.toNat ∧ b.toNat < 127)) = true) (hl : l.length ≤ 16384) : tOk ⟨l.toArray⟩ = true :=
  beq_iff_eq.mpr (ascii_text l (fun b hb => of_decide_eq_true (List.all_eq_true.mp h b hb)) hl)
theorem firstV_ok {l : List ByteArray} (h : l.all tOk = true) : tOk (firstV l) = true := by
  unfold firstV
  by_cases h0 : l.length = 0
  · rw [if_pos h0]; exact tOk_lit [] (by rfl) (by decide)
  · rw [if_neg h0]
    cases l with
    | nil => exact absurd rfl h0
    | cons x l => exact List.all_eq_true.mp h x (by simp)
theorem asText_ok {v : Val} (hv : v.In) (h : checkV v = 0) : tOk (asTextV v) = true := by
  unfold asTextV
  by_cases h1 : v.k = 1
  · rw [if_pos h1]
    cases v.b
    · exact tOk_lit _ (by decide) (by decide)
    · exact tOk_lit _ (by decide) (by decide)
  rw [if_neg h1]
  by_cases h2 : v.k = 2
  · rw [if_pos h2]
    by_cases ho : v.o = true
    · rw [if_pos ho]; exact tOk_lit [78, 97, 78] (by decide) (by decide)
    · rw [if_neg ho]; exact beq_iff_eq.mpr (itoa_text _ hv.n0 hv.n1)
  rw [if_neg h2]
  unfold checkV at h
  by_cases h3 : v.k = 3
  · rw [if_pos h3]
    rw [if_pos h3] at h
    by_cases ht : tOk v.s = true
    · exact ht
    · rw [if_neg ht] at h; exact absurd h (by decide)
  rw [if_neg h3]
  rw [if_neg h3] at h
  by_cases h4 : v.k = 4
  · rw [if_pos h4] at h
    by_cases hl : v.l.length ≤ 4096
    · rw [if_pos hl] at h
      by_cases ht : v.l.all tOk = true
      · exact firstV_ok ht
      · rw [if_neg ht] at h; exact absurd h (by decide)
    · rw [if_neg hl] at h; exact absurd h (by decide)
  · rw [if_neg h4] at h
    by_cases hk : 1 ≤ v.k ∧ v.k ≤ 4
    · omega
    · rw [if_neg hk] at h; exact absurd h (by decide)
theorem check_okB {v : Val} (hv : v.In) (h : checkV v = 0) : v.okB = true := by
  simp only [Val.okB, Bool.and_eq_true, decide_eq_true_eq]
  exact ⟨⟨check_kind h, Nat.le_trans hv.s (by decide)⟩, List.all_eq_true.mpr fun x hx => decide_eq_true (Nat.le_trans (hv.l x hx) (by decide))⟩
theorem num_text {v : Val} (hv : v.In) (h : checkV v = 0) (h1 : v.k ≠ 1) : readR (asTextV v) = numV v := by
  have hk := check_kind h
  unfold asTextV numV
  rw [if_neg h1, if_neg h1]
  by_cases h2 : v.k = 2
  · rw [if_pos h2, if_pos h2]
    by_cases ho : v.o = true
    · rw [if_pos ho, if_pos ho]; decide +kernel
    · rw [if_neg ho, if_neg ho]; exact read_itoa _ hv.n0 hv.n1
  rw [if_neg h2, if_neg h2]
  by_cases h3 : v.k = 3
  · rw [if_pos h3, if_pos h3]
  rw [if_neg h3, if_neg h3]
theorem textV_in {s : ByteArray} (h : tOk s = true) : (textV s).In := ⟨by simp [textV], by simp [textV], Nat.le_trans (tOk_size h) (by decide), fun x hx => by simp [textV] at hx⟩
theorem textV_check {s : ByteArray} (h : tOk s = true) : checkV (textV s) = 0 := by simp [textV, checkV, h]
end Go.Proofs.YtnkjchcaonaifaaGreatDoor.PA
