/- What the reference reads out of a text, is what value.read does: in plain Lean. -/
import Derived.Test.YtnkjchcaonaifaaGreatDoorPRef14
import Derived.Test.YtnkjchcaonaifaaGreatDoorPA11
import Derived.Test.YtnkjchcaonaifaaGreatDoorPA12
import Derived.Test.YtnkjchcaonaifaaGreatDoorPA3
namespace Go.Proofs.YtnkjchcaonaifaaGreatDoor.PA
open Go.RowKit Go.Proofs.YtnkjchcaonaifaaGreatDoorW.PrintWords Go.Proofs.YtnkjchcaonaifaaGreatDoorW.PrintLast Go.Proofs.YtnkjchcaonaifaaGreatDoorW.PrintMore Go.PlainAid
set_option linter.unusedVariables false
set_option linter.unusedSimpArgs false
def digN (c : UInt8) : Prop := 48 ≤ c.toNat ∧ c.toNat ≤ 57
instance (c : UInt8) : Decidable (digN c) := inferInstanceAs (Decidable (_ ∧ _))
def refD : Nat → List UInt8 → Option Nat
  | acc, [] => some acc
  | acc, c :: r => if digN c then (if acc * 10 + (c.toNat - 48) ≤ 9223372036854775808 then refD (acc * 10 + (c.toNat - 48)) r else none) else none
def finD (minus : Bool) : Option Nat → Bool × Int
  | none => (false, 0)
  | some n => if minus = true then (true, -(n : Int)) else if n < 9223372036854775808 then (true, (n : Int)) else (false, 0)
theorem refD_le : ∀ (D : List UInt8) (acc u : Nat), acc ≤ 9223372036854775808 → refD acc D = some u → u ≤ 9223372036854775808
  | [], acc, u, h, e => by
    simp only [refD, Option.some.injEq] at e
    omega
  | c :: r, acc, u, h, e => by
    rw [refD] at e
    by_cases h1 : digN c
    · rw [if_pos h1] at e
      by_cases h2 : acc * 10 + (c.toNat - 48) ≤ 9223372036854775808
      · rw [if_pos h2] at e; exact refD_le r _ u h2 e
      · rw [if_neg h2] at e; cases e
    · rw [if_neg h1] at e; cases e
theorem refD_bad : ∀ (D : List UInt8) (acc : Nat), (∃ c ∈ D, ¬ digN c) → refD acc D = none
  | [], acc, ⟨c, hc, _⟩ => by cases hc
  | x :: r, acc, ⟨c, hc, hn⟩ => by
    rw [refD]
    by_cases h1 : digN x
    · rw [if_pos h1]
      by_cases h2 : acc * 10 + (x.toNat - 48) ≤ 9223372036854775808
      · rw [if_pos h2]
        refine refD_bad r _ ⟨c, ?_, hn⟩
        rcases List.mem_cons.mp hc with e | e
        · subst e; exact absurd h1 hn
        · exact e
      · rw [if_neg h2]
    · rw [if_neg h1]
theorem parse_ge (M : Nat) : ∀ (D : List UInt8) (acc u : Nat), Lib.parseUintM M acc D = .ok u → acc ≤ u
  | [], acc, u, h => by
    simp only [Lib.parseUintM, Lib.NumEnd.ok.injEq] at h
    omega
  | c :: r, acc, u, h => by
    rw [Lib.parseUintM] at h
    by_cases h1 : 48 ≤ c.toNat ∧ c.toNat ≤ 57
    · rw [if_pos h1] at h
      by_cases h2 : 1844674407370955162 ≤ acc
      · rw [if_pos h2] at h; cases h
      · rw [if_neg h2] at h
        by_cases h3 : M < acc * 10 + (c.toNat - 48)
        · rw [if_pos h3] at h; cases h
        · rw [if_neg h3] at h
          have := parse_ge M r _ u h
          omega
    · rw [if_neg h1] at h; cases h
theorem parse_ref : ∀ (D : List UInt8) (acc : Nat), acc ≤ 9223372036854775808 → (∀ c ∈ D, digN c) →
    (∀ u, refD acc D = some u → Lib.parseUintM 18446744073709551615 acc D = .ok u) ∧ (refD acc D = none → Lib.parseUintM 18446744073709551615 acc D = .range ∨ ∃ u, Lib.parseUintM 18446744073709551615 acc D = .ok u ∧ 9223372036854775808 < u)
  | [], acc, h, _ => ⟨fun u e => by simp only [refD, Option.some.injEq] at e; subst e; rfl, fun e => by simp [refD] at e⟩
  | c :: r, acc, h, hd => by
    have h1 : digN c := hd c (by simp)
    have hr : ∀ x ∈ r, digN x := fun x hx => hd x (by simp [hx])
    rw [refD, Lib.parseUintM, if_pos h1, if_pos (show 48 ≤ c.toNat ∧ c.toNat ≤ 57 from h1)]
    obtain ⟨h48, h57⟩ := h1
    by_cases h2 : acc * 10 + (c.toNat - 48) ≤ 9223372036854775808
    · rw [if_pos h2, if_neg (by omega), if_neg (by omega)]
      exact parse_ref r _ h2 hr
    · rw [if_neg h2]
      refine ⟨fun u e => (by cases e), fun _ => ?_⟩
      by_cases h3 : 1844674407370955162 ≤ acc
      · rw [if_pos h3]; exact .inl rfl
      · rw [if_neg h3]
        by_cases h4 : 18446744073709551615 < acc * 10 + (c.toNat - 48)
        · rw [if_pos h4]; exact .inl rfl
        · rw [if_neg h4]
          cases e : Lib.parseUintM 18446744073709551615 (acc * 10 + (c.toNat - 48)) r with
          | ok u => exact .inr ⟨u, rfl, by have := parse_ge _ r _ u e; omega⟩
          | range => exact .inl rfl
          | _ =>
            exfalso
            exact parse_no r _ hr e
where
  parse_no : ∀ (D : List UInt8) (acc : Nat), (∀ c ∈ D, digN c) → Lib.parseUintM 18446744073709551615 acc D ≠ Lib.parseUintB 64 []
    | [], acc, _ => by simp [Lib.parseUintM, Lib.parseUintB]
    | c :: r, acc, hd => by
      rw [Lib.parseUintM, if_pos (show 48 ≤ c.toNat ∧ c.toNat ≤ 57 from hd c (by simp))]
      by_cases h3 : 1844674407370955162 ≤ acc
      · rw [if_pos h3]; simp [Lib.parseUintB]
      · rw [if_neg h3]
        by_cases h4 : 18446744073709551615 < acc * 10 + (c.toNat - 48)
        · rw [if_pos h4]; simp [Lib.parseUintB]
        · rw [if_neg h4]; exact parse_no r _ (fun x hx => hd x (by simp [hx]))
theorem mem_drop (p : UInt8 → Bool) : ∀ (l : List UInt8) (b : UInt8), b ∈ l → p b = false → b ∈ l.dropWhile p
  | [], b, h, _ => by cases h
  | a :: l, b, h, hb => by
    rw [List.dropWhile_cons]
    by_cases ha : p a = true
    · rw [if_pos ha]
      rcases List.mem_cons.mp h with e | e
      · subst e; rw [hb] at ha; cases ha
      · exact mem_drop p l b e hb
    · rw [if_neg ha]; exact h
theorem trimS_some (l cs : List UInt8) (b : UInt8) (h : b ∈ l) (hb : cs.contains b = false) : (Lib.trimS l cs).isEmpty = false := by
  unfold Lib.trimS Lib.trimLeftS Lib.trimRightS
  have h1 := mem_drop (cs.contains ·) l.reverse b (List.mem_reverse.mpr h) hb
  have h2 := mem_drop (cs.contains ·) _ b (List.mem_reverse.mpr h1) hb
  generalize ((l.reverse.dropWhile (cs.contains ·)).reverse.dropWhile (cs.contains ·)) = z at h2 ⊢
  cases z with
  | nil => cases h2
  | cons x z => rfl
theorem digit_of (b : UInt8) : digitsR.contains b = decide (digN b) := by
  have : ∀ c : Fin 256, digitsR.contains (UInt8.ofNat c.val) = decide (48 ≤ c.val ∧ c.val ≤ 57) := by decide +kernel
  have e := this ⟨b.toNat, b.toNat_lt⟩
  simp only [UInt8.ofNat_toNat] at e
  rw [e]
  rfl
theorem prefix_minus (c : UInt8) (r : List UInt8) : Lib.trimPrefix (c :: r) [45] = if c = 45 then r else c :: r := by
  unfold Lib.trimPrefix Lib.hasPrefix
  by_cases h : c = 45
  · subst h; simp [List.isPrefixOf]
  · rw [if_neg (by simp [List.isPrefixOf]; exact fun e => h e.symm), if_neg h]
def swap2 (x : Int × Bool) : Bool × Int := (x.2, x.1)
def refL : List UInt8 → Bool × Int
  | [] => (false, 0)
  | c :: r => if c = 45 then (if r = [] then (false, 0) else finD true (refD 0 r)) else finD false (refD 0 (c :: r))
theorem finD_plus (n : Nat) : finD false (some n) = if n < 9223372036854775808 then (true, (n : Int)) else (false, 0) := by
  unfold finD
  simp only [Bool.false_eq_true, if_false]
theorem refL_cons (c : UInt8) (r : List UInt8) : refL (c :: r) = if c = 45 then (if r = [] then (false, 0) else finD true (refD 0 r)) else finD false (refD 0 (c :: r)) := rfl
theorem u45 (c : UInt8) : c.toNat = 45 ↔ c = 45 := ⟨fun h => UInt8.toNat_inj.mp h, fun h => by subst h; rfl⟩
theorem readL_ref (T : List UInt8) : swap2 (readL T) = refL T := by
  have key : ∀ (D : List UInt8), D ≠ [] → (∀ c ∈ D, digN c) → Lib.parseUintB 64 D = Lib.parseUintM 18446744073709551615 0 D := by
    intro D hD _
    unfold Lib.parseUintB
    rw [if_neg hD]
  have bad : ∀ (D : List UInt8), (∃ c ∈ D, ¬ digN c) → (Lib.trimS D digitsR).isEmpty = false := by
    rintro D ⟨c, hc, hn⟩
    exact trimS_some D digitsR c hc (by rw [digit_of]; exact decide_eq_false hn)
  have good : ∀ (D : List UInt8), (∀ c ∈ D, digN c) → (Lib.trimS D digitsR).isEmpty = true := by
    intro D h
    rw [trimS_all D digitsR (fun b hb => by rw [digit_of]; exact decide_eq_true (h b hb))]
    rfl
  have dec : ∀ (D : List UInt8), (∀ c ∈ D, digN c) ∨ (∃ c ∈ D, ¬ digN c) := by
    intro D
    by_cases h : ∀ c ∈ D, digN c
    · exact .inl h
    · refine .inr ?_
      by_cases h2 : ∃ c ∈ D, ¬ digN c
      · exact h2
      · exact absurd (fun c hc => Classical.byContradiction fun hn => h2 ⟨c, hc, hn⟩) h
  cases T with
  | nil => rfl
  | cons c r =>
    unfold readL
    rw [prefix_minus, refL_cons]
    by_cases hc : c = 45
    · rw [if_pos hc, if_pos hc]
      by_cases hr : r = []
      · subst hr; rfl
      · have he : ¬ r.isEmpty = true := by cases r with
          | nil => exact absurd rfl hr
          | cons x r => simp
        rw [if_neg he, if_neg hr]
        rcases dec r with hd | hd
        · rw [if_neg (by rw [good r hd]; simp)]
          unfold Lib.parseIntB
          simp only
          rw [if_pos (.inr ((u45 c).mpr hc)), key r hr hd]
          obtain ⟨p1, p2⟩ := parse_ref r 0 (by omega) hd
          cases e : refD 0 r with
          | some u =>
            have hu := refD_le r 0 u (by omega) e
            rw [p1 u e]
            simp only
            rw [if_neg (by have := (u45 c).mpr hc; omega), if_neg (by omega), if_pos ((u45 c).mpr hc)]
            rfl
          | none =>
            rcases p2 e with q | ⟨u, q, hu⟩
            · rw [q]; rfl
            · rw [q]
              simp only
              rw [if_neg (by have := (u45 c).mpr hc; omega), if_pos ⟨(u45 c).mpr hc, by omega⟩]
              rfl
        · rw [if_pos (bad r hd), refD_bad r 0 hd]
          rfl
    · have hc' : ¬ c.toNat = 45 := fun h => hc ((u45 c).mp h)
      rw [if_neg hc, if_neg hc, if_neg (by simp)]
      rcases dec (c :: r) with hd | hd
      · have hdc := hd c (by simp)
        have h43 : ¬ (c.toNat = 43 ∨ c.toNat = 45) := by unfold digN at hdc; omega
        rw [if_neg (by rw [good _ hd]; simp)]
        unfold Lib.parseIntB
        simp only
        rw [if_neg h43, key (c :: r) (by simp) hd]
        obtain ⟨p1, p2⟩ := parse_ref (c :: r) 0 (by omega) hd
        cases e : refD 0 (c :: r) with
        | some u =>
          have hu := refD_le (c :: r) 0 u (by omega) e
          rw [p1 u e]
          simp only
          by_cases h63 : u < 9223372036854775808
          · rw [if_neg (by omega), if_neg (by omega), if_neg hc']
            rw [finD_plus, if_pos h63]
            rfl
          · rw [if_pos ⟨hc', by omega⟩]
            rw [finD_plus, if_neg h63]
            rfl
        | none =>
          rcases p2 e with q | ⟨u, q, hu⟩
          · rw [q]; rfl
          · rw [q]
            simp only
            rw [if_pos ⟨hc', by omega⟩]
            rfl
      · rw [if_pos (bad _ hd), refD_bad _ 0 hd]
        rfl
end Go.Proofs.YtnkjchcaonaifaaGreatDoor.PA
