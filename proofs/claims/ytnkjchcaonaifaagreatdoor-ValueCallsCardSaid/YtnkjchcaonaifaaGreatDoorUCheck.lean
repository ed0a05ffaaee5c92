/- value.check: what is wrong with a value, over value.textual and slices.ContainsFunc. -/
import Derived.Test.YtnkjchcaonaifaaGreatDoorPA2
import Derived.Test.YtnkjchcaonaifaaGreatDoorUIndexFunc
import Derived.WalkKit
import Derived.BigCall
import Derived.BigGuard
import Derived.Outline
import Derived.Shelf.Abstract
namespace Go.Proofs.YtnkjchcaonaifaaGreatDoor.PA
open Go.RowKit Go.Proofs.YtnkjchcaonaifaaGreatDoorW.PrintWords Go.Proofs.YtnkjchcaonaifaaGreatDoorW.PrintLast Go.Proofs.YtnkjchcaonaifaaGreatDoorW.PrintMore
set_option linter.unusedVariables false
set_option linter.unusedSimpArgs false
def value_check.f (k : Nat) (kind : Int) (b : Bool) (n : Int) (o : Bool) (s : ByteArray) (l : List ByteArray) : Option Int :=
  if kind = 3 then (value_textual.f k s).bind fun t => some (if t = true then 0 else 141)
  else if kind = 4 then (if l.length ≤ 4096 then (if l.all (fun x => (value_textual.f k x).isSome) = true then some (if l.all (fun x => value_textual.f k x == some true) = true then 0 else 141) else none) else some 141)
  else some (if 1 ≤ kind ∧ kind ≤ 4 then 0 else 141)
theorem value_check.mono : ∀ a0 a1 a2 a3 a4 a5 k, LeO (value_check.f k a0 a1 a2 a3 a4 a5) (value_check.f (k + 1) a0 a1 a2 a3 a4 a5) := by
  intro a0 a1 a2 a3 a4 a5 k r h
  unfold value_check.f at h ⊢
  by_cases h3 : a0 = 3
  · rw [if_pos h3] at h ⊢
    exact LeO.bind (value_textual.mono _ _) (fun _ => LeO.refl _) r h
  rw [if_neg h3] at h ⊢
  by_cases h4 : a0 = 4
  · rw [if_pos h4] at h ⊢
    by_cases hl : a5.length ≤ 4096
    · rw [if_pos hl] at h ⊢
      by_cases ha : a5.all (fun x => (value_textual.f k x).isSome) = true
      · rw [if_pos ha] at h
        have hx : ∀ x ∈ a5, value_textual.f (k + 1) x = value_textual.f k x := by
          intro x hx
          obtain ⟨v, hv⟩ := Option.isSome_iff_exists.mp (List.all_eq_true.mp ha x hx)
          rw [hv]
          exact value_textual.mono _ _ v hv
        have e1 : a5.all (fun x => (value_textual.f (k + 1) x).isSome) = true := List.all_eq_true.mpr fun x hm => by rw [hx x hm]; exact List.all_eq_true.mp ha x hm
        have e2 : a5.all (fun x => value_textual.f (k + 1) x == some true) = a5.all (fun x => value_textual.f k x == some true) := by
          rw [Bool.eq_iff_iff, List.all_eq_true, List.all_eq_true]
          exact ⟨fun g x hm => by rw [← hx x hm]; exact g x hm, fun g x hm => by rw [hx x hm]; exact g x hm⟩
        rw [if_pos e1, e2]
        exact h
      · rw [if_neg ha] at h; cases h
    · rw [if_neg hl] at h ⊢; exact h
  · rw [if_neg h4] at h ⊢; exact h
set_option maxHeartbeats 4000000 in
set_option maxRecDepth 1000000 in
theorem check_text (k : Nat) (x : ByteArray) (b : Bool) (W : World) (hx : value_textual.f k x = some b) (hG : Glob W) : Calls Tryz.prog 40 #[.string x] W fun e w' => e = .returned (.bool (!b)) ∧ Below W.heap.size W w' := by
  have HX := Aside0.mk hx
  have HG := Aside0.mk hG
  clear hx hG
  go_enter Tryz.func40, Tryz.ntmps40
  go_wp2_with (go_at_call 38; (with_reducible refine (value_textual.calls k x b _ HX.out HG.out).mono ?_); rintro e w5 ⟨rfl, hb⟩)
  go_ret
  exact ⟨rfl, hb⟩
theorem bcellC {W w1 : World} (hb : Below W.heap.size W w1) : (∀ b o, b < W.heap.size → w1.cell? ⟨b, o, none⟩ = W.cell? ⟨b, o, none⟩) ∧ (∀ b o, b < W.heap.size → w1.frozen? ⟨b, o, none⟩ = W.frozen? ⟨b, o, none⟩) :=
  ⟨fun b o h => hb.cell (p := ⟨b, o, none⟩) h, fun b o h => hb.frozen (p := ⟨b, o, none⟩) h⟩
theorem below_stepC {w w1 w2 : World} (h : Below w.heap.size w w1) (k : Below w1.heap.size w1 w2) : Below w.heap.size w w2 := below_then h h.size k
set_option maxHeartbeats 4000000 in
set_option maxRecDepth 1000000 in
theorem value_check.calls (k : Nat) (a0_0 : Int) (a0_1 : Bool) (a0_2 : Int) (a0_3 : Bool) (a0_4 : ByteArray) (A0_5 : Option Addr) (c0_5 : Nat) (l0_5 : List ByteArray) (r : Int) (w : World) (hr0_5 : Kd.C Kd.string w A0_5 l0_5.length l0_5) (hc0_5 : l0_5.length ≤ c0_5) (h : value_check.f k a0_0 a0_1 a0_2 a0_3 a0_4 l0_5 = some r) (hG : Glob w := by first | exact Glob.step HG.out (by repeat (first | (with_reducible first | exact HB.out | apply below_alloc | apply pw_below_drewN | apply below_drew1) | exact HB.out | (refine below_set ?_ (Aside0.out (by assumption))))) | exact HG.out | assumption) :
    Calls Tryz.prog 22 #[.agg #[.int .i64 a0_0, .bool a0_1, .int .i64 a0_2, .bool a0_3, .string a0_4, .slice A0_5 l0_5.length c0_5]] w fun e w' => e = .returned (.int .i64 r) ∧ Below w.heap.size w w' := by
  have huV := Tryz.underlying28
  have HG := Aside0.mk hG
  clear hG hc0_5
  unfold value_check.f at h
  by_cases h3 : a0_0 = 3
  · rw [if_pos h3] at h
    subst h3
    obtain ⟨t, ht, h⟩ := Option.bind_eq_some_iff.mp h
    have HX := Aside0.mk ht
    have HR := Aside0.mk (Option.some.inj h)
    clear ht h hr0_5
    cases t with
    | true =>
      go_enter Tryz.func22, Tryz.ntmps22
      go_wp2_with (go_at_call 38; (with_reducible refine (value_textual.calls k a0_4 true _ HX.out (HG.out.step (by repeat (first | exact Below.refl _ _ | apply below_alloc | apply pw_below_drewN | apply below_drew1)))).mono ?_); rintro e w5 ⟨rfl, hb⟩; obtain ⟨hcC, hfC⟩ := bcellC hb)
      go_ret
      exact ⟨by rw [← HR.out]; rfl, below_stepC (below_alloc (Below.refl _ _) _) hb⟩
    | false =>
      go_enter Tryz.func22, Tryz.ntmps22
      go_wp2_with (go_at_call 38; (with_reducible refine (value_textual.calls k a0_4 false _ HX.out (HG.out.step (by repeat (first | exact Below.refl _ _ | apply below_alloc | apply pw_below_drewN | apply below_drew1)))).mono ?_); rintro e w5 ⟨rfl, hb⟩; obtain ⟨hcC, hfC⟩ := bcellC hb)
      go_ret
      exact ⟨by rw [← HR.out]; rfl, below_stepC (below_alloc (Below.refl _ _) _) hb⟩
  rw [if_neg h3] at h
  by_cases h4 : a0_0 = 4
  · rw [if_pos h4] at h
    subst h4
    by_cases hl : l0_5.length ≤ 4096
    · rw [if_pos hl] at h
      by_cases ha : l0_5.all (fun x => (value_textual.f k x).isSome) = true
      case neg => rw [if_neg ha] at h; cases h
      rw [if_pos ha] at h
      obtain ⟨cB, hB⟩ := Option.isSome_iff_exists.mp (show Tryz.f40.body.isSome = true by kernel_rfl)
      have HC : Hid (∀ W, Below w.heap.size w W → Calls Tryz.prog 39 #[.slice A0_5 l0_5.length c0_5, .func (.func 40) #[] #[]] W fun e w' => e = .returned (.bool (l0_5.any fun x => !(value_textual.f k x == some true))) ∧ Below W.heap.size W w') := Lib.hid (fun W hW =>
        ContainsFunc_texts 40 #[] (Go.Proofs.enters_of Tryz.func40 (by kernel_rfl) hB) A0_5 c0_5 l0_5 _ W (Kd.C_below hr0_5 hW) (fun W' x hx hb => by
          obtain ⟨v, hv⟩ := Option.isSome_iff_exists.mp (List.all_eq_true.mp ha x hx)
          refine (check_text k x v W' hv (HG.out.step (below_stepC hW hb))).mono fun e w' hh => ⟨?_, below_stepC hb hh.2⟩
          rw [hh.1, hv]
          cases v <;> rfl))
      clear hB
      have hq : (l0_5.any fun x => !(value_textual.f k x == some true)) = !(l0_5.all fun x => value_textual.f k x == some true) := by rw [List.not_all_eq_any_not]
      rw [hq] at HC
      have HR := Aside0.mk (Option.some.inj h)
      clear hr0_5 ha h hq
      generalize (l0_5.all fun x => value_textual.f k x == some true) = q at HC HR
      have hl' : (l0_5.length : Int) ≤ 4096 := by omega
      clear hl
      generalize l0_5.length = n at HC hl' ⊢
      cases q with
      | true =>
        go_enter Tryz.func22, Tryz.ntmps22
        go_wp2_with (go_at_call 39; (with_reducible refine (HC.out _ (by repeat (first | exact Below.refl _ _ | apply below_alloc | apply pw_below_drewN | apply below_drew1))).mono ?_); rintro e w5 ⟨rfl, hb⟩)
        go_ret
        exact ⟨by rw [← HR.out]; rfl, below_stepC (below_alloc (Below.refl _ _) _) hb⟩
      | false =>
        go_enter Tryz.func22, Tryz.ntmps22
        go_wp2_with (go_at_call 39; (with_reducible refine (HC.out _ (by repeat (first | exact Below.refl _ _ | apply below_alloc | apply pw_below_drewN | apply below_drew1))).mono ?_); rintro e w5 ⟨rfl, hb⟩)
        go_ret
        exact ⟨by rw [← HR.out]; rfl, below_stepC (below_alloc (Below.refl _ _) _) hb⟩
    · rw [if_neg hl] at h
      have HR := Aside0.mk (Option.some.inj h)
      have hl' : ¬ (l0_5.length : Int) ≤ 4096 := by omega
      clear hl h hr0_5
      generalize l0_5.length = n at hl' ⊢
      go_enter Tryz.func22, Tryz.ntmps22
      go_wp2
      go_ret
      exact ⟨by rw [← HR.out]; rfl, below_alloc (Below.refl _ _) _⟩
  · rw [if_neg h4] at h
    have HR := Aside0.mk (Option.some.inj h)
    have b3 : (a0_0 == 3) = false := beq_eq_false_iff_ne.mpr h3
    have b4 : (a0_0 == 4) = false := beq_eq_false_iff_ne.mpr h4
    clear h hr0_5 h3 h4
    by_cases h1 : 1 ≤ a0_0
    · by_cases h2 : a0_0 ≤ 4
      · go_enter Tryz.func22, Tryz.ntmps22
        go_wp2
        go_ret
        exact ⟨by rw [← HR.out, if_pos ⟨h1, h2⟩]; rfl, below_alloc (Below.refl _ _) _⟩
      · go_enter Tryz.func22, Tryz.ntmps22
        go_wp2
        go_ret
        exact ⟨by rw [← HR.out, if_neg (fun z => absurd z.2 (by omega))]; rfl, below_alloc (Below.refl _ _) _⟩
    · go_enter Tryz.func22, Tryz.ntmps22
      go_wp2
      go_ret
      exact ⟨by rw [← HR.out, if_neg (fun z => absurd z.1 (by omega))]; rfl, below_alloc (Below.refl _ _) _⟩
end Go.Proofs.YtnkjchcaonaifaaGreatDoor.PA
