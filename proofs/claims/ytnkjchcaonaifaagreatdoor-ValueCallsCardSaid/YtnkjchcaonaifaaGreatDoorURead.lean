/- value.read: the number that a text says, over strings.Trim, strings.TrimPrefix and strconv.ParseInt. -/
import Derived.Test.YtnkjchcaonaifaaGreatDoorUStrings
import Derived.WalkKit
import Derived.BigCall
import Derived.BigGuard
import Derived.Lib.Hide
import Derived.Outline
namespace Go.Proofs.YtnkjchcaonaifaaGreatDoor.PA
open Go.RowKit Go.Proofs.YtnkjchcaonaifaaGreatDoorW.PrintWords Go.Proofs.YtnkjchcaonaifaaGreatDoorW.PrintLast Go.Proofs.YtnkjchcaonaifaaGreatDoorW.PrintMore
set_option linter.unusedVariables false
set_option linter.unusedSimpArgs false
def blanksR : List UInt8 := [9, 10, 13, 32]
def digitsR : List UInt8 := [48, 49, 50, 51, 52, 53, 54, 55, 56, 57]
/-- The number that a text without blanks around it says; false: it says none. -/
def readL (t : List UInt8) : Int × Bool :=
  if (Lib.trimPrefix t [45]).isEmpty = true then (0, false) else if (Lib.trimS (Lib.trimPrefix t [45]) digitsR).isEmpty = false then (0, false) else match Lib.parseIntB 64 t with
  | .ok v => (v, true)
  | _ => (0, false)
def readR (s : ByteArray) : Int × Bool := readL (Lib.trimS s.data.toList blanksR)
theorem dropWhile_length (p : UInt8 → Bool) (l : List UInt8) : (l.dropWhile p).length ≤ l.length := (List.dropWhile_sublist p).length_le
theorem trimS_length (l cs : List UInt8) : (Lib.trimS l cs).length ≤ l.length := by
  unfold Lib.trimS Lib.trimLeftS Lib.trimRightS
  refine Nat.le_trans (dropWhile_length _ _) ?_
  rw [List.length_reverse]
  exact Nat.le_trans (dropWhile_length _ _) (by rw [List.length_reverse]; exact Nat.le_refl _)
theorem trimPrefix_length (l p : List UInt8) : (Lib.trimPrefix l p).length ≤ l.length := by
  unfold Lib.trimPrefix
  split
  · simp
  · exact Nat.le_refl _
def value_read.f (a0 : ByteArray) : Option (Int × Bool) := if a0.size ≤ 281474976710656 then some (readR a0) else none
theorem size_of (l : List UInt8) : (⟨l.toArray⟩ : ByteArray).size = l.length := by simp [ByteArray.size]
theorem data_of (l : List UInt8) : (⟨l.toArray⟩ : ByteArray).data.toList = l := rfl
set_option maxHeartbeats 4000000 in
set_option maxRecDepth 1000000 in
theorem read_walk (a0 t d e : ByteArray) (v : Int) (okB : Bool) (w : World) (hG3 : Glob3 w)
    (hT1 : Hid (∀ w, Calls Tryz.prog 58 #[.string a0, .string ⟨#[9, 10, 13, 32]⟩] w fun ee w' => ee = .returned (.string t) ∧ Below w.heap.size w w'))
    (hP : Hid (∀ w, Calls Tryz.prog 59 #[.string t, .string ⟨#[45]⟩] w fun ee w' => ee = .returned (.string d) ∧ w = w'))
    (hT2 : Hid (∀ w, Calls Tryz.prog 58 #[.string d, .string ⟨#[48, 49, 50, 51, 52, 53, 54, 55, 56, 57]⟩] w fun ee w' => ee = .returned (.string e) ∧ Below w.heap.size w w'))
    (HI : Hid (∀ w, Glob3 w → Calls Tryz.prog 60 #[.string t, .int .i64 10, .int .i64 64] w fun e w' => (okB = true ∧ e = .returned (.tuple #[.int .i64 v, .nilIface]) ∨ okB = false ∧ ∃ N x p, e = .returned (.tuple #[.int .i64 x, .iface N p])) ∧ Below w.heap.size w w')) :
    Calls Tryz.prog 44 #[.string a0] w fun ee w' => ee = .returned (if d.toList.isEmpty = true then .tuple #[.int .i64 0, .bool false] else if e.toList.isEmpty = false then .tuple #[.int .i64 0, .bool false] else if okB = true then .tuple #[.int .i64 v, .bool true] else .tuple #[.int .i64 0, .bool false]) ∧ Below w.heap.size w w' := by
  have HG := Aside0.mk hG3
  clear hG3
  by_cases h1 : d.toList.isEmpty = true
  · rw [if_pos h1]
    go_enter Tryz.func44, Tryz.ntmps44
    go_wp2_with (first | (go_at_call 58; (with_reducible refine (hT1.out _).mono ?_); rintro e w5 ⟨rfl, hb1⟩) | (go_at_call 59; (with_reducible refine (hP.out _).mono ?_); rintro e w5 ⟨rfl, rfl⟩))
    go_ret2
    exact ⟨rfl, hb1⟩
  · rw [if_neg h1]
    replace h1 : d.toList.isEmpty = false := by simpa using h1
    have h1' : (!d.toList.isEmpty) = true := by rw [h1]; rfl
    by_cases h2 : e.toList.isEmpty = false
    · rw [if_pos h2]
      have h2' : (!e.toList.isEmpty) = true := by rw [h2]; rfl
      go_enter Tryz.func44, Tryz.ntmps44
      go_wp2_with (first | (go_at_call 58; (with_reducible refine (hT1.out _).mono ?_); rintro e w5 ⟨rfl, hb1⟩) | (go_at_call 59; (with_reducible refine (hP.out _).mono ?_); rintro e w5 ⟨rfl, rfl⟩) | (go_at_call 58; (with_reducible refine (hT2.out _).mono ?_); rintro e w5 ⟨rfl, hb2⟩))
      go_ret2
      exact ⟨rfl, below_step hb1 hb2⟩
    · rw [if_neg h2]
      replace h2 : e.toList.isEmpty = true := by simpa using h2
      have h2' : (!e.toList.isEmpty) = false := by rw [h2]; rfl
      cases okB with
      | true =>
        have HJ : Hid (∀ w, Glob3 w → Calls Tryz.prog 60 #[.string t, .int .i64 10, .int .i64 64] w fun e w' => e = .returned (.tuple #[.int .i64 v, .nilIface]) ∧ Below w.heap.size w w') :=
          Lib.hid (fun w hg => (HI.out w hg).mono fun _ _ h => ⟨h.1.elim (fun h => h.2) (fun h => Bool.noConfusion h.1), h.2⟩)
        clear HI
        go_enter Tryz.func44, Tryz.ntmps44
        go_wp2_with (first | (go_at_call 58; (with_reducible refine (hT1.out _).mono ?_); rintro e w5 ⟨rfl, hb1⟩) | (go_at_call 59; (with_reducible refine (hP.out _).mono ?_); rintro e w5 ⟨rfl, rfl⟩) | (go_at_call 58; (with_reducible refine (hT2.out _).mono ?_); rintro e w6 ⟨rfl, hb2⟩) | (go_at_call 60; (with_reducible refine (HJ.out _ (HG.out.step (below_step hb1 hb2))).mono ?_); rintro e w7 ⟨rfl, hb3⟩))
        go_ret2
        exact ⟨rfl, below_step (below_step hb1 hb2) hb3⟩
      | false =>
        have HJ : Hid (∀ w, Glob3 w → Calls Tryz.prog 60 #[.string t, .int .i64 10, .int .i64 64] w fun e w' => (∃ N x p, e = .returned (.tuple #[.int .i64 x, .iface N p])) ∧ Below w.heap.size w w') :=
          Lib.hid (fun w hg => (HI.out w hg).mono fun _ _ h => ⟨h.1.elim (fun h => Bool.noConfusion h.1) (fun h => h.2), h.2⟩)
        clear HI
        go_enter Tryz.func44, Tryz.ntmps44
        go_wp2_with (first | (go_at_call 58; (with_reducible refine (hT1.out _).mono ?_); rintro e w5 ⟨rfl, hb1⟩) | (go_at_call 59; (with_reducible refine (hP.out _).mono ?_); rintro e w5 ⟨rfl, rfl⟩) | (go_at_call 58; (with_reducible refine (hT2.out _).mono ?_); rintro e w6 ⟨rfl, hb2⟩) | (go_at_call 60; (with_reducible refine (HJ.out _ (HG.out.step (below_step hb1 hb2))).mono ?_); rintro e w7 ⟨⟨N, x, p, rfl⟩, hb3⟩))
        go_ret2
        exact ⟨rfl, below_step (below_step hb1 hb2) hb3⟩
theorem isEmpty_of (l : List UInt8) : (⟨l.toArray⟩ : ByteArray).toList.isEmpty = l.isEmpty := by simp
theorem value_read.calls (a0 : ByteArray) (r1 : Int) (r2 : Bool) (w : World) (h : value_read.f a0 = some (r1, r2)) (hG3 : Glob3 w := by first | exact Glob3.step HG3.out (by repeat (first | (with_reducible first | exact HB.out | apply below_alloc | apply pw_below_drewN | apply below_drew1) | exact HB.out | (refine below_set ?_ (Aside0.out (by assumption))))) | exact HG3.out | assumption) :
    Calls Tryz.prog 44 #[.string a0] w fun e w' => e = .returned (.tuple #[.int .i64 r1, .bool r2]) ∧ Below w.heap.size w w' := by
  unfold value_read.f at h
  by_cases hs : a0.size ≤ 281474976710656
  case neg => rw [if_neg hs] at h; cases h
  rw [if_pos hs] at h
  have h := Option.some.inj h
  obtain ⟨t, ht⟩ : ∃ t, t = Lib.trimS a0.data.toList blanksR := ⟨_, rfl⟩
  obtain ⟨d, hd⟩ : ∃ d, d = Lib.trimPrefix t [45] := ⟨_, rfl⟩
  obtain ⟨e, he⟩ : ∃ e, e = Lib.trimS d digitsR := ⟨_, rfl⟩
  have lt : t.length ≤ a0.size := by rw [ht, Lib.size_eq]; exact trimS_length _ _
  have ld : d.length ≤ a0.size := Nat.le_trans (by rw [hd]; exact trimPrefix_length _ _) lt
  have hT1 : Hid (∀ w, Calls Tryz.prog 58 #[.string a0, .string ⟨#[9, 10, 13, 32]⟩] w fun ee w' => ee = .returned (.string ⟨t.toArray⟩) ∧ Below w.heap.size w w') := Lib.hid (fun w => by
    rw [ht]
    exact strings_Trim.calls a0 ⟨#[9, 10, 13, 32]⟩ _ w (by unfold strings_Trim.f; rw [if_pos ⟨by omega, by decide, by decide⟩]; rfl))
  have hP : Hid (∀ w, Calls Tryz.prog 59 #[.string ⟨t.toArray⟩, .string ⟨#[45]⟩] w fun ee w' => ee = .returned (.string ⟨d.toArray⟩) ∧ w = w') := Lib.hid (fun w => by
    rw [hd]
    exact (Tryz.strings_TrimPrefix ⟨t.toArray⟩ ⟨#[45]⟩ w).mono fun ee w' h => ⟨h.1, h.2.symm⟩)
  have hT2 : Hid (∀ w, Calls Tryz.prog 58 #[.string ⟨d.toArray⟩, .string ⟨#[48, 49, 50, 51, 52, 53, 54, 55, 56, 57]⟩] w fun ee w' => ee = .returned (.string ⟨e.toArray⟩) ∧ Below w.heap.size w w') := Lib.hid (fun w => by
    rw [he]
    exact strings_Trim.calls ⟨d.toArray⟩ ⟨#[48, 49, 50, 51, 52, 53, 54, 55, 56, 57]⟩ _ w (by unfold strings_Trim.f; rw [if_pos ⟨by rw [size_of]; omega, by decide, by decide⟩]; rfl))
  have hr : (r1, r2) = if d.isEmpty = true then (0, false) else if e.isEmpty = false then (0, false) else match Lib.parseIntB 64 t with | .ok v => (v, true) | _ => (0, false) := by
    rw [← h, he, hd, ht]; rfl
  have fin : ∀ (okB : Bool) (v : Int), (match Lib.parseIntB 64 t with | .ok v => (v, true) | _ => ((0 : Int), false)) = (if okB = true then (v, true) else (0, false)) →
      (∀ w, Glob3 w → Calls Tryz.prog 60 #[.string ⟨t.toArray⟩, .int .i64 10, .int .i64 64] w fun e w' => (okB = true ∧ e = .returned (.tuple #[.int .i64 v, .nilIface]) ∨ okB = false ∧ ∃ N x p, e = .returned (.tuple #[.int .i64 x, .iface N p])) ∧ Below w.heap.size w w') →
      Calls Tryz.prog 44 #[.string a0] w fun e w' => e = .returned (.tuple #[.int .i64 r1, .bool r2]) ∧ Below w.heap.size w w' := by
    intro okB v hm hI
    refine (read_walk a0 ⟨t.toArray⟩ ⟨d.toArray⟩ ⟨e.toArray⟩ v okB w hG3 hT1 hP hT2 (Lib.hid hI)).mono fun ee w' hw => ⟨?_, hw.2⟩
    rw [hw.1, isEmpty_of, isEmpty_of]
    rw [hm] at hr
    congr 1
    have e1 := congrArg Prod.fst hr
    have e2 := congrArg Prod.snd hr
    simp only at e1 e2
    rw [e1, e2]
    cases d.isEmpty <;> cases e.isEmpty <;> cases okB <;> rfl
  cases hp : Lib.parseIntB 64 t with
  | ok v =>
    refine fin true v (by rw [hp]; rfl) fun w _ => ?_
    refine (Tryz.strconv_ParseInt_10_at64_ok ⟨t.toArray⟩ (by rw [size_of]; omega) v hp w).mono fun e w' hw => ⟨.inl ⟨rfl, hw.1⟩, ?_⟩
    rcases hw.2 with rfl | ⟨x, rfl⟩
    · exact Below.refl _ _
    · exact ⟨rfl, rfl, rfl, by rw [Lib.bytesWorld_size]; omega, fun k hk => Lib.bytesWorld_at_old w _ _ k hk⟩
  | range =>
    refine fin false 0 (by rw [hp]; rfl) fun w hg => ?_
    obtain ⟨tp, p, hv⟩ := hg.errRange
    exact (Tryz.strconv_ParseInt_10_at64_range_var ⟨t.toArray⟩ (by rw [size_of]; omega) hp tp p w hv).mono fun e w' ⟨N, he, _, _, hb⟩ => ⟨.inr ⟨rfl, _, _, _, he⟩, hb⟩
  | _ =>
    refine fin false 0 (by rw [hp]; rfl) fun w hg => ?_
    obtain ⟨tp, p, hv⟩ := hg.errSyntax
    exact (Tryz.strconv_ParseInt_10_at64_syntax_var ⟨t.toArray⟩ (by rw [size_of]; omega) (hp.trans rfl) tp p w hv).mono fun e w' ⟨N, he, _, _, hb⟩ => ⟨.inr ⟨rfl, _, _, _, he⟩, hb⟩
end Go.Proofs.YtnkjchcaonaifaaGreatDoor.PA
