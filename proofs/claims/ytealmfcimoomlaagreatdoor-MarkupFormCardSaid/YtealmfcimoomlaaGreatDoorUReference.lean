/- chars.reference: the reference with which a text begins. -/
import Derived.Test.YtealmfcimoomlaaGreatDoorPA5
import Derived.Test.YtealmfcimoomlaaGreatDoorUUtf8
import Derived.BigCall
import Derived.BigQuiet
import Derived.Deep.QuietTactic
import Derived.Outline
import Derived.Laws.Rows
import Derived.Laws.Runes
namespace Go.Proofs.YtealmfcimoomlaaGreatDoor.PA
open Go.RowKit Go.Proofs.YtealmfcimoomlaaGreatDoorW.PrintWords Go.Proofs.YtealmfcimoomlaaGreatDoorW.PrintLast Go.Proofs.YtealmfcimoomlaaGreatDoorW.PrintMore
set_option linter.unusedVariables false
set_option linter.unusedSimpArgs false
/-- The references by names, and what they stand for. -/
def refNames : List (List UInt8 × Int) := [([38, 97, 109, 112, 59], 38), ([38, 108, 116, 59], 60), ([38, 103, 116, 59], 62), ([38, 113, 117, 111, 116, 59], 34), ([38, 97, 112, 111, 115, 59], 39)]
/-- What a text begins with that is no reference by number. -/
def refNamed (s : List UInt8) : ByteArray × Int × Int :=
  match refNames.find? (fun x => Lib.hasPrefix s x.1) with
  | some x => (Utf8.encode x.2, (x.1.length : Int), 0)
  | none => (⟨#[]⟩, 0, if s = [38] ∨ refNames.any (fun x => Lib.hasPrefix x.1 s) = true then 4 else 20)
def nmAt (j : Nat) : List UInt8 := (refNames.getD j ([], 0)).1
def whyAt (s : List UInt8) : Nat → Int
  | 0 => 20
  | j + 1 => if Lib.hasPrefix (nmAt j) s = true then 4 else whyAt s j
theorem refNamed_none (s : List UInt8) (h : ∀ j, j < 5 → Lib.hasPrefix s (nmAt j) = false) : (refNamed s).1 = ⟨#[]⟩ ∧ (refNamed s).2.1 = 0 ∧ (refNamed s).2.2 = if s = [38] then 4 else whyAt s 5 := by
  have h0 := h 0 (by omega)
  have h1 := h 1 (by omega)
  have h2 := h 2 (by omega)
  have h3 := h 3 (by omega)
  have h4 := h 4 (by omega)
  simp only [nmAt, refNames, List.getD_cons_zero, List.getD_cons_succ] at h0 h1 h2 h3 h4
  have e : refNamed s = (⟨#[]⟩, 0, if s = [38] ∨ refNames.any (fun x => Lib.hasPrefix x.1 s) = true then 4 else 20) := by
    simp only [refNamed, refNames, List.find?, h0, h1, h2, h3, h4]
  rw [e]
  refine ⟨rfl, rfl, ?_⟩
  by_cases hs : s = [38]
  · simp [hs]
  · simp only [hs, false_or, if_false, whyAt, nmAt, refNames, List.any_cons, List.any_nil, List.getD_cons_zero, List.getD_cons_succ]
    cases Lib.hasPrefix [38, 97, 109, 112, 59] s <;> cases Lib.hasPrefix [38, 108, 116, 59] s <;> cases Lib.hasPrefix [38, 103, 116, 59] s <;> cases Lib.hasPrefix [38, 113, 117, 111, 116, 59] s <;> cases Lib.hasPrefix [38, 97, 112, 111, 115, 59] s <;> rfl
set_option maxHeartbeats 8000000 in
set_option maxRecDepth 1000000 in
theorem ref_named (s : ByteArray) (w : World) (g1 : Lib.hasPrefix s.data.toList [38, 35, 120] = false) (g2 : Lib.hasPrefix s.data.toList [38, 35] = false) (HG2 : Aside0 (Glob2 w)) :
    Calls Tryz.prog 121 #[.string s] w fun e w' => e = .returned (.tuple #[.string (refNamed s.data.toList).1, .int .i64 (refNamed s.data.toList).2.1, .int .i64 (refNamed s.data.toList).2.2]) ∧ Below w.heap.size w w' := by
  have c0 := HG2.out.2 0 (by omega)
  have c1 := HG2.out.2 1 (by omega)
  have c2 := HG2.out.2 2 (by omega)
  have c3 := HG2.out.2 3 (by omega)
  have c4 := HG2.out.2 4 (by omega)
  have c5 := HG2.out.2 5 (by omega)
  have c6 := HG2.out.2 6 (by omega)
  have c7 := HG2.out.2 7 (by omega)
  have c8 := HG2.out.2 8 (by omega)
  have c9 := HG2.out.2 9 (by omega)
  simp only [namedCells, List.getD_cons_zero, List.getD_cons_succ] at c0 c1 c2 c3 c4 c5 c6 c7 c8 c9
  have i0 : ∀ w, (Instr.index 147 (.agg #[.string ⟨#[38, 97, 109, 112, 59]⟩, .int .u8 38, .string ⟨#[38, 108, 116, 59]⟩, .int .u8 60, .string ⟨#[38, 103, 116, 59]⟩, .int .u8 62, .string ⟨#[38, 113, 117, 111, 116, 59]⟩, .int .u8 34, .string ⟨#[38, 97, 112, 111, 115, 59]⟩, .int .u8 39]) (.int .i64 0)).run Tryz.prog w = .ok (.agg #[.string ⟨#[38, 97, 109, 112, 59]⟩, .int .u8 38]) w := fun _ => by kernel_rfl
  have i1 : ∀ w, (Instr.index 147 (.agg #[.string ⟨#[38, 97, 109, 112, 59]⟩, .int .u8 38, .string ⟨#[38, 108, 116, 59]⟩, .int .u8 60, .string ⟨#[38, 103, 116, 59]⟩, .int .u8 62, .string ⟨#[38, 113, 117, 111, 116, 59]⟩, .int .u8 34, .string ⟨#[38, 97, 112, 111, 115, 59]⟩, .int .u8 39]) (.int .i64 1)).run Tryz.prog w = .ok (.agg #[.string ⟨#[38, 108, 116, 59]⟩, .int .u8 60]) w := fun _ => by kernel_rfl
  have i2 : ∀ w, (Instr.index 147 (.agg #[.string ⟨#[38, 97, 109, 112, 59]⟩, .int .u8 38, .string ⟨#[38, 108, 116, 59]⟩, .int .u8 60, .string ⟨#[38, 103, 116, 59]⟩, .int .u8 62, .string ⟨#[38, 113, 117, 111, 116, 59]⟩, .int .u8 34, .string ⟨#[38, 97, 112, 111, 115, 59]⟩, .int .u8 39]) (.int .i64 2)).run Tryz.prog w = .ok (.agg #[.string ⟨#[38, 103, 116, 59]⟩, .int .u8 62]) w := fun _ => by kernel_rfl
  have i3 : ∀ w, (Instr.index 147 (.agg #[.string ⟨#[38, 97, 109, 112, 59]⟩, .int .u8 38, .string ⟨#[38, 108, 116, 59]⟩, .int .u8 60, .string ⟨#[38, 103, 116, 59]⟩, .int .u8 62, .string ⟨#[38, 113, 117, 111, 116, 59]⟩, .int .u8 34, .string ⟨#[38, 97, 112, 111, 115, 59]⟩, .int .u8 39]) (.int .i64 3)).run Tryz.prog w = .ok (.agg #[.string ⟨#[38, 113, 117, 111, 116, 59]⟩, .int .u8 34]) w := fun _ => by kernel_rfl
  have i4 : ∀ w, (Instr.index 147 (.agg #[.string ⟨#[38, 97, 109, 112, 59]⟩, .int .u8 38, .string ⟨#[38, 108, 116, 59]⟩, .int .u8 60, .string ⟨#[38, 103, 116, 59]⟩, .int .u8 62, .string ⟨#[38, 113, 117, 111, 116, 59]⟩, .int .u8 34, .string ⟨#[38, 97, 112, 111, 115, 59]⟩, .int .u8 39]) (.int .i64 4)).run Tryz.prog w = .ok (.agg #[.string ⟨#[38, 97, 112, 111, 115, 59]⟩, .int .u8 39]) w := fun _ => by kernel_rfl
  go_enter Tryz.func121, Tryz.ntmps121
  go_wp2_with (go_at_call 88; refine (Tryz.strings_HasPrefix _ _ _).mono ?_; rintro e w' ⟨rfl, rfl⟩)
  clear g1 g2 c0 c1 c2 c3 c4 c5 c6 c7 c8 c9
  go_loopw [5, 26] (fun v i wr => ∃ n : Nat, n ≤ 5 ∧ i = .int .i64 n ∧ Hid (v = .int .i64 (whyAt s.data.toList n)) ∧ Hid (∀ j, j < n → Lib.hasPrefix s.data.toList (nmAt j) = false) ∧ Below w'.heap.size w' wr) (fun _ i _ => 5 - (intOf i).toNat)
  case atStart => exact ⟨0, by omega, rfl, Lib.hid rfl, Lib.hid (fun j hj => by omega), Below.refl _ _⟩
  case round =>
    obtain ⟨n, hn, rfl, hv, hs, hb⟩ := hrel
    have hsz := hb.size
    have hn2 : n = 0 ∨ n = 1 ∨ n = 2 ∨ n = 3 ∨ n = 4 ∨ n = 5 := by omega
    clear hn
    rcases hn2 with rfl | rfl | rfl | rfl | rfl | rfl
    · by_cases hp : Lib.hasPrefix s.data.toList [38, 97, 109, 112, 59] = true
      · have hr : Hid (refNamed s.data.toList = (Utf8.encode 38, 5, 0)) := Lib.hid (by
          simp [refNamed, refNames, List.find?, hp])
        go_wp2_with (go_at_call 88; refine (Tryz.strings_HasPrefix _ _ _).mono ?_; rintro e w1 ⟨rfl, rfl⟩)
        go_quiet (fail)
        go_wp2
        go_ret3
        exact ⟨by rw [hr.out]; rfl, by first | exact hb.alloc hsz _ | exact (hb.alloc hsz _).drew | exact pw_below_drewN (hb.alloc hsz _) _⟩
      · have hp2 : Lib.hasPrefix s.data.toList [38, 97, 109, 112, 59] = false := by simpa using hp
        have hs2 : Hid (∀ j, j < 0 + 1 → Lib.hasPrefix s.data.toList (nmAt j) = false) := Lib.hid (fun j hj => by rcases Nat.lt_succ_iff_lt_or_eq.mp hj with h | h; exact hs.out j h; subst h; exact hp2)
        clear hp hs
        by_cases hq : Lib.hasPrefix [38, 97, 109, 112, 59] s.data.toList = true
        · have hw : Hid (.int .i64 4 = Value.int .i64 (whyAt s.data.toList (0 + 1))) := Lib.hid (by have : nmAt 0 = [38, 97, 109, 112, 59] := rfl; simp [whyAt, this, hq])
          go_wp2_with (go_at_call 88; refine (Tryz.strings_HasPrefix _ _ _).mono ?_; rintro e w1 ⟨rfl, rfl⟩)
          go_roundw
          case rel => exact ⟨1, by omega, rfl, hw, hs2, hb.alloc hsz _⟩
          case measure => simp [intOf]
        · have hq2 : Lib.hasPrefix [38, 97, 109, 112, 59] s.data.toList = false := by simpa using hq
          have hw : Hid (u5 = Value.int .i64 (whyAt s.data.toList (0 + 1))) := Lib.hid (by have : nmAt 0 = [38, 97, 109, 112, 59] := rfl; simp [whyAt, this, hq2]; exact hv.out)
          clear hq
          go_wp2_with (go_at_call 88; refine (Tryz.strings_HasPrefix _ _ _).mono ?_; rintro e w1 ⟨rfl, rfl⟩)
          go_roundw
          case rel => exact ⟨1, by omega, rfl, hw, hs2, hb.alloc hsz _⟩
          case measure => simp [intOf]
    · by_cases hp : Lib.hasPrefix s.data.toList [38, 108, 116, 59] = true
      · have hr : Hid (refNamed s.data.toList = (Utf8.encode 60, 4, 0)) := Lib.hid (by
          have p0 : Lib.hasPrefix s.data.toList [38, 97, 109, 112, 59] = false := hs.out 0 (by omega)
          simp [refNamed, refNames, List.find?, p0, hp])
        go_wp2_with (go_at_call 88; refine (Tryz.strings_HasPrefix _ _ _).mono ?_; rintro e w1 ⟨rfl, rfl⟩)
        go_quiet (fail)
        go_wp2
        go_ret3
        exact ⟨by rw [hr.out]; rfl, by first | exact hb.alloc hsz _ | exact (hb.alloc hsz _).drew | exact pw_below_drewN (hb.alloc hsz _) _⟩
      · have hp2 : Lib.hasPrefix s.data.toList [38, 108, 116, 59] = false := by simpa using hp
        have hs2 : Hid (∀ j, j < 1 + 1 → Lib.hasPrefix s.data.toList (nmAt j) = false) := Lib.hid (fun j hj => by rcases Nat.lt_succ_iff_lt_or_eq.mp hj with h | h; exact hs.out j h; subst h; exact hp2)
        clear hp hs
        by_cases hq : Lib.hasPrefix [38, 108, 116, 59] s.data.toList = true
        · have hw : Hid (.int .i64 4 = Value.int .i64 (whyAt s.data.toList (1 + 1))) := Lib.hid (by have : nmAt 1 = [38, 108, 116, 59] := rfl; simp [whyAt, this, hq])
          go_wp2_with (go_at_call 88; refine (Tryz.strings_HasPrefix _ _ _).mono ?_; rintro e w1 ⟨rfl, rfl⟩)
          go_roundw
          case rel => exact ⟨2, by omega, rfl, hw, hs2, hb.alloc hsz _⟩
          case measure => simp [intOf]
        · have hq2 : Lib.hasPrefix [38, 108, 116, 59] s.data.toList = false := by simpa using hq
          have hw : Hid (u5 = Value.int .i64 (whyAt s.data.toList (1 + 1))) := Lib.hid (by have : nmAt 1 = [38, 108, 116, 59] := rfl; simp [whyAt, this, hq2]; exact hv.out)
          clear hq
          go_wp2_with (go_at_call 88; refine (Tryz.strings_HasPrefix _ _ _).mono ?_; rintro e w1 ⟨rfl, rfl⟩)
          go_roundw
          case rel => exact ⟨2, by omega, rfl, hw, hs2, hb.alloc hsz _⟩
          case measure => simp [intOf]
    · by_cases hp : Lib.hasPrefix s.data.toList [38, 103, 116, 59] = true
      · have hr : Hid (refNamed s.data.toList = (Utf8.encode 62, 4, 0)) := Lib.hid (by
          have p0 : Lib.hasPrefix s.data.toList [38, 97, 109, 112, 59] = false := hs.out 0 (by omega)
          have p1 : Lib.hasPrefix s.data.toList [38, 108, 116, 59] = false := hs.out 1 (by omega)
          simp [refNamed, refNames, List.find?, p0, p1, hp])
        go_wp2_with (go_at_call 88; refine (Tryz.strings_HasPrefix _ _ _).mono ?_; rintro e w1 ⟨rfl, rfl⟩)
        go_quiet (fail)
        go_wp2
        go_ret3
        exact ⟨by rw [hr.out]; rfl, by first | exact hb.alloc hsz _ | exact (hb.alloc hsz _).drew | exact pw_below_drewN (hb.alloc hsz _) _⟩
      · have hp2 : Lib.hasPrefix s.data.toList [38, 103, 116, 59] = false := by simpa using hp
        have hs2 : Hid (∀ j, j < 2 + 1 → Lib.hasPrefix s.data.toList (nmAt j) = false) := Lib.hid (fun j hj => by rcases Nat.lt_succ_iff_lt_or_eq.mp hj with h | h; exact hs.out j h; subst h; exact hp2)
        clear hp hs
        by_cases hq : Lib.hasPrefix [38, 103, 116, 59] s.data.toList = true
        · have hw : Hid (.int .i64 4 = Value.int .i64 (whyAt s.data.toList (2 + 1))) := Lib.hid (by have : nmAt 2 = [38, 103, 116, 59] := rfl; simp [whyAt, this, hq])
          go_wp2_with (go_at_call 88; refine (Tryz.strings_HasPrefix _ _ _).mono ?_; rintro e w1 ⟨rfl, rfl⟩)
          go_roundw
          case rel => exact ⟨3, by omega, rfl, hw, hs2, hb.alloc hsz _⟩
          case measure => simp [intOf]
        · have hq2 : Lib.hasPrefix [38, 103, 116, 59] s.data.toList = false := by simpa using hq
          have hw : Hid (u5 = Value.int .i64 (whyAt s.data.toList (2 + 1))) := Lib.hid (by have : nmAt 2 = [38, 103, 116, 59] := rfl; simp [whyAt, this, hq2]; exact hv.out)
          clear hq
          go_wp2_with (go_at_call 88; refine (Tryz.strings_HasPrefix _ _ _).mono ?_; rintro e w1 ⟨rfl, rfl⟩)
          go_roundw
          case rel => exact ⟨3, by omega, rfl, hw, hs2, hb.alloc hsz _⟩
          case measure => simp [intOf]
    · by_cases hp : Lib.hasPrefix s.data.toList [38, 113, 117, 111, 116, 59] = true
      · have hr : Hid (refNamed s.data.toList = (Utf8.encode 34, 6, 0)) := Lib.hid (by
          have p0 : Lib.hasPrefix s.data.toList [38, 97, 109, 112, 59] = false := hs.out 0 (by omega)
          have p1 : Lib.hasPrefix s.data.toList [38, 108, 116, 59] = false := hs.out 1 (by omega)
          have p2 : Lib.hasPrefix s.data.toList [38, 103, 116, 59] = false := hs.out 2 (by omega)
          simp [refNamed, refNames, List.find?, p0, p1, p2, hp])
        go_wp2_with (go_at_call 88; refine (Tryz.strings_HasPrefix _ _ _).mono ?_; rintro e w1 ⟨rfl, rfl⟩)
        go_quiet (fail)
        go_wp2
        go_ret3
        exact ⟨by rw [hr.out]; rfl, by first | exact hb.alloc hsz _ | exact (hb.alloc hsz _).drew | exact pw_below_drewN (hb.alloc hsz _) _⟩
      · have hp2 : Lib.hasPrefix s.data.toList [38, 113, 117, 111, 116, 59] = false := by simpa using hp
        have hs2 : Hid (∀ j, j < 3 + 1 → Lib.hasPrefix s.data.toList (nmAt j) = false) := Lib.hid (fun j hj => by rcases Nat.lt_succ_iff_lt_or_eq.mp hj with h | h; exact hs.out j h; subst h; exact hp2)
        clear hp hs
        by_cases hq : Lib.hasPrefix [38, 113, 117, 111, 116, 59] s.data.toList = true
        · have hw : Hid (.int .i64 4 = Value.int .i64 (whyAt s.data.toList (3 + 1))) := Lib.hid (by have : nmAt 3 = [38, 113, 117, 111, 116, 59] := rfl; simp [whyAt, this, hq])
          go_wp2_with (go_at_call 88; refine (Tryz.strings_HasPrefix _ _ _).mono ?_; rintro e w1 ⟨rfl, rfl⟩)
          go_roundw
          case rel => exact ⟨4, by omega, rfl, hw, hs2, hb.alloc hsz _⟩
          case measure => simp [intOf]
        · have hq2 : Lib.hasPrefix [38, 113, 117, 111, 116, 59] s.data.toList = false := by simpa using hq
          have hw : Hid (u5 = Value.int .i64 (whyAt s.data.toList (3 + 1))) := Lib.hid (by have : nmAt 3 = [38, 113, 117, 111, 116, 59] := rfl; simp [whyAt, this, hq2]; exact hv.out)
          clear hq
          go_wp2_with (go_at_call 88; refine (Tryz.strings_HasPrefix _ _ _).mono ?_; rintro e w1 ⟨rfl, rfl⟩)
          go_roundw
          case rel => exact ⟨4, by omega, rfl, hw, hs2, hb.alloc hsz _⟩
          case measure => simp [intOf]
    · by_cases hp : Lib.hasPrefix s.data.toList [38, 97, 112, 111, 115, 59] = true
      · have hr : Hid (refNamed s.data.toList = (Utf8.encode 39, 6, 0)) := Lib.hid (by
          have p0 : Lib.hasPrefix s.data.toList [38, 97, 109, 112, 59] = false := hs.out 0 (by omega)
          have p1 : Lib.hasPrefix s.data.toList [38, 108, 116, 59] = false := hs.out 1 (by omega)
          have p2 : Lib.hasPrefix s.data.toList [38, 103, 116, 59] = false := hs.out 2 (by omega)
          have p3 : Lib.hasPrefix s.data.toList [38, 113, 117, 111, 116, 59] = false := hs.out 3 (by omega)
          simp [refNamed, refNames, List.find?, p0, p1, p2, p3, hp])
        go_wp2_with (go_at_call 88; refine (Tryz.strings_HasPrefix _ _ _).mono ?_; rintro e w1 ⟨rfl, rfl⟩)
        go_quiet (fail)
        go_wp2
        go_ret3
        exact ⟨by rw [hr.out]; rfl, by first | exact hb.alloc hsz _ | exact (hb.alloc hsz _).drew | exact pw_below_drewN (hb.alloc hsz _) _⟩
      · have hp2 : Lib.hasPrefix s.data.toList [38, 97, 112, 111, 115, 59] = false := by simpa using hp
        have hs2 : Hid (∀ j, j < 4 + 1 → Lib.hasPrefix s.data.toList (nmAt j) = false) := Lib.hid (fun j hj => by rcases Nat.lt_succ_iff_lt_or_eq.mp hj with h | h; exact hs.out j h; subst h; exact hp2)
        clear hp hs
        by_cases hq : Lib.hasPrefix [38, 97, 112, 111, 115, 59] s.data.toList = true
        · have hw : Hid (.int .i64 4 = Value.int .i64 (whyAt s.data.toList (4 + 1))) := Lib.hid (by have : nmAt 4 = [38, 97, 112, 111, 115, 59] := rfl; simp [whyAt, this, hq])
          go_wp2_with (go_at_call 88; refine (Tryz.strings_HasPrefix _ _ _).mono ?_; rintro e w1 ⟨rfl, rfl⟩)
          go_roundw
          case rel => exact ⟨5, by omega, rfl, hw, hs2, hb.alloc hsz _⟩
          case measure => simp [intOf]
        · have hq2 : Lib.hasPrefix [38, 97, 112, 111, 115, 59] s.data.toList = false := by simpa using hq
          have hw : Hid (u5 = Value.int .i64 (whyAt s.data.toList (4 + 1))) := Lib.hid (by have : nmAt 4 = [38, 97, 112, 111, 115, 59] := rfl; simp [whyAt, this, hq2]; exact hv.out)
          clear hq
          go_wp2_with (go_at_call 88; refine (Tryz.strings_HasPrefix _ _ _).mono ?_; rintro e w1 ⟨rfl, rfl⟩)
          go_roundw
          case rel => exact ⟨5, by omega, rfl, hw, hs2, hb.alloc hsz _⟩
          case measure => simp [intOf]
    · have hr : Hid ((refNamed s.data.toList).1 = ⟨#[]⟩ ∧ (refNamed s.data.toList).2.1 = 0 ∧ (refNamed s.data.toList).2.2 = if s.data.toList = [38] then 4 else whyAt s.data.toList 5) := Lib.hid (refNamed_none _ (fun j hj => hs.out j hj))
      clear hs
      have hvv := hv.out
      subst hvv
      clear hv
      obtain ⟨V, hV⟩ : ∃ V, V = whyAt s.data.toList 5 := ⟨_, rfl⟩
      have hVH := Lib.hid hV
      rw [← hV]
      clear hV
      by_cases he : s.toList = [38]
      · have he1 : (s.toList == [38]) = true := beq_iff_eq.mpr he
        have he2 : s.data.toList = [38] := by rw [← Lib.toList_data]; exact he
        have hr2 : Hid (refNamed s.data.toList = (⟨#[]⟩, 0, 4)) := Lib.hid (Prod.ext hr.out.1 (Prod.ext hr.out.2.1 (by rw [hr.out.2.2, if_pos he2])))
        clear he he2 hr
        go_wp2
        go_ret3
        exact ⟨by rw [hr2.out]; rfl, hb⟩
      · have he1 : (s.toList == [38]) = false := beq_eq_false_iff_ne.mpr he
        have he2 : ¬ s.data.toList = [38] := by rw [← Lib.toList_data]; exact he
        have hr2 : Hid (refNamed s.data.toList = (⟨#[]⟩, 0, V)) := Lib.hid (Prod.ext hr.out.1 (Prod.ext hr.out.2.1 (by rw [hr.out.2.2, if_neg he2, hVH.out])))
        clear he he2 hr
        go_wp2
        go_ret3
        exact ⟨by rw [hr2.out]; rfl, hb⟩
/-- Whether a text begins with the one, or the other, beginning of a reference by number. -/
def hexB (s : ByteArray) : Bool := Lib.hasPrefix s.data.toList [38, 35, 120]
def numB (s : ByteArray) : Bool := Lib.hasPrefix s.data.toList [38, 35]
def chars_reference.f (k : Nat) (a0 : ByteArray) : Option (ByteArray × Int × Int) :=
  if hexB a0 = true then chars_numbered.f k a0 3 16 6 else if numB a0 = true then (if a0.size = 2 then some (⟨#[]⟩, 0, 4) else chars_numbered.f k a0 2 10 7) else some (refNamed a0.data.toList)
theorem chars_reference.mono : ∀ a0 k, LeO (chars_reference.f k a0) (chars_reference.f (k + 1) a0) := by
  intro a0 k
  unfold chars_reference.f
  exact LeO.ite (chars_numbered.mono _ _ _ _ _) (LeO.ite (LeO.ite (LeO.refl _) (chars_numbered.mono _ _ _ _ _)) (LeO.refl _))
set_option maxHeartbeats 4000000 in
set_option maxRecDepth 1000000 in
theorem chars_reference.calls (k : Nat) (a0 : ByteArray) (r1 : ByteArray) (r2 r3 : Int) (w : World) (h : chars_reference.f k a0 = some (r1, r2, r3)) (hG2 : Glob2 w := by first | exact Glob2.step HG2.out (by repeat (first | (with_reducible first | exact HB.out | apply below_alloc | apply pw_below_drewN | apply below_drew1) | exact HB.out | (refine below_set ?_ (Aside0.out (by assumption))))) | exact HG2.out | assumption) :
    Calls Tryz.prog 121 #[.string a0] w fun e w' => e = .returned (.tuple #[.string r1, .int .i64 r2, .int .i64 r3]) ∧ Below w.heap.size w w' := by
  have HG2 := Aside0.mk hG2
  clear hG2
  unfold chars_reference.f hexB numB at h
  by_cases g1 : Lib.hasPrefix a0.data.toList [38, 35, 120] = true
  · rw [if_pos g1] at h
    have HN := Aside0.mk h
    clear h
    go_enter Tryz.func121, Tryz.ntmps121
    go_wp2_with (first | (go_at_call 88; refine (Tryz.strings_HasPrefix _ _ _).mono ?_; rintro e w' ⟨rfl, rfl⟩) | (go_at_call 136; refine (chars_numbered.calls k a0 3 16 6 r1 r2 r3 _ HN.out).mono ?_; rintro e w1 ⟨rfl, hb⟩))
    go_ret3
    exact ⟨rfl, hb⟩
  · rw [if_neg g1] at h
    replace g1 : Lib.hasPrefix a0.data.toList [38, 35, 120] = false := by simpa using g1
    by_cases g2 : Lib.hasPrefix a0.data.toList [38, 35] = true
    · rw [if_pos g2] at h
      by_cases g3 : a0.size = 2
      · rw [if_pos g3] at h
        simp only [Option.some.injEq, Prod.mk.injEq] at h
        obtain ⟨rfl, rfl, rfl⟩ := h
        have d3 : ((a0.size : Int) == 2) = true := beq_iff_eq.mpr (by omega)
        clear g3
        go_enter Tryz.func121, Tryz.ntmps121
        go_wp2_with (go_at_call 88; refine (Tryz.strings_HasPrefix _ _ _).mono ?_; rintro e w' ⟨rfl, rfl⟩)
        go_ret3
        exact ⟨rfl, Below.refl _ _⟩
      · rw [if_neg g3] at h
        have HN := Aside0.mk h
        clear h
        have d3 : ((a0.size : Int) == 2) = false := beq_eq_false_iff_ne.mpr (by omega)
        clear g3
        go_enter Tryz.func121, Tryz.ntmps121
        go_wp2_with (first | (go_at_call 88; refine (Tryz.strings_HasPrefix _ _ _).mono ?_; rintro e w' ⟨rfl, rfl⟩) | (go_at_call 136; refine (chars_numbered.calls k a0 2 10 7 r1 r2 r3 _ HN.out).mono ?_; rintro e w1 ⟨rfl, hb⟩))
        go_ret3
        exact ⟨rfl, hb⟩
    · rw [if_neg g2] at h
      replace g2 : Lib.hasPrefix a0.data.toList [38, 35] = false := by simpa using g2
      have h2 := Option.some.inj h
      have e := ref_named a0 w g1 g2 HG2
      rw [h2] at e
      exact e
end Go.Proofs.YtealmfcimoomlaaGreatDoor.PA
