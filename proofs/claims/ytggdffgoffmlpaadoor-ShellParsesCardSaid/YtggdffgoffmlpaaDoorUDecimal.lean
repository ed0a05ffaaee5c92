/- shell.decimal: a number without noughts ahead, over strconv.ParseUint and strconv.FormatUint. -/
import Derived.Test.YtggdffgoffmlpaaDoorShelfE
import Derived.Test.YtggdffgoffmlpaaDoorPA0
import Derived.Shelf.LaysM
import Derived.Lib.Walk
import Derived.Lib.ItoaMem
import Derived.Lib.AppendIntMem
import Derived.WalkKit
import Derived.BigCall
import Derived.BigGuard
import Derived.Lib.Hide
import Derived.Outline
namespace Go.Proofs.YtggdffgoffmlpaaDoor.PA
open Go.RowKit Go.Sort Go.Lib Go.Proofs.YtggdffgoffmlpaaDoorW.PrintWords Go.Proofs.YtggdffgoffmlpaaDoorW.PrintLast Go.Proofs.YtggdffgoffmlpaaDoorW.PrintMore
set_option linter.unusedVariables false
set_option linter.unusedSimpArgs false
set_option maxHeartbeats 6400000 in
set_option maxRecDepth 100000 in
theorem FormatUint_in (u : Nat) (hu64 : u < 18446744073709551616) (w : World) (htab : Lib.TabIs Tryd.prog w "internal/strconv.uint64pow10" .u64 Lib.pow10Tab) :
    Calls Tryd.prog 74 #[.int .u64 u, .int .i64 10] w fun e w' => e = .returned (.string ⟨(Lib.decDigits u).toArray⟩) ∧ Below w.heap.size w w' := by
  by_cases hs : u < 100
  · have h1 : decide ((u : Int) < 100) = true := decide_eq_true (by omega)
    go_enter Tryd.func74, Tryd.ntmps74
    go_wp2_with (go_at_call 82; refine (Tryd.internal_strconv_small u hs _).mono ?_; rintro e w' ⟨rfl, rfl⟩)
    go_ret
    exact ⟨rfl, Below.refl _ _⟩
  · have hu1 : 1 ≤ u := by omega
    have h1 : decide ((u : Int) < 100) = false := decide_eq_false (by omega)
    have u171 := Tryd.underlying105
    have hnd20 : Lib.nDigits u ≤ 20 := by have := Lib.numDigits_eq u hu1 hu64; split at this <;> omega
    have hal : Tryd.prog.arrayLen 105 = 24 := by simp [Program.arrayLen, u171]
    have hsl : ∀ W, (Instr.sliceAt 105 (.pointer (some ⟨w.heap.size, 0, none⟩)) none (some (.int .i64 (Lib.nDigits u : Int))) none).run Tryd.prog W = .ok (.slice (some ⟨w.heap.size, 0, none⟩) (Lib.nDigits u) 24) W := fun W => by
      rw [run_sliceAt_array_h W 105 ⟨w.heap.size, 0, none⟩ (by simp [Program.arrayLen, Program.elem, u171]) .i64 (Lib.nDigits u : Int) (by omega) (by rw [hal]; omega)]
      go_simp
    have hH0 := Lib.holds_zero0 w 105 (Lib.nDigits u) (by omega)
    have hfmt := Tryd.internal_strconv_formatBase10 w.heap.size 0 24 u (Array.replicate (Lib.nDigits u) 0) (w.alloc (.cells Lib.zeros24 105)) hH0 (by rw [Array.size_replicate]; exact Lib.lt_pow_nDigits u) hu64 (by rw [Array.size_replicate]; omega)
    rw [Array.size_replicate] at hfmt
    have HH0 := Lib.hid hH0
    clear hH0 hal
    go_enter Tryd.func74, Tryd.ntmps74
    go_wp2_with (first
      | (go_at_call 83; refine (Tryd.internal_strconv_numDigits u hu1 hu64 _ (Lib.tabIs_alloc htab _)).mono ?_; rintro e w' ⟨rfl, rfl⟩))
    go_at_call 84
    refine hfmt.mono ?_
    rintro e w' ⟨rfl, k, v', dk, rfl, hF⟩
    have hcv : (convert 97 9 (.slice (some ⟨w.heap.size, 0, none⟩) (Lib.nDigits u) 24)).run Tryd.prog ((putRow (fun (b : UInt8) => Value.int .u8 (b.toNat : Int)) (w.alloc (.cells Lib.zeros24 105)) w.heap.size 0 dk).drewN k) = .ok (.string ⟨(Lib.decDigits u).toArray⟩) ((putRow (fun (b : UInt8) => Value.int .u8 (b.toNat : Int)) (w.alloc (.cells Lib.zeros24 105)) w.heap.size 0 dk).drewN k) := by
      have h := run_convert_bytes_back (P := Tryd.prog) ((putRow (fun (b : UInt8) => Value.int .u8 (b.toNat : Int)) (w.alloc (.cells Lib.zeros24 105)) w.heap.size 0 dk).drewN k) 97 9 5 ⟨w.heap.size, 0, none⟩ 24 (Lib.decDigits u) Tryd.underlying97 Tryd.underlying5 Tryd.underlying9 (fun j hj => by
        rw [Lib.row_is_numeral hF j hj, Lib.add_plain, World.cell?_drewN]
        exact cell?_putRow (fun (b : UInt8) => Value.int .u8 (b.toNat : Int)) _ w.heap.size 0 _ dk HH0.out (by rw [hF.size, Array.size_replicate]) j (by rw [hF.size]; rw [Lib.decDigits_length] at hj; exact hj))
      rw [Lib.decDigits_length] at h
      exact h
    go_wp2
    go_ret
    obtain ⟨os, eo⟩ := Lib.fin_at w (.cells Lib.zeros24 105) dk k 0
    exact ⟨rfl, by rw [eo]; exact Lib.below_grow _ _ (Nat.le_refl _) _ _⟩
set_option maxRecDepth 100000 in
theorem FormatUint_10 (u : Nat) (hu64 : u < 18446744073709551616) (w : World) (htab : Lib.TabIs Tryd.prog w "internal/strconv.uint64pow10" .u64 Lib.pow10Tab) :
    Calls Tryd.prog 67 #[.int .u64 u, .int .i64 10] w fun e w' => e = .returned (.string ⟨(Lib.decDigits u).toArray⟩) ∧ Below w.heap.size w w' := by
  have HI := Lib.hid (FormatUint_in u hu64 w htab)
  go_enter Tryd.func67, Tryd.ntmps67
  go_wp2_with (go_at_call 74; refine HI.out.mono ?_; rintro e w' ⟨rfl, hb⟩)
  go_ret
  exact ⟨rfl, hb⟩
set_option maxHeartbeats 4000000 in
set_option maxRecDepth 1000000 in
theorem decimal_walk (a0 d : ByteArray) (n : Int) (okB : Bool) (w : World) (hG3 : Glob3 w)
    (HP : Hid (∀ w, Glob3 w → Calls Tryd.prog 66 #[.string a0, .int .i64 10, .int .i64 32] w fun e w' => (okB = true ∧ e = .returned (.tuple #[.int .u64 n, .nilIface]) ∨ okB = false ∧ ∃ N p, e = .returned (.tuple #[.int .u64 n, .iface N p])) ∧ Below w.heap.size w w'))
    (HF : Hid (∀ w, Glob3 w → Calls Tryd.prog 67 #[.int .u64 n, .int .i64 10] w fun e w' => e = .returned (.string d) ∧ Below w.heap.size w w')) :
    Calls Tryd.prog 57 #[.string a0] w fun e w' => e = .returned (.tuple #[.int .u64 n, .bool (okB && (decide (0 < n) && (d.toList == a0.toList)))]) ∧ Below w.heap.size w w' := by
  have HG := Aside0.mk hG3
  clear hG3
  cases okB with
  | true =>
    have HJ : Hid (∀ w, Glob3 w → Calls Tryd.prog 66 #[.string a0, .int .i64 10, .int .i64 32] w fun e w' => e = .returned (.tuple #[.int .u64 n, .nilIface]) ∧ Below w.heap.size w w') :=
      Lib.hid (fun w hg => (HP.out w hg).mono fun _ _ h => ⟨h.1.elim (fun h => h.2) (fun h => Bool.noConfusion h.1), h.2⟩)
    clear HP
    by_cases hn : 0 < n
    · have h1 : decide (0 < n) = true := decide_eq_true hn
      rw [h1]
      go_enter Tryd.func57, Tryd.ntmps57
      go_wp2_with (first | (go_at_call 66; (with_reducible refine (HJ.out _ HG.out).mono ?_); rintro e w5 ⟨rfl, hb1⟩) | (go_at_call 67; (with_reducible refine (HF.out _ (HG.out.step hb1)).mono ?_); rintro e w6 ⟨rfl, hb2⟩))
      go_ret2
      exact ⟨rfl, below_step hb1 hb2⟩
    · have h1 : decide (0 < n) = false := decide_eq_false hn
      rw [h1]
      go_enter Tryd.func57, Tryd.ntmps57
      go_wp2_with (first | (go_at_call 66; (with_reducible refine (HJ.out _ HG.out).mono ?_); rintro e w5 ⟨rfl, hb1⟩))
      go_ret2
      exact ⟨rfl, hb1⟩
  | false =>
    have HJ : Hid (∀ w, Glob3 w → Calls Tryd.prog 66 #[.string a0, .int .i64 10, .int .i64 32] w fun e w' => (∃ N p, e = .returned (.tuple #[.int .u64 n, .iface N p])) ∧ Below w.heap.size w w') :=
      Lib.hid (fun w hg => (HP.out w hg).mono fun _ _ h => ⟨h.1.elim (fun h => Bool.noConfusion h.1) (fun h => h.2), h.2⟩)
    clear HP
    go_enter Tryd.func57, Tryd.ntmps57
    go_wp2_with (first | (go_at_call 66; (with_reducible refine (HJ.out _ HG.out).mono ?_); rintro e w5 ⟨⟨N, p, rfl⟩, hb1⟩))
    go_ret2
    exact ⟨rfl, hb1⟩
/-- What shell.decimal answers. -/
def decN (s : ByteArray) : Nat := match Lib.parseUintB 32 s.data.toList with | .ok u => u | .range => 4294967295 | _ => 0
def decOk (s : ByteArray) : Bool := match Lib.parseUintB 32 s.data.toList with | .ok u => (decide (0 < u) && (Lib.decDigits u == s.data.toList)) | _ => false
def shell_decimal.f (a0 : ByteArray) : Option (Int × Bool) := if a0.size ≤ 281474976710656 then some ((decN a0 : Int), decOk a0) else none
theorem parseUint_le (B : Nat) (hB : B = 32) (l : List UInt8) (u : Nat) (h : Lib.parseUintB B l = .ok u) : u ≤ 4294967295 := by
  subst hB
  unfold Lib.parseUintB at h
  by_cases hl : l = []
  · rw [if_pos hl] at h; cases h
  rw [if_neg hl] at h
  have key : ∀ (l : List UInt8) (acc u : Nat), acc ≤ 4294967295 → Lib.parseUintM 4294967295 acc l = .ok u → u ≤ 4294967295 := by
    intro l
    induction l with
    | nil =>
      intro acc u h0 h
      simp only [Lib.parseUintM, Lib.NumEnd.ok.injEq] at h
      omega
    | cons c r ih =>
      intro acc u h0 h
      rw [Lib.parseUintM] at h
      by_cases h1 : 48 ≤ c.toNat ∧ c.toNat ≤ 57
      · rw [if_pos h1] at h
        by_cases h2 : 1844674407370955162 ≤ acc
        · rw [if_pos h2] at h; cases h
        · rw [if_neg h2] at h
          by_cases h3 : 4294967295 < acc * 10 + (c.toNat - 48)
          · rw [if_pos h3] at h; cases h
          · rw [if_neg h3] at h
            exact ih _ u (by omega) h
      · rw [if_neg h1] at h; cases h
  exact key l 0 u (by omega) h
theorem shell_decimal.calls (a0 : ByteArray) (r1 : Int) (r2 : Bool) (w : World) (h : shell_decimal.f a0 = some (r1, r2)) (hG3 : Glob3 w := by first | exact Glob3.step HG3.out (by repeat (first | (with_reducible first | exact HB.out | apply below_alloc | apply pw_below_drewN | apply below_drew1) | exact HB.out | (refine below_set ?_ (Aside0.out (by assumption))))) | exact HG3.out | assumption) :
    Calls Tryd.prog 57 #[.string a0] w fun e w' => e = .returned (.tuple #[.int .u64 r1, .bool r2]) ∧ Below w.heap.size w w' := by
  unfold shell_decimal.f at h
  by_cases hs : a0.size ≤ 281474976710656
  case neg => rw [if_neg hs] at h; cases h
  rw [if_pos hs] at h
  simp only [Option.some.injEq, Prod.mk.injEq] at h
  obtain ⟨rfl, rfl⟩ := h
  have fmt : ∀ u : Nat, u ≤ 4294967295 → Hid (∀ w, Glob3 w → Calls Tryd.prog 67 #[.int .u64 (u : Int), .int .i64 10] w fun e w' => e = .returned (.string ⟨(Lib.decDigits u).toArray⟩) ∧ Below w.heap.size w w') := fun u hu => Lib.hid fun w hg => FormatUint_10 u (by omega) w hg.pow10
  have bw : ∀ w w' : World, (w' = w ∨ ∃ t, w' = Lib.bytesWorld w 5 t) → Below w.heap.size w w' := by
    rintro w w' (rfl | ⟨t, rfl⟩)
    · exact Below.refl _ _
    · exact Lib.bytesWorld_below _ _ _
  unfold decN decOk
  cases hp : Lib.parseUintB 32 a0.data.toList with
  | ok u =>
    refine (decimal_walk a0 _ (u : Int) true w hG3 (Lib.hid fun w _ => ?_) (fmt u (parseUint_le 32 rfl _ u hp))).mono fun e w' hw => ⟨?_, hw.2⟩
    · refine (Tryd.strconv_ParseUint_10_at32_ok a0 (by omega) u hp w).mono fun e w' hw => ⟨.inl ⟨rfl, hw.1⟩, bw _ _ (hw.2.imp id fun h => ⟨_, h⟩)⟩
    · rw [hw.1]
      rw [Bool.true_and, show decide (0 < (u : Int)) = decide (0 < u) from decide_eq_decide.mpr (by omega), Lib.toList_data, Lib.toList_data]
  | range =>
    refine (decimal_walk a0 _ 4294967295 false w hG3 (Lib.hid fun w hg => ?_) (fmt 4294967295 (by omega))).mono fun e w' hw => ⟨hw.1, hw.2⟩
    obtain ⟨tp, p, hv⟩ := hg.errRange
    exact (Tryd.strconv_ParseUint_10_at32_range_var a0 (by omega) hp tp p w hv).mono fun e w' ⟨N, he, _, _, hb⟩ => ⟨.inr ⟨rfl, _, _, he⟩, hb⟩
  | _ =>
    refine (decimal_walk a0 _ 0 false w hG3 (Lib.hid fun w hg => ?_) (fmt 0 (by omega))).mono fun e w' hw => ⟨hw.1, hw.2⟩
    obtain ⟨tp, p, hv⟩ := hg.errSyntax
    exact (Tryd.strconv_ParseUint_10_at32_syntax_var a0 (by omega) (hp.trans rfl) tp p w hv).mono fun e w' ⟨N, he, _, _, hb⟩ => ⟨.inr ⟨rfl, _, _, he⟩, hb⟩
end Go.Proofs.YtggdffgoffmlpaaDoor.PA
