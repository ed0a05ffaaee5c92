/- strconv.ParseInt(s, base, 64) of one to twelve digits, base 10 or 16: the number, and no error. -/
import Derived.Test.YtealmfcimoomlaaGreatDoorUBuild
import Derived.Test.YtealmfcimoomlaaGreatDoorUUtf8
import Derived.Lib.ConvBytes
import Derived.WalkKit
import Derived.BigCall
import Derived.BigGuard
import Derived.Outline
namespace Go.Proofs.YtealmfcimoomlaaGreatDoor.PA
open Go.RowKit Go.Proofs.YtealmfcimoomlaaGreatDoorW.PrintWords Go.Proofs.YtealmfcimoomlaaGreatDoorW.PrintLast Go.Proofs.YtealmfcimoomlaaGreatDoorW.PrintMore
set_option linter.unusedVariables false
set_option linter.unusedSimpArgs false
def digVal (c : UInt8) : Nat := if c.toNat ≤ 57 then c.toNat - 48 else if 97 ≤ c.toNat then c.toNat - 87 else c.toNat - 55
def digOk (b : Nat) (c : UInt8) : Bool := decide ((48 ≤ c.toNat ∧ c.toNat ≤ 57) ∨ (b = 16 ∧ ((97 ≤ c.toNat ∧ c.toNat ≤ 102) ∨ (65 ≤ c.toNat ∧ c.toNat ≤ 70))))
def numVal (b : Nat) (l : List UInt8) : Nat := l.foldl (fun n c => b * n + digVal c) 0
theorem numVal_snoc (b : Nat) (l : List UInt8) (c : UInt8) : numVal b (l ++ [c]) = b * numVal b l + digVal c := by simp [numVal]
theorem digVal_lt (b : Nat) (hb : b = 10 ∨ b = 16) (c : UInt8) (h : digOk b c = true) : digVal c < b := by
  simp only [digOk, decide_eq_true_eq] at h
  unfold digVal
  repeat' split
  all_goals omega
theorem numVal_lt (b : Nat) (hb : b = 10 ∨ b = 16) : ∀ (k : Nat) (l : List UInt8), (∀ c ∈ l, digOk b c = true) → l.length = k → numVal b l < 16 ^ k := by
  intro k
  induction k with
  | zero => intro l _ h; rw [List.length_eq_zero_iff.1 h]; simp [numVal]
  | succ k ih =>
    intro l hl h
    obtain ⟨m, c, rfl⟩ : ∃ m c, l = m ++ [c] := ⟨l.dropLast, l.getLast (by intro e; simp [e] at h), (List.dropLast_concat_getLast _).symm⟩
    have h1 := ih m (fun x hx => hl x (by simp [hx])) (by simpa using h)
    have h2 := digVal_lt b hb c (hl c (by simp))
    rw [numVal_snoc, Nat.pow_succ]
    rcases hb with rfl | rfl <;> omega
theorem numVal_bound (b : Nat) (hb : b = 10 ∨ b = 16) (l : List UInt8) (h : ∀ c ∈ l, digOk b c = true) (hl : l.length ≤ 12) : numVal b l < 281474976710656 :=
  Nat.lt_of_lt_of_le (numVal_lt b hb l.length l h rfl) (by have := Nat.pow_le_pow_right (n := 16) (by omega) hl; simpa using this)
theorem lower_low (n : Nat) (h : 97 ≤ n ∧ n ≤ 102) : Go.bits .or .u8 (n : Int) 32 = (n : Int) := by
  have : n = 97 ∨ n = 98 ∨ n = 99 ∨ n = 100 ∨ n = 101 ∨ n = 102 := by omega
  rcases this with rfl | rfl | rfl | rfl | rfl | rfl <;> decide
theorem lower_up (n : Nat) (h : 65 ≤ n ∧ n ≤ 70) : Go.bits .or .u8 (n : Int) 32 = (n : Int) + 32 := by
  have : n = 65 ∨ n = 66 ∨ n = 67 ∨ n = 68 ∨ n = 69 ∨ n = 70 := by omega
  rcases this with rfl | rfl | rfl | rfl | rfl | rfl <;> decide
set_option maxHeartbeats 32000000 in
set_option maxRecDepth 100000 in
theorem ParseUint_16 (t : ByteArray) (h0 : t.size ≠ 0) (h12 : t.size ≤ 12) (hd : ∀ c ∈ t.data.toList, digOk 16 c = true) (w : World) :
    Calls Tryz.prog 165 #[.string t, .int .i64 16, .int .i64 64] w fun e w' => e = .returned (.tuple #[.int .u64 (numVal 16 t.data.toList), .nilIface]) ∧ Below w.heap.size w w' := by
  have hemp : t.toList.isEmpty = false := by
    rw [← decide_eq_emptyBytes]
    exact decide_eq_false (fun h => h0 (by rw [h]; rfl))
  have hcv := Lib.run_convert_string_bytes (P := Tryz.prog) w 9 44 5 t (u := .string) Tryz.underlying9 Tryz.underlying44 Tryz.underlying5
  have hB : ∀ j, j < t.size → (Lib.bytesWorld w 5 t).cell? ⟨w.heap.size, j, none⟩ = some (.int .u8 (t.data.toList.getD j 0).toNat) := fun j hj => Lib.bytesWorld_cell w 5 t j hj
  have hbel : Below w.heap.size w (Lib.bytesWorld w 5 t) := ⟨rfl, rfl, rfl, by rw [Lib.bytesWorld_size]; omega, fun k hk => Lib.bytesWorld_at_old w 5 t k hk⟩
  obtain ⟨W1, hW1⟩ : ∃ W1, W1 = Lib.bytesWorld w 5 t := ⟨_, rfl⟩
  rw [← hW1] at hcv hB hbel
  clear hW1
  obtain ⟨bs, hL⟩ : ∃ bs, bs = t.data.toList := ⟨_, rfl⟩
  have hLn : bs.length = t.size := by rw [hL, Lib.size_eq]
  rw [← hL] at hB hd ⊢
  clear hL
  have hmv : IntKind.u64.wrap (IntKind.u64.wrap 18446744073709551616 - 1) = 18446744073709551615 := by
    rw [IntKind.wrap_u64, IntKind.wrap_u64]
    decide
  go_enter Tryz.func165, Tryz.ntmps165
  go_wp2
  go_loop [12, 13, 101] (fun vu vn vi => ∃ (k : Nat) (a : Int), vu = .bool false ∧ vn = .int .u64 a ∧ vi = .int .i64 k ∧ k ≤ t.size ∧ Hid (a = (numVal 16 (bs.take k) : Int)))
    (fun _ _ vi => t.size - (intOf vi).toNat)
  case atStart => exact ⟨0, 0, rfl, rfl, rfl, by omega, Lib.hid (by simp [numVal])⟩
  case round =>
    obtain ⟨k, a, rfl, rfl, rfl, hk, hh⟩ := hrel
    have hbd := numVal_bound 16 (.inr rfl) (bs.take k) (fun c hc => hd c (List.mem_of_mem_take hc)) (by rw [List.length_take]; omega)
    have a0 : 0 ≤ a := by have := hh.out; omega
    have a1 : a < 281474976710656 := by have := hh.out; omega
    clear hbd
    by_cases hkn : k < t.size
    · have hc := hB k hkn
      have htake : bs.take (k + 1) = bs.take k ++ [bs[k]'(by omega)] := List.take_succ_eq_append_getElem (by omega)
      have hget : bs.getD k 0 = bs[k]'(by omega) := by simp [List.getD, List.getElem?_eq_getElem (show k < bs.length by omega)]
      have hok := hd (bs[k]'(by omega)) (List.getElem_mem _)
      rw [hget] at hc
      have HN : Hid (16 * a + (digVal (bs[k]'(by omega)) : Int) = (numVal 16 (bs.take (k + 1)) : Int)) := Lib.hid (by rw [htake, numVal_snoc, hh.out]; omega)
      clear htake hget hh
      generalize bs[k]'(by omega) = c at hc hok HN
      have hc256 : c.toNat < 256 := c.toNat_lt
      simp only [digOk, decide_eq_true_eq] at hok
      clear hB hd
      by_cases hdig : 48 ≤ c.toNat ∧ c.toNat ≤ 57
      · obtain ⟨hd0, hd1⟩ := hdig
        clear hok
        have hv : Hid ((digVal c : Int) = (c.toNat : Int) - 48) := Lib.hid (by unfold digVal; rw [if_pos hd1]; omega)
        go_wp2
        refine ⟨⟨k + 1, a * 16 + ((c.toNat : Int) - 48), rfl, (by first | rfl | (congr 1; omega)), (by first | rfl | (congr 1; omega)), by omega, Lib.hid (by rw [← HN.out, hv.out]; omega)⟩, by simp [intOf]; omega⟩
      · by_cases hlow : 97 ≤ c.toNat ∧ c.toNat ≤ 102
        · obtain ⟨hd0, hd1⟩ := hlow
          clear hok hdig
          have hv : Hid ((digVal c : Int) = (c.toNat : Int) - 87) := Lib.hid (by unfold digVal; rw [if_neg (by omega), if_pos hd0]; omega)
          have hl := lower_low c.toNat ⟨hd0, hd1⟩
          go_wp2_with (go_at_call 171; refine (Tryz.internal_strconv_lower _ _).mono ?_; rintro e w' ⟨rfl, rfl⟩)
          refine ⟨⟨k + 1, a * 16 + ((c.toNat : Int) - 87), rfl, (by first | rfl | (congr 1; omega)), (by first | rfl | (congr 1; omega)), by omega, Lib.hid (by rw [← HN.out, hv.out]; omega)⟩, by simp [intOf]; omega⟩
        · have hup : 65 ≤ c.toNat ∧ c.toNat ≤ 70 := by omega
          obtain ⟨hd0, hd1⟩ := hup
          clear hok hdig hlow
          have hv : Hid ((digVal c : Int) = (c.toNat : Int) - 55) := Lib.hid (by unfold digVal; rw [if_neg (by omega), if_neg (by omega)]; omega)
          have hl := lower_up c.toNat ⟨hd0, hd1⟩
          go_wp2_with (go_at_call 171; refine (Tryz.internal_strconv_lower _ _).mono ?_; rintro e w' ⟨rfl, rfl⟩)
          refine ⟨⟨k + 1, a * 16 + ((c.toNat : Int) - 55), rfl, (by first | rfl | (congr 1; omega)), (by first | rfl | (congr 1; omega)), by omega, Lib.hid (by rw [← HN.out, hv.out]; omega)⟩, by simp [intOf]; omega⟩
    · have hkk : k = t.size := by omega
      subst hkk
      have HN : Hid (a = (numVal 16 bs : Int)) := Lib.hid (by rw [hh.out, List.take_of_length_le (by omega)])
      clear hh
      go_wp2
      go_ret2
      have hA := HN.out
      subst hA
      exact ⟨rfl, hbel⟩
set_option maxHeartbeats 32000000 in
set_option maxRecDepth 100000 in
theorem ParseUint_10 (t : ByteArray) (h0 : t.size ≠ 0) (h12 : t.size ≤ 12) (hd : ∀ c ∈ t.data.toList, digOk 10 c = true) (w : World) :
    Calls Tryz.prog 165 #[.string t, .int .i64 10, .int .i64 64] w fun e w' => e = .returned (.tuple #[.int .u64 (numVal 10 t.data.toList), .nilIface]) ∧ Below w.heap.size w w' := by
  have hemp : t.toList.isEmpty = false := by
    rw [← decide_eq_emptyBytes]
    exact decide_eq_false (fun h => h0 (by rw [h]; rfl))
  have hcv := Lib.run_convert_string_bytes (P := Tryz.prog) w 9 44 5 t (u := .string) Tryz.underlying9 Tryz.underlying44 Tryz.underlying5
  have hB : ∀ j, j < t.size → (Lib.bytesWorld w 5 t).cell? ⟨w.heap.size, j, none⟩ = some (.int .u8 (t.data.toList.getD j 0).toNat) := fun j hj => Lib.bytesWorld_cell w 5 t j hj
  have hbel : Below w.heap.size w (Lib.bytesWorld w 5 t) := ⟨rfl, rfl, rfl, by rw [Lib.bytesWorld_size]; omega, fun k hk => Lib.bytesWorld_at_old w 5 t k hk⟩
  obtain ⟨W1, hW1⟩ : ∃ W1, W1 = Lib.bytesWorld w 5 t := ⟨_, rfl⟩
  rw [← hW1] at hcv hB hbel
  clear hW1
  obtain ⟨bs, hL⟩ : ∃ bs, bs = t.data.toList := ⟨_, rfl⟩
  have hLn : bs.length = t.size := by rw [hL, Lib.size_eq]
  rw [← hL] at hB hd ⊢
  clear hL
  have hmv : IntKind.u64.wrap (IntKind.u64.wrap 18446744073709551616 - 1) = 18446744073709551615 := by
    rw [IntKind.wrap_u64, IntKind.wrap_u64]
    decide
  go_enter Tryz.func165, Tryz.ntmps165
  go_wp2
  go_loop [12, 13, 101] (fun vu vn vi => ∃ (k : Nat) (a : Int), vu = .bool false ∧ vn = .int .u64 a ∧ vi = .int .i64 k ∧ k ≤ t.size ∧ Hid (a = (numVal 10 (bs.take k) : Int)))
    (fun _ _ vi => t.size - (intOf vi).toNat)
  case atStart => exact ⟨0, 0, rfl, rfl, rfl, by omega, Lib.hid (by simp [numVal])⟩
  case round =>
    obtain ⟨k, a, rfl, rfl, rfl, hk, hh⟩ := hrel
    have hbd := numVal_bound 10 (.inl rfl) (bs.take k) (fun c hc => hd c (List.mem_of_mem_take hc)) (by rw [List.length_take]; omega)
    have a0 : 0 ≤ a := by have := hh.out; omega
    have a1 : a < 281474976710656 := by have := hh.out; omega
    clear hbd
    by_cases hkn : k < t.size
    · have hc := hB k hkn
      have htake : bs.take (k + 1) = bs.take k ++ [bs[k]'(by omega)] := List.take_succ_eq_append_getElem (by omega)
      have hget : bs.getD k 0 = bs[k]'(by omega) := by simp [List.getD, List.getElem?_eq_getElem (show k < bs.length by omega)]
      have hok := hd (bs[k]'(by omega)) (List.getElem_mem _)
      rw [hget] at hc
      have HN : Hid (10 * a + (digVal (bs[k]'(by omega)) : Int) = (numVal 10 (bs.take (k + 1)) : Int)) := Lib.hid (by rw [htake, numVal_snoc, hh.out]; omega)
      clear htake hget hh
      generalize bs[k]'(by omega) = c at hc hok HN
      have hc256 : c.toNat < 256 := c.toNat_lt
      simp only [digOk, decide_eq_true_eq] at hok
      clear hB hd
      have hdig : 48 ≤ c.toNat ∧ c.toNat ≤ 57 := by omega
      obtain ⟨hd0, hd1⟩ := hdig
      clear hok
      have hv : Hid ((digVal c : Int) = (c.toNat : Int) - 48) := Lib.hid (by unfold digVal; rw [if_pos hd1]; omega)
      go_wp2
      refine ⟨⟨k + 1, a * 10 + ((c.toNat : Int) - 48), rfl, (by first | rfl | (congr 1; omega)), (by first | rfl | (congr 1; omega)), by omega, Lib.hid (by rw [← HN.out, hv.out]; omega)⟩, by simp [intOf]; omega⟩
    · have hkk : k = t.size := by omega
      subst hkk
      have HN : Hid (a = (numVal 10 bs : Int)) := Lib.hid (by rw [hh.out, List.take_of_length_le (by omega)])
      clear hh
      go_wp2
      go_ret2
      have hA := HN.out
      subst hA
      exact ⟨rfl, hbel⟩
set_option maxHeartbeats 4000000 in
set_option maxRecDepth 100000 in
theorem iParseInt_d (b : Int) (v : Nat) (t : ByteArray) (h0 : t.size ≠ 0) (hv : v < 281474976710656) (w : World)
    (h43 : ((t[0]'(by omega)).toNat : Int) ≠ 43) (h45 : ((t[0]'(by omega)).toNat : Int) ≠ 45)
    (hU : ∀ w, Calls Tryz.prog 165 #[.string t, .int .i64 b, .int .i64 64] w fun e w' => e = .returned (.tuple #[.int .u64 (v : Int), .nilIface]) ∧ Below w.heap.size w w') :
    Calls Tryz.prog 158 #[.string t, .int .i64 b, .int .i64 64] w fun e w' => e = .returned (.tuple #[.int .i64 (v : Int), .nilIface]) ∧ Below w.heap.size w w' := by
  have hemp : t.toList.isEmpty = false := by
    rw [← decide_eq_emptyBytes]
    exact decide_eq_false (fun h => h0 (by rw [h]; rfl))
  have hlt : 0 < t.size := by omega
  have hUH := Lib.hid hU
  clear hU
  have g43 : (((t[0]'(by omega)).toNat : Int) == 43) = false := beq_eq_false_iff_ne.mpr h43
  have g45 : (((t[0]'(by omega)).toNat : Int) == 45) = false := beq_eq_false_iff_ne.mpr h45
  clear h43 h45
  have hshl : IntKind.u64.wrap 9223372036854775808 = 9223372036854775808 := by rw [IntKind.wrap_u64]; decide
  obtain ⟨V, hV⟩ : ∃ V : Int, V = (v : Int) := ⟨_, rfl⟩
  have V0 : 0 ≤ V := by omega
  have V1 : V < 281474976710656 := by omega
  rw [← hV] at hUH ⊢
  clear hV hv
  go_enter Tryz.func158, Tryz.ntmps158
  go_wp2_with (go_at_call 165; refine (hUH.out _).mono ?_; rintro e w5 ⟨rfl, hb⟩)
  go_ret2
  exact ⟨rfl, hb⟩
theorem dig_ne (b : Nat) (c : UInt8) (h : digOk b c = true) : (c.toNat : Int) ≠ 43 ∧ (c.toNat : Int) ≠ 45 := by
  simp only [digOk, decide_eq_true_eq] at h
  omega
set_option maxHeartbeats 4000000 in
set_option maxRecDepth 100000 in
theorem ParseInt_d (b : Int) (V : Int) (t : ByteArray) (w : World)
    (hI : ∀ w, Calls Tryz.prog 158 #[.string t, .int .i64 b, .int .i64 64] w fun e w' => e = .returned (.tuple #[.int .i64 V, .nilIface]) ∧ Below w.heap.size w w') :
    Calls Tryz.prog 145 #[.string t, .int .i64 b, .int .i64 64] w fun e w' => e = .returned (.tuple #[.int .i64 V, .nilIface]) ∧ Below w.heap.size w w' := by
  have hIH := Lib.hid hI
  clear hI
  go_enter Tryz.func145, Tryz.ntmps145
  go_wp2_with (go_at_call 158; refine (hIH.out _).mono ?_; rintro e w5 ⟨rfl, hb⟩)
  go_ret2
  exact ⟨rfl, hb⟩
def strconv_ParseInt.f (a0 : ByteArray) (a1 a2 : Int) : Option (Int × Option Int) :=
  if a2 = 64 ∧ (a1 = 10 ∨ a1 = 16) ∧ a0.size ≠ 0 ∧ a0.size ≤ 12 ∧ ∀ c ∈ a0.data.toList, digOk a1.toNat c = true then some ((numVal a1.toNat a0.data.toList : Int), none) else none
theorem strconv_ParseInt.calls (a0 : ByteArray) (a1 a2 : Int) (r1 : Int) (r2 : Option Int) (w : World) (h : strconv_ParseInt.f a0 a1 a2 = some (r1, r2)) :
    Calls Tryz.prog 145 #[.string a0, .int .i64 a1, .int .i64 a2] w fun e w' => e = .returned (.tuple #[.int .i64 r1, errW r2]) ∧ Below w.heap.size w w' := by
  unfold strconv_ParseInt.f at h
  by_cases hc : a2 = 64 ∧ (a1 = 10 ∨ a1 = 16) ∧ a0.size ≠ 0 ∧ a0.size ≤ 12 ∧ ∀ c ∈ a0.data.toList, digOk a1.toNat c = true
  · rw [if_pos hc] at h
    simp only [Option.some.injEq, Prod.mk.injEq] at h
    obtain ⟨rfl, rfl⟩ := h
    obtain ⟨rfl, h1, h0, h12, hd⟩ := hc
    have hm : a0[0]'(by omega) ∈ a0.data.toList := by
      have : a0[0]'(by omega) = a0.data.toList[0]'(by rw [← Lib.size_eq]; omega) := rfl
      rw [this]; exact List.getElem_mem _
    rcases h1 with rfl | rfl
    · have hn := dig_ne 10 _ (hd _ hm)
      exact ParseInt_d 10 _ a0 w fun w => iParseInt_d 10 (numVal 10 a0.data.toList) a0 h0 (numVal_bound 10 (.inl rfl) _ hd (by rw [← Lib.size_eq]; exact h12)) w hn.1 hn.2 (fun w => ParseUint_10 a0 h0 h12 hd w)
    · have hn := dig_ne 16 _ (hd _ hm)
      exact ParseInt_d 16 _ a0 w fun w => iParseInt_d 16 (numVal 16 a0.data.toList) a0 h0 (numVal_bound 16 (.inr rfl) _ hd (by rw [← Lib.size_eq]; exact h12)) w hn.1 hn.2 (fun w => ParseUint_16 a0 h0 h12 hd w)
  · rw [if_neg hc] at h
    exact absurd h (by simp)
end Go.Proofs.YtealmfcimoomlaaGreatDoor.PA
