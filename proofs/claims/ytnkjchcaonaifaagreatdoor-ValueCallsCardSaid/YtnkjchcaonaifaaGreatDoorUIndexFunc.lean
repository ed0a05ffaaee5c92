/- slices.IndexFunc and slices.ContainsFunc over texts, at a function that answers by a predicate and may make memory. -/
import Derived.Test.YtnkjchcaonaifaaGreatDoorPA0
import Derived.Shelf.SlicesQ.IndexFunc
import Derived.Lib.Hide
namespace Go.Proofs.YtnkjchcaonaifaaGreatDoor.PA
open Go.RowKit Go.Proofs.YtnkjchcaonaifaaGreatDoorW.PrintWords Go.Proofs.YtnkjchcaonaifaaGreatDoorW.PrintLast Go.Proofs.YtnkjchcaonaifaaGreatDoorW.PrintMore
set_option linter.unusedVariables false
set_option linter.unusedSimpArgs false
theorem lt_of_eq' {n m : Nat} (h : n = m) (k : Nat) (hk : k < n) : k < m := h ▸ hk
/-- The number of the first one of which it is true; below 0: none. -/
def firstOf (p : ByteArray → Bool) (zs : List ByteArray) : Int := Lib.idxBy (fun _ y => p y) zs default
theorem firstOf_nonneg (p : ByteArray → Bool) (zs : List ByteArray) : decide (0 ≤ firstOf p zs) = zs.any p := Lib.idxBy_nonneg_iff (fun _ y => p y) zs default
set_option maxHeartbeats 4000000 in
theorem IndexFunc_texts (g : Nat) (lb : Array Value) (eg : ∀ args w, (callFunc g args).run Tryz.prog w = .ok (.enter g args) w) (A : Option Addr) (c : Nat) (zs : List ByteArray) (p : ByteArray → Bool) (w : World) (hr : Kd.string.C w A zs.length zs)
    (hp : ∀ W x, x ∈ zs → Below w.heap.size w W → Calls Tryz.prog g (#[.string x] ++ lb) W fun e w' => e = .returned (.bool (p x)) ∧ Below w.heap.size w w') :
    Calls Tryz.prog 55 #[.slice A zs.length c, .func (.func g) #[] lb] w fun e w' => e = .returned (.int .i64 (firstOf p zs)) ∧ Below w.heap.size w w' := by
  have hbig : zs.length ≤ 9223372036854775807 := hr.2.1
  generalize hn : zs.length = n at hr hbig
  have HN := Aside0.mk hn
  clear hn
  go_enter Tryz.func55, Tryz.ntmps55
  go_wp2
  go_loopg [5, 8] n (fun gg _ s8 wr => ∃ kk : Nat, kk ≤ n ∧ n - kk ≤ gg ∧ s8 = .int .i64 kk ∧ Aside (Below w.heap.size w wr) ∧ Aside (∀ j, j < kk → p zs[j]! = false))
  case atStart => exact ⟨0, Nat.zero_le _, by omega, rfl, Below.refl _ w, fun j hj => absurd hj (Nat.not_lt_zero _)⟩
  case round =>
    obtain ⟨kk, hkk, hg, rfl, BW, A0⟩ := hrel
    by_cases hlt : kk < n
    · have hltz : (kk : Int) < (n : Int) := by omega
      have hkz : kk < zs.length := lt_of_eq' HN.out.symm kk hlt
      obtain ⟨ad, rfl, hcell⟩ := Kd.at_string (Kd.C_below hr BW.out) (kk : Int) (by omega) hltz
      have hy0 : rdOf ByteArray.empty zs (kk : Int) = zs[kk]! := by
        show zs.getD (kk : Int).toNat _ = _
        rw [Int.toNat_natCast, List.getD_eq_getElem?_getD, List.getElem?_eq_getElem hkz, getElem!_pos zs kk hkz]
        rfl
      rw [hy0, Int.toNat_natCast] at hcell
      have hcall := hp wr zs[kk]! (by rw [getElem!_pos zs kk hkz]; exact List.getElem_mem _) BW.out
      have hmem := hkz
      clear hp hy0 hr hkz
      generalize hy : zs[kk]! = y at hcell hcall
      have B : Aside (zs[kk]! = y) := hy
      have HM := Aside0.mk hmem
      clear hy hmem
      cases hq : p y with
      | true =>
        rw [hq] at hcall
        go_wp2_with (go_at_fn g; refine hcall.mono ?_; rintro e w' ⟨rfl, hb'⟩)
        go_ret
        refine ⟨?_, hb'⟩
        have := Lib.idxBy_hit (fun _ y => p y) zs n kk default hlt (by rw [HN.out]; exact Nat.le_refl _) (by show p zs[kk]! = true; rw [B.out]; exact hq) A0.out
        rw [List.take_of_length_le (by rw [HN.out]; exact Nat.le_refl _)] at this
        unfold firstOf
        rw [this]
        rfl
      | false =>
        rw [hq] at hcall
        go_wp2_with (go_at_fn g; refine hcall.mono ?_; rintro e w' ⟨rfl, hb'⟩)
        go_roundg (n - (kk + 1))
        case measure => omega
        case rel =>
          refine ⟨kk + 1, by omega, by omega, by go_num, hb', (show Aside _ from fun j hj => ?_)⟩
          by_cases e : j = kk
          · subst e
            rw [B.out]; exact hq
          · exact A0.out j (by omega)
    · have hltz : ¬ (kk : Int) < (n : Int) := by omega
      have : kk = n := by omega
      subst this
      go_wp2
      go_ret
      refine ⟨?_, BW.out⟩
      have := Lib.idxBy_miss (fun _ y => p y) zs kk default A0.out
      rw [List.take_of_length_le (by rw [HN.out]; exact Nat.le_refl _)] at this
      unfold firstOf
      rw [this]
      rfl
theorem ContainsFunc_texts (g : Nat) (lb : Array Value) (eg : ∀ args w, (callFunc g args).run Tryz.prog w = .ok (.enter g args) w) (A : Option Addr) (c : Nat) (zs : List ByteArray) (p : ByteArray → Bool) (w : World) (hr : Kd.string.C w A zs.length zs)
    (hp : ∀ W x, x ∈ zs → Below w.heap.size w W → Calls Tryz.prog g (#[.string x] ++ lb) W fun e w' => e = .returned (.bool (p x)) ∧ Below w.heap.size w w') :
    Calls Tryz.prog 39 #[.slice A zs.length c, .func (.func g) #[] lb] w fun e w' => e = .returned (.bool (zs.any p)) ∧ Below w.heap.size w w' := by
  rw [← firstOf_nonneg]
  have hc := IndexFunc_texts g lb eg A c zs p w hr hp
  generalize firstOf p zs = i at hc ⊢
  clear hp hr
  have HC := Lib.hid hc
  clear hc
  go_enter Tryz.func39, Tryz.ntmps39
  go_wp2_with (go_at_call 55; refine HC.out.mono ?_; rintro e w' ⟨rfl, hb'⟩)
  go_ret
  exact ⟨rfl, hb'⟩
end Go.Proofs.YtnkjchcaonaifaaGreatDoor.PA
