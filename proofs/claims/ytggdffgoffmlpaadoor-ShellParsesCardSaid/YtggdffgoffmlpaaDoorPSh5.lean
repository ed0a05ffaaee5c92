/- shell.fits, the forms of the commands and the words behind a command's word: as the reference has them. In plain Lean. Written by wip/gen/shell30.py. -/
import Derived.Test.YtggdffgoffmlpaaDoorPSh4
import Derived.Test.YtggdffgoffmlpaaDoorPA5
import Derived.Test.YtggdffgoffmlpaaDoorPA2
import Derived.Test.YtggdffgoffmlpaaDoorPA8
import Derived.Test.YtggdffgoffmlpaaDoorPA12
namespace Go.Proofs.YtggdffgoffmlpaaDoor.PA
open Go.RowKit Go.Proofs.YtggdffgoffmlpaaDoorW.PrintWords Go.Proofs.YtggdffgoffmlpaaDoorW.PrintLast Go.Proofs.YtggdffgoffmlpaaDoorW.PrintMore
set_option linter.unusedVariables false
set_option linter.unusedSimpArgs false
theorem ne_of_empty {w : ByteArray} (h : Lb w = []) {l : List ByteArray} (hl : (l.all fun x => decide (x.size ≠ 0)) = true) : ∀ x ∈ l, x.toList ≠ w.toList := by
  intro x hx e
  have := of_decide_eq_true (List.all_eq_true.mp hl x hx)
  rw [toL, toL, h] at e
  exact this (by rw [size_Lb, e]; rfl)
theorem fits_eq (w : ByteArray) (hs : w.size ≤ 200000) (k : Nat) (hk : 300000 ≤ k) (c : Int) (hc : c = 72 ∨ c = 78 ∨ c = 68 ∨ c = 80 ∨ c = 65 ∨ c = 77) :
    ∃ r : Bool, shell_fits.f k c w = some r ∧ espalierref30_fits.f k w c = some r ∧ (Lb w = [] → r = false) := by
  unfold shell_fits.f espalierref30_fits.f
  rcases hc with rfl | rfl | rfl | rfl | rfl | rfl
  · obtain ⟨x, y, b, e1, e2, e3⟩ := handle_eq w (by omega) k (by omega)
    rw [if_pos rfl, if_pos rfl, e1, e2]
    exact ⟨b, rfl, rfl, e3⟩
  · obtain ⟨b, hb⟩ := Name_ends w (by omega) k (by omega)
    rw [if_neg (by decide), if_pos rfl, if_neg (by decide), if_pos rfl, Name_eq, hb]
    refine ⟨b, rfl, rfl, fun h => ?_⟩
    obtain ⟨k, rfl⟩ : ∃ j, k = j + 1 := ⟨k - 1, by omega⟩
    unfold espalierref02_Name.f at hb
    rw [if_pos (by rw [size_Lb, h]; decide), espalierref02_Name.j0.eq_2, if_pos rfl] at hb
    exact (Option.some.inj hb).symm
  · obtain ⟨x, y, b, e1, e2, e3⟩ := number_digits w (by omega) k (by omega)
    rw [if_neg (by decide), if_neg (by decide), if_pos rfl, if_neg (by decide), if_neg (by decide), if_pos rfl, e1, e2]
    exact ⟨b, rfl, rfl, e3⟩
  all_goals
    unfold shell_place.f shell_axisOf.f shell_modes.f espalierref30_places.f espalierref30_axes.f espalierref30_modes.f
    simp only [Option.bind_some]
  · obtain ⟨r, q, e1, e2, e3, e4⟩ := which_eq w [(⟨#[102, 105, 114, 115, 116]⟩ : ByteArray), (⟨#[108, 97, 115, 116]⟩ : ByteArray), (⟨#[98, 101, 102, 111, 114, 101]⟩ : ByteArray), (⟨#[97, 102, 116, 101, 114]⟩ : ByteArray)] (by decide) k (by omega)
    rw [if_neg (by decide), if_neg (by decide), if_neg (by decide), if_pos (by trivial), if_neg (by decide), if_neg (by decide), if_neg (by decide), if_pos (by trivial), e1, e2]
    exact ⟨decide (r > 0), rfl, by rw [e3]; rfl, fun h => e4 (ne_of_empty h (by decide))⟩
  · rw [if_neg (by decide), if_neg (by decide), if_neg (by decide), if_neg (by decide), if_pos (by trivial), if_neg (by decide), if_neg (by decide), if_neg (by decide), if_neg (by decide), if_pos (by trivial)]
    generalize hl : ([(⟨#[99, 104, 105, 108, 100]⟩ : ByteArray), (⟨#[100, 101, 115, 99, 101, 110, 100, 97, 110, 116]⟩ : ByteArray), (⟨#[100, 101, 115, 99, 101, 110, 100, 97, 110, 116, 45, 111, 114, 45, 115, 101, 108, 102]⟩ : ByteArray), (⟨#[112, 97, 114, 101, 110, 116]⟩ : ByteArray), (⟨#[97, 110, 99, 101, 115, 116, 111, 114]⟩ : ByteArray), (⟨#[97, 110, 99, 101, 115, 116, 111, 114, 45, 111, 114, 45, 115, 101, 108, 102]⟩ : ByteArray), (⟨#[102, 111, 108, 108, 111, 119, 105, 110, 103]⟩ : ByteArray), (⟨#[112, 114, 101, 99, 101, 100, 105, 110, 103]⟩ : ByteArray), (⟨#[102, 111, 108, 108, 111, 119, 105, 110, 103, 45, 115, 105, 98, 108, 105, 110, 103]⟩ : ByteArray), (⟨#[112, 114, 101, 99, 101, 100, 105, 110, 103, 45, 115, 105, 98, 108, 105, 110, 103]⟩ : ByteArray), (⟨#[115, 101, 108, 102]⟩ : ByteArray)] : List ByteArray) = l
    have hlen : l.length ≤ 1000 := by rw [← hl]; decide
    have hne : (l.all fun x => decide (x.size ≠ 0)) = true := by rw [← hl]; decide
    obtain ⟨r, q, e1, e2, e3, e4⟩ := which_eq w l hlen k (by omega)
    rw [e1, e2]
    exact ⟨decide (r > 0), rfl, by rw [e3]; rfl, fun h => e4 (ne_of_empty h hne)⟩
  · obtain ⟨r, q, e1, e2, e3, e4⟩ := which_eq w [(⟨#[73, 83]⟩ : ByteArray), (⟨#[73, 88]⟩ : ByteArray), (⟨#[83]⟩ : ByteArray), (⟨#[83, 73, 88]⟩ : ByteArray), (⟨#[88]⟩ : ByteArray)] (by decide) k (by omega)
    rw [if_neg (by decide), if_neg (by decide), if_neg (by decide), if_neg (by decide), if_neg (by decide), if_pos (by trivial), if_neg (by decide), if_neg (by decide), if_neg (by decide), if_neg (by decide), if_neg (by decide), e1, e2]
    exact ⟨decide (r > 0), rfl, by rw [e3]; rfl, fun h => e4 (ne_of_empty h (by decide))⟩
theorem fits_none (w : ByteArray) (k : Nat) (hk : 300000 ≤ k) : ∃ r : Bool, espalierref30_fits.f k w 33 = some r := by
  obtain ⟨r, q, e1, e2, e3, e4⟩ := which_eq w [(⟨#[73, 83]⟩ : ByteArray), (⟨#[73, 88]⟩ : ByteArray), (⟨#[83]⟩ : ByteArray), (⟨#[83, 73, 88]⟩ : ByteArray), (⟨#[88]⟩ : ByteArray)] (by decide) k (by omega)
  unfold espalierref30_fits.f espalierref30_modes.f
  rw [if_neg (by decide), if_neg (by decide), if_neg (by decide), if_neg (by decide), if_neg (by decide), Option.bind_some, e2]
  exact ⟨_, rfl⟩
/-! the forms -/
def kinds (l : List UInt8) : Bool := l == [87] || (decide (l.length ≤ 3) && l.all fun b => [(72 : UInt8), 78, 68, 80, 65, 77, 86, 63].contains b)
def refK (l : List UInt8) : List UInt8 := if l = [87] then [43] else l
theorem shape_form (w : ByteArray) (k : Nat) : ∃ (K K' : List UInt8) (ok : Bool), shell_shape.f (k + 10) w = some (mkB K, ok) ∧ espalierref30_form.f (k + 10) w = some (mkB K') ∧ (ok = true ∧ kinds K = true ∧ K' = refK K ∨ ok = false ∧ K' = [33]) := by
  unfold shell_shape.f espalierref30_form.f
  simp only [shell_shape.j0, shell_shape.j1, shell_shape.j2, shell_shape.j3, shell_shape.j4, shell_shape.j5, espalierref30_form.j0, espalierref30_form.j1, espalierref30_form.j2, espalierref30_form.j3, espalierref30_form.j4, espalierref30_form.j5]
  generalize w.toList = t
  by_cases h0 : t = ([111, 112, 101, 110] : List UInt8)
  · subst h0; exact ⟨[], [], true, by decide, by decide, .inl ⟨rfl, by decide, by decide⟩⟩
  by_cases h1 : t = ([118, 97, 108, 105, 100] : List UInt8)
  · subst h1; exact ⟨[], [], true, by decide, by decide, .inl ⟨rfl, by decide, by decide⟩⟩
  by_cases h2 : t = ([107, 101, 101, 112] : List UInt8)
  · subst h2; exact ⟨[], [], true, by decide, by decide, .inl ⟨rfl, by decide, by decide⟩⟩
  by_cases h3 : t = ([116, 97, 98, 108, 101] : List UInt8)
  · subst h3; exact ⟨[], [], true, by decide, by decide, .inl ⟨rfl, by decide, by decide⟩⟩
  by_cases h4 : t = ([104, 101, 108, 100] : List UInt8)
  · subst h4; exact ⟨[], [], true, by decide, by decide, .inl ⟨rfl, by decide, by decide⟩⟩
  by_cases h5 : t = ([115, 121, 110, 99] : List UInt8)
  · subst h5; exact ⟨[], [], true, by decide, by decide, .inl ⟨rfl, by decide, by decide⟩⟩
  by_cases h6 : t = ([115, 110, 97, 112] : List UInt8)
  · subst h6; exact ⟨[], [], true, by decide, by decide, .inl ⟨rfl, by decide, by decide⟩⟩
  by_cases h7 : t = ([99, 114, 97, 115, 104] : List UInt8)
  · subst h7; exact ⟨[], [], true, by decide, by decide, .inl ⟨rfl, by decide, by decide⟩⟩
  by_cases h8 : t = ([105, 100, 115] : List UInt8)
  · subst h8; exact ⟨[], [], true, by decide, by decide, .inl ⟨rfl, by decide, by decide⟩⟩
  by_cases h9 : t = ([101, 100, 105, 116, 115] : List UInt8)
  · subst h9; exact ⟨[], [], true, by decide, by decide, .inl ⟨rfl, by decide, by decide⟩⟩
  by_cases h10 : t = ([115, 117, 109] : List UInt8)
  · subst h10; exact ⟨[], [], true, by decide, by decide, .inl ⟨rfl, by decide, by decide⟩⟩
  by_cases h11 : t = ([108, 111, 97, 100] : List UInt8)
  · subst h11; exact ⟨[86], [86], true, by decide, by decide, .inl ⟨rfl, by decide, by decide⟩⟩
  by_cases h12 : t = ([97, 115, 107] : List UInt8)
  · subst h12; exact ⟨[86], [86], true, by decide, by decide, .inl ⟨rfl, by decide, by decide⟩⟩
  by_cases h13 : t = ([99, 111, 117, 110, 116] : List UInt8)
  · subst h13; exact ⟨[86], [86], true, by decide, by decide, .inl ⟨rfl, by decide, by decide⟩⟩
  by_cases h14 : t = ([112, 117, 116] : List UInt8)
  · subst h14; exact ⟨[80, 72, 86], [80, 72, 86], true, by decide, by decide, .inl ⟨rfl, by decide, by decide⟩⟩
  by_cases h15 : t = ([109, 111, 118, 101] : List UInt8)
  · subst h15; exact ⟨[72, 80, 72], [72, 80, 72], true, by decide, by decide, .inl ⟨rfl, by decide, by decide⟩⟩
  by_cases h16 : t = ([100, 114, 111, 112] : List UInt8)
  · subst h16; exact ⟨[72], [72], true, by decide, by decide, .inl ⟨rfl, by decide, by decide⟩⟩
  by_cases h17 : t = ([115, 104, 111, 119] : List UInt8)
  · subst h17; exact ⟨[72], [72], true, by decide, by decide, .inl ⟨rfl, by decide, by decide⟩⟩
  by_cases h18 : t = ([110, 97, 109, 101] : List UInt8)
  · subst h18; exact ⟨[72, 86], [72, 86], true, by decide, by decide, .inl ⟨rfl, by decide, by decide⟩⟩
  by_cases h19 : t = ([102, 114, 111, 109] : List UInt8)
  · subst h19; exact ⟨[72, 86], [72, 86], true, by decide, by decide, .inl ⟨rfl, by decide, by decide⟩⟩
  by_cases h20 : t = ([116, 101, 120, 116] : List UInt8)
  · subst h20; exact ⟨[72, 63], [72, 63], true, by decide, by decide, .inl ⟨rfl, by decide, by decide⟩⟩
  by_cases h21 : t = ([97, 116, 116, 114] : List UInt8)
  · subst h21; exact ⟨[72, 78, 63], [72, 78, 63], true, by decide, by decide, .inl ⟨rfl, by decide, by decide⟩⟩
  by_cases h22 : t = ([110, 111, 97, 116, 116, 114] : List UInt8)
  · subst h22; exact ⟨[72, 78], [72, 78], true, by decide, by decide, .inl ⟨rfl, by decide, by decide⟩⟩
  by_cases h23 : t = ([119, 97, 108, 107] : List UInt8)
  · subst h23; exact ⟨[65, 72], [65, 72], true, by decide, by decide, .inl ⟨rfl, by decide, by decide⟩⟩
  by_cases h24 : t = ([114, 101, 108] : List UInt8)
  · subst h24; exact ⟨[72, 72], [72, 72], true, by decide, by decide, .inl ⟨rfl, by decide, by decide⟩⟩
  by_cases h25 : t = ([119, 111, 114, 100, 115] : List UInt8)
  · subst h25; exact ⟨[87], [43], true, by decide, by decide, .inl ⟨rfl, by decide, by decide⟩⟩
  by_cases h26 : t = ([112, 104, 114, 97, 115, 101] : List UInt8)
  · subst h26; exact ⟨[87], [43], true, by decide, by decide, .inl ⟨rfl, by decide, by decide⟩⟩
  by_cases h27 : t = ([109, 111, 100, 101, 108] : List UInt8)
  · subst h27; exact ⟨[78, 86], [78, 86], true, by decide, by decide, .inl ⟨rfl, by decide, by decide⟩⟩
  by_cases h28 : t = ([119, 97, 115] : List UInt8)
  · subst h28; exact ⟨[68], [68], true, by decide, by decide, .inl ⟨rfl, by decide, by decide⟩⟩
  by_cases h29 : t = ([102, 97, 114] : List UInt8)
  · subst h29; exact ⟨[68], [68], true, by decide, by decide, .inl ⟨rfl, by decide, by decide⟩⟩
  by_cases h30 : t = ([102, 114, 101, 101] : List UInt8)
  · subst h30; exact ⟨[68], [68], true, by decide, by decide, .inl ⟨rfl, by decide, by decide⟩⟩
  by_cases h31 : t = ([108, 111, 99, 107] : List UInt8)
  · subst h31; exact ⟨[68, 72, 77], [68, 72, 77], true, by decide, by decide, .inl ⟨rfl, by decide, by decide⟩⟩
  refine ⟨[], [33], false, ?_, ?_, .inr ⟨rfl, rfl⟩⟩
  · simp [h0, h1, h2, h3, h4, h5, h6, h7, h8, h9, h10, h11, h12, h13, h14, h15, h16, h17, h18, h19, h20, h21, h22, h23, h24, h25, h26, h27, h28, h29, h30, h31, mkB]
  · simp [h0, h1, h2, h3, h4, h5, h6, h7, h8, h9, h10, h11, h12, h13, h14, h15, h16, h17, h18, h19, h20, h21, h22, h23, h24, h25, h26, h27, h28, h29, h30, h31, mkB]
/-! the words behind a command's word -/
theorem trim_at (s : ByteArray) (hs : s.size ≤ 200000) : strings_Trim.f s (mkB [32]) = some (mkB (trm (Lb s))) := by
  unfold strings_Trim.f
  rw [if_pos ⟨by omega, by decide, by decide⟩]
  rfl
theorem cons_append {α : Type} (a : α) (l : List α) : a :: l = [a] ++ l := rfl
end Go.Proofs.YtggdffgoffmlpaaDoor.PA
