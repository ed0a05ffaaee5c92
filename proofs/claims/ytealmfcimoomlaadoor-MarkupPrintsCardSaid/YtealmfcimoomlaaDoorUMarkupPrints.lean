/- espalierlaw04.MarkupPrints: the walk. -/
import Derived.Test.YtealmfcimoomlaaDoorUPrint
import Derived.Test.YtealmfcimoomlaaDoorPA1
import Derived.Test.YtealmfcimoomlaaDoorUSame
import Derived.Test.YtealmfcimoomlaaDoorUSpoil2
import Derived.Test.YtealmfcimoomlaaDoorUClone
import Derived.Test.YtealmfcimoomlaaDoorPA13
import Derived.Test.YtealmfcimoomlaaDoorPA15
import Derived.Test.YtealmfcimoomlaaDoorPA16
import Derived.Test.YtealmfcimoomlaaDoorPA18
namespace Go.Proofs.YtealmfcimoomlaaDoor.PA
open Go.RowKit Go.Proofs.YtealmfcimoomlaaDoorW.PrintWords Go.Proofs.YtealmfcimoomlaaDoorW.PrintLast Go.Proofs.YtealmfcimoomlaaDoorW.PrintMore
set_option linter.unusedVariables false
set_option linter.unusedSimpArgs false
/-- What the law asks, call by call. -/
structure MarkupAsks (k : Nat) (l0 l1 : List S36) (text : ByteArray) (at_ : Int) (r : Bool) : Prop where
  yes : r = true
  cf : espalierlaw04_Copied.f l0
  cg : espalierlaw04_Copied.f l1
  print : ∃ s e, markup_Print.f k l0 = some (s, e) ∧ espalierref04_Print.f k l0 = some (s, e)
  normal : ∃ n m i, markup_Normal.f k l0 = some (n, i) ∧ espalierref04_Normal.f k l0 = some (m, i) ∧ espalierlaw04_alike.f k n m = some true ∧ espalierlaw04_Spoil.f n
  place : ∃ x y z, markup_Where.f k text at_ = some (x, y, z) ∧ espalierref04_Where.f k text at_ = some (x, y, z)
  same : ∃ b, markup_Same.f k l0 l1 = some b ∧ espalierref04_Same.f k l0 l1 = some b
  self : markup_Same.f k l0 l0 = some true
  stays : espalierlaw04_alike.f k l0 l0 = some true
set_option maxHeartbeats 8000000 in
set_option maxRecDepth 100000 in
theorem espalierlaw04_MarkupPrints.calls (k : Nat) (A0 : Option Addr) (c0 : Nat) (f : List S36) (A1 : Option Addr) (c1 : Nat) (g : List S36) (text : ByteArray) (at_ : Int) (r : Bool) (w : World) (hr0 : Kd.C k36 w A0 f.length f) (hc0 : f.length ≤ c0) (hr1 : Kd.C k36 w A1 g.length g) (hc1 : g.length ≤ c1) (h : MarkupAsks k f g text at_ r) (hG : Glob w := by first | exact Glob.step HG.out (by repeat (first | (with_reducible first | exact HB.out | apply below_alloc | apply pw_below_drewN | apply below_drew1) | exact HB.out | (refine below_set ?_ (Aside0.out (by assumption))))) | exact HG.out | assumption) :
    Calls Tryd.prog 3 #[.slice A0 f.length c0, .slice A1 g.length c1, .string text, .int .i64 at_] w fun e w' => e = .returned (.bool r) ∧ Below w.heap.size w w' := by
  obtain ⟨rfl, cf, cg, ⟨s, e1, hp1, hp2⟩, ⟨n, m, i, hn1, hn2, hal, hsp⟩, ⟨x, y, z, hw1, hw2⟩, ⟨b, hs1, hs2⟩, hself, hst⟩ := h
  have HG := Aside0.mk hG
  have HF := Aside0.mk hr0
  have HFC := Aside0.mk hc0
  have HGR := Aside0.mk hr1
  have HGC := Aside0.mk hc1
  have HC1 := Aside0.mk (espalierlaw04_Copied.calls A0 c0 f w hr0 hc0 cf)
  clear hG hr0 hc0 hr1 hc1
  go_enter Tryd.func3, Tryd.ntmps3
  go_wp2_with (go_at_call 4; refine HC1.out.mono ?_)
  rintro e w1 ⟨v1, rfl, hR1, hB1⟩
  obtain ⟨Ai, ci, rfl⟩ := Kd.R_slice hR1
  have HB1 := Aside0.mk hB1
  have HI1 := Aside0.mk ((Kd.R_reads' hR1).2)
  clear hR1 hB1 HC1
  have HP := Aside0.mk (markup_Print.calls k Ai ci f s e1 w1 HI1.out.2 HI1.out.1 hp1 (Glob.step HG.out HB1.out))
  go_wp2_with (go_at_call 5; refine HP.out.mono ?_)
  rintro e w2 ⟨rfl, hB2⟩
  have HB2 := Aside0.mk (HB1.out.trans (hB2.mono HB1.out.size))
  have HI2 := Aside0.mk (And.intro HI1.out.1 (Kd.C_below HI1.out.2 hB2))
  clear HP hB2 HI1 HB1
  have HP := Aside0.mk (espalierref04_Print.calls k A0 c0 f s e1 w2 (Kd.C_below HF.out HB2.out) HFC.out hp2)
  go_wp2_with (go_at_call 6; refine HP.out.mono ?_)
  rintro e w3 ⟨rfl, hB3⟩
  have HB3 := Aside0.mk (HB2.out.trans (hB3.mono HB2.out.size))
  have HI3 := Aside0.mk (And.intro HI2.out.1 (Kd.C_below HI2.out.2 hB3))
  clear HP hB3 HI2 HB2
  have HP := Aside0.mk (markup_Normal.calls k Ai ci f n i w3 HI3.out.2 HI3.out.1 hn1 (Glob.step HG.out HB3.out))
  go_wp2_with (go_at_call 7; refine HP.out.mono ?_)
  rintro e w4 ⟨v4, rfl, hR4, hB4⟩
  obtain ⟨An, cn, rfl⟩ := Kd.R_slice hR4
  have HR4 := Aside0.mk hR4
  have HD4 := Aside0.mk hB4
  have HB4 := Aside0.mk (HB3.out.trans (hB4.mono HB3.out.size))
  clear HP hB4 hR4
  have HP := Aside0.mk (espalierref04_Normal.calls k A0 c0 f m i w4 (Kd.C_below HF.out HB4.out) HFC.out hn2)
  go_wp2_with (go_at_call 8; refine HP.out.mono ?_)
  rintro e w5 ⟨v5, rfl, hR5, hB5⟩
  obtain ⟨Am, cm, rfl⟩ := Kd.R_slice hR5
  have HR5 := Aside0.mk (Kd.R_below HR4.out hB5)
  have HM5 := Aside0.mk ((Kd.R_reads' hR5).2)
  have HD5 := Aside0.mk (HD4.out.trans (hB5.mono HD4.out.size))
  clear HP hB5 hR5 HR4 HD4 HB4
  have HP := Aside0.mk (markup_Where.calls k text at_ x y z w5 hw1)
  go_wp2_with (go_at_call 9; refine HP.out.mono ?_)
  rintro e w6 ⟨rfl, hB6⟩
  have HR6 := Aside0.mk (Kd.R_below HR5.out hB6)
  have HM6 := Aside0.mk (And.intro HM5.out.1 (Kd.C_below HM5.out.2 hB6))
  have HD6 := Aside0.mk (HD5.out.trans (hB6.mono HD5.out.size))
  clear HP hB6 HR5 HM5 HD5
  have HP := Aside0.mk (espalierref04_Where.calls k text at_ x y z w6 hw2)
  go_wp2_with (go_at_call 10; refine HP.out.mono ?_)
  rintro e w7 ⟨rfl, hD7⟩
  have hB7 := hD7.below
  have HR7 := Aside0.mk (Kd.R_below HR6.out hB7)
  have HM7 := Aside0.mk (And.intro HM6.out.1 (Kd.C_below HM6.out.2 hB7))
  have HD7 := Aside0.mk (HD6.out.trans (hB7.mono HD6.out.size))
  clear HP hB7 HR6 HM6 HD6 hD7
  have HP := Aside0.mk (espalierlaw04_alike.calls k An cn n Am cm m true w7 (Kd.R_reads' HR7.out).2.2 (Kd.R_reads' HR7.out).2.1 HM7.out.2 HM7.out.1 hal)
  go_wp2_with (go_at_call 11; refine HP.out.mono ?_)
  rintro e w8 ⟨rfl, hB8⟩
  have HR8 := Aside0.mk (Kd.R_below HR7.out hB8)
  have HD8 := Aside0.mk (HD7.out.trans (hB8.mono HD7.out.size))
  clear HP hB8 HR7 HM7 HD7
  have HP := Aside0.mk (espalierlaw04_Copied.calls A1 c1 g w8 (Kd.C_below HGR.out (HB3.out.trans (HD8.out.mono HB3.out.size))) HGC.out cg)
  go_wp2_with (go_at_call 4; refine HP.out.mono ?_)
  rintro e w9 ⟨v9, rfl, hR9, hB9⟩
  obtain ⟨Ag, cg', rfl⟩ := Kd.R_slice hR9
  have HR9 := Aside0.mk (Kd.R_below HR8.out hB9)
  have HM9 := Aside0.mk ((Kd.R_reads' hR9).2)
  have HD9 := Aside0.mk (HD8.out.trans (hB9.mono HD8.out.size))
  clear HP hB9 hR9 HR8 HD8
  have HP := Aside0.mk (markup_Same.calls k Ai ci f Ag cg' g b w9 (Kd.C_below HI3.out.2 HD9.out) HI3.out.1 HM9.out.2 HM9.out.1 hs1)
  go_wp2_with (go_at_call 12; refine HP.out.mono ?_)
  rintro e w10 ⟨rfl, hB10⟩
  have HR10 := Aside0.mk (Kd.R_below HR9.out hB10)
  have HD10 := Aside0.mk (HD9.out.trans (hB10.mono HD9.out.size))
  clear HP hB10 HR9 HD9 HM9
  have HB10 := Aside0.mk (HB3.out.trans (HD10.out.mono HB3.out.size))
  have HP := Aside0.mk (espalierref04_Same.calls k A0 c0 f A1 c1 g b w10 (Kd.C_below HF.out HB10.out) HFC.out (Kd.C_below HGR.out HB10.out) HGC.out hs2)
  go_wp2_with (go_at_call 13; refine HP.out.mono ?_)
  rintro e w11 ⟨rfl, hB11⟩
  have HR11 := Aside0.mk (Kd.R_below HR10.out hB11)
  have HD11 := Aside0.mk (HD10.out.trans (hB11.mono HD10.out.size))
  clear HP hB11 HR10 HD10 HB10
  have HP := Aside0.mk (espalierlaw04_Copied.calls A0 c0 f w11 (Kd.C_below HF.out (HB3.out.trans (HD11.out.mono HB3.out.size))) HFC.out cf)
  have hbb : (b == b) = true := beq_self_eq_true b
  go_wp2_with (go_at_call 4; refine HP.out.mono ?_)
  rintro e w12 ⟨v12, rfl, hR12, hB12⟩
  obtain ⟨Ag2, cg2, rfl⟩ := Kd.R_slice hR12
  have HR12 := Aside0.mk (Kd.R_below HR11.out hB12)
  have HM12 := Aside0.mk ((Kd.R_reads' hR12).2)
  have HD12 := Aside0.mk (HD11.out.trans (hB12.mono HD11.out.size))
  clear HP hB12 hR12 HR11 HD11
  have HP := Aside0.mk (markup_Same.calls k Ai ci f Ag2 cg2 f true w12 (Kd.C_below HI3.out.2 HD12.out) HI3.out.1 HM12.out.2 HM12.out.1 hself)
  go_wp2_with (go_at_call 12; refine HP.out.mono ?_)
  rintro e w13 ⟨rfl, hB13⟩
  have HR13 := Aside0.mk (Kd.R_below HR12.out hB13)
  have HD13 := Aside0.mk (HD12.out.trans (hB13.mono HD12.out.size))
  clear HP hB13 HR12 HD12 HM12
  have HP := Aside0.mk (espalierlaw04_Spoil.calls w3.heap.size _ _ n w13 HD13.out.size HR13.out hsp)
  go_wp2_with (go_at_call 14; refine HP.out.mono ?_)
  rintro e w14 ⟨rfl, hB14⟩
  have HD14 := Aside0.mk (HD13.out.trans hB14)
  clear HP hB14 HR13 HD13
  have HP := Aside0.mk (espalierlaw04_alike.calls k Ai ci f A0 c0 f true w14 (Kd.C_below HI3.out.2 HD14.out) HI3.out.1 (Kd.C_below HF.out (HB3.out.trans (HD14.out.mono HB3.out.size))) HFC.out hst)
  go_wp2_with (go_at_call 11; refine HP.out.mono ?_; rintro e w15 ⟨rfl, hB15⟩)
  go_ret
  exact ⟨rfl, (HB3.out.trans (HD14.out.mono HB3.out.size)).trans (hB15.mono (HB3.out.trans (HD14.out.mono HB3.out.size)).size)⟩
end Go.Proofs.YtealmfcimoomlaaDoor.PA
