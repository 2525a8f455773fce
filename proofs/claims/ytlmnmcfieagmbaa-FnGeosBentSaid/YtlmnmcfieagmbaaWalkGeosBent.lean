/- The walk of the law FnGeosBent: with what its calls come to laid ahead, it returns true and turns nothing that was there. Printed by mkgeosbent.py. -/
import Derived.Test.YtlmnmcfieagmbaaQFnGeosBentx3
import Derived.Test.YtlmnmcfieagmbaaRG
namespace Go.Proofs.Ytlmnmcfieagmbaa.WalkGeosBent
open Go.RowKit Go.Proofs.Ytlmnmcfieagmbaa.RJ Go.Proofs.Ytlmnmcfieagmbaa.RP Go.Proofs.Ytlmnmcfieagmbaa.PFnGeosBent Go.Proofs.YtlmnmcfieagmbaaW.PrintWords Go.Proofs.YtlmnmcfieagmbaaW.PrintLast Go.Proofs.YtlmnmcfieagmbaaW.PrintMore
set_option linter.unusedVariables false
theorem two {w : World} {g : Nat} {a b : Value} {t : TypeId} (h : w.heap[g]? = some (.cells #[a, b] t (0, 0))) : w.cell? ⟨g, 0, none⟩ = some a ∧ w.cell? ⟨g, 1, none⟩ = some b := ⟨(blk_cell h 0).trans rfl, (blk_cell h 1).trans rfl⟩
/-- What two ints in a box read, later. -/
structure Box2 (w : World) (g : Nat) (a b : Int) : Prop where
  out : ∀ W, Below w.heap.size w W → W.cell? ⟨g, 0, none⟩ = some (.int .i64 a) ∧ W.cell? ⟨g, 1, none⟩ = some (.int .i64 b)
theorem Box2.new (w : World) (a b : Int) (t : TypeId) : Box2 (w.alloc (.cells #[.int .i64 a, .int .i64 b] t (0, 0))) w.heap.size a b := ⟨fun W h => two (blk_below (blk_new w _) h)⟩
theorem Box2.move {w w1 : World} {g : Nat} {a b : Int} (h : Box2 w g a b) (hb : Below w.heap.size w w1) : Box2 w1 g a b := ⟨fun W k => h.out W (hb.trans (k.mono hb.size))⟩
theorem below_al (w : World) (o : Obj) : Below w.heap.size w (w.alloc o) := below_alloc (Below.refl _ _) o
structure Row (w : World) (l : List Int) (v : Value) : Prop where
  out : ∃ A c, v = .slice A l.length c ∧ l.length ≤ c ∧ ∀ W, Below w.heap.size w W → Kd.C (Kd.int .i64) W A l.length l
set_option maxHeartbeats 4000000 in
theorem walk (k : Nat) (A0 : Option Addr) (c0 : Nat) (l0 : List Int) (w : World) (hr0 : Kd.C (Kd.int .u8) w A0 l0.length l0) (hc0 : l0.length ≤ c0) (hbig : laws_big.f l0 = some false)
    (gn gs : Int) (h71 : spec_DrawGeoOk.f k l0 = some (gn, gs)) (hn hs hst hi : Int) (h72 : spec_DrawDiskOf.f k l0 = some (hn, hs, hst, hi)) (kn ks kb : Int) (h73 : spec_DrawStripeOf.f k l0 = some (kn, ks, kb))
    (ml : List Int) (mq : Int) (h74 : spec_DrawMissingWord.f k l0 = some (ml, mq)) (pn ps pt : Int) (h75 : spec_DrawParityOf.f k l0 = some (pn, ps, pt))
    (r1 : Bool) (hi76 : impl_GeoOk.f gn gs = some r1) (hs76 : spec_GeoOk.f gn gs = some r1)
    (r2 : Int) (hi78 : impl_DiskOf.f hn hs hst hi = some r2) (hs78 : spec_DiskOf.f hn hs hst hi = some r2)
    (r3 : Int) (hi80 : impl_BlockAt.f hn hs hst hi = some r3) (hs80 : spec_BlockAt.f hn hs hst hi = some r3)
    (r4 : Int) (hi82 : impl_StripeOf.f kn ks kb = some r4) (hs82 : spec_StripeOf.f kn ks kb = some r4)
    (r5 : Int) (hi84 : impl_IndexOf.f kn ks kb = some r5) (hs84 : spec_IndexOf.f kn ks kb = some r5)
    (r6 : Int) (hi86 : impl_MissingWord.f k ml mq = some r6) (hs86 : spec_MissingWord.f k ml mq = some r6)
    (r7 : Int) (hi88 : impl_ParityOf.f pn ps pt = some r7) (hs88 : spec_ParityOf.f pn ps pt = some r7)
    (r8 : Int) (hi90 : impl_Blocks.f gn gs = some r8) (hs90 : spec_Blocks.f gn gs = some r8) :
    Calls Try.prog 10 #[.slice A0 l0.length c0] w fun e w' => e = .returned (.bool true) ∧ Below w.heap.size w w' := by
  have Hr := Aside0.mk hr0
  have Hc := Aside0.mk hc0
  have Hbig := Aside0.mk hbig
  have H71 := Aside0.mk h71
  have H72 := Aside0.mk h72
  have H73 := Aside0.mk h73
  have H74 := Aside0.mk h74
  have H75 := Aside0.mk h75
  have Hi76 := Aside0.mk hi76
  have Hs76 := Aside0.mk hs76
  have Hi78 := Aside0.mk hi78
  have Hs78 := Aside0.mk hs78
  have Hi80 := Aside0.mk hi80
  have Hs80 := Aside0.mk hs80
  have Hi82 := Aside0.mk hi82
  have Hs82 := Aside0.mk hs82
  have Hi84 := Aside0.mk hi84
  have Hs84 := Aside0.mk hs84
  have Hi86 := Aside0.mk hi86
  have Hs86 := Aside0.mk hs86
  have Hi88 := Aside0.mk hi88
  have Hs88 := Aside0.mk hs88
  have Hi90 := Aside0.mk hi90
  have Hs90 := Aside0.mk hs90
  clear hr0 hc0 hbig h71 h72 h73 h74 h75 hi76 hs76 hi78 hs78 hi80 hs80 hi82 hs82 hi84 hs84 hi86 hs86 hi88 hs88 hi90 hs90
  go_enter Try.func10, Try.ntmps10
  go_upto_region 3 with (first
    | (go_at_call 18; (with_reducible refine (laws_big.calls A0 c0 l0 false _ Hr.out Hc.out Hbig.out).mono ?_); rintro e w1 ⟨rfl, ⟨nd, rfl⟩⟩)
    | fail)
  have hb0 : Below w.heap.size w (w.drewN nd) := pw_below_drewN (Below.refl _ _) _
  generalize w.drewN nd = w0 at *
  have HB0 := Aside0.mk hb0
  clear hb0

  go_upto_region 4 with (first
    | (go_at_call 71; refine (spec_DrawGeoOk.calls k A0 c0 l0 gn gs _ (Kd.C_below Hr.out HB0.out) Hc.out H71.out).mono ?_; rintro e w1 ⟨rfl, hb⟩; have HB1 := Aside0.mk (HB0.out.trans (hb.mono HB0.out.size)); clear hb)
    | fail)
  have B3 := Box2.new w1 gn gs 78
  have HB1' := HB1.out.trans ((below_al w1 (.cells #[.int .i64 gn, .int .i64 gs] 78 (0, 0))).mono HB1.out.size)
  generalize w1.heap.size = g3 at *
  generalize w1.alloc (.cells #[.int .i64 gn, .int .i64 gs] 78 (0, 0)) = v1 at *
  have HV1 := Aside0.mk HB1'
  clear HB1 HB1' HB0
  go_upto_region 5 with (first
    | (go_at_call 72; refine (spec_DrawDiskOf.calls k A0 c0 l0 hn hs hst hi _ (Kd.C_below Hr.out HV1.out) Hc.out H72.out).mono ?_; rintro e w2 ⟨rfl, hb⟩; have HB2 := Aside0.mk (HV1.out.trans (hb.mono HV1.out.size)); replace B3 := B3.move hb; clear hb)
    | fail)
  replace B3 := B3.move (below_al w2 (.cells #[.int .i64 hn, .int .i64 hs] 78 (0, 0)))
  have B4 := Box2.new w2 hn hs 78
  have HB2' := HB2.out.trans ((below_al w2 (.cells #[.int .i64 hn, .int .i64 hs] 78 (0, 0))).mono HB2.out.size)
  generalize w2.heap.size = g4 at *
  generalize w2.alloc (.cells #[.int .i64 hn, .int .i64 hs] 78 (0, 0)) = v2 at *
  have HV2 := Aside0.mk HB2'
  clear HB2 HB2' HV1
  go_upto_region 6 with (first
    | (go_at_call 73; refine (spec_DrawStripeOf.calls k A0 c0 l0 kn ks kb _ (Kd.C_below Hr.out HV2.out) Hc.out H73.out).mono ?_; rintro e w3 ⟨rfl, hb⟩; have HB3 := Aside0.mk (HV2.out.trans (hb.mono HV2.out.size)); replace B3 := B3.move hb; replace B4 := B4.move hb; clear hb)
    | fail)
  replace B3 := B3.move (below_al w3 (.cells #[.int .i64 kn, .int .i64 ks] 78 (0, 0)))
  replace B4 := B4.move (below_al w3 (.cells #[.int .i64 kn, .int .i64 ks] 78 (0, 0)))
  have B7 := Box2.new w3 kn ks 78
  have HB3' := HB3.out.trans ((below_al w3 (.cells #[.int .i64 kn, .int .i64 ks] 78 (0, 0))).mono HB3.out.size)
  generalize w3.heap.size = g7 at *
  generalize w3.alloc (.cells #[.int .i64 kn, .int .i64 ks] 78 (0, 0)) = v3 at *
  have HV3 := Aside0.mk HB3'
  clear HB3 HB3' HV2
  go_upto_region 7 with (first
    | (go_at_call 74; refine (spec_DrawMissingWord.calls k A0 c0 l0 ml mq _ (Kd.C_below Hr.out HV3.out) Hc.out H74.out).mono ?_; rintro e w4 ⟨vm, rfl, hR, hb⟩; have HB4 := Aside0.mk (HV3.out.trans (hb.mono HV3.out.size)); replace B3 := B3.move hb; replace B4 := B4.move hb; replace B7 := B7.move hb; clear hb; obtain ⟨Am, cm, rfl, hcm, hCm⟩ := Kd.R_reads hR; have HCm := Aside0.mk hCm; clear hR hCm)
    | fail)
  go_upto_region 8 with (first
    | (go_at_call 75; refine (spec_DrawParityOf.calls k A0 c0 l0 pn ps pt _ (Kd.C_below Hr.out HB4.out) Hc.out H75.out).mono ?_; rintro e w5 ⟨rfl, hb⟩; have HB5 := Aside0.mk (HB4.out.trans (hb.mono HB4.out.size)); replace B3 := B3.move hb; replace B4 := B4.move hb; replace B7 := B7.move hb; replace HCm := Aside0.mk (Kd.C_below HCm.out hb); clear hb HB4)
    | fail)
  have hal := below_al w5 (.cells #[.int .i64 pn, .int .i64 ps] 78 (0, 0))
  replace B3 := B3.move hal
  replace B4 := B4.move hal
  replace B7 := B7.move hal
  have hCm := Kd.C_below HCm.out hal
  have B11 := Box2.new w5 pn ps 78
  have HB5' := HB5.out.trans (hal.mono HB5.out.size)
  generalize w5.heap.size = g11 at *
  generalize w5.alloc (.cells #[.int .i64 pn, .int .i64 ps] 78 (0, 0)) = v5 at *
  clear hal HCm
  have HCm := Aside0.mk hCm
  have HV5 := Aside0.mk HB5'
  clear hCm HB5 HB5' HV3
  have HX := Aside0.mk (Below.refl v5.heap.size v5)
  obtain ⟨c30, c31⟩ := B3.out v5 HX.out
  obtain ⟨c40, c41⟩ := B4.out v5 HX.out
  obtain ⟨c70, c71⟩ := B7.out v5 HX.out
  obtain ⟨c110, c111⟩ := B11.out v5 HX.out
  have HALL : ∀ w', Below v5.heap.size v5 w' → (w'.cell? ⟨g3, 0, none⟩ = some (.int .i64 gn) ∧ w'.cell? ⟨g3, 1, none⟩ = some (.int .i64 gs) ∧ w'.cell? ⟨g4, 0, none⟩ = some (.int .i64 hn) ∧ w'.cell? ⟨g4, 1, none⟩ = some (.int .i64 hs) ∧ w'.cell? ⟨g7, 0, none⟩ = some (.int .i64 kn) ∧ w'.cell? ⟨g7, 1, none⟩ = some (.int .i64 ks) ∧ w'.cell? ⟨g11, 0, none⟩ = some (.int .i64 pn) ∧ w'.cell? ⟨g11, 1, none⟩ = some (.int .i64 ps)) := fun w' h => ⟨(B3.out w' h).1, (B3.out w' h).2, (B4.out w' h).1, (B4.out w' h).2, (B7.out w' h).1, (B7.out w' h).2, (B11.out w' h).1, (B11.out w' h).2⟩
  replace HALL := Aside0.mk HALL
  replace HX := Below.drew HX.out
  clear B3 B4 B7 B11
  simp only [List.append_eq, List.cons_append, List.nil_append]
  go_region_held3 (fun w' => w'.cell? ⟨g3, 0, none⟩ = some (.int .i64 gn) ∧ w'.cell? ⟨g3, 1, none⟩ = some (.int .i64 gs) ∧ w'.cell? ⟨g4, 0, none⟩ = some (.int .i64 hn) ∧ w'.cell? ⟨g4, 1, none⟩ = some (.int .i64 hs) ∧ w'.cell? ⟨g7, 0, none⟩ = some (.int .i64 kn) ∧ w'.cell? ⟨g7, 1, none⟩ = some (.int .i64 ks) ∧ w'.cell? ⟨g11, 0, none⟩ = some (.int .i64 pn) ∧ w'.cell? ⟨g11, 1, none⟩ = some (.int .i64 ps))
    ((refine HALL.out _ ?_; first | exact HX | exact Below.drew HX))
    (first
    | (go_at_call 76; refine (impl_GeoOk.calls gn gs r1 _ Hi76.out).mono ?_; rintro e x1 ⟨rfl, hb⟩; replace HX := HX.trans (hb.mono HX.size); clear hb)
    | (go_at_call 77; refine (spec_GeoOk.calls gn gs r1 _ Hs76.out).mono ?_; rintro e x2 ⟨rfl, hb⟩; replace HX := HX.trans (hb.mono HX.size); clear hb)
    | (go_at_call 78; refine (impl_DiskOf.calls hn hs hst hi r2 _ Hi78.out).mono ?_; rintro e x3 ⟨rfl, hb⟩; replace HX := HX.trans (hb.mono HX.size); clear hb)
    | (go_at_call 79; refine (spec_DiskOf.calls hn hs hst hi r2 _ Hs78.out).mono ?_; rintro e x4 ⟨rfl, hb⟩; replace HX := HX.trans (hb.mono HX.size); clear hb)
    | (go_at_call 80; refine (impl_BlockAt.calls hn hs hst hi r3 _ Hi80.out).mono ?_; rintro e x5 ⟨rfl, hb⟩; replace HX := HX.trans (hb.mono HX.size); clear hb)
    | (go_at_call 81; refine (spec_BlockAt.calls hn hs hst hi r3 _ Hs80.out).mono ?_; rintro e x6 ⟨rfl, hb⟩; replace HX := HX.trans (hb.mono HX.size); clear hb)
    | (go_at_call 82; refine (impl_StripeOf.calls kn ks kb r4 _ Hi82.out).mono ?_; rintro e x7 ⟨rfl, hb⟩; replace HX := HX.trans (hb.mono HX.size); clear hb)
    | (go_at_call 83; refine (spec_StripeOf.calls kn ks kb r4 _ Hs82.out).mono ?_; rintro e x8 ⟨rfl, hb⟩; replace HX := HX.trans (hb.mono HX.size); clear hb)
    | (go_at_call 84; refine (impl_IndexOf.calls kn ks kb r5 _ Hi84.out).mono ?_; rintro e x9 ⟨rfl, hb⟩; replace HX := HX.trans (hb.mono HX.size); clear hb)
    | (go_at_call 85; refine (spec_IndexOf.calls kn ks kb r5 _ Hs84.out).mono ?_; rintro e x10 ⟨rfl, hb⟩; replace HX := HX.trans (hb.mono HX.size); clear hb)
    | (go_at_call 86; refine (impl_MissingWord.calls k Am cm ml mq r6 _ (Kd.C_below HCm.out HX) hcm Hi86.out).mono ?_; rintro e x11 ⟨rfl, hb⟩; replace hb := Drawn0.below hb; replace HX := HX.trans (hb.mono HX.size); clear hb)
    | (go_at_call 87; refine (spec_MissingWord.calls k Am cm ml mq r6 _ (Kd.C_below HCm.out HX) hcm Hs86.out).mono ?_; rintro e x12 ⟨rfl, hb⟩; replace hb := Drawn0.below hb; replace HX := HX.trans (hb.mono HX.size); clear hb)
    | (go_at_call 88; refine (impl_ParityOf.calls pn ps pt r7 _ Hi88.out).mono ?_; rintro e x13 ⟨rfl, hb⟩; replace HX := HX.trans (hb.mono HX.size); clear hb)
    | (go_at_call 89; refine (spec_ParityOf.calls pn ps pt r7 _ Hs88.out).mono ?_; rintro e x14 ⟨rfl, hb⟩; replace HX := HX.trans (hb.mono HX.size); clear hb)
    | (go_at_call 90; refine (impl_Blocks.calls gn gs r8 _ Hi90.out).mono ?_; rintro e x15 ⟨rfl, hb⟩; replace HX := HX.trans (hb.mono HX.size); clear hb)
    | (go_at_call 91; refine (spec_Blocks.calls gn gs r8 _ Hs90.out).mono ?_; rintro e x16 ⟨rfl, hb⟩; replace HX := HX.trans (hb.mono HX.size); clear hb)
    | fail)
  all_goals (go_wp2; go_ret; exact ⟨by simp, HV5.out.trans (HX.mono HV5.out.size)⟩)
theorem walk_big (A0 : Option Addr) (c0 : Nat) (l0 : List Int) (w : World) (hr0 : Kd.C (Kd.int .u8) w A0 l0.length l0) (hc0 : l0.length ≤ c0) (hbig : laws_big.f l0 = some true) :
    Calls Try.prog 10 #[.slice A0 l0.length c0] w fun e w' => e = .returned (.bool true) ∧ Below w.heap.size w w' := by
  have Hr := Aside0.mk hr0
  have Hc := Aside0.mk hc0
  have Hbig := Aside0.mk hbig
  clear hr0 hc0 hbig
  go_enter Try.func10, Try.ntmps10
  go_wp2_with (first | (go_at_call 18; (with_reducible refine (laws_big.calls A0 c0 l0 true _ Hr.out Hc.out Hbig.out).mono ?_); rintro e w1 ⟨rfl, ⟨nd, rfl⟩⟩) | fail)
  go_ret
  exact ⟨rfl, pw_below_drewN (Below.refl _ _) _⟩
end Go.Proofs.Ytlmnmcfieagmbaa.WalkGeosBent
