/- Own text: AOkA. -/
import Derived.Test.YtggmifnblcjdfaaGreatXAOkI
import Derived.Test.YtggmifnblcjdfaaGreatXAOkS
set_option linter.unusedVariables false
set_option linter.unusedSimpArgs false
namespace Go.Proofs.YtggmifnblcjdfaaGreat
namespace AOkA
open Go.RowKit RJ RP Go.Proofs.YtggmifnblcjdfaaGreatW.PrintWords Fp FpStep MInt MKinds MRead MMake MPut MHeld MOk MSuper Go.Proofs.YtggmifnblcjdfaaGreat.Sep SepStep AKinds AMake AEnt ALaw AArr AOk AOkD AOkI AOkS
structure ArrP (a : ArrV) : Prop where
 geo : geoB a.gn a.gs = true
 id : inR a.id 1 60000 = true
 mems : memsB a = true
 len : (a.mems.length : Int) = a.gn
 dirty : dirtyB a = true
 lost : lostB a.gn a.gs a.lost a.built = true
 tail : 0 ≤ a.tail ∧ a.tail ≤ 60000
 seq : a.tail ≤ a.seq ∧ a.seq ≤ 60000
 seq4 : a.seq ≤ a.tail + 4
 gen : inR a.gen 0 60000 = true
 fuse : inR a.fuse (-1) 1000 = true
theorem arrP_iff (a : ArrV) : ArrP a ↔ (geoB a.gn a.gs = true ∧ inR a.id 1 60000 = true ∧ memsB a = true ∧ (a.mems.length : Int) = a.gn ∧ dirtyB a = true ∧ lostB a.gn a.gs a.lost a.built = true ∧ (0 ≤ a.tail ∧ a.tail ≤ 60000) ∧ (a.tail ≤ a.seq ∧ a.seq ≤ 60000) ∧ a.seq ≤ a.tail + 4 ∧ inR a.gen 0 60000 = true ∧ inR a.fuse (-1) 1000 = true) :=
 ⟨fun ⟨h1, h2, h3, h4, h5, h6, h7, h8, h9, h10, h11⟩ => ⟨h1, h2, h3, h4, h5, h6, h7, h8, h9, h10, h11⟩, fun ⟨h1, h2, h3, h4, h5, h6, h7, h8, h9, h10, h11⟩ => ⟨h1, h2, h3, h4, h5, h6, h7, h8, h9, h10, h11⟩⟩
instance (a : ArrV) : Decidable (ArrP a) := decidable_of_iff _ (arrP_iff a).symm
def arrB (a : ArrV) : Bool := decide (ArrP a)
theorem arrB_yes {a : ArrV} (h : ArrP a) : arrB a = true := decide_eq_true h
theorem arrB_no {a : ArrV} (h : ¬ ArrP a) : arrB a = false := decide_eq_false h
theorem arrB_P {a : ArrV} (h : arrB a = true) : ArrP a := of_decide_eq_true h
set_option maxHeartbeats 8000000 in
set_option maxRecDepth 100000 in
theorem specTail0 {w : World} {vm vd : Value} {id gn gs : Int} {mems : List MemV} {lost built seq tail gen : Int} {dirty : List (Int × List Int)} {fuse : Int} {down broken : Bool} (H : Aside0 (ArrR w (.agg #[.int .i64 id, .int .i64 gn, .int .i64 gs, vm, .int .i64 lost, .int .i64 built, .int .i64 seq, .int .i64 tail, .int .i64 gen, vd, .int .i64 fuse, .bool down, .bool broken]) (⟨id, gn, gs, mems, lost, built, seq, tail, gen, dirty, fuse, down, broken⟩ : ArrV))) (HML : Aside0 (mems.length ≤ 16777216)) (HSM : Aside0 (∀ m ∈ mems, Small m)) (h1 : geoB gn gs = true) (h2 : inR id 1 60000 = true) (h3 : (memsB (⟨id, gn, gs, mems, lost, built, seq, tail, gen, dirty, fuse, down, broken⟩ : ArrV) && decide ((mems.length : Int) = gn)) = true) (h4 : dirtyB (⟨id, gn, gs, mems, lost, built, seq, tail, gen, dirty, fuse, down, broken⟩ : ArrV) = true) (h5 : inR lost (-1) (gn - 1) = true) (h6 : inR built 0 gs = true) (h7 : lost = -1) (h7c : built = 0) :
  Calls Tryz.prog 59 #[.agg #[.int .i64 id, .int .i64 gn, .int .i64 gs, vm, .int .i64 lost, .int .i64 built, .int .i64 seq, .int .i64 tail, .int .i64 gen, vd, .int .i64 fuse, .bool down, .bool broken]] w fun e w' => e = .returned (.bool (arrB (⟨id, gn, gs, mems, lost, built, seq, tail, gen, dirty, fuse, down, broken⟩ : ArrV))) ∧ Below w.heap.size w w' := by
 have HS := Aside0.mk ((Sep.start w []).alloc (g := w.heap.size) rfl #[.int .i64 id, .int .i64 gn, .int .i64 gs, vm, .int .i64 lost, .int .i64 built, .int .i64 seq, .int .i64 tail, .int .i64 gen, vd, .int .i64 fuse, .bool down, .bool broken] 34)
 obtain ⟨k0, k1, k2, k3, k4, k5, k6, k7, k8, k9, k10, k11, k12⟩ := thirteen (HS.out.get 0 rfl)
 have H1 := Aside0.mk h1
 have hgs : 0 ≤ gs ∧ gs ≤ 1000 := by simp [geoB, inR] at h1; omega
 have hgn : 0 ≤ gn ∧ gn ≤ 1000 := by simp [geoB, inR] at h1; omega
 have HGS := Aside0.mk hgs
 have HGN := Aside0.mk hgn
 have wgn : IntKind.i64.wrap (gn - 1) = gn - 1 := IntWalk.i64_in _ (by omega)
 have H3 := Aside0.mk h3
 clear h3
 have H4 := Aside0.mk h4
 clear h4
 clear h1 hgs hgn
 have h7b : (lost == -1) = true := by simp [h7]
 have H7 := Aside0.mk h7
 clear h7
 have h7d : (built != 0) = false := by simp [h7c]
 have H7C := Aside0.mk h7c
 clear h7c
 by_cases h8 : inR tail 0 60000 = true
 ·have ht8 : 0 ≤ tail ∧ tail ≤ 60000 := by simpa [inR] using h8
  have wt : IntKind.i64.wrap (tail + 4) = tail + 4 := IntWalk.i64_in _ (by omega)
  clear ht8
  by_cases h9 : inR seq tail 60000 = true
  ·by_cases h10 : seq ≤ tail + 4
   ·have h10b : decide (seq ≤ tail + 4) = true := decide_eq_true h10
    by_cases h11 : inR gen 0 60000 = true
    ·by_cases h12 : inR fuse (-1) 1000 = true
     ·have hv : arrB (⟨id, gn, gs, mems, lost, built, seq, tail, gen, dirty, fuse, down, broken⟩ : ArrV) = true := arrB_yes ⟨H1.out, h2, (Bool.and_eq_true_iff.1 H3.out).1, of_decide_eq_true (Bool.and_eq_true_iff.1 H3.out).2, H4.out, by (show lostB gn gs lost built = true); unfold lostB; rw [h5, h6]; first | (rw [show (built == 0) = true by simpa using H7C.out]; rfl) | (rw [show (lost != -1) = true by simpa using H7.out]; cases (built == 0) <;> rfl), by simpa [inR] using h8, by simpa [inR] using h9, h10, h11, h12⟩
      have HV := Aside0.mk hv
      clear hv
      go_enter Tryz.func59, Tryz.ntmps59
      go_wp2_with (first
       | (go_at_call 104; refine (c_specGeoOk _ _ _).mono ?_; rw [H1.out]; rintro e wq ⟨rfl, hb⟩; have hs' := HS.out.below hb; clear hb HS; have HS := Aside0.mk hs'; clear hs'; clear k0 k1 k2 k3 k4 k5 k6 k7 k8 k9 k10 k11 k12; obtain ⟨k0, k1, k2, k3, k4, k5, k6, k7, k8, k9, k10, k11, k12⟩ := thirteen (HS.out.get 0 rfl))
       | (go_at_call 105; refine (c_specL6Mems (ArrR_below H.out HS.out.toBelow) HGS.out HML.out HSM.out).mono ?_; rw [H3.out]; rintro e wq ⟨rfl, hb⟩; have hs' := HS.out.below hb; clear hb HS; have HS := Aside0.mk hs'; clear hs'; clear k0 k1 k2 k3 k4 k5 k6 k7 k8 k9 k10 k11 k12; obtain ⟨k0, k1, k2, k3, k4, k5, k6, k7, k8, k9, k10, k11, k12⟩ := thirteen (HS.out.get 0 rfl))
       | (go_at_call 106; refine (c_specL6Dirty (ArrR_below H.out HS.out.toBelow) HGS.out HGN.out).mono ?_; rw [H4.out]; rintro e wq ⟨rfl, hb⟩; have hs' := HS.out.below hb; clear hb HS; have HS := Aside0.mk hs'; clear hs'; clear k0 k1 k2 k3 k4 k5 k6 k7 k8 k9 k10 k11 k12; obtain ⟨k0, k1, k2, k3, k4, k5, k6, k7, k8, k9, k10, k11, k12⟩ := thirteen (HS.out.get 0 rfl))
       | (go_at_call 70; refine (c_l1In _ _ _ _).mono ?_; rintro e wq ⟨rfl, hb⟩; have hs' := HS.out.dr hb; clear hb HS; have HS := Aside0.mk hs'; clear hs'; clear k0 k1 k2 k3 k4 k5 k6 k7 k8 k9 k10 k11 k12; obtain ⟨k0, k1, k2, k3, k4, k5, k6, k7, k8, k9, k10, k11, k12⟩ := thirteen (HS.out.get 0 rfl))
       | fail)
      go_ret
      exact ⟨ret_bool HV.out.symm, HS.out.toBelow⟩
     ·simp only [Bool.not_eq_true] at h12
      go_enter Tryz.func59, Tryz.ntmps59
      go_wp2_with (first
       | (go_at_call 104; refine (c_specGeoOk _ _ _).mono ?_; rw [H1.out]; rintro e wq ⟨rfl, hb⟩; have hs' := HS.out.below hb; clear hb HS; have HS := Aside0.mk hs'; clear hs'; clear k0 k1 k2 k3 k4 k5 k6 k7 k8 k9 k10 k11 k12; obtain ⟨k0, k1, k2, k3, k4, k5, k6, k7, k8, k9, k10, k11, k12⟩ := thirteen (HS.out.get 0 rfl))
       | (go_at_call 105; refine (c_specL6Mems (ArrR_below H.out HS.out.toBelow) HGS.out HML.out HSM.out).mono ?_; rw [H3.out]; rintro e wq ⟨rfl, hb⟩; have hs' := HS.out.below hb; clear hb HS; have HS := Aside0.mk hs'; clear hs'; clear k0 k1 k2 k3 k4 k5 k6 k7 k8 k9 k10 k11 k12; obtain ⟨k0, k1, k2, k3, k4, k5, k6, k7, k8, k9, k10, k11, k12⟩ := thirteen (HS.out.get 0 rfl))
       | (go_at_call 106; refine (c_specL6Dirty (ArrR_below H.out HS.out.toBelow) HGS.out HGN.out).mono ?_; rw [H4.out]; rintro e wq ⟨rfl, hb⟩; have hs' := HS.out.below hb; clear hb HS; have HS := Aside0.mk hs'; clear hs'; clear k0 k1 k2 k3 k4 k5 k6 k7 k8 k9 k10 k11 k12; obtain ⟨k0, k1, k2, k3, k4, k5, k6, k7, k8, k9, k10, k11, k12⟩ := thirteen (HS.out.get 0 rfl))
       | (go_at_call 70; refine (c_l1In _ _ _ _).mono ?_; rintro e wq ⟨rfl, hb⟩; have hs' := HS.out.dr hb; clear hb HS; have HS := Aside0.mk hs'; clear hs'; clear k0 k1 k2 k3 k4 k5 k6 k7 k8 k9 k10 k11 k12; obtain ⟨k0, k1, k2, k3, k4, k5, k6, k7, k8, k9, k10, k11, k12⟩ := thirteen (HS.out.get 0 rfl))
       | fail)
      go_ret
      exact ⟨ret_bool (arrB_no (fun hp => by have q := hp.fuse; rw [h12] at q; cases q)).symm, HS.out.toBelow⟩
    ·simp only [Bool.not_eq_true] at h11
     go_enter Tryz.func59, Tryz.ntmps59
     go_wp2_with (first
      | (go_at_call 104; refine (c_specGeoOk _ _ _).mono ?_; rw [H1.out]; rintro e wq ⟨rfl, hb⟩; have hs' := HS.out.below hb; clear hb HS; have HS := Aside0.mk hs'; clear hs'; clear k0 k1 k2 k3 k4 k5 k6 k7 k8 k9 k10 k11 k12; obtain ⟨k0, k1, k2, k3, k4, k5, k6, k7, k8, k9, k10, k11, k12⟩ := thirteen (HS.out.get 0 rfl))
      | (go_at_call 105; refine (c_specL6Mems (ArrR_below H.out HS.out.toBelow) HGS.out HML.out HSM.out).mono ?_; rw [H3.out]; rintro e wq ⟨rfl, hb⟩; have hs' := HS.out.below hb; clear hb HS; have HS := Aside0.mk hs'; clear hs'; clear k0 k1 k2 k3 k4 k5 k6 k7 k8 k9 k10 k11 k12; obtain ⟨k0, k1, k2, k3, k4, k5, k6, k7, k8, k9, k10, k11, k12⟩ := thirteen (HS.out.get 0 rfl))
      | (go_at_call 106; refine (c_specL6Dirty (ArrR_below H.out HS.out.toBelow) HGS.out HGN.out).mono ?_; rw [H4.out]; rintro e wq ⟨rfl, hb⟩; have hs' := HS.out.below hb; clear hb HS; have HS := Aside0.mk hs'; clear hs'; clear k0 k1 k2 k3 k4 k5 k6 k7 k8 k9 k10 k11 k12; obtain ⟨k0, k1, k2, k3, k4, k5, k6, k7, k8, k9, k10, k11, k12⟩ := thirteen (HS.out.get 0 rfl))
      | (go_at_call 70; refine (c_l1In _ _ _ _).mono ?_; rintro e wq ⟨rfl, hb⟩; have hs' := HS.out.dr hb; clear hb HS; have HS := Aside0.mk hs'; clear hs'; clear k0 k1 k2 k3 k4 k5 k6 k7 k8 k9 k10 k11 k12; obtain ⟨k0, k1, k2, k3, k4, k5, k6, k7, k8, k9, k10, k11, k12⟩ := thirteen (HS.out.get 0 rfl))
      | fail)
     go_ret
     exact ⟨ret_bool (arrB_no (fun hp => by have q := hp.gen; rw [h11] at q; cases q)).symm, HS.out.toBelow⟩
   ·have h10b : decide (seq ≤ tail + 4) = false := decide_eq_false h10
    go_enter Tryz.func59, Tryz.ntmps59
    go_wp2_with (first
     | (go_at_call 104; refine (c_specGeoOk _ _ _).mono ?_; rw [H1.out]; rintro e wq ⟨rfl, hb⟩; have hs' := HS.out.below hb; clear hb HS; have HS := Aside0.mk hs'; clear hs'; clear k0 k1 k2 k3 k4 k5 k6 k7 k8 k9 k10 k11 k12; obtain ⟨k0, k1, k2, k3, k4, k5, k6, k7, k8, k9, k10, k11, k12⟩ := thirteen (HS.out.get 0 rfl))
     | (go_at_call 105; refine (c_specL6Mems (ArrR_below H.out HS.out.toBelow) HGS.out HML.out HSM.out).mono ?_; rw [H3.out]; rintro e wq ⟨rfl, hb⟩; have hs' := HS.out.below hb; clear hb HS; have HS := Aside0.mk hs'; clear hs'; clear k0 k1 k2 k3 k4 k5 k6 k7 k8 k9 k10 k11 k12; obtain ⟨k0, k1, k2, k3, k4, k5, k6, k7, k8, k9, k10, k11, k12⟩ := thirteen (HS.out.get 0 rfl))
     | (go_at_call 106; refine (c_specL6Dirty (ArrR_below H.out HS.out.toBelow) HGS.out HGN.out).mono ?_; rw [H4.out]; rintro e wq ⟨rfl, hb⟩; have hs' := HS.out.below hb; clear hb HS; have HS := Aside0.mk hs'; clear hs'; clear k0 k1 k2 k3 k4 k5 k6 k7 k8 k9 k10 k11 k12; obtain ⟨k0, k1, k2, k3, k4, k5, k6, k7, k8, k9, k10, k11, k12⟩ := thirteen (HS.out.get 0 rfl))
     | (go_at_call 70; refine (c_l1In _ _ _ _).mono ?_; rintro e wq ⟨rfl, hb⟩; have hs' := HS.out.dr hb; clear hb HS; have HS := Aside0.mk hs'; clear hs'; clear k0 k1 k2 k3 k4 k5 k6 k7 k8 k9 k10 k11 k12; obtain ⟨k0, k1, k2, k3, k4, k5, k6, k7, k8, k9, k10, k11, k12⟩ := thirteen (HS.out.get 0 rfl))
     | fail)
    go_ret
    exact ⟨ret_bool (arrB_no (fun hp => by have q := hp.seq4; simp only at q; omega)).symm, HS.out.toBelow⟩
  ·simp only [Bool.not_eq_true] at h9
   go_enter Tryz.func59, Tryz.ntmps59
   go_wp2_with (first
    | (go_at_call 104; refine (c_specGeoOk _ _ _).mono ?_; rw [H1.out]; rintro e wq ⟨rfl, hb⟩; have hs' := HS.out.below hb; clear hb HS; have HS := Aside0.mk hs'; clear hs'; clear k0 k1 k2 k3 k4 k5 k6 k7 k8 k9 k10 k11 k12; obtain ⟨k0, k1, k2, k3, k4, k5, k6, k7, k8, k9, k10, k11, k12⟩ := thirteen (HS.out.get 0 rfl))
    | (go_at_call 105; refine (c_specL6Mems (ArrR_below H.out HS.out.toBelow) HGS.out HML.out HSM.out).mono ?_; rw [H3.out]; rintro e wq ⟨rfl, hb⟩; have hs' := HS.out.below hb; clear hb HS; have HS := Aside0.mk hs'; clear hs'; clear k0 k1 k2 k3 k4 k5 k6 k7 k8 k9 k10 k11 k12; obtain ⟨k0, k1, k2, k3, k4, k5, k6, k7, k8, k9, k10, k11, k12⟩ := thirteen (HS.out.get 0 rfl))
    | (go_at_call 106; refine (c_specL6Dirty (ArrR_below H.out HS.out.toBelow) HGS.out HGN.out).mono ?_; rw [H4.out]; rintro e wq ⟨rfl, hb⟩; have hs' := HS.out.below hb; clear hb HS; have HS := Aside0.mk hs'; clear hs'; clear k0 k1 k2 k3 k4 k5 k6 k7 k8 k9 k10 k11 k12; obtain ⟨k0, k1, k2, k3, k4, k5, k6, k7, k8, k9, k10, k11, k12⟩ := thirteen (HS.out.get 0 rfl))
    | (go_at_call 70; refine (c_l1In _ _ _ _).mono ?_; rintro e wq ⟨rfl, hb⟩; have hs' := HS.out.dr hb; clear hb HS; have HS := Aside0.mk hs'; clear hs'; clear k0 k1 k2 k3 k4 k5 k6 k7 k8 k9 k10 k11 k12; obtain ⟨k0, k1, k2, k3, k4, k5, k6, k7, k8, k9, k10, k11, k12⟩ := thirteen (HS.out.get 0 rfl))
    | fail)
   go_ret
   exact ⟨ret_bool (arrB_no (fun hp => by have q := hp.seq; simp [inR] at h9; try simp only at q; omega)).symm, HS.out.toBelow⟩
 ·simp only [Bool.not_eq_true] at h8
  go_enter Tryz.func59, Tryz.ntmps59
  go_wp2_with (first
   | (go_at_call 104; refine (c_specGeoOk _ _ _).mono ?_; rw [H1.out]; rintro e wq ⟨rfl, hb⟩; have hs' := HS.out.below hb; clear hb HS; have HS := Aside0.mk hs'; clear hs'; clear k0 k1 k2 k3 k4 k5 k6 k7 k8 k9 k10 k11 k12; obtain ⟨k0, k1, k2, k3, k4, k5, k6, k7, k8, k9, k10, k11, k12⟩ := thirteen (HS.out.get 0 rfl))
   | (go_at_call 105; refine (c_specL6Mems (ArrR_below H.out HS.out.toBelow) HGS.out HML.out HSM.out).mono ?_; rw [H3.out]; rintro e wq ⟨rfl, hb⟩; have hs' := HS.out.below hb; clear hb HS; have HS := Aside0.mk hs'; clear hs'; clear k0 k1 k2 k3 k4 k5 k6 k7 k8 k9 k10 k11 k12; obtain ⟨k0, k1, k2, k3, k4, k5, k6, k7, k8, k9, k10, k11, k12⟩ := thirteen (HS.out.get 0 rfl))
   | (go_at_call 106; refine (c_specL6Dirty (ArrR_below H.out HS.out.toBelow) HGS.out HGN.out).mono ?_; rw [H4.out]; rintro e wq ⟨rfl, hb⟩; have hs' := HS.out.below hb; clear hb HS; have HS := Aside0.mk hs'; clear hs'; clear k0 k1 k2 k3 k4 k5 k6 k7 k8 k9 k10 k11 k12; obtain ⟨k0, k1, k2, k3, k4, k5, k6, k7, k8, k9, k10, k11, k12⟩ := thirteen (HS.out.get 0 rfl))
   | (go_at_call 70; refine (c_l1In _ _ _ _).mono ?_; rintro e wq ⟨rfl, hb⟩; have hs' := HS.out.dr hb; clear hb HS; have HS := Aside0.mk hs'; clear hs'; clear k0 k1 k2 k3 k4 k5 k6 k7 k8 k9 k10 k11 k12; obtain ⟨k0, k1, k2, k3, k4, k5, k6, k7, k8, k9, k10, k11, k12⟩ := thirteen (HS.out.get 0 rfl))
   | fail)
  go_ret
  exact ⟨ret_bool (arrB_no (fun hp => by have q := hp.tail; simp [inR] at h8; try simp only at q; omega)).symm, HS.out.toBelow⟩
set_option maxHeartbeats 8000000 in
set_option maxRecDepth 100000 in
theorem specTail1 {w : World} {vm vd : Value} {id gn gs : Int} {mems : List MemV} {lost built seq tail gen : Int} {dirty : List (Int × List Int)} {fuse : Int} {down broken : Bool} (H : Aside0 (ArrR w (.agg #[.int .i64 id, .int .i64 gn, .int .i64 gs, vm, .int .i64 lost, .int .i64 built, .int .i64 seq, .int .i64 tail, .int .i64 gen, vd, .int .i64 fuse, .bool down, .bool broken]) (⟨id, gn, gs, mems, lost, built, seq, tail, gen, dirty, fuse, down, broken⟩ : ArrV))) (HML : Aside0 (mems.length ≤ 16777216)) (HSM : Aside0 (∀ m ∈ mems, Small m)) (h1 : geoB gn gs = true) (h2 : inR id 1 60000 = true) (h3 : (memsB (⟨id, gn, gs, mems, lost, built, seq, tail, gen, dirty, fuse, down, broken⟩ : ArrV) && decide ((mems.length : Int) = gn)) = true) (h4 : dirtyB (⟨id, gn, gs, mems, lost, built, seq, tail, gen, dirty, fuse, down, broken⟩ : ArrV) = true) (h5 : inR lost (-1) (gn - 1) = true) (h6 : inR built 0 gs = true) (h7 : ¬ lost = -1) :
  Calls Tryz.prog 59 #[.agg #[.int .i64 id, .int .i64 gn, .int .i64 gs, vm, .int .i64 lost, .int .i64 built, .int .i64 seq, .int .i64 tail, .int .i64 gen, vd, .int .i64 fuse, .bool down, .bool broken]] w fun e w' => e = .returned (.bool (arrB (⟨id, gn, gs, mems, lost, built, seq, tail, gen, dirty, fuse, down, broken⟩ : ArrV))) ∧ Below w.heap.size w w' := by
 have HS := Aside0.mk ((Sep.start w []).alloc (g := w.heap.size) rfl #[.int .i64 id, .int .i64 gn, .int .i64 gs, vm, .int .i64 lost, .int .i64 built, .int .i64 seq, .int .i64 tail, .int .i64 gen, vd, .int .i64 fuse, .bool down, .bool broken] 34)
 obtain ⟨k0, k1, k2, k3, k4, k5, k6, k7, k8, k9, k10, k11, k12⟩ := thirteen (HS.out.get 0 rfl)
 have H1 := Aside0.mk h1
 have hgs : 0 ≤ gs ∧ gs ≤ 1000 := by simp [geoB, inR] at h1; omega
 have hgn : 0 ≤ gn ∧ gn ≤ 1000 := by simp [geoB, inR] at h1; omega
 have HGS := Aside0.mk hgs
 have HGN := Aside0.mk hgn
 have wgn : IntKind.i64.wrap (gn - 1) = gn - 1 := IntWalk.i64_in _ (by omega)
 have H3 := Aside0.mk h3
 clear h3
 have H4 := Aside0.mk h4
 clear h4
 clear h1 hgs hgn
 have h7b : (lost == -1) = false := by simp [h7]
 have H7 := Aside0.mk h7
 clear h7
 by_cases h8 : inR tail 0 60000 = true
 ·have ht8 : 0 ≤ tail ∧ tail ≤ 60000 := by simpa [inR] using h8
  have wt : IntKind.i64.wrap (tail + 4) = tail + 4 := IntWalk.i64_in _ (by omega)
  clear ht8
  by_cases h9 : inR seq tail 60000 = true
  ·by_cases h10 : seq ≤ tail + 4
   ·have h10b : decide (seq ≤ tail + 4) = true := decide_eq_true h10
    by_cases h11 : inR gen 0 60000 = true
    ·by_cases h12 : inR fuse (-1) 1000 = true
     ·have hv : arrB (⟨id, gn, gs, mems, lost, built, seq, tail, gen, dirty, fuse, down, broken⟩ : ArrV) = true := arrB_yes ⟨H1.out, h2, (Bool.and_eq_true_iff.1 H3.out).1, of_decide_eq_true (Bool.and_eq_true_iff.1 H3.out).2, H4.out, by (show lostB gn gs lost built = true); unfold lostB; rw [h5, h6]; first | (rw [show (built == 0) = true by simpa using H7C.out]; rfl) | (rw [show (lost != -1) = true by simpa using H7.out]; cases (built == 0) <;> rfl), by simpa [inR] using h8, by simpa [inR] using h9, h10, h11, h12⟩
      have HV := Aside0.mk hv
      clear hv
      go_enter Tryz.func59, Tryz.ntmps59
      go_wp2_with (first
       | (go_at_call 104; refine (c_specGeoOk _ _ _).mono ?_; rw [H1.out]; rintro e wq ⟨rfl, hb⟩; have hs' := HS.out.below hb; clear hb HS; have HS := Aside0.mk hs'; clear hs'; clear k0 k1 k2 k3 k4 k5 k6 k7 k8 k9 k10 k11 k12; obtain ⟨k0, k1, k2, k3, k4, k5, k6, k7, k8, k9, k10, k11, k12⟩ := thirteen (HS.out.get 0 rfl))
       | (go_at_call 105; refine (c_specL6Mems (ArrR_below H.out HS.out.toBelow) HGS.out HML.out HSM.out).mono ?_; rw [H3.out]; rintro e wq ⟨rfl, hb⟩; have hs' := HS.out.below hb; clear hb HS; have HS := Aside0.mk hs'; clear hs'; clear k0 k1 k2 k3 k4 k5 k6 k7 k8 k9 k10 k11 k12; obtain ⟨k0, k1, k2, k3, k4, k5, k6, k7, k8, k9, k10, k11, k12⟩ := thirteen (HS.out.get 0 rfl))
       | (go_at_call 106; refine (c_specL6Dirty (ArrR_below H.out HS.out.toBelow) HGS.out HGN.out).mono ?_; rw [H4.out]; rintro e wq ⟨rfl, hb⟩; have hs' := HS.out.below hb; clear hb HS; have HS := Aside0.mk hs'; clear hs'; clear k0 k1 k2 k3 k4 k5 k6 k7 k8 k9 k10 k11 k12; obtain ⟨k0, k1, k2, k3, k4, k5, k6, k7, k8, k9, k10, k11, k12⟩ := thirteen (HS.out.get 0 rfl))
       | (go_at_call 70; refine (c_l1In _ _ _ _).mono ?_; rintro e wq ⟨rfl, hb⟩; have hs' := HS.out.dr hb; clear hb HS; have HS := Aside0.mk hs'; clear hs'; clear k0 k1 k2 k3 k4 k5 k6 k7 k8 k9 k10 k11 k12; obtain ⟨k0, k1, k2, k3, k4, k5, k6, k7, k8, k9, k10, k11, k12⟩ := thirteen (HS.out.get 0 rfl))
       | fail)
      go_ret
      exact ⟨ret_bool HV.out.symm, HS.out.toBelow⟩
     ·simp only [Bool.not_eq_true] at h12
      go_enter Tryz.func59, Tryz.ntmps59
      go_wp2_with (first
       | (go_at_call 104; refine (c_specGeoOk _ _ _).mono ?_; rw [H1.out]; rintro e wq ⟨rfl, hb⟩; have hs' := HS.out.below hb; clear hb HS; have HS := Aside0.mk hs'; clear hs'; clear k0 k1 k2 k3 k4 k5 k6 k7 k8 k9 k10 k11 k12; obtain ⟨k0, k1, k2, k3, k4, k5, k6, k7, k8, k9, k10, k11, k12⟩ := thirteen (HS.out.get 0 rfl))
       | (go_at_call 105; refine (c_specL6Mems (ArrR_below H.out HS.out.toBelow) HGS.out HML.out HSM.out).mono ?_; rw [H3.out]; rintro e wq ⟨rfl, hb⟩; have hs' := HS.out.below hb; clear hb HS; have HS := Aside0.mk hs'; clear hs'; clear k0 k1 k2 k3 k4 k5 k6 k7 k8 k9 k10 k11 k12; obtain ⟨k0, k1, k2, k3, k4, k5, k6, k7, k8, k9, k10, k11, k12⟩ := thirteen (HS.out.get 0 rfl))
       | (go_at_call 106; refine (c_specL6Dirty (ArrR_below H.out HS.out.toBelow) HGS.out HGN.out).mono ?_; rw [H4.out]; rintro e wq ⟨rfl, hb⟩; have hs' := HS.out.below hb; clear hb HS; have HS := Aside0.mk hs'; clear hs'; clear k0 k1 k2 k3 k4 k5 k6 k7 k8 k9 k10 k11 k12; obtain ⟨k0, k1, k2, k3, k4, k5, k6, k7, k8, k9, k10, k11, k12⟩ := thirteen (HS.out.get 0 rfl))
       | (go_at_call 70; refine (c_l1In _ _ _ _).mono ?_; rintro e wq ⟨rfl, hb⟩; have hs' := HS.out.dr hb; clear hb HS; have HS := Aside0.mk hs'; clear hs'; clear k0 k1 k2 k3 k4 k5 k6 k7 k8 k9 k10 k11 k12; obtain ⟨k0, k1, k2, k3, k4, k5, k6, k7, k8, k9, k10, k11, k12⟩ := thirteen (HS.out.get 0 rfl))
       | fail)
      go_ret
      exact ⟨ret_bool (arrB_no (fun hp => by have q := hp.fuse; rw [h12] at q; cases q)).symm, HS.out.toBelow⟩
    ·simp only [Bool.not_eq_true] at h11
     go_enter Tryz.func59, Tryz.ntmps59
     go_wp2_with (first
      | (go_at_call 104; refine (c_specGeoOk _ _ _).mono ?_; rw [H1.out]; rintro e wq ⟨rfl, hb⟩; have hs' := HS.out.below hb; clear hb HS; have HS := Aside0.mk hs'; clear hs'; clear k0 k1 k2 k3 k4 k5 k6 k7 k8 k9 k10 k11 k12; obtain ⟨k0, k1, k2, k3, k4, k5, k6, k7, k8, k9, k10, k11, k12⟩ := thirteen (HS.out.get 0 rfl))
      | (go_at_call 105; refine (c_specL6Mems (ArrR_below H.out HS.out.toBelow) HGS.out HML.out HSM.out).mono ?_; rw [H3.out]; rintro e wq ⟨rfl, hb⟩; have hs' := HS.out.below hb; clear hb HS; have HS := Aside0.mk hs'; clear hs'; clear k0 k1 k2 k3 k4 k5 k6 k7 k8 k9 k10 k11 k12; obtain ⟨k0, k1, k2, k3, k4, k5, k6, k7, k8, k9, k10, k11, k12⟩ := thirteen (HS.out.get 0 rfl))
      | (go_at_call 106; refine (c_specL6Dirty (ArrR_below H.out HS.out.toBelow) HGS.out HGN.out).mono ?_; rw [H4.out]; rintro e wq ⟨rfl, hb⟩; have hs' := HS.out.below hb; clear hb HS; have HS := Aside0.mk hs'; clear hs'; clear k0 k1 k2 k3 k4 k5 k6 k7 k8 k9 k10 k11 k12; obtain ⟨k0, k1, k2, k3, k4, k5, k6, k7, k8, k9, k10, k11, k12⟩ := thirteen (HS.out.get 0 rfl))
      | (go_at_call 70; refine (c_l1In _ _ _ _).mono ?_; rintro e wq ⟨rfl, hb⟩; have hs' := HS.out.dr hb; clear hb HS; have HS := Aside0.mk hs'; clear hs'; clear k0 k1 k2 k3 k4 k5 k6 k7 k8 k9 k10 k11 k12; obtain ⟨k0, k1, k2, k3, k4, k5, k6, k7, k8, k9, k10, k11, k12⟩ := thirteen (HS.out.get 0 rfl))
      | fail)
     go_ret
     exact ⟨ret_bool (arrB_no (fun hp => by have q := hp.gen; rw [h11] at q; cases q)).symm, HS.out.toBelow⟩
   ·have h10b : decide (seq ≤ tail + 4) = false := decide_eq_false h10
    go_enter Tryz.func59, Tryz.ntmps59
    go_wp2_with (first
     | (go_at_call 104; refine (c_specGeoOk _ _ _).mono ?_; rw [H1.out]; rintro e wq ⟨rfl, hb⟩; have hs' := HS.out.below hb; clear hb HS; have HS := Aside0.mk hs'; clear hs'; clear k0 k1 k2 k3 k4 k5 k6 k7 k8 k9 k10 k11 k12; obtain ⟨k0, k1, k2, k3, k4, k5, k6, k7, k8, k9, k10, k11, k12⟩ := thirteen (HS.out.get 0 rfl))
     | (go_at_call 105; refine (c_specL6Mems (ArrR_below H.out HS.out.toBelow) HGS.out HML.out HSM.out).mono ?_; rw [H3.out]; rintro e wq ⟨rfl, hb⟩; have hs' := HS.out.below hb; clear hb HS; have HS := Aside0.mk hs'; clear hs'; clear k0 k1 k2 k3 k4 k5 k6 k7 k8 k9 k10 k11 k12; obtain ⟨k0, k1, k2, k3, k4, k5, k6, k7, k8, k9, k10, k11, k12⟩ := thirteen (HS.out.get 0 rfl))
     | (go_at_call 106; refine (c_specL6Dirty (ArrR_below H.out HS.out.toBelow) HGS.out HGN.out).mono ?_; rw [H4.out]; rintro e wq ⟨rfl, hb⟩; have hs' := HS.out.below hb; clear hb HS; have HS := Aside0.mk hs'; clear hs'; clear k0 k1 k2 k3 k4 k5 k6 k7 k8 k9 k10 k11 k12; obtain ⟨k0, k1, k2, k3, k4, k5, k6, k7, k8, k9, k10, k11, k12⟩ := thirteen (HS.out.get 0 rfl))
     | (go_at_call 70; refine (c_l1In _ _ _ _).mono ?_; rintro e wq ⟨rfl, hb⟩; have hs' := HS.out.dr hb; clear hb HS; have HS := Aside0.mk hs'; clear hs'; clear k0 k1 k2 k3 k4 k5 k6 k7 k8 k9 k10 k11 k12; obtain ⟨k0, k1, k2, k3, k4, k5, k6, k7, k8, k9, k10, k11, k12⟩ := thirteen (HS.out.get 0 rfl))
     | fail)
    go_ret
    exact ⟨ret_bool (arrB_no (fun hp => by have q := hp.seq4; simp only at q; omega)).symm, HS.out.toBelow⟩
  ·simp only [Bool.not_eq_true] at h9
   go_enter Tryz.func59, Tryz.ntmps59
   go_wp2_with (first
    | (go_at_call 104; refine (c_specGeoOk _ _ _).mono ?_; rw [H1.out]; rintro e wq ⟨rfl, hb⟩; have hs' := HS.out.below hb; clear hb HS; have HS := Aside0.mk hs'; clear hs'; clear k0 k1 k2 k3 k4 k5 k6 k7 k8 k9 k10 k11 k12; obtain ⟨k0, k1, k2, k3, k4, k5, k6, k7, k8, k9, k10, k11, k12⟩ := thirteen (HS.out.get 0 rfl))
    | (go_at_call 105; refine (c_specL6Mems (ArrR_below H.out HS.out.toBelow) HGS.out HML.out HSM.out).mono ?_; rw [H3.out]; rintro e wq ⟨rfl, hb⟩; have hs' := HS.out.below hb; clear hb HS; have HS := Aside0.mk hs'; clear hs'; clear k0 k1 k2 k3 k4 k5 k6 k7 k8 k9 k10 k11 k12; obtain ⟨k0, k1, k2, k3, k4, k5, k6, k7, k8, k9, k10, k11, k12⟩ := thirteen (HS.out.get 0 rfl))
    | (go_at_call 106; refine (c_specL6Dirty (ArrR_below H.out HS.out.toBelow) HGS.out HGN.out).mono ?_; rw [H4.out]; rintro e wq ⟨rfl, hb⟩; have hs' := HS.out.below hb; clear hb HS; have HS := Aside0.mk hs'; clear hs'; clear k0 k1 k2 k3 k4 k5 k6 k7 k8 k9 k10 k11 k12; obtain ⟨k0, k1, k2, k3, k4, k5, k6, k7, k8, k9, k10, k11, k12⟩ := thirteen (HS.out.get 0 rfl))
    | (go_at_call 70; refine (c_l1In _ _ _ _).mono ?_; rintro e wq ⟨rfl, hb⟩; have hs' := HS.out.dr hb; clear hb HS; have HS := Aside0.mk hs'; clear hs'; clear k0 k1 k2 k3 k4 k5 k6 k7 k8 k9 k10 k11 k12; obtain ⟨k0, k1, k2, k3, k4, k5, k6, k7, k8, k9, k10, k11, k12⟩ := thirteen (HS.out.get 0 rfl))
    | fail)
   go_ret
   exact ⟨ret_bool (arrB_no (fun hp => by have q := hp.seq; simp [inR] at h9; try simp only at q; omega)).symm, HS.out.toBelow⟩
 ·simp only [Bool.not_eq_true] at h8
  go_enter Tryz.func59, Tryz.ntmps59
  go_wp2_with (first
   | (go_at_call 104; refine (c_specGeoOk _ _ _).mono ?_; rw [H1.out]; rintro e wq ⟨rfl, hb⟩; have hs' := HS.out.below hb; clear hb HS; have HS := Aside0.mk hs'; clear hs'; clear k0 k1 k2 k3 k4 k5 k6 k7 k8 k9 k10 k11 k12; obtain ⟨k0, k1, k2, k3, k4, k5, k6, k7, k8, k9, k10, k11, k12⟩ := thirteen (HS.out.get 0 rfl))
   | (go_at_call 105; refine (c_specL6Mems (ArrR_below H.out HS.out.toBelow) HGS.out HML.out HSM.out).mono ?_; rw [H3.out]; rintro e wq ⟨rfl, hb⟩; have hs' := HS.out.below hb; clear hb HS; have HS := Aside0.mk hs'; clear hs'; clear k0 k1 k2 k3 k4 k5 k6 k7 k8 k9 k10 k11 k12; obtain ⟨k0, k1, k2, k3, k4, k5, k6, k7, k8, k9, k10, k11, k12⟩ := thirteen (HS.out.get 0 rfl))
   | (go_at_call 106; refine (c_specL6Dirty (ArrR_below H.out HS.out.toBelow) HGS.out HGN.out).mono ?_; rw [H4.out]; rintro e wq ⟨rfl, hb⟩; have hs' := HS.out.below hb; clear hb HS; have HS := Aside0.mk hs'; clear hs'; clear k0 k1 k2 k3 k4 k5 k6 k7 k8 k9 k10 k11 k12; obtain ⟨k0, k1, k2, k3, k4, k5, k6, k7, k8, k9, k10, k11, k12⟩ := thirteen (HS.out.get 0 rfl))
   | (go_at_call 70; refine (c_l1In _ _ _ _).mono ?_; rintro e wq ⟨rfl, hb⟩; have hs' := HS.out.dr hb; clear hb HS; have HS := Aside0.mk hs'; clear hs'; clear k0 k1 k2 k3 k4 k5 k6 k7 k8 k9 k10 k11 k12; obtain ⟨k0, k1, k2, k3, k4, k5, k6, k7, k8, k9, k10, k11, k12⟩ := thirteen (HS.out.get 0 rfl))
   | fail)
  go_ret
  exact ⟨ret_bool (arrB_no (fun hp => by have q := hp.tail; simp [inR] at h8; try simp only at q; omega)).symm, HS.out.toBelow⟩
set_option maxHeartbeats 8000000 in
set_option maxRecDepth 100000 in
theorem c_specArrOk {w : World} {v : Value} {a : ArrV} (h : ArrR w v a) (hsm : SmallA a) :
  Calls Tryz.prog 59 #[v] w fun e w' => e = .returned (.bool (arrB a)) ∧ Below w.heap.size w w' := by
 have H := Aside0.mk h
 have HML := Aside0.mk hsm.1
 have HSM := Aside0.mk hsm.2.1
 clear hsm
 obtain ⟨vm, vd, rfl, r1, r2⟩ := h
 have HS := Aside0.mk ((Sep.start w []).alloc (g := w.heap.size) rfl (arrC a vm vd) 34)
 clear r1 r2
 obtain ⟨id, gn, gs, mems, lost, built, seq, tail, gen, dirty, fuse, down, broken⟩ := a
 simp only [arrC] at *
 obtain ⟨k0, k1, k2, k3, k4, k5, k6, k7, k8, k9, k10, k11, k12⟩ := thirteen (HS.out.get 0 rfl)
 by_cases h1 : geoB gn gs = true
 ·have H1 := Aside0.mk h1
  have hgs : 0 ≤ gs ∧ gs ≤ 1000 := by simp [geoB, inR] at h1; omega
  have hgn : 0 ≤ gn ∧ gn ≤ 1000 := by simp [geoB, inR] at h1; omega
  have HGS := Aside0.mk hgs
  have HGN := Aside0.mk hgn
  have wgn : IntKind.i64.wrap (gn - 1) = gn - 1 := IntWalk.i64_in _ (by omega)
  clear h1 hgs hgn
  by_cases h2 : inR id 1 60000 = true
  ·by_cases h3 : (memsB (⟨id, gn, gs, mems, lost, built, seq, tail, gen, dirty, fuse, down, broken⟩ : ArrV) && decide ((mems.length : Int) = gn)) = true
   ·have H3 := Aside0.mk h3
    clear h3
    by_cases h4 : dirtyB (⟨id, gn, gs, mems, lost, built, seq, tail, gen, dirty, fuse, down, broken⟩ : ArrV) = true
    ·have H4 := Aside0.mk h4
     clear h4
     by_cases h5 : inR lost (-1) (gn - 1) = true
     ·by_cases h6 : inR built 0 gs = true
      ·by_cases h7 : lost = -1
       ·by_cases h7c : built = 0
        ·exact specTail0 H HML HSM H1.out h2 H3.out H4.out h5 h6 h7 h7c
        ·have h7b : (lost == -1) = true := by simp [h7]
         have H7 := Aside0.mk h7
         clear h7
         have h7d : (built != 0) = true := by simp [h7c]
         have H7C := Aside0.mk h7c
         clear h7c
         go_enter Tryz.func59, Tryz.ntmps59
         go_wp2_with (first
          | (go_at_call 104; refine (c_specGeoOk _ _ _).mono ?_; rw [H1.out]; rintro e wq ⟨rfl, hb⟩; have hs' := HS.out.below hb; clear hb HS; have HS := Aside0.mk hs'; clear hs'; clear k0 k1 k2 k3 k4 k5 k6 k7 k8 k9 k10 k11 k12; obtain ⟨k0, k1, k2, k3, k4, k5, k6, k7, k8, k9, k10, k11, k12⟩ := thirteen (HS.out.get 0 rfl))
          | (go_at_call 105; refine (c_specL6Mems (ArrR_below H.out HS.out.toBelow) HGS.out HML.out HSM.out).mono ?_; rw [H3.out]; rintro e wq ⟨rfl, hb⟩; have hs' := HS.out.below hb; clear hb HS; have HS := Aside0.mk hs'; clear hs'; clear k0 k1 k2 k3 k4 k5 k6 k7 k8 k9 k10 k11 k12; obtain ⟨k0, k1, k2, k3, k4, k5, k6, k7, k8, k9, k10, k11, k12⟩ := thirteen (HS.out.get 0 rfl))
          | (go_at_call 106; refine (c_specL6Dirty (ArrR_below H.out HS.out.toBelow) HGS.out HGN.out).mono ?_; rw [H4.out]; rintro e wq ⟨rfl, hb⟩; have hs' := HS.out.below hb; clear hb HS; have HS := Aside0.mk hs'; clear hs'; clear k0 k1 k2 k3 k4 k5 k6 k7 k8 k9 k10 k11 k12; obtain ⟨k0, k1, k2, k3, k4, k5, k6, k7, k8, k9, k10, k11, k12⟩ := thirteen (HS.out.get 0 rfl))
          | (go_at_call 70; refine (c_l1In _ _ _ _).mono ?_; rintro e wq ⟨rfl, hb⟩; have hs' := HS.out.dr hb; clear hb HS; have HS := Aside0.mk hs'; clear hs'; clear k0 k1 k2 k3 k4 k5 k6 k7 k8 k9 k10 k11 k12; obtain ⟨k0, k1, k2, k3, k4, k5, k6, k7, k8, k9, k10, k11, k12⟩ := thirteen (HS.out.get 0 rfl))
          | fail)
         go_ret
         exact ⟨ret_bool (arrB_no (fun hp => by have q := hp.lost; simp [lostB, H7.out, H7C.out] at q)).symm, HS.out.toBelow⟩
       ·exact specTail1 H HML HSM H1.out h2 H3.out H4.out h5 h6 h7
      ·simp only [Bool.not_eq_true] at h6
       go_enter Tryz.func59, Tryz.ntmps59
       go_wp2_with (first
        | (go_at_call 104; refine (c_specGeoOk _ _ _).mono ?_; rw [H1.out]; rintro e wq ⟨rfl, hb⟩; have hs' := HS.out.below hb; clear hb HS; have HS := Aside0.mk hs'; clear hs'; clear k0 k1 k2 k3 k4 k5 k6 k7 k8 k9 k10 k11 k12; obtain ⟨k0, k1, k2, k3, k4, k5, k6, k7, k8, k9, k10, k11, k12⟩ := thirteen (HS.out.get 0 rfl))
        | (go_at_call 105; refine (c_specL6Mems (ArrR_below H.out HS.out.toBelow) HGS.out HML.out HSM.out).mono ?_; rw [H3.out]; rintro e wq ⟨rfl, hb⟩; have hs' := HS.out.below hb; clear hb HS; have HS := Aside0.mk hs'; clear hs'; clear k0 k1 k2 k3 k4 k5 k6 k7 k8 k9 k10 k11 k12; obtain ⟨k0, k1, k2, k3, k4, k5, k6, k7, k8, k9, k10, k11, k12⟩ := thirteen (HS.out.get 0 rfl))
        | (go_at_call 106; refine (c_specL6Dirty (ArrR_below H.out HS.out.toBelow) HGS.out HGN.out).mono ?_; rw [H4.out]; rintro e wq ⟨rfl, hb⟩; have hs' := HS.out.below hb; clear hb HS; have HS := Aside0.mk hs'; clear hs'; clear k0 k1 k2 k3 k4 k5 k6 k7 k8 k9 k10 k11 k12; obtain ⟨k0, k1, k2, k3, k4, k5, k6, k7, k8, k9, k10, k11, k12⟩ := thirteen (HS.out.get 0 rfl))
        | (go_at_call 70; refine (c_l1In _ _ _ _).mono ?_; rintro e wq ⟨rfl, hb⟩; have hs' := HS.out.dr hb; clear hb HS; have HS := Aside0.mk hs'; clear hs'; clear k0 k1 k2 k3 k4 k5 k6 k7 k8 k9 k10 k11 k12; obtain ⟨k0, k1, k2, k3, k4, k5, k6, k7, k8, k9, k10, k11, k12⟩ := thirteen (HS.out.get 0 rfl))
        | fail)
       go_ret
       exact ⟨ret_bool (arrB_no (fun hp => by have q := hp.lost; simp [lostB, h6] at q)).symm, HS.out.toBelow⟩
     ·simp only [Bool.not_eq_true] at h5
      go_enter Tryz.func59, Tryz.ntmps59
      go_wp2_with (first
       | (go_at_call 104; refine (c_specGeoOk _ _ _).mono ?_; rw [H1.out]; rintro e wq ⟨rfl, hb⟩; have hs' := HS.out.below hb; clear hb HS; have HS := Aside0.mk hs'; clear hs'; clear k0 k1 k2 k3 k4 k5 k6 k7 k8 k9 k10 k11 k12; obtain ⟨k0, k1, k2, k3, k4, k5, k6, k7, k8, k9, k10, k11, k12⟩ := thirteen (HS.out.get 0 rfl))
       | (go_at_call 105; refine (c_specL6Mems (ArrR_below H.out HS.out.toBelow) HGS.out HML.out HSM.out).mono ?_; rw [H3.out]; rintro e wq ⟨rfl, hb⟩; have hs' := HS.out.below hb; clear hb HS; have HS := Aside0.mk hs'; clear hs'; clear k0 k1 k2 k3 k4 k5 k6 k7 k8 k9 k10 k11 k12; obtain ⟨k0, k1, k2, k3, k4, k5, k6, k7, k8, k9, k10, k11, k12⟩ := thirteen (HS.out.get 0 rfl))
       | (go_at_call 106; refine (c_specL6Dirty (ArrR_below H.out HS.out.toBelow) HGS.out HGN.out).mono ?_; rw [H4.out]; rintro e wq ⟨rfl, hb⟩; have hs' := HS.out.below hb; clear hb HS; have HS := Aside0.mk hs'; clear hs'; clear k0 k1 k2 k3 k4 k5 k6 k7 k8 k9 k10 k11 k12; obtain ⟨k0, k1, k2, k3, k4, k5, k6, k7, k8, k9, k10, k11, k12⟩ := thirteen (HS.out.get 0 rfl))
       | (go_at_call 70; refine (c_l1In _ _ _ _).mono ?_; rintro e wq ⟨rfl, hb⟩; have hs' := HS.out.dr hb; clear hb HS; have HS := Aside0.mk hs'; clear hs'; clear k0 k1 k2 k3 k4 k5 k6 k7 k8 k9 k10 k11 k12; obtain ⟨k0, k1, k2, k3, k4, k5, k6, k7, k8, k9, k10, k11, k12⟩ := thirteen (HS.out.get 0 rfl))
       | fail)
      go_ret
      exact ⟨ret_bool (arrB_no (fun hp => by have q := hp.lost; simp [lostB, h5] at q)).symm, HS.out.toBelow⟩
    ·simp only [Bool.not_eq_true] at h4
     have H4 := Aside0.mk h4
     clear h4
     go_enter Tryz.func59, Tryz.ntmps59
     go_wp2_with (first
      | (go_at_call 104; refine (c_specGeoOk _ _ _).mono ?_; rw [H1.out]; rintro e wq ⟨rfl, hb⟩; have hs' := HS.out.below hb; clear hb HS; have HS := Aside0.mk hs'; clear hs'; clear k0 k1 k2 k3 k4 k5 k6 k7 k8 k9 k10 k11 k12; obtain ⟨k0, k1, k2, k3, k4, k5, k6, k7, k8, k9, k10, k11, k12⟩ := thirteen (HS.out.get 0 rfl))
      | (go_at_call 105; refine (c_specL6Mems (ArrR_below H.out HS.out.toBelow) HGS.out HML.out HSM.out).mono ?_; rw [H3.out]; rintro e wq ⟨rfl, hb⟩; have hs' := HS.out.below hb; clear hb HS; have HS := Aside0.mk hs'; clear hs'; clear k0 k1 k2 k3 k4 k5 k6 k7 k8 k9 k10 k11 k12; obtain ⟨k0, k1, k2, k3, k4, k5, k6, k7, k8, k9, k10, k11, k12⟩ := thirteen (HS.out.get 0 rfl))
      | (go_at_call 106; refine (c_specL6Dirty (ArrR_below H.out HS.out.toBelow) HGS.out HGN.out).mono ?_; rw [H4.out]; rintro e wq ⟨rfl, hb⟩; have hs' := HS.out.below hb; clear hb HS; have HS := Aside0.mk hs'; clear hs'; clear k0 k1 k2 k3 k4 k5 k6 k7 k8 k9 k10 k11 k12; obtain ⟨k0, k1, k2, k3, k4, k5, k6, k7, k8, k9, k10, k11, k12⟩ := thirteen (HS.out.get 0 rfl))
      | (go_at_call 70; refine (c_l1In _ _ _ _).mono ?_; rintro e wq ⟨rfl, hb⟩; have hs' := HS.out.dr hb; clear hb HS; have HS := Aside0.mk hs'; clear hs'; clear k0 k1 k2 k3 k4 k5 k6 k7 k8 k9 k10 k11 k12; obtain ⟨k0, k1, k2, k3, k4, k5, k6, k7, k8, k9, k10, k11, k12⟩ := thirteen (HS.out.get 0 rfl))
      | fail)
     go_ret
     exact ⟨ret_bool (arrB_no (fun hp => by have q := hp.dirty; rw [H4.out] at q; cases q)).symm, HS.out.toBelow⟩
   ·simp only [Bool.not_eq_true] at h3
    have H3 := Aside0.mk h3
    clear h3
    go_enter Tryz.func59, Tryz.ntmps59
    go_wp2_with (first
     | (go_at_call 104; refine (c_specGeoOk _ _ _).mono ?_; rw [H1.out]; rintro e wq ⟨rfl, hb⟩; have hs' := HS.out.below hb; clear hb HS; have HS := Aside0.mk hs'; clear hs'; clear k0 k1 k2 k3 k4 k5 k6 k7 k8 k9 k10 k11 k12; obtain ⟨k0, k1, k2, k3, k4, k5, k6, k7, k8, k9, k10, k11, k12⟩ := thirteen (HS.out.get 0 rfl))
     | (go_at_call 105; refine (c_specL6Mems (ArrR_below H.out HS.out.toBelow) HGS.out HML.out HSM.out).mono ?_; rw [H3.out]; rintro e wq ⟨rfl, hb⟩; have hs' := HS.out.below hb; clear hb HS; have HS := Aside0.mk hs'; clear hs'; clear k0 k1 k2 k3 k4 k5 k6 k7 k8 k9 k10 k11 k12; obtain ⟨k0, k1, k2, k3, k4, k5, k6, k7, k8, k9, k10, k11, k12⟩ := thirteen (HS.out.get 0 rfl))
     | (go_at_call 106; refine (c_specL6Dirty (ArrR_below H.out HS.out.toBelow) HGS.out HGN.out).mono ?_; rw [H4.out]; rintro e wq ⟨rfl, hb⟩; have hs' := HS.out.below hb; clear hb HS; have HS := Aside0.mk hs'; clear hs'; clear k0 k1 k2 k3 k4 k5 k6 k7 k8 k9 k10 k11 k12; obtain ⟨k0, k1, k2, k3, k4, k5, k6, k7, k8, k9, k10, k11, k12⟩ := thirteen (HS.out.get 0 rfl))
     | (go_at_call 70; refine (c_l1In _ _ _ _).mono ?_; rintro e wq ⟨rfl, hb⟩; have hs' := HS.out.dr hb; clear hb HS; have HS := Aside0.mk hs'; clear hs'; clear k0 k1 k2 k3 k4 k5 k6 k7 k8 k9 k10 k11 k12; obtain ⟨k0, k1, k2, k3, k4, k5, k6, k7, k8, k9, k10, k11, k12⟩ := thirteen (HS.out.get 0 rfl))
     | fail)
    go_ret
    exact ⟨ret_bool (arrB_no (fun hp => by have q := hp.mems; have q2 := hp.len; rw [q, decide_eq_true q2] at H3; cases H3.out)).symm, HS.out.toBelow⟩
  ·simp only [Bool.not_eq_true] at h2
   go_enter Tryz.func59, Tryz.ntmps59
   go_wp2_with (first
    | (go_at_call 104; refine (c_specGeoOk _ _ _).mono ?_; rw [H1.out]; rintro e wq ⟨rfl, hb⟩; have hs' := HS.out.below hb; clear hb HS; have HS := Aside0.mk hs'; clear hs'; clear k0 k1 k2 k3 k4 k5 k6 k7 k8 k9 k10 k11 k12; obtain ⟨k0, k1, k2, k3, k4, k5, k6, k7, k8, k9, k10, k11, k12⟩ := thirteen (HS.out.get 0 rfl))
    | (go_at_call 105; refine (c_specL6Mems (ArrR_below H.out HS.out.toBelow) HGS.out HML.out HSM.out).mono ?_; rw [H3.out]; rintro e wq ⟨rfl, hb⟩; have hs' := HS.out.below hb; clear hb HS; have HS := Aside0.mk hs'; clear hs'; clear k0 k1 k2 k3 k4 k5 k6 k7 k8 k9 k10 k11 k12; obtain ⟨k0, k1, k2, k3, k4, k5, k6, k7, k8, k9, k10, k11, k12⟩ := thirteen (HS.out.get 0 rfl))
    | (go_at_call 106; refine (c_specL6Dirty (ArrR_below H.out HS.out.toBelow) HGS.out HGN.out).mono ?_; rw [H4.out]; rintro e wq ⟨rfl, hb⟩; have hs' := HS.out.below hb; clear hb HS; have HS := Aside0.mk hs'; clear hs'; clear k0 k1 k2 k3 k4 k5 k6 k7 k8 k9 k10 k11 k12; obtain ⟨k0, k1, k2, k3, k4, k5, k6, k7, k8, k9, k10, k11, k12⟩ := thirteen (HS.out.get 0 rfl))
    | (go_at_call 70; refine (c_l1In _ _ _ _).mono ?_; rintro e wq ⟨rfl, hb⟩; have hs' := HS.out.dr hb; clear hb HS; have HS := Aside0.mk hs'; clear hs'; clear k0 k1 k2 k3 k4 k5 k6 k7 k8 k9 k10 k11 k12; obtain ⟨k0, k1, k2, k3, k4, k5, k6, k7, k8, k9, k10, k11, k12⟩ := thirteen (HS.out.get 0 rfl))
    | fail)
   go_ret
   exact ⟨ret_bool (arrB_no (fun hp => by have q := hp.id; rw [h2] at q; cases q)).symm, HS.out.toBelow⟩
 ·simp only [Bool.not_eq_true] at h1
  have H1 := Aside0.mk h1
  clear h1
  go_enter Tryz.func59, Tryz.ntmps59
  go_wp2_with (first
   | (go_at_call 104; refine (c_specGeoOk _ _ _).mono ?_; rw [H1.out]; rintro e wq ⟨rfl, hb⟩; have hs' := HS.out.below hb; clear hb HS; have HS := Aside0.mk hs'; clear hs'; clear k0 k1 k2 k3 k4 k5 k6 k7 k8 k9 k10 k11 k12; obtain ⟨k0, k1, k2, k3, k4, k5, k6, k7, k8, k9, k10, k11, k12⟩ := thirteen (HS.out.get 0 rfl))
   | (go_at_call 105; refine (c_specL6Mems (ArrR_below H.out HS.out.toBelow) HGS.out HML.out HSM.out).mono ?_; rw [H3.out]; rintro e wq ⟨rfl, hb⟩; have hs' := HS.out.below hb; clear hb HS; have HS := Aside0.mk hs'; clear hs'; clear k0 k1 k2 k3 k4 k5 k6 k7 k8 k9 k10 k11 k12; obtain ⟨k0, k1, k2, k3, k4, k5, k6, k7, k8, k9, k10, k11, k12⟩ := thirteen (HS.out.get 0 rfl))
   | (go_at_call 106; refine (c_specL6Dirty (ArrR_below H.out HS.out.toBelow) HGS.out HGN.out).mono ?_; rw [H4.out]; rintro e wq ⟨rfl, hb⟩; have hs' := HS.out.below hb; clear hb HS; have HS := Aside0.mk hs'; clear hs'; clear k0 k1 k2 k3 k4 k5 k6 k7 k8 k9 k10 k11 k12; obtain ⟨k0, k1, k2, k3, k4, k5, k6, k7, k8, k9, k10, k11, k12⟩ := thirteen (HS.out.get 0 rfl))
   | (go_at_call 70; refine (c_l1In _ _ _ _).mono ?_; rintro e wq ⟨rfl, hb⟩; have hs' := HS.out.dr hb; clear hb HS; have HS := Aside0.mk hs'; clear hs'; clear k0 k1 k2 k3 k4 k5 k6 k7 k8 k9 k10 k11 k12; obtain ⟨k0, k1, k2, k3, k4, k5, k6, k7, k8, k9, k10, k11, k12⟩ := thirteen (HS.out.get 0 rfl))
   | fail)
  go_ret
  exact ⟨ret_bool (arrB_no (fun hp => by have q := hp.geo; rw [H1.out] at q; cases q)).symm, HS.out.toBelow⟩
set_option maxHeartbeats 8000000 in
set_option maxRecDepth 100000 in
theorem c_implArrOk {w : World} {v : Value} {a : ArrV} (h : ArrR w v a) (hsm : SmallA a) :
  Calls Tryz.prog 36 #[v] w fun e w' => e = .returned (.bool (arrB a)) ∧ Below w.heap.size w w' := by
 have H := Aside0.mk h
 have HSM := Aside0.mk hsm.2.1
 have hml := hsm.1
 clear hsm
 obtain ⟨vm, vd, rfl, r1, r2⟩ := h
 obtain ⟨A1, c1, rfl, hl1, _⟩ := id r1
 have R1 := Aside0.mk r1
 have HS := Aside0.mk ((Sep.start w []).alloc (g := w.heap.size) rfl (arrC a (.slice A1 a.mems.length c1) vd) 34)
 clear r1 r2 hl1
 obtain ⟨id, gn, gs, mems, lost, built, seq, tail, gen, dirty, fuse, down, broken⟩ := a
 simp only [arrC] at *
 obtain ⟨k0, k1, k2, k3, k4, k5, k6, k7, k8, k9, k10, k11, k12⟩ := thirteen (HS.out.get 0 rfl)
 by_cases h1 : geoB gn gs = true
 ·have H1 := Aside0.mk h1
  have hgs : 0 ≤ gs ∧ gs ≤ 1000 := by simp [geoB, inR] at h1; omega
  have hgn : 3 ≤ gn ∧ gn ≤ 5 := by simp [geoB, inR] at h1; omega
  have HGS := Aside0.mk hgs
  have HG3 := Aside0.mk hgn
  clear h1 hgs hgn
  by_cases h2 : (mems.length : Int) = gn
  ·have h2b : ((mems.length : Int) != gn) = false := by simp [h2]
   have H2 := Aside0.mk h2
   clear h2
   by_cases h3 : inR id 1 60000 = true
   ·by_cases h4 : lostB gn gs lost built = true
    ·have H4 := Aside0.mk h4
     clear h4
     by_cases h5 : dirtyB (⟨id, gn, gs, mems, lost, built, seq, tail, gen, dirty, fuse, down, broken⟩ : ArrV) = true
     ·have H5 := Aside0.mk h5
      clear h5
      go_enter Tryz.func36, Tryz.ntmps36
      go_upto_region 3 with (first
       | (go_at_call 77; refine (c_implGeoOk _ _ _).mono ?_; rw [H1.out]; rintro e wq ⟨rfl, hb⟩; have hs' := HS.out.below hb; clear hb HS; have HS := Aside0.mk hs'; clear hs'; clear k0 k1 k2 k3 k4 k5 k6 k7 k8 k9 k10 k11 k12; obtain ⟨k0, k1, k2, k3, k4, k5, k6, k7, k8, k9, k10, k11, k12⟩ := thirteen (HS.out.get 0 rfl))
       | (go_at_call 79; refine (c_lostOk _ _ _ _ HG3.out).mono ?_; rw [H4.out]; rintro e wq ⟨rfl, hb⟩; have hs' := HS.out.below hb; clear hb HS; have HS := Aside0.mk hs'; clear hs'; clear k0 k1 k2 k3 k4 k5 k6 k7 k8 k9 k10 k11 k12; obtain ⟨k0, k1, k2, k3, k4, k5, k6, k7, k8, k9, k10, k11, k12⟩ := thirteen (HS.out.get 0 rfl))
       | (go_at_call 80; refine (c_dirtyOk (ArrR_below H.out HS.out.toBelow) H1.out).mono ?_; rw [H5.out]; rintro e wq ⟨rfl, hb⟩; have hs' := HS.out.below hb; clear hb HS; have HS := Aside0.mk hs'; clear hs'; clear k0 k1 k2 k3 k4 k5 k6 k7 k8 k9 k10 k11 k12; obtain ⟨k0, k1, k2, k3, k4, k5, k6, k7, k8, k9, k10, k11, k12⟩ := thirteen (HS.out.get 0 rfl))
       | (go_at_call 78; refine (c_within _ _ _ _).mono ?_; rintro e wq ⟨rfl, hb⟩; have hs' := HS.out.dr hb; clear hb HS; have HS := Aside0.mk hs'; clear hs'; clear k0 k1 k2 k3 k4 k5 k6 k7 k8 k9 k10 k11 k12; obtain ⟨k0, k1, k2, k3, k4, k5, k6, k7, k8, k9, k10, k11, k12⟩ := thirteen (HS.out.get 0 rfl))
       | fail)
      go_wp2
      go_loopw [43] (fun v43 wr => ∃ i : Nat, i ≤ mems.length ∧ v43 = .int .i64 i ∧ Aside0 (∀ j y, j < i → mems[j]? = some y → okM (⟨id, gn, gs, mems, lost, built, seq, tail, gen, dirty, fuse, down, broken⟩ : ArrV) j y = true) ∧ Aside0 (Sep w [] wr [bx w.heap.size 34 #[.int .i64 id, .int .i64 gn, .int .i64 gs, .slice A1 mems.length c1, .int .i64 lost, .int .i64 built, .int .i64 seq, .int .i64 tail, .int .i64 gen, vd, .int .i64 fuse, .bool down, .bool broken]])) (fun v43 _ => mems.length - (intOf v43).toNat)
      case atStart => exact ⟨0, by omega, rfl, ⟨fun j y hj => by omega⟩, HS⟩
      case round =>
       clear HS k0 k1 k2 k3 k4 k5 k6 k7 k8 k9 k10 k11 k12
       obtain ⟨i, hi, rfl, ht, HR⟩ := hrel
       obtain ⟨k0, k1, k2, k3, k4, k5, k6, k7, k8, k9, k10, k11, k12⟩ := thirteen (HR.out.get 0 rfl)
       by_cases hlt : i < mems.length
       ·obtain ⟨x, hxi⟩ : ∃ x, mems[i]? = some x := ⟨_, List.getElem?_eq_getElem hlt⟩
        obtain ⟨ad, cap, ha, hc⟩ := RK_mems R1.out (by omega)
        obtain rfl := (Value.slice.inj ha).1
        obtain ⟨B1, d1, B2, d2, B3, d3, x0, x1, x2, x3, hM⟩ := hc i x hxi
        replace x0 := HR.out.old x0
        replace x1 := HR.out.old x1
        replace x2 := HR.out.old x2
        replace x3 := HR.out.old x3
        have RM := Aside0.mk hM
        have Hxi := Aside0.mk hxi
        have i0 : (0 : Int) ≤ (i : Int) := by omega
        have il : (i : Int) < (mems.length : Int) := by omega
        have hsx := (HSM.out x (List.mem_of_getElem? hxi)).1
        generalize hxf : x.failed = xf at *
        have Hxf := Aside0.mk hxf
        clear ha hc hM hxi hxf
        go_upto_region 6 with fail
        have hB := HR.out.alloc (g := wr.heap.size) rfl #[.slice B1 x.secs.length d1, .slice B2 x.cache.length d2, .bool xf, .slice B3 x.bad.length d3] 89
        generalize hgg : wr.heap.size = gm at *
        generalize hww : wr.alloc (.cells #[.slice B1 x.secs.length d1, .slice B2 x.cache.length d2, .bool xf, .slice B3 x.bad.length d3] 89 (0, 0)) = wm at *
        have Hm := Aside0.mk hB
        clear hB hgg hww x0 x1 x2 x3 HR k0 k1 k2 k3 k4 k5 k6 k7 k8 k9 k10 k11 k12
        obtain ⟨m0, m1, m2, m3⟩ := four (Hm.out.get 0 rfl)
        obtain ⟨k0, k1, k2, k3, k4, k5, k6, k7, k8, k9, k10, k11, k12⟩ := thirteen (Hm.out.get 1 rfl)
        by_cases hmb : memB x = true
        ·have HMB := Aside0.mk hmb
         clear hmb
         by_cases hln : (x.secs.length : Int) = 6 + gs
         ·have HLN := Aside0.mk hln
          have hne : ((x.secs.length : Int) != 6 + gs) = false := by simp [hln]
          clear hln
          cases xf
          ·have HALL : ∀ w' : World, Below wm.heap.size wm w' → (w'.cell? ⟨gm, 0, none⟩ = some (.slice B1 x.secs.length d1) ∧ w'.cell? ⟨gm, 1, none⟩ = some (.slice B2 x.cache.length d2) ∧ w'.cell? ⟨gm, 2, none⟩ = some (.bool false) ∧ w'.cell? ⟨gm, 3, none⟩ = some (.slice B3 x.bad.length d3) ∧ w'.cell? ⟨w.heap.size, 0, none⟩ = some (.int .i64 id) ∧ w'.cell? ⟨w.heap.size, 1, none⟩ = some (.int .i64 gn) ∧ w'.cell? ⟨w.heap.size, 2, none⟩ = some (.int .i64 gs) ∧ w'.cell? ⟨w.heap.size, 3, none⟩ = some (.slice (some ad) mems.length c1) ∧ w'.cell? ⟨w.heap.size, 4, none⟩ = some (.int .i64 lost) ∧ w'.cell? ⟨w.heap.size, 5, none⟩ = some (.int .i64 built) ∧ w'.cell? ⟨w.heap.size, 6, none⟩ = some (.int .i64 seq) ∧ w'.cell? ⟨w.heap.size, 7, none⟩ = some (.int .i64 tail) ∧ w'.cell? ⟨w.heap.size, 8, none⟩ = some (.int .i64 gen) ∧ w'.cell? ⟨w.heap.size, 9, none⟩ = some (vd) ∧ w'.cell? ⟨w.heap.size, 10, none⟩ = some (.int .i64 fuse) ∧ w'.cell? ⟨w.heap.size, 11, none⟩ = some (.bool down) ∧ w'.cell? ⟨w.heap.size, 12, none⟩ = some (.bool broken)) := fun w' hb => ⟨(hb.cell (lt_of_cell m0)).trans m0, (hb.cell (lt_of_cell m1)).trans m1, (hb.cell (lt_of_cell m2)).trans m2, (hb.cell (lt_of_cell m3)).trans m3, (hb.cell (lt_of_cell k0)).trans k0, (hb.cell (lt_of_cell k1)).trans k1, (hb.cell (lt_of_cell k2)).trans k2, (hb.cell (lt_of_cell k3)).trans k3, (hb.cell (lt_of_cell k4)).trans k4, (hb.cell (lt_of_cell k5)).trans k5, (hb.cell (lt_of_cell k6)).trans k6, (hb.cell (lt_of_cell k7)).trans k7, (hb.cell (lt_of_cell k8)).trans k8, (hb.cell (lt_of_cell k9)).trans k9, (hb.cell (lt_of_cell k10)).trans k10, (hb.cell (lt_of_cell k11)).trans k11, (hb.cell (lt_of_cell k12)).trans k12⟩
           replace HALL := Aside0.mk HALL
           clear m0 m1 m2 m3 k0 k1 k2 k3 k4 k5 k6 k7 k8 k9 k10 k11 k12
           refine wp_region_seqp (fun w' => Below wm.heap.size wm w') [] [(0, 1), (1, 0), (2, 2), (3, 2), (4, 2), (7, 2), (5, 1), (6, 2), (8, 1), (9, 0), (10, 2), (11, 2), (12, 2), (13, 2), (14, 1), (15, 2), (16, 2), (18, 2), (17, 1), (19, 2), (20, 2), (21, 2), (22, 2), (23, 1), (24, 2), (25, 2), (26, 2)] (by kernel_rfl) (by kernel_rfl) ?_
           have hS : Below wm.heap.size wm wm.drew := Below.drew (Below.refl _ _)
           repeat ((first | (refine seqp_pure rfl (fun _ _ _ h => h) (by rfl) (fun w_ => by go_simp; first | done | with_reducible rfl) ?_) | (refine seqp_take hS rfl (fun _ _ _ h => h) (by rfl) (fun w_ hSw => by have hSc := HALL.out w_ hSw; clear hSw; go_simp; first | done | with_reducible rfl) ?_) | (refine seqp_skip2 rfl (fun _ _ _ h => h) (by rfl) ?_) | (refine seqp_skip1 hS rfl (fun _ _ _ h => h) (by rfl) ?_) | (refine seqp_skip0 rfl (by rfl) ?_)); (try simp only [Act.put, qqP]))
           refine seqp_step rfl (fun K hK => ?_)
           go_simp
           go_at_call 81; refine (c_implMemOk (MemR_below RM.out (Hm.out.below hS).toBelow)).mono ?_; rw [HMB.out]; rintro e w3 ⟨rfl, hb⟩
           replace hS := hS.trans (hb.mono hS.size); clear hb; refine hK.out _ _ ⟨fun _ _ => hS, ?_⟩; clear hK K; (try simp only [Act.put, qqP])
           repeat ((first | (refine seqp_pure rfl (fun _ _ _ h => h) (by rfl) (fun w_ => by go_simp; first | done | with_reducible rfl) ?_) | (refine seqp_take hS rfl (fun _ _ _ h => h) (by rfl) (fun w_ hSw => by have hSc := HALL.out w_ hSw; clear hSw; go_simp; first | done | with_reducible rfl) ?_) | (refine seqp_skip2 rfl (fun _ _ _ h => h) (by rfl) ?_) | (refine seqp_skip1 hS rfl (fun _ _ _ h => h) (by rfl) ?_) | (refine seqp_skip0 rfl (by rfl) ?_)); (try simp only [Act.put, qqP]))
           refine seqp_step rfl (fun K hK => ?_)
           go_simp
           go_at_call 82; refine (c_implSectors _ _ HGS.out.1 HGS.out.2).mono ?_; rintro e w4 ⟨rfl, hb⟩
           replace hS := hS.trans (hb.mono hS.size); clear hb; refine hK.out _ _ ⟨fun _ _ => hS, ?_⟩; clear hK K; (try simp only [Act.put, qqP])
           repeat ((first | (refine seqp_pure rfl (fun _ _ _ h => h) (by rfl) (fun w_ => by go_simp; first | done | with_reducible rfl) ?_) | (refine seqp_take hS rfl (fun _ _ _ h => h) (by rfl) (fun w_ hSw => by have hSc := HALL.out w_ hSw; clear hSw; go_simp; first | done | with_reducible rfl) ?_) | (refine seqp_skip2 rfl (fun _ _ _ h => h) (by rfl) ?_) | (refine seqp_skip1 hS rfl (fun _ _ _ h => h) (by rfl) ?_) | (refine seqp_skip0 rfl (by rfl) ?_)); (try simp only [Act.put, qqP]))
           have HE := Aside0.mk (Hm.out.below hS)
           clear hS HALL
           refine seqp_done ?_
           go_simp
           go_wp2
           go_roundw
           case rel => exact ⟨i + 1, by omega, by go_num, ⟨ix_next ht.out Hxi.out (by unfold okM; simp only; rw [HMB.out, decide_eq_true HLN.out, Hxf.out]; rfl)⟩, ⟨by have hB := HE.out.sel [1] (by decide) (by simp); simp only [qqN] at hB; exact hB⟩⟩
           case measure => simp [intOf]; omega
          ·by_cases hlo : lost = (i : Int)
           ·have HLO := Aside0.mk (decide_eq_true hlo)
            have hlb : (lost != (i : Int)) = false := by simp [hlo]
            clear hlo
            have HALL : ∀ w' : World, Below wm.heap.size wm w' → (w'.cell? ⟨gm, 0, none⟩ = some (.slice B1 x.secs.length d1) ∧ w'.cell? ⟨gm, 1, none⟩ = some (.slice B2 x.cache.length d2) ∧ w'.cell? ⟨gm, 2, none⟩ = some (.bool true) ∧ w'.cell? ⟨gm, 3, none⟩ = some (.slice B3 x.bad.length d3) ∧ w'.cell? ⟨w.heap.size, 0, none⟩ = some (.int .i64 id) ∧ w'.cell? ⟨w.heap.size, 1, none⟩ = some (.int .i64 gn) ∧ w'.cell? ⟨w.heap.size, 2, none⟩ = some (.int .i64 gs) ∧ w'.cell? ⟨w.heap.size, 3, none⟩ = some (.slice (some ad) mems.length c1) ∧ w'.cell? ⟨w.heap.size, 4, none⟩ = some (.int .i64 lost) ∧ w'.cell? ⟨w.heap.size, 5, none⟩ = some (.int .i64 built) ∧ w'.cell? ⟨w.heap.size, 6, none⟩ = some (.int .i64 seq) ∧ w'.cell? ⟨w.heap.size, 7, none⟩ = some (.int .i64 tail) ∧ w'.cell? ⟨w.heap.size, 8, none⟩ = some (.int .i64 gen) ∧ w'.cell? ⟨w.heap.size, 9, none⟩ = some (vd) ∧ w'.cell? ⟨w.heap.size, 10, none⟩ = some (.int .i64 fuse) ∧ w'.cell? ⟨w.heap.size, 11, none⟩ = some (.bool down) ∧ w'.cell? ⟨w.heap.size, 12, none⟩ = some (.bool broken)) := fun w' hb => ⟨(hb.cell (lt_of_cell m0)).trans m0, (hb.cell (lt_of_cell m1)).trans m1, (hb.cell (lt_of_cell m2)).trans m2, (hb.cell (lt_of_cell m3)).trans m3, (hb.cell (lt_of_cell k0)).trans k0, (hb.cell (lt_of_cell k1)).trans k1, (hb.cell (lt_of_cell k2)).trans k2, (hb.cell (lt_of_cell k3)).trans k3, (hb.cell (lt_of_cell k4)).trans k4, (hb.cell (lt_of_cell k5)).trans k5, (hb.cell (lt_of_cell k6)).trans k6, (hb.cell (lt_of_cell k7)).trans k7, (hb.cell (lt_of_cell k8)).trans k8, (hb.cell (lt_of_cell k9)).trans k9, (hb.cell (lt_of_cell k10)).trans k10, (hb.cell (lt_of_cell k11)).trans k11, (hb.cell (lt_of_cell k12)).trans k12⟩
            replace HALL := Aside0.mk HALL
            clear m0 m1 m2 m3 k0 k1 k2 k3 k4 k5 k6 k7 k8 k9 k10 k11 k12
            refine wp_region_seqp (fun w' => Below wm.heap.size wm w') [] [(0, 1), (1, 0), (2, 2), (3, 2), (4, 2), (7, 2), (5, 1), (6, 2), (8, 1), (9, 0), (10, 2), (11, 2), (12, 2), (13, 2), (14, 1), (15, 2), (16, 2), (18, 2), (17, 1), (19, 2), (20, 2), (21, 2), (22, 2), (23, 1), (24, 2), (25, 2), (26, 2)] (by kernel_rfl) (by kernel_rfl) ?_
            have hS : Below wm.heap.size wm wm.drew := Below.drew (Below.refl _ _)
            repeat ((first | (refine seqp_pure rfl (fun _ _ _ h => h) (by rfl) (fun w_ => by go_simp; first | done | with_reducible rfl) ?_) | (refine seqp_take hS rfl (fun _ _ _ h => h) (by rfl) (fun w_ hSw => by have hSc := HALL.out w_ hSw; clear hSw; go_simp; first | done | with_reducible rfl) ?_) | (refine seqp_skip2 rfl (fun _ _ _ h => h) (by rfl) ?_) | (refine seqp_skip1 hS rfl (fun _ _ _ h => h) (by rfl) ?_) | (refine seqp_skip0 rfl (by rfl) ?_)); (try simp only [Act.put, qqP]))
            refine seqp_step rfl (fun K hK => ?_)
            go_simp
            go_at_call 81; refine (c_implMemOk (MemR_below RM.out (Hm.out.below hS).toBelow)).mono ?_; rw [HMB.out]; rintro e w3 ⟨rfl, hb⟩
            replace hS := hS.trans (hb.mono hS.size); clear hb; refine hK.out _ _ ⟨fun _ _ => hS, ?_⟩; clear hK K; (try simp only [Act.put, qqP])
            repeat ((first | (refine seqp_pure rfl (fun _ _ _ h => h) (by rfl) (fun w_ => by go_simp; first | done | with_reducible rfl) ?_) | (refine seqp_take hS rfl (fun _ _ _ h => h) (by rfl) (fun w_ hSw => by have hSc := HALL.out w_ hSw; clear hSw; go_simp; first | done | with_reducible rfl) ?_) | (refine seqp_skip2 rfl (fun _ _ _ h => h) (by rfl) ?_) | (refine seqp_skip1 hS rfl (fun _ _ _ h => h) (by rfl) ?_) | (refine seqp_skip0 rfl (by rfl) ?_)); (try simp only [Act.put, qqP]))
            refine seqp_step rfl (fun K hK => ?_)
            go_simp
            go_at_call 82; refine (c_implSectors _ _ HGS.out.1 HGS.out.2).mono ?_; rintro e w4 ⟨rfl, hb⟩
            replace hS := hS.trans (hb.mono hS.size); clear hb; refine hK.out _ _ ⟨fun _ _ => hS, ?_⟩; clear hK K; (try simp only [Act.put, qqP])
            repeat ((first | (refine seqp_pure rfl (fun _ _ _ h => h) (by rfl) (fun w_ => by go_simp; first | done | with_reducible rfl) ?_) | (refine seqp_take hS rfl (fun _ _ _ h => h) (by rfl) (fun w_ hSw => by have hSc := HALL.out w_ hSw; clear hSw; go_simp; first | done | with_reducible rfl) ?_) | (refine seqp_skip2 rfl (fun _ _ _ h => h) (by rfl) ?_) | (refine seqp_skip1 hS rfl (fun _ _ _ h => h) (by rfl) ?_) | (refine seqp_skip0 rfl (by rfl) ?_)); (try simp only [Act.put, qqP]))
            have HE := Aside0.mk (Hm.out.below hS)
            clear hS HALL
            refine seqp_done ?_
            go_simp
            go_wp2
            go_roundw
            case rel => exact ⟨i + 1, by omega, by go_num, ⟨ix_next ht.out Hxi.out (by unfold okM; simp only; rw [HMB.out, decide_eq_true HLN.out, Hxf.out, HLO.out]; rfl)⟩, ⟨by have hB := HE.out.sel [1] (by decide) (by simp); simp only [qqN] at hB; exact hB⟩⟩
            case measure => simp [intOf]; omega
           ·have HLO := Aside0.mk (decide_eq_false hlo)
            have hlb : (lost != (i : Int)) = true := by simp [hlo]
            clear hlo
            cases hbr : broken
            ·subst hbr
             have HALL : ∀ w' : World, Below wm.heap.size wm w' → (w'.cell? ⟨gm, 0, none⟩ = some (.slice B1 x.secs.length d1) ∧ w'.cell? ⟨gm, 1, none⟩ = some (.slice B2 x.cache.length d2) ∧ w'.cell? ⟨gm, 2, none⟩ = some (.bool true) ∧ w'.cell? ⟨gm, 3, none⟩ = some (.slice B3 x.bad.length d3) ∧ w'.cell? ⟨w.heap.size, 0, none⟩ = some (.int .i64 id) ∧ w'.cell? ⟨w.heap.size, 1, none⟩ = some (.int .i64 gn) ∧ w'.cell? ⟨w.heap.size, 2, none⟩ = some (.int .i64 gs) ∧ w'.cell? ⟨w.heap.size, 3, none⟩ = some (.slice (some ad) mems.length c1) ∧ w'.cell? ⟨w.heap.size, 4, none⟩ = some (.int .i64 lost) ∧ w'.cell? ⟨w.heap.size, 5, none⟩ = some (.int .i64 built) ∧ w'.cell? ⟨w.heap.size, 6, none⟩ = some (.int .i64 seq) ∧ w'.cell? ⟨w.heap.size, 7, none⟩ = some (.int .i64 tail) ∧ w'.cell? ⟨w.heap.size, 8, none⟩ = some (.int .i64 gen) ∧ w'.cell? ⟨w.heap.size, 9, none⟩ = some (vd) ∧ w'.cell? ⟨w.heap.size, 10, none⟩ = some (.int .i64 fuse) ∧ w'.cell? ⟨w.heap.size, 11, none⟩ = some (.bool down) ∧ w'.cell? ⟨w.heap.size, 12, none⟩ = some (.bool false)) := fun w' hb => ⟨(hb.cell (lt_of_cell m0)).trans m0, (hb.cell (lt_of_cell m1)).trans m1, (hb.cell (lt_of_cell m2)).trans m2, (hb.cell (lt_of_cell m3)).trans m3, (hb.cell (lt_of_cell k0)).trans k0, (hb.cell (lt_of_cell k1)).trans k1, (hb.cell (lt_of_cell k2)).trans k2, (hb.cell (lt_of_cell k3)).trans k3, (hb.cell (lt_of_cell k4)).trans k4, (hb.cell (lt_of_cell k5)).trans k5, (hb.cell (lt_of_cell k6)).trans k6, (hb.cell (lt_of_cell k7)).trans k7, (hb.cell (lt_of_cell k8)).trans k8, (hb.cell (lt_of_cell k9)).trans k9, (hb.cell (lt_of_cell k10)).trans k10, (hb.cell (lt_of_cell k11)).trans k11, (hb.cell (lt_of_cell k12)).trans k12⟩
             replace HALL := Aside0.mk HALL
             clear m0 m1 m2 m3 k0 k1 k2 k3 k4 k5 k6 k7 k8 k9 k10 k11 k12
             refine wp_region_seqp (fun w' => Below wm.heap.size wm w') [] [(0, 1), (1, 0), (2, 2), (3, 2), (4, 2), (7, 2), (5, 1), (6, 2), (8, 1), (9, 0), (10, 2), (11, 2), (12, 2), (13, 2), (14, 1), (15, 2), (16, 2), (18, 2), (17, 1), (19, 2), (20, 2), (21, 2), (22, 2), (23, 1), (24, 2), (25, 2), (26, 2)] (by kernel_rfl) (by kernel_rfl) ?_
             have hS : Below wm.heap.size wm wm.drew := Below.drew (Below.refl _ _)
             repeat ((first | (refine seqp_pure rfl (fun _ _ _ h => h) (by rfl) (fun w_ => by go_simp; first | done | with_reducible rfl) ?_) | (refine seqp_take hS rfl (fun _ _ _ h => h) (by rfl) (fun w_ hSw => by have hSc := HALL.out w_ hSw; clear hSw; go_simp; first | done | with_reducible rfl) ?_) | (refine seqp_skip2 rfl (fun _ _ _ h => h) (by rfl) ?_) | (refine seqp_skip1 hS rfl (fun _ _ _ h => h) (by rfl) ?_) | (refine seqp_skip0 rfl (by rfl) ?_)); (try simp only [Act.put, qqP]))
             refine seqp_step rfl (fun K hK => ?_)
             go_simp
             go_at_call 81; refine (c_implMemOk (MemR_below RM.out (Hm.out.below hS).toBelow)).mono ?_; rw [HMB.out]; rintro e w3 ⟨rfl, hb⟩
             replace hS := hS.trans (hb.mono hS.size); clear hb; refine hK.out _ _ ⟨fun _ _ => hS, ?_⟩; clear hK K; (try simp only [Act.put, qqP])
             repeat ((first | (refine seqp_pure rfl (fun _ _ _ h => h) (by rfl) (fun w_ => by go_simp; first | done | with_reducible rfl) ?_) | (refine seqp_take hS rfl (fun _ _ _ h => h) (by rfl) (fun w_ hSw => by have hSc := HALL.out w_ hSw; clear hSw; go_simp; first | done | with_reducible rfl) ?_) | (refine seqp_skip2 rfl (fun _ _ _ h => h) (by rfl) ?_) | (refine seqp_skip1 hS rfl (fun _ _ _ h => h) (by rfl) ?_) | (refine seqp_skip0 rfl (by rfl) ?_)); (try simp only [Act.put, qqP]))
             refine seqp_step rfl (fun K hK => ?_)
             go_simp
             go_at_call 82; refine (c_implSectors _ _ HGS.out.1 HGS.out.2).mono ?_; rintro e w4 ⟨rfl, hb⟩
             replace hS := hS.trans (hb.mono hS.size); clear hb; refine hK.out _ _ ⟨fun _ _ => hS, ?_⟩; clear hK K; (try simp only [Act.put, qqP])
             repeat ((first | (refine seqp_pure rfl (fun _ _ _ h => h) (by rfl) (fun w_ => by go_simp; first | done | with_reducible rfl) ?_) | (refine seqp_take hS rfl (fun _ _ _ h => h) (by rfl) (fun w_ hSw => by have hSc := HALL.out w_ hSw; clear hSw; go_simp; first | done | with_reducible rfl) ?_) | (refine seqp_skip2 rfl (fun _ _ _ h => h) (by rfl) ?_) | (refine seqp_skip1 hS rfl (fun _ _ _ h => h) (by rfl) ?_) | (refine seqp_skip0 rfl (by rfl) ?_)); (try simp only [Act.put, qqP]))
             have HE := Aside0.mk (Hm.out.below hS)
             clear hS HALL
             refine seqp_done ?_
             go_simp
             go_wp2
             go_ret
             exact ⟨ret_bool (arrB_no (fun hp => by have q := hp.mems; rw [show memsB (⟨id, gn, gs, mems, lost, built, seq, tail, gen, dirty, fuse, down, false⟩ : ArrV) = false from allIx_false Hxi.out (by unfold okM; simp only; rw [HMB.out, decide_eq_true HLN.out, Hxf.out, HLO.out]; rfl)] at q; cases q)).symm, HE.out.toBelow⟩
            ·subst hbr
             have HALL : ∀ w' : World, Below wm.heap.size wm w' → (w'.cell? ⟨gm, 0, none⟩ = some (.slice B1 x.secs.length d1) ∧ w'.cell? ⟨gm, 1, none⟩ = some (.slice B2 x.cache.length d2) ∧ w'.cell? ⟨gm, 2, none⟩ = some (.bool true) ∧ w'.cell? ⟨gm, 3, none⟩ = some (.slice B3 x.bad.length d3) ∧ w'.cell? ⟨w.heap.size, 0, none⟩ = some (.int .i64 id) ∧ w'.cell? ⟨w.heap.size, 1, none⟩ = some (.int .i64 gn) ∧ w'.cell? ⟨w.heap.size, 2, none⟩ = some (.int .i64 gs) ∧ w'.cell? ⟨w.heap.size, 3, none⟩ = some (.slice (some ad) mems.length c1) ∧ w'.cell? ⟨w.heap.size, 4, none⟩ = some (.int .i64 lost) ∧ w'.cell? ⟨w.heap.size, 5, none⟩ = some (.int .i64 built) ∧ w'.cell? ⟨w.heap.size, 6, none⟩ = some (.int .i64 seq) ∧ w'.cell? ⟨w.heap.size, 7, none⟩ = some (.int .i64 tail) ∧ w'.cell? ⟨w.heap.size, 8, none⟩ = some (.int .i64 gen) ∧ w'.cell? ⟨w.heap.size, 9, none⟩ = some (vd) ∧ w'.cell? ⟨w.heap.size, 10, none⟩ = some (.int .i64 fuse) ∧ w'.cell? ⟨w.heap.size, 11, none⟩ = some (.bool down) ∧ w'.cell? ⟨w.heap.size, 12, none⟩ = some (.bool true)) := fun w' hb => ⟨(hb.cell (lt_of_cell m0)).trans m0, (hb.cell (lt_of_cell m1)).trans m1, (hb.cell (lt_of_cell m2)).trans m2, (hb.cell (lt_of_cell m3)).trans m3, (hb.cell (lt_of_cell k0)).trans k0, (hb.cell (lt_of_cell k1)).trans k1, (hb.cell (lt_of_cell k2)).trans k2, (hb.cell (lt_of_cell k3)).trans k3, (hb.cell (lt_of_cell k4)).trans k4, (hb.cell (lt_of_cell k5)).trans k5, (hb.cell (lt_of_cell k6)).trans k6, (hb.cell (lt_of_cell k7)).trans k7, (hb.cell (lt_of_cell k8)).trans k8, (hb.cell (lt_of_cell k9)).trans k9, (hb.cell (lt_of_cell k10)).trans k10, (hb.cell (lt_of_cell k11)).trans k11, (hb.cell (lt_of_cell k12)).trans k12⟩
             replace HALL := Aside0.mk HALL
             clear m0 m1 m2 m3 k0 k1 k2 k3 k4 k5 k6 k7 k8 k9 k10 k11 k12
             refine wp_region_seqp (fun w' => Below wm.heap.size wm w') [] [(0, 1), (1, 0), (2, 2), (3, 2), (4, 2), (7, 2), (5, 1), (6, 2), (8, 1), (9, 0), (10, 2), (11, 2), (12, 2), (13, 2), (14, 1), (15, 2), (16, 2), (18, 2), (17, 1), (19, 2), (20, 2), (21, 2), (22, 2), (23, 1), (24, 2), (25, 2), (26, 2)] (by kernel_rfl) (by kernel_rfl) ?_
             have hS : Below wm.heap.size wm wm.drew := Below.drew (Below.refl _ _)
             repeat ((first | (refine seqp_pure rfl (fun _ _ _ h => h) (by rfl) (fun w_ => by go_simp; first | done | with_reducible rfl) ?_) | (refine seqp_take hS rfl (fun _ _ _ h => h) (by rfl) (fun w_ hSw => by have hSc := HALL.out w_ hSw; clear hSw; go_simp; first | done | with_reducible rfl) ?_) | (refine seqp_skip2 rfl (fun _ _ _ h => h) (by rfl) ?_) | (refine seqp_skip1 hS rfl (fun _ _ _ h => h) (by rfl) ?_) | (refine seqp_skip0 rfl (by rfl) ?_)); (try simp only [Act.put, qqP]))
             refine seqp_step rfl (fun K hK => ?_)
             go_simp
             go_at_call 81; refine (c_implMemOk (MemR_below RM.out (Hm.out.below hS).toBelow)).mono ?_; rw [HMB.out]; rintro e w3 ⟨rfl, hb⟩
             replace hS := hS.trans (hb.mono hS.size); clear hb; refine hK.out _ _ ⟨fun _ _ => hS, ?_⟩; clear hK K; (try simp only [Act.put, qqP])
             repeat ((first | (refine seqp_pure rfl (fun _ _ _ h => h) (by rfl) (fun w_ => by go_simp; first | done | with_reducible rfl) ?_) | (refine seqp_take hS rfl (fun _ _ _ h => h) (by rfl) (fun w_ hSw => by have hSc := HALL.out w_ hSw; clear hSw; go_simp; first | done | with_reducible rfl) ?_) | (refine seqp_skip2 rfl (fun _ _ _ h => h) (by rfl) ?_) | (refine seqp_skip1 hS rfl (fun _ _ _ h => h) (by rfl) ?_) | (refine seqp_skip0 rfl (by rfl) ?_)); (try simp only [Act.put, qqP]))
             refine seqp_step rfl (fun K hK => ?_)
             go_simp
             go_at_call 82; refine (c_implSectors _ _ HGS.out.1 HGS.out.2).mono ?_; rintro e w4 ⟨rfl, hb⟩
             replace hS := hS.trans (hb.mono hS.size); clear hb; refine hK.out _ _ ⟨fun _ _ => hS, ?_⟩; clear hK K; (try simp only [Act.put, qqP])
             repeat ((first | (refine seqp_pure rfl (fun _ _ _ h => h) (by rfl) (fun w_ => by go_simp; first | done | with_reducible rfl) ?_) | (refine seqp_take hS rfl (fun _ _ _ h => h) (by rfl) (fun w_ hSw => by have hSc := HALL.out w_ hSw; clear hSw; go_simp; first | done | with_reducible rfl) ?_) | (refine seqp_skip2 rfl (fun _ _ _ h => h) (by rfl) ?_) | (refine seqp_skip1 hS rfl (fun _ _ _ h => h) (by rfl) ?_) | (refine seqp_skip0 rfl (by rfl) ?_)); (try simp only [Act.put, qqP]))
             have HE := Aside0.mk (Hm.out.below hS)
             clear hS HALL
             refine seqp_done ?_
             go_simp
             go_wp2
             go_roundw
             case rel => exact ⟨i + 1, by omega, by go_num, ⟨ix_next ht.out Hxi.out (by unfold okM; simp only; rw [HMB.out, decide_eq_true HLN.out, Hxf.out, HLO.out]; rfl)⟩, ⟨by have hB := HE.out.sel [1] (by decide) (by simp); simp only [qqN] at hB; exact hB⟩⟩
             case measure => simp [intOf]; omega
         ·have HLN := Aside0.mk hln
          have hne : ((x.secs.length : Int) != 6 + gs) = true := by simp [hln]
          clear hln
          have HALL : ∀ w' : World, Below wm.heap.size wm w' → (w'.cell? ⟨gm, 0, none⟩ = some (.slice B1 x.secs.length d1) ∧ w'.cell? ⟨gm, 1, none⟩ = some (.slice B2 x.cache.length d2) ∧ w'.cell? ⟨gm, 2, none⟩ = some (.bool xf) ∧ w'.cell? ⟨gm, 3, none⟩ = some (.slice B3 x.bad.length d3) ∧ w'.cell? ⟨w.heap.size, 0, none⟩ = some (.int .i64 id) ∧ w'.cell? ⟨w.heap.size, 1, none⟩ = some (.int .i64 gn) ∧ w'.cell? ⟨w.heap.size, 2, none⟩ = some (.int .i64 gs) ∧ w'.cell? ⟨w.heap.size, 3, none⟩ = some (.slice (some ad) mems.length c1) ∧ w'.cell? ⟨w.heap.size, 4, none⟩ = some (.int .i64 lost) ∧ w'.cell? ⟨w.heap.size, 5, none⟩ = some (.int .i64 built) ∧ w'.cell? ⟨w.heap.size, 6, none⟩ = some (.int .i64 seq) ∧ w'.cell? ⟨w.heap.size, 7, none⟩ = some (.int .i64 tail) ∧ w'.cell? ⟨w.heap.size, 8, none⟩ = some (.int .i64 gen) ∧ w'.cell? ⟨w.heap.size, 9, none⟩ = some (vd) ∧ w'.cell? ⟨w.heap.size, 10, none⟩ = some (.int .i64 fuse) ∧ w'.cell? ⟨w.heap.size, 11, none⟩ = some (.bool down) ∧ w'.cell? ⟨w.heap.size, 12, none⟩ = some (.bool broken)) := fun w' hb => ⟨(hb.cell (lt_of_cell m0)).trans m0, (hb.cell (lt_of_cell m1)).trans m1, (hb.cell (lt_of_cell m2)).trans m2, (hb.cell (lt_of_cell m3)).trans m3, (hb.cell (lt_of_cell k0)).trans k0, (hb.cell (lt_of_cell k1)).trans k1, (hb.cell (lt_of_cell k2)).trans k2, (hb.cell (lt_of_cell k3)).trans k3, (hb.cell (lt_of_cell k4)).trans k4, (hb.cell (lt_of_cell k5)).trans k5, (hb.cell (lt_of_cell k6)).trans k6, (hb.cell (lt_of_cell k7)).trans k7, (hb.cell (lt_of_cell k8)).trans k8, (hb.cell (lt_of_cell k9)).trans k9, (hb.cell (lt_of_cell k10)).trans k10, (hb.cell (lt_of_cell k11)).trans k11, (hb.cell (lt_of_cell k12)).trans k12⟩
          replace HALL := Aside0.mk HALL
          clear m0 m1 m2 m3 k0 k1 k2 k3 k4 k5 k6 k7 k8 k9 k10 k11 k12
          refine wp_region_seqp (fun w' => Below wm.heap.size wm w') [] [(0, 1), (1, 0), (2, 2), (3, 2), (4, 2), (7, 2), (5, 1), (6, 2), (8, 1), (9, 0), (10, 2), (11, 2), (12, 2), (13, 2), (14, 1), (15, 2), (16, 2), (18, 2), (17, 1), (19, 2), (20, 2), (21, 2), (22, 2), (23, 1), (24, 2), (25, 2), (26, 2)] (by kernel_rfl) (by kernel_rfl) ?_
          have hS : Below wm.heap.size wm wm.drew := Below.drew (Below.refl _ _)
          repeat ((first | (refine seqp_pure rfl (fun _ _ _ h => h) (by rfl) (fun w_ => by go_simp; first | done | with_reducible rfl) ?_) | (refine seqp_take hS rfl (fun _ _ _ h => h) (by rfl) (fun w_ hSw => by have hSc := HALL.out w_ hSw; clear hSw; go_simp; first | done | with_reducible rfl) ?_) | (refine seqp_skip2 rfl (fun _ _ _ h => h) (by rfl) ?_) | (refine seqp_skip1 hS rfl (fun _ _ _ h => h) (by rfl) ?_) | (refine seqp_skip0 rfl (by rfl) ?_)); (try simp only [Act.put, qqP]))
          refine seqp_step rfl (fun K hK => ?_)
          go_simp
          go_at_call 81; refine (c_implMemOk (MemR_below RM.out (Hm.out.below hS).toBelow)).mono ?_; rw [HMB.out]; rintro e w3 ⟨rfl, hb⟩
          replace hS := hS.trans (hb.mono hS.size); clear hb; refine hK.out _ _ ⟨fun _ _ => hS, ?_⟩; clear hK K; (try simp only [Act.put, qqP])
          repeat ((first | (refine seqp_pure rfl (fun _ _ _ h => h) (by rfl) (fun w_ => by go_simp; first | done | with_reducible rfl) ?_) | (refine seqp_take hS rfl (fun _ _ _ h => h) (by rfl) (fun w_ hSw => by have hSc := HALL.out w_ hSw; clear hSw; go_simp; first | done | with_reducible rfl) ?_) | (refine seqp_skip2 rfl (fun _ _ _ h => h) (by rfl) ?_) | (refine seqp_skip1 hS rfl (fun _ _ _ h => h) (by rfl) ?_) | (refine seqp_skip0 rfl (by rfl) ?_)); (try simp only [Act.put, qqP]))
          refine seqp_step rfl (fun K hK => ?_)
          go_simp
          go_at_call 82; refine (c_implSectors _ _ HGS.out.1 HGS.out.2).mono ?_; rintro e w4 ⟨rfl, hb⟩
          replace hS := hS.trans (hb.mono hS.size); clear hb; refine hK.out _ _ ⟨fun _ _ => hS, ?_⟩; clear hK K; (try simp only [Act.put, qqP])
          repeat ((first | (refine seqp_pure rfl (fun _ _ _ h => h) (by rfl) (fun w_ => by go_simp; first | done | with_reducible rfl) ?_) | (refine seqp_take hS rfl (fun _ _ _ h => h) (by rfl) (fun w_ hSw => by have hSc := HALL.out w_ hSw; clear hSw; go_simp; first | done | with_reducible rfl) ?_) | (refine seqp_skip2 rfl (fun _ _ _ h => h) (by rfl) ?_) | (refine seqp_skip1 hS rfl (fun _ _ _ h => h) (by rfl) ?_) | (refine seqp_skip0 rfl (by rfl) ?_)); (try simp only [Act.put, qqP]))
          have HE := Aside0.mk (Hm.out.below hS)
          clear hS HALL
          refine seqp_done ?_
          go_simp
          go_wp2
          go_ret
          exact ⟨ret_bool (arrB_no (fun hp => by have q := hp.mems; rw [show memsB (⟨id, gn, gs, mems, lost, built, seq, tail, gen, dirty, fuse, down, broken⟩ : ArrV) = false from allIx_false Hxi.out (by unfold okM; simp only; rw [HMB.out, decide_eq_false HLN.out]; rfl)] at q; cases q)).symm, HE.out.toBelow⟩
        ·simp only [Bool.not_eq_true] at hmb
         have HMB := Aside0.mk hmb
         clear hmb
         have HALL : ∀ w' : World, Below wm.heap.size wm w' → (w'.cell? ⟨gm, 0, none⟩ = some (.slice B1 x.secs.length d1) ∧ w'.cell? ⟨gm, 1, none⟩ = some (.slice B2 x.cache.length d2) ∧ w'.cell? ⟨gm, 2, none⟩ = some (.bool xf) ∧ w'.cell? ⟨gm, 3, none⟩ = some (.slice B3 x.bad.length d3) ∧ w'.cell? ⟨w.heap.size, 0, none⟩ = some (.int .i64 id) ∧ w'.cell? ⟨w.heap.size, 1, none⟩ = some (.int .i64 gn) ∧ w'.cell? ⟨w.heap.size, 2, none⟩ = some (.int .i64 gs) ∧ w'.cell? ⟨w.heap.size, 3, none⟩ = some (.slice (some ad) mems.length c1) ∧ w'.cell? ⟨w.heap.size, 4, none⟩ = some (.int .i64 lost) ∧ w'.cell? ⟨w.heap.size, 5, none⟩ = some (.int .i64 built) ∧ w'.cell? ⟨w.heap.size, 6, none⟩ = some (.int .i64 seq) ∧ w'.cell? ⟨w.heap.size, 7, none⟩ = some (.int .i64 tail) ∧ w'.cell? ⟨w.heap.size, 8, none⟩ = some (.int .i64 gen) ∧ w'.cell? ⟨w.heap.size, 9, none⟩ = some (vd) ∧ w'.cell? ⟨w.heap.size, 10, none⟩ = some (.int .i64 fuse) ∧ w'.cell? ⟨w.heap.size, 11, none⟩ = some (.bool down) ∧ w'.cell? ⟨w.heap.size, 12, none⟩ = some (.bool broken)) := fun w' hb => ⟨(hb.cell (lt_of_cell m0)).trans m0, (hb.cell (lt_of_cell m1)).trans m1, (hb.cell (lt_of_cell m2)).trans m2, (hb.cell (lt_of_cell m3)).trans m3, (hb.cell (lt_of_cell k0)).trans k0, (hb.cell (lt_of_cell k1)).trans k1, (hb.cell (lt_of_cell k2)).trans k2, (hb.cell (lt_of_cell k3)).trans k3, (hb.cell (lt_of_cell k4)).trans k4, (hb.cell (lt_of_cell k5)).trans k5, (hb.cell (lt_of_cell k6)).trans k6, (hb.cell (lt_of_cell k7)).trans k7, (hb.cell (lt_of_cell k8)).trans k8, (hb.cell (lt_of_cell k9)).trans k9, (hb.cell (lt_of_cell k10)).trans k10, (hb.cell (lt_of_cell k11)).trans k11, (hb.cell (lt_of_cell k12)).trans k12⟩
         replace HALL := Aside0.mk HALL
         clear m0 m1 m2 m3 k0 k1 k2 k3 k4 k5 k6 k7 k8 k9 k10 k11 k12
         refine wp_region_seqp (fun w' => Below wm.heap.size wm w') [] [(0, 1), (1, 0), (2, 2), (3, 2), (4, 2), (7, 2), (5, 1), (6, 2), (8, 1), (9, 0), (10, 2), (11, 2), (12, 2), (13, 2), (14, 1), (15, 2), (16, 2), (18, 2), (17, 1), (19, 2), (20, 2), (21, 2), (22, 2), (23, 1), (24, 2), (25, 2), (26, 2)] (by kernel_rfl) (by kernel_rfl) ?_
         have hS : Below wm.heap.size wm wm.drew := Below.drew (Below.refl _ _)
         repeat ((first | (refine seqp_pure rfl (fun _ _ _ h => h) (by rfl) (fun w_ => by go_simp; first | done | with_reducible rfl) ?_) | (refine seqp_take hS rfl (fun _ _ _ h => h) (by rfl) (fun w_ hSw => by have hSc := HALL.out w_ hSw; clear hSw; go_simp; first | done | with_reducible rfl) ?_) | (refine seqp_skip2 rfl (fun _ _ _ h => h) (by rfl) ?_) | (refine seqp_skip1 hS rfl (fun _ _ _ h => h) (by rfl) ?_) | (refine seqp_skip0 rfl (by rfl) ?_)); (try simp only [Act.put, qqP]))
         refine seqp_step rfl (fun K hK => ?_)
         go_simp
         go_at_call 81; refine (c_implMemOk (MemR_below RM.out (Hm.out.below hS).toBelow)).mono ?_; rw [HMB.out]; rintro e w3 ⟨rfl, hb⟩
         replace hS := hS.trans (hb.mono hS.size); clear hb; refine hK.out _ _ ⟨fun _ _ => hS, ?_⟩; clear hK K; (try simp only [Act.put, qqP])
         repeat ((first | (refine seqp_pure rfl (fun _ _ _ h => h) (by rfl) (fun w_ => by go_simp; first | done | with_reducible rfl) ?_) | (refine seqp_take hS rfl (fun _ _ _ h => h) (by rfl) (fun w_ hSw => by have hSc := HALL.out w_ hSw; clear hSw; go_simp; first | done | with_reducible rfl) ?_) | (refine seqp_skip2 rfl (fun _ _ _ h => h) (by rfl) ?_) | (refine seqp_skip1 hS rfl (fun _ _ _ h => h) (by rfl) ?_) | (refine seqp_skip0 rfl (by rfl) ?_)); (try simp only [Act.put, qqP]))
         have HE := Aside0.mk (Hm.out.below hS)
         clear hS HALL
         refine seqp_done ?_
         go_simp
         go_wp2
         go_ret
         exact ⟨ret_bool (arrB_no (fun hp => by have q := hp.mems; rw [show memsB (⟨id, gn, gs, mems, lost, built, seq, tail, gen, dirty, fuse, down, broken⟩ : ArrV) = false from allIx_false Hxi.out (by unfold okM; simp only; rw [HMB.out]; rfl)] at q; cases q)).symm, HE.out.toBelow⟩
       ·obtain rfl : i = mems.length := by omega
        have hmm : memsB (⟨id, gn, gs, mems, lost, built, seq, tail, gen, dirty, fuse, down, broken⟩ : ArrV) = true := allIx_true (fun j y hj hy => ht.out j y hj hy)
        have HMM := Aside0.mk hmm
        have HS := HR
        clear hmm HR ht
        by_cases h6 : inR seq 0 60000 = true
        ·by_cases h7 : inR tail 0 60000 = true
         ·have ht6 : 0 ≤ seq ∧ seq ≤ 60000 := by simpa [inR] using h6
          have ht7 : 0 ≤ tail ∧ tail ≤ 60000 := by simpa [inR] using h7
          have wt : IntKind.i64.wrap (seq - tail) = seq - tail := IntWalk.i64_in _ (by omega)
          have HT6 := Aside0.mk ht6
          have HT7 := Aside0.mk ht7
          clear ht6 ht7
          by_cases h8 : inR gen 0 60000 = true
          ·by_cases h9 : inR (seq - tail) 0 4 = true
           ·by_cases h10 : inR fuse (-1) 1000 = true
            ·have h9b : 0 ≤ seq - tail ∧ seq - tail ≤ 4 := by simpa [inR] using h9
             have hv : arrB (⟨id, gn, gs, mems, lost, built, seq, tail, gen, dirty, fuse, down, broken⟩ : ArrV) = true := arrB_yes ⟨H1.out, h3, HMM.out, H2.out, H5.out, H4.out, HT7.out, by have := HT6.out; have := HT7.out; simp only; omega, by simp only; omega, h8, h10⟩
             have HV := Aside0.mk hv
             clear hv h9b
             go_wp2_with (first
              | (go_at_call 78; refine (c_within _ _ _ _).mono ?_; rintro e wq ⟨rfl, hb⟩; have hs' := HS.out.dr hb; clear hb HS; have HS := Aside0.mk hs'; clear hs'; clear k0 k1 k2 k3 k4 k5 k6 k7 k8 k9 k10 k11 k12; obtain ⟨k0, k1, k2, k3, k4, k5, k6, k7, k8, k9, k10, k11, k12⟩ := thirteen (HS.out.get 0 rfl))
              | fail)
             go_ret
             exact ⟨ret_bool HV.out.symm, HS.out.toBelow⟩
            ·simp only [Bool.not_eq_true] at h10
             go_wp2_with (first
              | (go_at_call 78; refine (c_within _ _ _ _).mono ?_; rintro e wq ⟨rfl, hb⟩; have hs' := HS.out.dr hb; clear hb HS; have HS := Aside0.mk hs'; clear hs'; clear k0 k1 k2 k3 k4 k5 k6 k7 k8 k9 k10 k11 k12; obtain ⟨k0, k1, k2, k3, k4, k5, k6, k7, k8, k9, k10, k11, k12⟩ := thirteen (HS.out.get 0 rfl))
              | fail)
             go_ret
             exact ⟨ret_bool (arrB_no (fun hp => by have q := hp.fuse; rw [h10] at q; cases q)).symm, HS.out.toBelow⟩
           ·simp only [Bool.not_eq_true] at h9
            go_wp2_with (first
             | (go_at_call 78; refine (c_within _ _ _ _).mono ?_; rintro e wq ⟨rfl, hb⟩; have hs' := HS.out.dr hb; clear hb HS; have HS := Aside0.mk hs'; clear hs'; clear k0 k1 k2 k3 k4 k5 k6 k7 k8 k9 k10 k11 k12; obtain ⟨k0, k1, k2, k3, k4, k5, k6, k7, k8, k9, k10, k11, k12⟩ := thirteen (HS.out.get 0 rfl))
             | fail)
            go_ret
            exact ⟨ret_bool (arrB_no (fun hp => by have q := hp.seq; have q3 := hp.seq4; simp only at q q3; simp [inR] at h9; omega)).symm, HS.out.toBelow⟩
          ·simp only [Bool.not_eq_true] at h8
           go_wp2_with (first
            | (go_at_call 78; refine (c_within _ _ _ _).mono ?_; rintro e wq ⟨rfl, hb⟩; have hs' := HS.out.dr hb; clear hb HS; have HS := Aside0.mk hs'; clear hs'; clear k0 k1 k2 k3 k4 k5 k6 k7 k8 k9 k10 k11 k12; obtain ⟨k0, k1, k2, k3, k4, k5, k6, k7, k8, k9, k10, k11, k12⟩ := thirteen (HS.out.get 0 rfl))
            | fail)
           go_ret
           exact ⟨ret_bool (arrB_no (fun hp => by have q := hp.gen; rw [h8] at q; cases q)).symm, HS.out.toBelow⟩
         ·simp only [Bool.not_eq_true] at h7
          go_wp2_with (first
           | (go_at_call 78; refine (c_within _ _ _ _).mono ?_; rintro e wq ⟨rfl, hb⟩; have hs' := HS.out.dr hb; clear hb HS; have HS := Aside0.mk hs'; clear hs'; clear k0 k1 k2 k3 k4 k5 k6 k7 k8 k9 k10 k11 k12; obtain ⟨k0, k1, k2, k3, k4, k5, k6, k7, k8, k9, k10, k11, k12⟩ := thirteen (HS.out.get 0 rfl))
           | fail)
          go_ret
          exact ⟨ret_bool (arrB_no (fun hp => by have q := hp.tail; simp only at q; simp [inR] at h7; omega)).symm, HS.out.toBelow⟩
        ·simp only [Bool.not_eq_true] at h6
         go_wp2_with (first
          | (go_at_call 78; refine (c_within _ _ _ _).mono ?_; rintro e wq ⟨rfl, hb⟩; have hs' := HS.out.dr hb; clear hb HS; have HS := Aside0.mk hs'; clear hs'; clear k0 k1 k2 k3 k4 k5 k6 k7 k8 k9 k10 k11 k12; obtain ⟨k0, k1, k2, k3, k4, k5, k6, k7, k8, k9, k10, k11, k12⟩ := thirteen (HS.out.get 0 rfl))
          | fail)
         go_ret
         exact ⟨ret_bool (arrB_no (fun hp => by have q := hp.seq; have q3 := hp.tail; simp only at q q3; simp [inR] at h6; omega)).symm, HS.out.toBelow⟩
     ·simp only [Bool.not_eq_true] at h5
      have H5 := Aside0.mk h5
      clear h5
      go_enter Tryz.func36, Tryz.ntmps36
      go_wp2_with (first
       | (go_at_call 77; refine (c_implGeoOk _ _ _).mono ?_; rw [H1.out]; rintro e wq ⟨rfl, hb⟩; have hs' := HS.out.below hb; clear hb HS; have HS := Aside0.mk hs'; clear hs'; clear k0 k1 k2 k3 k4 k5 k6 k7 k8 k9 k10 k11 k12; obtain ⟨k0, k1, k2, k3, k4, k5, k6, k7, k8, k9, k10, k11, k12⟩ := thirteen (HS.out.get 0 rfl))
       | (go_at_call 79; refine (c_lostOk _ _ _ _ HG3.out).mono ?_; rw [H4.out]; rintro e wq ⟨rfl, hb⟩; have hs' := HS.out.below hb; clear hb HS; have HS := Aside0.mk hs'; clear hs'; clear k0 k1 k2 k3 k4 k5 k6 k7 k8 k9 k10 k11 k12; obtain ⟨k0, k1, k2, k3, k4, k5, k6, k7, k8, k9, k10, k11, k12⟩ := thirteen (HS.out.get 0 rfl))
       | (go_at_call 80; refine (c_dirtyOk (ArrR_below H.out HS.out.toBelow) H1.out).mono ?_; rw [H5.out]; rintro e wq ⟨rfl, hb⟩; have hs' := HS.out.below hb; clear hb HS; have HS := Aside0.mk hs'; clear hs'; clear k0 k1 k2 k3 k4 k5 k6 k7 k8 k9 k10 k11 k12; obtain ⟨k0, k1, k2, k3, k4, k5, k6, k7, k8, k9, k10, k11, k12⟩ := thirteen (HS.out.get 0 rfl))
       | (go_at_call 78; refine (c_within _ _ _ _).mono ?_; rintro e wq ⟨rfl, hb⟩; have hs' := HS.out.dr hb; clear hb HS; have HS := Aside0.mk hs'; clear hs'; clear k0 k1 k2 k3 k4 k5 k6 k7 k8 k9 k10 k11 k12; obtain ⟨k0, k1, k2, k3, k4, k5, k6, k7, k8, k9, k10, k11, k12⟩ := thirteen (HS.out.get 0 rfl))
       | fail)
      go_ret
      exact ⟨ret_bool (arrB_no (fun hp => by have q := hp.dirty; rw [H5.out] at q; cases q)).symm, HS.out.toBelow⟩
    ·simp only [Bool.not_eq_true] at h4
     have H4 := Aside0.mk h4
     clear h4
     go_enter Tryz.func36, Tryz.ntmps36
     go_wp2_with (first
      | (go_at_call 77; refine (c_implGeoOk _ _ _).mono ?_; rw [H1.out]; rintro e wq ⟨rfl, hb⟩; have hs' := HS.out.below hb; clear hb HS; have HS := Aside0.mk hs'; clear hs'; clear k0 k1 k2 k3 k4 k5 k6 k7 k8 k9 k10 k11 k12; obtain ⟨k0, k1, k2, k3, k4, k5, k6, k7, k8, k9, k10, k11, k12⟩ := thirteen (HS.out.get 0 rfl))
      | (go_at_call 79; refine (c_lostOk _ _ _ _ HG3.out).mono ?_; rw [H4.out]; rintro e wq ⟨rfl, hb⟩; have hs' := HS.out.below hb; clear hb HS; have HS := Aside0.mk hs'; clear hs'; clear k0 k1 k2 k3 k4 k5 k6 k7 k8 k9 k10 k11 k12; obtain ⟨k0, k1, k2, k3, k4, k5, k6, k7, k8, k9, k10, k11, k12⟩ := thirteen (HS.out.get 0 rfl))
      | (go_at_call 80; refine (c_dirtyOk (ArrR_below H.out HS.out.toBelow) H1.out).mono ?_; rw [H5.out]; rintro e wq ⟨rfl, hb⟩; have hs' := HS.out.below hb; clear hb HS; have HS := Aside0.mk hs'; clear hs'; clear k0 k1 k2 k3 k4 k5 k6 k7 k8 k9 k10 k11 k12; obtain ⟨k0, k1, k2, k3, k4, k5, k6, k7, k8, k9, k10, k11, k12⟩ := thirteen (HS.out.get 0 rfl))
      | (go_at_call 78; refine (c_within _ _ _ _).mono ?_; rintro e wq ⟨rfl, hb⟩; have hs' := HS.out.dr hb; clear hb HS; have HS := Aside0.mk hs'; clear hs'; clear k0 k1 k2 k3 k4 k5 k6 k7 k8 k9 k10 k11 k12; obtain ⟨k0, k1, k2, k3, k4, k5, k6, k7, k8, k9, k10, k11, k12⟩ := thirteen (HS.out.get 0 rfl))
      | fail)
     go_ret
     exact ⟨ret_bool (arrB_no (fun hp => by have q := hp.lost; rw [H4.out] at q; cases q)).symm, HS.out.toBelow⟩
   ·simp only [Bool.not_eq_true] at h3
    go_enter Tryz.func36, Tryz.ntmps36
    go_wp2_with (first
     | (go_at_call 77; refine (c_implGeoOk _ _ _).mono ?_; rw [H1.out]; rintro e wq ⟨rfl, hb⟩; have hs' := HS.out.below hb; clear hb HS; have HS := Aside0.mk hs'; clear hs'; clear k0 k1 k2 k3 k4 k5 k6 k7 k8 k9 k10 k11 k12; obtain ⟨k0, k1, k2, k3, k4, k5, k6, k7, k8, k9, k10, k11, k12⟩ := thirteen (HS.out.get 0 rfl))
     | (go_at_call 79; refine (c_lostOk _ _ _ _ HG3.out).mono ?_; rw [H4.out]; rintro e wq ⟨rfl, hb⟩; have hs' := HS.out.below hb; clear hb HS; have HS := Aside0.mk hs'; clear hs'; clear k0 k1 k2 k3 k4 k5 k6 k7 k8 k9 k10 k11 k12; obtain ⟨k0, k1, k2, k3, k4, k5, k6, k7, k8, k9, k10, k11, k12⟩ := thirteen (HS.out.get 0 rfl))
     | (go_at_call 80; refine (c_dirtyOk (ArrR_below H.out HS.out.toBelow) H1.out).mono ?_; rw [H5.out]; rintro e wq ⟨rfl, hb⟩; have hs' := HS.out.below hb; clear hb HS; have HS := Aside0.mk hs'; clear hs'; clear k0 k1 k2 k3 k4 k5 k6 k7 k8 k9 k10 k11 k12; obtain ⟨k0, k1, k2, k3, k4, k5, k6, k7, k8, k9, k10, k11, k12⟩ := thirteen (HS.out.get 0 rfl))
     | (go_at_call 78; refine (c_within _ _ _ _).mono ?_; rintro e wq ⟨rfl, hb⟩; have hs' := HS.out.dr hb; clear hb HS; have HS := Aside0.mk hs'; clear hs'; clear k0 k1 k2 k3 k4 k5 k6 k7 k8 k9 k10 k11 k12; obtain ⟨k0, k1, k2, k3, k4, k5, k6, k7, k8, k9, k10, k11, k12⟩ := thirteen (HS.out.get 0 rfl))
     | fail)
    go_ret
    exact ⟨ret_bool (arrB_no (fun hp => by have q := hp.id; rw [h3] at q; cases q)).symm, HS.out.toBelow⟩
  ·have h2b : ((mems.length : Int) != gn) = true := by simp [h2]
   go_enter Tryz.func36, Tryz.ntmps36
   go_wp2_with (first
    | (go_at_call 77; refine (c_implGeoOk _ _ _).mono ?_; rw [H1.out]; rintro e wq ⟨rfl, hb⟩; have hs' := HS.out.below hb; clear hb HS; have HS := Aside0.mk hs'; clear hs'; clear k0 k1 k2 k3 k4 k5 k6 k7 k8 k9 k10 k11 k12; obtain ⟨k0, k1, k2, k3, k4, k5, k6, k7, k8, k9, k10, k11, k12⟩ := thirteen (HS.out.get 0 rfl))
    | (go_at_call 79; refine (c_lostOk _ _ _ _ HG3.out).mono ?_; rw [H4.out]; rintro e wq ⟨rfl, hb⟩; have hs' := HS.out.below hb; clear hb HS; have HS := Aside0.mk hs'; clear hs'; clear k0 k1 k2 k3 k4 k5 k6 k7 k8 k9 k10 k11 k12; obtain ⟨k0, k1, k2, k3, k4, k5, k6, k7, k8, k9, k10, k11, k12⟩ := thirteen (HS.out.get 0 rfl))
    | (go_at_call 80; refine (c_dirtyOk (ArrR_below H.out HS.out.toBelow) H1.out).mono ?_; rw [H5.out]; rintro e wq ⟨rfl, hb⟩; have hs' := HS.out.below hb; clear hb HS; have HS := Aside0.mk hs'; clear hs'; clear k0 k1 k2 k3 k4 k5 k6 k7 k8 k9 k10 k11 k12; obtain ⟨k0, k1, k2, k3, k4, k5, k6, k7, k8, k9, k10, k11, k12⟩ := thirteen (HS.out.get 0 rfl))
    | (go_at_call 78; refine (c_within _ _ _ _).mono ?_; rintro e wq ⟨rfl, hb⟩; have hs' := HS.out.dr hb; clear hb HS; have HS := Aside0.mk hs'; clear hs'; clear k0 k1 k2 k3 k4 k5 k6 k7 k8 k9 k10 k11 k12; obtain ⟨k0, k1, k2, k3, k4, k5, k6, k7, k8, k9, k10, k11, k12⟩ := thirteen (HS.out.get 0 rfl))
    | fail)
   go_ret
   exact ⟨ret_bool (arrB_no (fun hp => by have q := hp.len; exact h2 q)).symm, HS.out.toBelow⟩
 ·simp only [Bool.not_eq_true] at h1
  have H1 := Aside0.mk h1
  clear h1
  go_enter Tryz.func36, Tryz.ntmps36
  go_wp2_with (first
   | (go_at_call 77; refine (c_implGeoOk _ _ _).mono ?_; rw [H1.out]; rintro e wq ⟨rfl, hb⟩; have hs' := HS.out.below hb; clear hb HS; have HS := Aside0.mk hs'; clear hs'; clear k0 k1 k2 k3 k4 k5 k6 k7 k8 k9 k10 k11 k12; obtain ⟨k0, k1, k2, k3, k4, k5, k6, k7, k8, k9, k10, k11, k12⟩ := thirteen (HS.out.get 0 rfl))
   | (go_at_call 79; refine (c_lostOk _ _ _ _ HG3.out).mono ?_; rw [H4.out]; rintro e wq ⟨rfl, hb⟩; have hs' := HS.out.below hb; clear hb HS; have HS := Aside0.mk hs'; clear hs'; clear k0 k1 k2 k3 k4 k5 k6 k7 k8 k9 k10 k11 k12; obtain ⟨k0, k1, k2, k3, k4, k5, k6, k7, k8, k9, k10, k11, k12⟩ := thirteen (HS.out.get 0 rfl))
   | (go_at_call 80; refine (c_dirtyOk (ArrR_below H.out HS.out.toBelow) H1.out).mono ?_; rw [H5.out]; rintro e wq ⟨rfl, hb⟩; have hs' := HS.out.below hb; clear hb HS; have HS := Aside0.mk hs'; clear hs'; clear k0 k1 k2 k3 k4 k5 k6 k7 k8 k9 k10 k11 k12; obtain ⟨k0, k1, k2, k3, k4, k5, k6, k7, k8, k9, k10, k11, k12⟩ := thirteen (HS.out.get 0 rfl))
   | (go_at_call 78; refine (c_within _ _ _ _).mono ?_; rintro e wq ⟨rfl, hb⟩; have hs' := HS.out.dr hb; clear hb HS; have HS := Aside0.mk hs'; clear hs'; clear k0 k1 k2 k3 k4 k5 k6 k7 k8 k9 k10 k11 k12; obtain ⟨k0, k1, k2, k3, k4, k5, k6, k7, k8, k9, k10, k11, k12⟩ := thirteen (HS.out.get 0 rfl))
   | fail)
  go_ret
  exact ⟨ret_bool (arrB_no (fun hp => by have q := hp.geo; rw [H1.out] at q; cases q)).symm, HS.out.toBelow⟩
end AOkA
end Go.Proofs.YtggmifnblcjdfaaGreat
