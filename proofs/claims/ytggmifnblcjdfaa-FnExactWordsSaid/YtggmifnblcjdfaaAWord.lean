/- The word of a disk of a stripe, of both. Printed by mkaxor.py. -/
import Derived.Test.YtggmifnblcjdfaaAOk
import Derived.Test.YtggmifnblcjdfaaALive
import Derived.Test.YtggmifnblcjdfaaAXor
import Derived.Test.YtggmifnblcjdfaaMReadS
namespace Go.Proofs.Ytggmifnblcjdfaa.AWord
open Go.RowKit Go.Proofs.Ytggmifnblcjdfaa.RJ Go.Proofs.Ytggmifnblcjdfaa.RP Go.Proofs.YtggmifnblcjdfaaW.PrintWords Go.Proofs.Ytggmifnblcjdfaa.Fp Go.Proofs.Ytggmifnblcjdfaa.FpStep Go.Proofs.Ytggmifnblcjdfaa.MInt Go.Proofs.Ytggmifnblcjdfaa.MKinds Go.Proofs.Ytggmifnblcjdfaa.MRead Go.Proofs.Ytggmifnblcjdfaa.MMake Go.Proofs.Ytggmifnblcjdfaa.MPut Go.Proofs.Ytggmifnblcjdfaa.MHeld Go.Proofs.Ytggmifnblcjdfaa.MOk Go.Proofs.Ytggmifnblcjdfaa.MSuper Go.Proofs.Ytggmifnblcjdfaa.Sep Go.Proofs.Ytggmifnblcjdfaa.SepStep Go.Proofs.Ytggmifnblcjdfaa.AKinds Go.Proofs.Ytggmifnblcjdfaa.AMake Go.Proofs.Ytggmifnblcjdfaa.AEnt Go.Proofs.Ytggmifnblcjdfaa.ALaw Go.Proofs.Ytggmifnblcjdfaa.AArr Go.Proofs.Ytggmifnblcjdfaa.AOk Go.Proofs.Ytggmifnblcjdfaa.MVal Go.Proofs.Ytggmifnblcjdfaa.MReadS Go.Proofs.Ytggmifnblcjdfaa.ALive Go.Proofs.Ytggmifnblcjdfaa.AXor
set_option linter.unusedVariables false
set_option linter.unusedSimpArgs false
/-- What a disk holds of a stripe, and whether it is there. -/
def wordOk (a : ArrV) (q : Nat) (s : Int) : Bool := liveB a (q : Int) s && (canRead (a.mems.getD q noMem) (dataV s) && (readV (a.mems.getD q noMem) (dataV s)).length == 1)
def wordV (a : ArrV) (q : Nat) (s : Int) : Int × Bool := if wordOk a q s then ((readV (a.mems.getD q noMem) (dataV s)).getD 0 0, true) else (0, false)
theorem wordV_no {a : ArrV} {q : Nat} {s : Int} (h : wordOk a q s = false) : wordV a q s = (0, false) := by unfold wordV; rw [h]; rfl
theorem World_add0 (ad : Addr) : ad.add 0 = ad := by cases ad; rfl
set_option maxHeartbeats 4000000 in
set_option maxRecDepth 100000 in
theorem c_implWordAt {w : World} {v : Value} {a : ArrV} {q : Nat} {s : Int} (h : ArrR w v a) (hsm : SmallA a) (hq : q < a.mems.length) :
    Calls Try.prog 69 #[v, .int .i64 (q : Int), .int .i64 s] w fun e w' => e = .returned (.tuple #[.int .i64 (wordV a q s).1, .bool (wordV a q s).2]) ∧ Below w.heap.size w w' := by
  have H := Aside0.mk h
  have HSM := Aside0.mk hsm
  obtain ⟨vm, vd, rfl, r1, r2⟩ := h
  obtain ⟨ad, cap, rfl, hc⟩ := RK_mems r1 (by omega)
  obtain ⟨x, hx⟩ : ∃ x, a.mems[q]? = some x := ⟨_, List.getElem?_eq_getElem hq⟩
  obtain ⟨B1, d1, B2, d2, B3, d3, x0, x1, x2, x3, hM⟩ := hc q x hx
  have HX := Aside0.mk (show a.mems.getD q noMem = x by rw [List.getD_eq_getElem?_getD, hx]; rfl)
  have hxs := hsm.2.1 x (List.mem_of_getElem? hx)
  have HXS := Aside0.mk hxs
  have RM := Aside0.mk hM
  have lm := RK_len r1
  have i0 : (0 : Int) ≤ (q : Int) := by omega
  have il : (q : Int) < (a.mems.length : Int) := by omega
  have hs0 := (Sep.start w []).alloc (g := w.heap.size) rfl (arrC a (.slice (some ad) a.mems.length cap) vd) 34
  replace x0 := hs0.old x0
  replace x1 := hs0.old x1
  replace x2 := hs0.old x2
  replace x3 := hs0.old x3
  have H0 := Aside0.mk hs0
  clear hs0 hc hM r1 r2 hsm hxs hx
  generalize hxf : x.failed = xf at *
  have HXF := Aside0.mk hxf
  clear hxf
  generalize hlv : liveB a (q : Int) s = lv
  have HLV := Aside0.mk hlv
  clear hlv
  generalize hcr : canRead x (dataV s) = cr
  have HCR := Aside0.mk hcr
  clear hcr
  generalize hrd : readV x (dataV s) = rd
  have HRD := Aside0.mk hrd
  clear hrd
  have HNO : ∀ b, (lv && (cr && rd.length == 1)) = b → wordOk a q s = b := fun b hb => by unfold wordOk; rw [HX.out, HLV.out, HCR.out, HRD.out]; exact hb
  replace HNO := Aside0.mk HNO
  have HYES : wordOk a q s = true → wordV a q s = (rd.getD 0 0, true) := fun h => by unfold wordV; rw [if_pos h, HX.out, HRD.out]
  replace HYES := Aside0.mk HYES
  obtain ⟨id, gn, gs, mems, lost, built, seq, tail, gen, dirty, fuse, down, broken⟩ := a
  simp only [arrC] at *
  obtain ⟨k0, k1, k2, k3, k4, k5, k6, k7, k8, k9, k10, k11, k12⟩ := thirteen (H0.out.get 0 rfl)
  go_enter Try.func69, Try.ntmps69
  go_upto_region 1 with fail
  have HM := H0
  generalize hwm : w.alloc (.cells #[.int .i64 id, .int .i64 gn, .int .i64 gs, .slice (some ad) mems.length cap, .int .i64 lost, .int .i64 built, .int .i64 seq, .int .i64 tail, .int .i64 gen, vd, .int .i64 fuse, .bool down, .bool broken] 34 (0, 0)) = wm at *
  clear hwm
  have HALL : ∀ w' : World, Below wm.heap.size wm w' → (w'.cell? ⟨w.heap.size, 0, none⟩ = some (.int .i64 id) ∧ w'.cell? ⟨w.heap.size, 1, none⟩ = some (.int .i64 gn) ∧ w'.cell? ⟨w.heap.size, 2, none⟩ = some (.int .i64 gs) ∧ w'.cell? ⟨w.heap.size, 3, none⟩ = some (.slice (some ad) mems.length cap) ∧ w'.cell? ⟨w.heap.size, 4, none⟩ = some (.int .i64 lost) ∧ w'.cell? ⟨w.heap.size, 5, none⟩ = some (.int .i64 built) ∧ w'.cell? ⟨w.heap.size, 6, none⟩ = some (.int .i64 seq) ∧ w'.cell? ⟨w.heap.size, 7, none⟩ = some (.int .i64 tail) ∧ w'.cell? ⟨w.heap.size, 8, none⟩ = some (.int .i64 gen) ∧ w'.cell? ⟨w.heap.size, 9, none⟩ = some (vd) ∧ w'.cell? ⟨w.heap.size, 10, none⟩ = some (.int .i64 fuse) ∧ w'.cell? ⟨w.heap.size, 11, none⟩ = some (.bool down) ∧ w'.cell? ⟨w.heap.size, 12, none⟩ = some (.bool broken) ∧ w'.cell? (ad.add (q * 4)) = some (.slice B1 x.secs.length d1) ∧ w'.cell? ⟨(ad.add (q * 4)).block, (ad.add (q * 4)).off + 1, none⟩ = some (.slice B2 x.cache.length d2) ∧ w'.cell? ⟨(ad.add (q * 4)).block, (ad.add (q * 4)).off + 2, none⟩ = some (.bool xf) ∧ w'.cell? ⟨(ad.add (q * 4)).block, (ad.add (q * 4)).off + 3, none⟩ = some (.slice B3 x.bad.length d3)) := fun w' hb => ⟨(hb.cell (lt_of_cell k0)).trans k0, (hb.cell (lt_of_cell k1)).trans k1, (hb.cell (lt_of_cell k2)).trans k2, (hb.cell (lt_of_cell k3)).trans k3, (hb.cell (lt_of_cell k4)).trans k4, (hb.cell (lt_of_cell k5)).trans k5, (hb.cell (lt_of_cell k6)).trans k6, (hb.cell (lt_of_cell k7)).trans k7, (hb.cell (lt_of_cell k8)).trans k8, (hb.cell (lt_of_cell k9)).trans k9, (hb.cell (lt_of_cell k10)).trans k10, (hb.cell (lt_of_cell k11)).trans k11, (hb.cell (lt_of_cell k12)).trans k12, (hb.cell (lt_of_cell x0)).trans x0, (hb.cell (lt_of_cell x1)).trans x1, (hb.cell (lt_of_cell x2)).trans x2, (hb.cell (lt_of_cell x3)).trans x3⟩
  replace HALL := Aside0.mk HALL
  clear x0 x1 x2 x3 k0 k1 k2 k3 k4 k5 k6 k7 k8 k9 k10 k11 k12
  refine wp_region_seqp (fun w' => Below wm.heap.size wm w') [] [(0, 2), (2, 2), (5, 2), (1, 1), (3, 2), (4, 1), (6, 0), (7, 0), (8, 2), (9, 2), (10, 2), (11, 0), (12, 0)] (by kernel_rfl) (by kernel_rfl) ?_
  have hS : Below wm.heap.size wm wm.drew := Below.drew (Below.refl _ _)
  repeat (first | (refine seqp_pure rfl (fun _ _ _ h => h) (by rfl) (fun w_ => by go_simp; first | done | with_reducible rfl) ?_; (try simp only [Act.put, List.getElem_toArray, List.getElem_cons_succ, List.getElem_cons_zero, List.setIfInBounds_toArray, List.set_cons_zero, List.set_cons_succ])) | (refine seqp_take hS rfl (fun _ _ _ h => h) (by rfl) (fun w_ hSw => by have hSc := HALL.out w_ hSw; clear hSw; go_simp; first | done | with_reducible rfl) ?_; (try simp only [Act.put, List.getElem_toArray, List.getElem_cons_succ, List.getElem_cons_zero, List.setIfInBounds_toArray, List.set_cons_zero, List.set_cons_succ])) | (refine seqp_skip2 rfl (fun _ _ _ h => h) (by rfl) ?_; (try simp only [Act.put, List.getElem_toArray, List.getElem_cons_succ, List.getElem_cons_zero, List.setIfInBounds_toArray, List.set_cons_zero, List.set_cons_succ])) | (refine seqp_skip1 hS rfl (fun _ _ _ h => h) (by rfl) ?_; (try simp only [Act.put, List.getElem_toArray, List.getElem_cons_succ, List.getElem_cons_zero, List.setIfInBounds_toArray, List.set_cons_zero, List.set_cons_succ])) | (refine seqp_skip0 rfl (by rfl) ?_; (try simp only [Act.put, List.getElem_toArray, List.getElem_cons_succ, List.getElem_cons_zero, List.setIfInBounds_toArray, List.set_cons_zero, List.set_cons_succ])))
  refine seqp_step rfl (fun K hK => ?_)
  go_simp
  go_at_call 61; refine (c_implDataAt _ _).mono ?_; rintro e w3 ⟨rfl, hb⟩; replace hb := below_drawn hb
  replace hS := hS.trans (hb.mono hS.size); clear hb; refine hK.out _ _ ⟨fun _ _ => hS, ?_⟩; clear hK K; (try simp only [Act.put, List.getElem_toArray, List.getElem_cons_succ, List.getElem_cons_zero, List.setIfInBounds_toArray, List.set_cons_zero, List.set_cons_succ])
  repeat (first | (refine seqp_pure rfl (fun _ _ _ h => h) (by rfl) (fun w_ => by go_simp; first | done | with_reducible rfl) ?_; (try simp only [Act.put, List.getElem_toArray, List.getElem_cons_succ, List.getElem_cons_zero, List.setIfInBounds_toArray, List.set_cons_zero, List.set_cons_succ])) | (refine seqp_take hS rfl (fun _ _ _ h => h) (by rfl) (fun w_ hSw => by have hSc := HALL.out w_ hSw; clear hSw; go_simp; first | done | with_reducible rfl) ?_; (try simp only [Act.put, List.getElem_toArray, List.getElem_cons_succ, List.getElem_cons_zero, List.setIfInBounds_toArray, List.set_cons_zero, List.set_cons_succ])) | (refine seqp_skip2 rfl (fun _ _ _ h => h) (by rfl) ?_; (try simp only [Act.put, List.getElem_toArray, List.getElem_cons_succ, List.getElem_cons_zero, List.setIfInBounds_toArray, List.set_cons_zero, List.set_cons_succ])) | (refine seqp_skip1 hS rfl (fun _ _ _ h => h) (by rfl) ?_; (try simp only [Act.put, List.getElem_toArray, List.getElem_cons_succ, List.getElem_cons_zero, List.setIfInBounds_toArray, List.set_cons_zero, List.set_cons_succ])) | (refine seqp_skip0 rfl (by rfl) ?_; (try simp only [Act.put, List.getElem_toArray, List.getElem_cons_succ, List.getElem_cons_zero, List.setIfInBounds_toArray, List.set_cons_zero, List.set_cons_succ])))
  refine seqp_step rfl (fun K hK => ?_)
  go_simp
  go_at_call 106; refine (c_implReadSec (MemR_below (RM.out) (HM.out.below hS).toBelow) HXS.out).mono ?_; rw [HCR.out, HRD.out]; rintro e w4 ⟨u, F, rfl, hn⟩; have hs5 := (HM.out.below hS).new hn; have hb := hn.below; obtain ⟨U, uc, rfl, hul⟩ := O_RK (show oInt.O 3 w4 F u rd from hs5.get 0 rfl)
  replace hS := hS.trans (hb.mono hS.size); clear hb; refine hK.out _ _ ⟨fun _ _ => hS, ?_⟩; clear hK K; (try simp only [Act.put, List.getElem_toArray, List.getElem_cons_succ, List.getElem_cons_zero, List.setIfInBounds_toArray, List.set_cons_zero, List.set_cons_succ])
  repeat (first | (refine seqp_pure rfl (fun _ _ _ h => h) (by rfl) (fun w_ => by go_simp; first | done | with_reducible rfl) ?_; (try simp only [Act.put, List.getElem_toArray, List.getElem_cons_succ, List.getElem_cons_zero, List.setIfInBounds_toArray, List.set_cons_zero, List.set_cons_succ])) | (refine seqp_take hS rfl (fun _ _ _ h => h) (by rfl) (fun w_ hSw => by have hSc := HALL.out w_ hSw; clear hSw; go_simp; first | done | with_reducible rfl) ?_; (try simp only [Act.put, List.getElem_toArray, List.getElem_cons_succ, List.getElem_cons_zero, List.setIfInBounds_toArray, List.set_cons_zero, List.set_cons_succ])) | (refine seqp_skip2 rfl (fun _ _ _ h => h) (by rfl) ?_; (try simp only [Act.put, List.getElem_toArray, List.getElem_cons_succ, List.getElem_cons_zero, List.setIfInBounds_toArray, List.set_cons_zero, List.set_cons_succ])) | (refine seqp_skip1 hS rfl (fun _ _ _ h => h) (by rfl) ?_; (try simp only [Act.put, List.getElem_toArray, List.getElem_cons_succ, List.getElem_cons_zero, List.setIfInBounds_toArray, List.set_cons_zero, List.set_cons_succ])) | (refine seqp_skip0 rfl (by rfl) ?_; (try simp only [Act.put, List.getElem_toArray, List.getElem_cons_succ, List.getElem_cons_zero, List.setIfInBounds_toArray, List.set_cons_zero, List.set_cons_succ])))
  refine seqp_step rfl (fun K hK => ?_)
  go_simp
  refine hK.out _ _ ⟨fun _ _ => hS, ?_⟩; clear hK K; (try simp only [Act.put, List.getElem_toArray, List.getElem_cons_succ, List.getElem_cons_zero, List.setIfInBounds_toArray, List.set_cons_zero, List.set_cons_succ])
  refine seqp_step rfl (fun K hK => ?_)
  go_simp
  refine hK.out _ _ ⟨fun _ _ => hS, ?_⟩; clear hK K; (try simp only [Act.put, List.getElem_toArray, List.getElem_cons_succ, List.getElem_cons_zero, List.setIfInBounds_toArray, List.set_cons_zero, List.set_cons_succ])
  clear hS HALL
  have HS := Aside0.mk hs5
  clear hs5 hn hul
  refine seqp_done ?_
  obtain ⟨k0, k1, k2, k3, k4, k5, k6, k7, k8, k9, k10, k11, k12⟩ := thirteen (HS.out.get 1 rfl)
  cases lv
  · go_wp2_with (first
      | (go_at_call 14; refine (c_implLiveAt (ArrR_below H.out HS.out.toBelow)).mono ?_; rw [HLV.out]; rintro e wl ⟨rfl, hb⟩; have hs9 := HS.out.below hb; clear hb HS; have HS := Aside0.mk hs9; clear hs9 k0 k1 k2 k3 k4 k5 k6 k7 k8 k9 k10 k11 k12; obtain ⟨k0, k1, k2, k3, k4, k5, k6, k7, k8, k9, k10, k11, k12⟩ := thirteen (HS.out.get 1 rfl))
      | fail)
    go_ret2
    exact ⟨by (rw [wordV_no (HNO.out _ rfl)]) <;> rfl, HS.out.toBelow⟩
  · cases cr
    · go_wp2_with (first
        | (go_at_call 14; refine (c_implLiveAt (ArrR_below H.out HS.out.toBelow)).mono ?_; rw [HLV.out]; rintro e wl ⟨rfl, hb⟩; have hs9 := HS.out.below hb; clear hb HS; have HS := Aside0.mk hs9; clear hs9 k0 k1 k2 k3 k4 k5 k6 k7 k8 k9 k10 k11 k12; obtain ⟨k0, k1, k2, k3, k4, k5, k6, k7, k8, k9, k10, k11, k12⟩ := thirteen (HS.out.get 1 rfl))
        | fail)
      go_ret2
      exact ⟨by (rw [wordV_no (HNO.out _ rfl)]) <;> rfl, HS.out.toBelow⟩
    · by_cases hl1 : rd.length = 1
      · · obtain ⟨y, hy1⟩ : ∃ y, rd = [y] := List.length_eq_one_iff.1 hl1
          have hl2 : ((rd.length : Int) != 1) = false := by simp [hl1]
          have h0l : (0 : Int) < (rd.length : Int) := by omega
          obtain ⟨ad2, cap2, hA2, hc2⟩ := ints_at (O_RK (show oInt.O 3 w4 F _ rd from HS.out.get 0 rfl)) (by omega)
          obtain rfl := (Value.slice.inj hA2).1
          have hy := hc2 0 y (by rw [hy1]; rfl)
          rw [World_add0] at hy
          have HYV := Aside0.mk (show wordV (⟨id, gn, gs, mems, lost, built, seq, tail, gen, dirty, fuse, down, broken⟩ : ArrV) q s = (y, true) from by rw [HYES.out (HNO.out _ (by rw [hl1]; rfl)), hy1]; rfl)
          have HL1 := Aside0.mk hl1
          have HY := Aside0.mk hy
          clear hl1 hc2 hA2 hy1
          clear hy
          go_wp2_with (first
            | (go_at_call 14; refine (c_implLiveAt (ArrR_below H.out HS.out.toBelow)).mono ?_; rw [HLV.out]; rintro e wl ⟨rfl, hb⟩; have HBL := Aside0.mk hb; have hs9 := HS.out.below hb; clear hb HS; have HS := Aside0.mk hs9; clear hs9 k0 k1 k2 k3 k4 k5 k6 k7 k8 k9 k10 k11 k12; obtain ⟨k0, k1, k2, k3, k4, k5, k6, k7, k8, k9, k10, k11, k12⟩ := thirteen (HS.out.get 1 rfl); have hy := (HBL.out.cell (lt_of_cell HY.out)).trans HY.out)
            | fail)
          go_ret2
          exact ⟨by (rw [HYV.out]) <;> rfl, HS.out.toBelow⟩
      · have hl2 : ((rd.length : Int) != 1) = true := by simp; omega
        have hl3 : (rd.length == 1) = false := by simp [hl1]
        have HL3 := Aside0.mk hl3
        clear hl1 hl3
        go_wp2_with (first
          | (go_at_call 14; refine (c_implLiveAt (ArrR_below H.out HS.out.toBelow)).mono ?_; rw [HLV.out]; rintro e wl ⟨rfl, hb⟩; have hs9 := HS.out.below hb; clear hb HS; have HS := Aside0.mk hs9; clear hs9 k0 k1 k2 k3 k4 k5 k6 k7 k8 k9 k10 k11 k12; obtain ⟨k0, k1, k2, k3, k4, k5, k6, k7, k8, k9, k10, k11, k12⟩ := thirteen (HS.out.get 1 rfl))
          | fail)
        go_ret2
        exact ⟨by (rw [wordV_no (HNO.out _ (by rw [HL3.out]; rfl))]) <;> rfl, HS.out.toBelow⟩
set_option maxHeartbeats 4000000 in
set_option maxRecDepth 100000 in
theorem c_specWord {w : World} {v : Value} {a : ArrV} {q : Nat} {s : Int} (h : ArrR w v a) (hsm : SmallA a) (hq : q < a.mems.length) :
    Calls Try.prog 104 #[v, .int .i64 (q : Int), .int .i64 s] w fun e w' => e = .returned (.tuple #[.int .i64 (wordV a q s).1, .bool (wordV a q s).2]) ∧ Below w.heap.size w w' := by
  have H := Aside0.mk h
  have HSM := Aside0.mk hsm
  obtain ⟨vm, vd, rfl, r1, r2⟩ := h
  obtain ⟨ad, cap, rfl, hc⟩ := RK_mems r1 (by omega)
  obtain ⟨x, hx⟩ : ∃ x, a.mems[q]? = some x := ⟨_, List.getElem?_eq_getElem hq⟩
  obtain ⟨B1, d1, B2, d2, B3, d3, x0, x1, x2, x3, hM⟩ := hc q x hx
  have HX := Aside0.mk (show a.mems.getD q noMem = x by rw [List.getD_eq_getElem?_getD, hx]; rfl)
  have hxs := hsm.2.1 x (List.mem_of_getElem? hx)
  have HXS := Aside0.mk hxs
  have RM := Aside0.mk hM
  have lm := RK_len r1
  have i0 : (0 : Int) ≤ (q : Int) := by omega
  have il : (q : Int) < (a.mems.length : Int) := by omega
  have hs0 := (Sep.start w []).alloc (g := w.heap.size) rfl (arrC a (.slice (some ad) a.mems.length cap) vd) 34
  replace x0 := hs0.old x0
  replace x1 := hs0.old x1
  replace x2 := hs0.old x2
  replace x3 := hs0.old x3
  have H0 := Aside0.mk hs0
  clear hs0 hc hM r1 r2 hsm hxs hx
  generalize hxf : x.failed = xf at *
  have HXF := Aside0.mk hxf
  clear hxf
  generalize hlv : liveB a (q : Int) s = lv
  have HLV := Aside0.mk hlv
  clear hlv
  generalize hcr : canRead x (dataV s) = cr
  have HCR := Aside0.mk hcr
  clear hcr
  generalize hrd : readV x (dataV s) = rd
  have HRD := Aside0.mk hrd
  clear hrd
  have HNO : ∀ b, (lv && (cr && rd.length == 1)) = b → wordOk a q s = b := fun b hb => by unfold wordOk; rw [HX.out, HLV.out, HCR.out, HRD.out]; exact hb
  replace HNO := Aside0.mk HNO
  have HYES : wordOk a q s = true → wordV a q s = (rd.getD 0 0, true) := fun h => by unfold wordV; rw [if_pos h, HX.out, HRD.out]
  replace HYES := Aside0.mk HYES
  obtain ⟨id, gn, gs, mems, lost, built, seq, tail, gen, dirty, fuse, down, broken⟩ := a
  simp only [arrC] at *
  have X0 := Aside0.mk (And.intro x0 (And.intro x1 (And.intro x2 x3)))
  clear x0 x1 x2 x3
  have HS := H0
  obtain ⟨k0, k1, k2, k3, k4, k5, k6, k7, k8, k9, k10, k11, k12⟩ := thirteen (HS.out.get 0 rfl)
  cases lv
  · go_enter Try.func104, Try.ntmps104
    go_wp2_with (first
      | (go_at_call 12; refine (c_specLiveAt (ArrR_below H.out HS.out.toBelow)).mono ?_; rw [HLV.out]; rintro e wl ⟨rfl, hb⟩; have hs9 := HS.out.below hb; clear hb HS; have HS := Aside0.mk hs9; clear hs9 k0 k1 k2 k3 k4 k5 k6 k7 k8 k9 k10 k11 k12; obtain ⟨k0, k1, k2, k3, k4, k5, k6, k7, k8, k9, k10, k11, k12⟩ := thirteen (HS.out.get 0 rfl))
      | fail)
    go_ret2
    exact ⟨by (rw [wordV_no (HNO.out _ rfl)]) <;> rfl, HS.out.toBelow⟩
  · go_enter Try.func104, Try.ntmps104
    go_upto_region 3 with (first
      | (go_at_call 12; refine (c_specLiveAt (ArrR_below H.out HS.out.toBelow)).mono ?_; rw [HLV.out]; rintro e wl ⟨rfl, hb⟩; have HBL := Aside0.mk hb; have hs9 := HS.out.below hb; clear hb HS; have HS := Aside0.mk hs9; clear hs9 k0 k1 k2 k3 k4 k5 k6 k7 k8 k9 k10 k11 k12; obtain ⟨k0, k1, k2, k3, k4, k5, k6, k7, k8, k9, k10, k11, k12⟩ := thirteen (HS.out.get 0 rfl))
      | fail)
    have HM := HS
    obtain ⟨x0, x1, x2, x3⟩ := X0.out
    have hbw : Below (w.alloc (.cells #[.int .i64 id, .int .i64 gn, .int .i64 gs, .slice (some ad) mems.length cap, .int .i64 lost, .int .i64 built, .int .i64 seq, .int .i64 tail, .int .i64 gen, vd, .int .i64 fuse, .bool down, .bool broken] 34 (0, 0))).heap.size (w.alloc (.cells #[.int .i64 id, .int .i64 gn, .int .i64 gs, .slice (some ad) mems.length cap, .int .i64 lost, .int .i64 built, .int .i64 seq, .int .i64 tail, .int .i64 gen, vd, .int .i64 fuse, .bool down, .bool broken] 34 (0, 0))) wl := HBL.out
    replace x0 := (hbw.cell (lt_of_cell x0)).trans x0
    replace x1 := (hbw.cell (lt_of_cell x1)).trans x1
    replace x2 := (hbw.cell (lt_of_cell x2)).trans x2
    replace x3 := (hbw.cell (lt_of_cell x3)).trans x3
    clear hbw HS HBL
    generalize wl = wm at *
    have HALL : ∀ w' : World, Below wm.heap.size wm w' → (w'.cell? ⟨w.heap.size, 0, none⟩ = some (.int .i64 id) ∧ w'.cell? ⟨w.heap.size, 1, none⟩ = some (.int .i64 gn) ∧ w'.cell? ⟨w.heap.size, 2, none⟩ = some (.int .i64 gs) ∧ w'.cell? ⟨w.heap.size, 3, none⟩ = some (.slice (some ad) mems.length cap) ∧ w'.cell? ⟨w.heap.size, 4, none⟩ = some (.int .i64 lost) ∧ w'.cell? ⟨w.heap.size, 5, none⟩ = some (.int .i64 built) ∧ w'.cell? ⟨w.heap.size, 6, none⟩ = some (.int .i64 seq) ∧ w'.cell? ⟨w.heap.size, 7, none⟩ = some (.int .i64 tail) ∧ w'.cell? ⟨w.heap.size, 8, none⟩ = some (.int .i64 gen) ∧ w'.cell? ⟨w.heap.size, 9, none⟩ = some (vd) ∧ w'.cell? ⟨w.heap.size, 10, none⟩ = some (.int .i64 fuse) ∧ w'.cell? ⟨w.heap.size, 11, none⟩ = some (.bool down) ∧ w'.cell? ⟨w.heap.size, 12, none⟩ = some (.bool broken) ∧ w'.cell? (ad.add (q * 4)) = some (.slice B1 x.secs.length d1) ∧ w'.cell? ⟨(ad.add (q * 4)).block, (ad.add (q * 4)).off + 1, none⟩ = some (.slice B2 x.cache.length d2) ∧ w'.cell? ⟨(ad.add (q * 4)).block, (ad.add (q * 4)).off + 2, none⟩ = some (.bool xf) ∧ w'.cell? ⟨(ad.add (q * 4)).block, (ad.add (q * 4)).off + 3, none⟩ = some (.slice B3 x.bad.length d3)) := fun w' hb => ⟨(hb.cell (lt_of_cell k0)).trans k0, (hb.cell (lt_of_cell k1)).trans k1, (hb.cell (lt_of_cell k2)).trans k2, (hb.cell (lt_of_cell k3)).trans k3, (hb.cell (lt_of_cell k4)).trans k4, (hb.cell (lt_of_cell k5)).trans k5, (hb.cell (lt_of_cell k6)).trans k6, (hb.cell (lt_of_cell k7)).trans k7, (hb.cell (lt_of_cell k8)).trans k8, (hb.cell (lt_of_cell k9)).trans k9, (hb.cell (lt_of_cell k10)).trans k10, (hb.cell (lt_of_cell k11)).trans k11, (hb.cell (lt_of_cell k12)).trans k12, (hb.cell (lt_of_cell x0)).trans x0, (hb.cell (lt_of_cell x1)).trans x1, (hb.cell (lt_of_cell x2)).trans x2, (hb.cell (lt_of_cell x3)).trans x3⟩
    replace HALL := Aside0.mk HALL
    clear x0 x1 x2 x3 k0 k1 k2 k3 k4 k5 k6 k7 k8 k9 k10 k11 k12
    refine wp_region_seqp (fun w' => Below wm.heap.size wm w') [] [(0, 2), (2, 2), (5, 2), (1, 1), (3, 2), (4, 1), (6, 0), (7, 0), (8, 2), (9, 2), (10, 2), (11, 0), (12, 0)] (by kernel_rfl) (by kernel_rfl) ?_
    have hS : Below wm.heap.size wm wm.drew := Below.drew (Below.refl _ _)
    repeat (first | (refine seqp_pure rfl (fun _ _ _ h => h) (by rfl) (fun w_ => by go_simp; first | done | with_reducible rfl) ?_; (try simp only [Act.put, List.getElem_toArray, List.getElem_cons_succ, List.getElem_cons_zero, List.setIfInBounds_toArray, List.set_cons_zero, List.set_cons_succ])) | (refine seqp_take hS rfl (fun _ _ _ h => h) (by rfl) (fun w_ hSw => by have hSc := HALL.out w_ hSw; clear hSw; go_simp; first | done | with_reducible rfl) ?_; (try simp only [Act.put, List.getElem_toArray, List.getElem_cons_succ, List.getElem_cons_zero, List.setIfInBounds_toArray, List.set_cons_zero, List.set_cons_succ])) | (refine seqp_skip2 rfl (fun _ _ _ h => h) (by rfl) ?_; (try simp only [Act.put, List.getElem_toArray, List.getElem_cons_succ, List.getElem_cons_zero, List.setIfInBounds_toArray, List.set_cons_zero, List.set_cons_succ])) | (refine seqp_skip1 hS rfl (fun _ _ _ h => h) (by rfl) ?_; (try simp only [Act.put, List.getElem_toArray, List.getElem_cons_succ, List.getElem_cons_zero, List.setIfInBounds_toArray, List.set_cons_zero, List.set_cons_succ])) | (refine seqp_skip0 rfl (by rfl) ?_; (try simp only [Act.put, List.getElem_toArray, List.getElem_cons_succ, List.getElem_cons_zero, List.setIfInBounds_toArray, List.set_cons_zero, List.set_cons_succ])))
    refine seqp_step rfl (fun K hK => ?_)
    go_simp
    go_at_call 56; refine (c_specDataAt _ _).mono ?_; rintro e w3 ⟨rfl, hb⟩; replace hb := below_drawn hb
    replace hS := hS.trans (hb.mono hS.size); clear hb; refine hK.out _ _ ⟨fun _ _ => hS, ?_⟩; clear hK K; (try simp only [Act.put, List.getElem_toArray, List.getElem_cons_succ, List.getElem_cons_zero, List.setIfInBounds_toArray, List.set_cons_zero, List.set_cons_succ])
    repeat (first | (refine seqp_pure rfl (fun _ _ _ h => h) (by rfl) (fun w_ => by go_simp; first | done | with_reducible rfl) ?_; (try simp only [Act.put, List.getElem_toArray, List.getElem_cons_succ, List.getElem_cons_zero, List.setIfInBounds_toArray, List.set_cons_zero, List.set_cons_succ])) | (refine seqp_take hS rfl (fun _ _ _ h => h) (by rfl) (fun w_ hSw => by have hSc := HALL.out w_ hSw; clear hSw; go_simp; first | done | with_reducible rfl) ?_; (try simp only [Act.put, List.getElem_toArray, List.getElem_cons_succ, List.getElem_cons_zero, List.setIfInBounds_toArray, List.set_cons_zero, List.set_cons_succ])) | (refine seqp_skip2 rfl (fun _ _ _ h => h) (by rfl) ?_; (try simp only [Act.put, List.getElem_toArray, List.getElem_cons_succ, List.getElem_cons_zero, List.setIfInBounds_toArray, List.set_cons_zero, List.set_cons_succ])) | (refine seqp_skip1 hS rfl (fun _ _ _ h => h) (by rfl) ?_; (try simp only [Act.put, List.getElem_toArray, List.getElem_cons_succ, List.getElem_cons_zero, List.setIfInBounds_toArray, List.set_cons_zero, List.set_cons_succ])) | (refine seqp_skip0 rfl (by rfl) ?_; (try simp only [Act.put, List.getElem_toArray, List.getElem_cons_succ, List.getElem_cons_zero, List.setIfInBounds_toArray, List.set_cons_zero, List.set_cons_succ])))
    refine seqp_step rfl (fun K hK => ?_)
    go_simp
    go_at_call 129; refine (c_specReadSec (MemR_below (RM.out) (HM.out.below hS).toBelow) HXS.out).mono ?_; rw [HCR.out, HRD.out]; rintro e w4 ⟨u, F, rfl, hn⟩; have hs5 := (HM.out.below hS).new hn; have hb := hn.below; obtain ⟨U, uc, rfl, hul⟩ := O_RK (show oInt.O 3 w4 F u rd from hs5.get 0 rfl)
    replace hS := hS.trans (hb.mono hS.size); clear hb; refine hK.out _ _ ⟨fun _ _ => hS, ?_⟩; clear hK K; (try simp only [Act.put, List.getElem_toArray, List.getElem_cons_succ, List.getElem_cons_zero, List.setIfInBounds_toArray, List.set_cons_zero, List.set_cons_succ])
    repeat (first | (refine seqp_pure rfl (fun _ _ _ h => h) (by rfl) (fun w_ => by go_simp; first | done | with_reducible rfl) ?_; (try simp only [Act.put, List.getElem_toArray, List.getElem_cons_succ, List.getElem_cons_zero, List.setIfInBounds_toArray, List.set_cons_zero, List.set_cons_succ])) | (refine seqp_take hS rfl (fun _ _ _ h => h) (by rfl) (fun w_ hSw => by have hSc := HALL.out w_ hSw; clear hSw; go_simp; first | done | with_reducible rfl) ?_; (try simp only [Act.put, List.getElem_toArray, List.getElem_cons_succ, List.getElem_cons_zero, List.setIfInBounds_toArray, List.set_cons_zero, List.set_cons_succ])) | (refine seqp_skip2 rfl (fun _ _ _ h => h) (by rfl) ?_; (try simp only [Act.put, List.getElem_toArray, List.getElem_cons_succ, List.getElem_cons_zero, List.setIfInBounds_toArray, List.set_cons_zero, List.set_cons_succ])) | (refine seqp_skip1 hS rfl (fun _ _ _ h => h) (by rfl) ?_; (try simp only [Act.put, List.getElem_toArray, List.getElem_cons_succ, List.getElem_cons_zero, List.setIfInBounds_toArray, List.set_cons_zero, List.set_cons_succ])) | (refine seqp_skip0 rfl (by rfl) ?_; (try simp only [Act.put, List.getElem_toArray, List.getElem_cons_succ, List.getElem_cons_zero, List.setIfInBounds_toArray, List.set_cons_zero, List.set_cons_succ])))
    refine seqp_step rfl (fun K hK => ?_)
    go_simp
    refine hK.out _ _ ⟨fun _ _ => hS, ?_⟩; clear hK K; (try simp only [Act.put, List.getElem_toArray, List.getElem_cons_succ, List.getElem_cons_zero, List.setIfInBounds_toArray, List.set_cons_zero, List.set_cons_succ])
    refine seqp_step rfl (fun K hK => ?_)
    go_simp
    refine hK.out _ _ ⟨fun _ _ => hS, ?_⟩; clear hK K; (try simp only [Act.put, List.getElem_toArray, List.getElem_cons_succ, List.getElem_cons_zero, List.setIfInBounds_toArray, List.set_cons_zero, List.set_cons_succ])
    clear hS HALL
    have HS := Aside0.mk hs5
    clear hs5 hn hul
    refine seqp_done ?_
    obtain ⟨k0, k1, k2, k3, k4, k5, k6, k7, k8, k9, k10, k11, k12⟩ := thirteen (HS.out.get 1 rfl)
    cases cr
    · go_wp2
      go_ret2
      exact ⟨by (rw [wordV_no (HNO.out _ rfl)]) <;> rfl, HS.out.toBelow⟩
    · by_cases hl1 : rd.length = 1
      · obtain ⟨y, hy1⟩ : ∃ y, rd = [y] := List.length_eq_one_iff.1 hl1
        have hl2 : ((rd.length : Int) != 1) = false := by simp [hl1]
        have h0l : (0 : Int) < (rd.length : Int) := by omega
        obtain ⟨ad2, cap2, hA2, hc2⟩ := ints_at (O_RK (show oInt.O 3 w4 F _ rd from HS.out.get 0 rfl)) (by omega)
        obtain rfl := (Value.slice.inj hA2).1
        have hy := hc2 0 y (by rw [hy1]; rfl)
        rw [World_add0] at hy
        have HYV := Aside0.mk (show wordV (⟨id, gn, gs, mems, lost, built, seq, tail, gen, dirty, fuse, down, broken⟩ : ArrV) q s = (y, true) from by rw [HYES.out (HNO.out _ (by rw [hl1]; rfl)), hy1]; rfl)
        have HL1 := Aside0.mk hl1
        have HY := Aside0.mk hy
        clear hl1 hc2 hA2 hy1
        go_wp2
        go_ret2
        exact ⟨by (rw [HYV.out]) <;> rfl, HS.out.toBelow⟩
      · have hl2 : ((rd.length : Int) != 1) = true := by simp; omega
        have hl3 : (rd.length == 1) = false := by simp [hl1]
        have HL3 := Aside0.mk hl3
        clear hl1 hl3
        go_wp2
        go_ret2
        exact ⟨by (rw [wordV_no (HNO.out _ (by rw [HL3.out]; rfl))]) <;> rfl, HS.out.toBelow⟩
end Go.Proofs.Ytggmifnblcjdfaa.AWord
