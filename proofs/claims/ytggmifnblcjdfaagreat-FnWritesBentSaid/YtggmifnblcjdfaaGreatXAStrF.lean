/- Own text: AStrF. -/
import Derived.Test.YtggmifnblcjdfaaGreatXB6
set_option linter.unusedVariables false
set_option linter.unusedSimpArgs false
namespace Go.Proofs.YtggmifnblcjdfaaGreat
namespace AStrF
open Go.RowKit RJ RP Go.Proofs.YtggmifnblcjdfaaGreatW.PrintWords Fp FpStep MInt MKinds MRead MMake MPut MHeld MOk MSuper Go.Proofs.YtggmifnblcjdfaaGreat.Sep SepStep AKinds AMake AEnt ALaw AArr AOk RPC MVal MRec AHole AMark AOpV AOp ASyncF AMarkV APut ASupOf AOkD AOkI AOkA AMarkF ALive AXor AGeo AStrV
theorem putR_small {q t : Int} {xs : List Int} (h : xs.length ≤ 16000000) : (putR q t xs).length ≤ 16777216 := by have := putR_len q t xs; omega
theorem c_implSlotOf (q : Int) (w : World) (h : 0 ≤ q ∧ q ≤ 60000) : Calls Tryz.prog 129 #[.int .i64 q] w fun e w' => e = .returned (.int .i64 (slotV q)) ∧ Below w.heap.size w w' := by
 obtain ⟨h0, h1⟩ := h
 have HV := Aside0.mk (show slotV q = 2 + q.tmod 4 by unfold slotV; rw [if_neg (by omega), Int.tmod_eq_emod_of_nonneg h0])
 have b0 : 0 ≤ q.tmod 4 := Int.tmod_nonneg _ h0
 have b1 : q.tmod 4 < 4 := by rw [Int.tmod_eq_emod_of_nonneg h0]; omega
 go_enter Tryz.func129, Tryz.ntmps129
 go_wp2
 go_ret
 exact ⟨ret_int (by rw [HV.out, Int.tmod_eq_emod_of_nonneg h0]), Below.refl _ _⟩
theorem c_implParityWord {w : World} {v : Value} {xs : List Int} (h : RK kInt w v xs) :
  Calls Tryz.prog 131 #[v] w fun e w' => e = .returned (.int .i64 (xorL 0 xs)) ∧ ∃ n, w' = w.drewN n := by
 have H := Aside0.mk h
 clear h
 go_enter Tryz.func131, Tryz.ntmps131
 go_wp2_with (first | (go_at_call 157; refine (c_implXorOf H.out).mono ?_; rintro e w2 ⟨rfl, n2, rfl⟩) | fail)
 go_ret
 exact ⟨rfl, _, rfl⟩
theorem c_specSlotOf (q : Int) (w : World) (h : 0 ≤ q ∧ q ≤ 60000) : Calls Tryz.prog 118 #[.int .i64 q] w fun e w' => e = .returned (.int .i64 (slotV q)) ∧ Below w.heap.size w w' := by
 obtain ⟨h0, h1⟩ := h
 have HV := Aside0.mk (show slotV q = 2 + q.tmod 4 by unfold slotV; rw [if_neg (by omega), Int.tmod_eq_emod_of_nonneg h0])
 have b0 : 0 ≤ q.tmod 4 := Int.tmod_nonneg _ h0
 have b1 : q.tmod 4 < 4 := by rw [Int.tmod_eq_emod_of_nonneg h0]; omega
 go_enter Tryz.func118, Tryz.ntmps118
 go_wp2
 go_ret
 exact ⟨ret_int (by rw [HV.out, Int.tmod_eq_emod_of_nonneg h0]), Below.refl _ _⟩
theorem c_specParityWord {w : World} {v : Value} {xs : List Int} (h : RK kInt w v xs) :
  Calls Tryz.prog 121 #[v] w fun e w' => e = .returned (.int .i64 (xorL 0 xs)) ∧ ∃ n, w' = w.drewN n := by
 have H := Aside0.mk h
 clear h
 go_enter Tryz.func121, Tryz.ntmps121
 go_wp2_with (first | (go_at_call 154; refine (c_specXorOf H.out).mono ?_; rintro e w2 ⟨rfl, n2, rfl⟩) | fail)
 go_ret
 exact ⟨rfl, _, rfl⟩
set_option maxHeartbeats 8000000 in
set_option maxRecDepth 100000 in
theorem c_implRecF {w0 w : World} {S : List Nat} {L : List Res} {g hh n c : Nat} {F : List Nat} {vd : Value} {a : ArrV} (hs : Sep w0 S w (bx g 34 (arrC a (.slice (some ⟨hh, 0, none⟩) n c) vd) :: rw_ oMem 89 F (.slice (some ⟨hh, 0, none⟩) n c) a.mems :: L)) (hn : n = a.mems.length) (hml : a.mems.length ≤ 16777216) (hd : a.down = false) (hfu : a.fuse ≤ 1000) (hsm : ∀ m ∈ a.mems, Small m) {v : Value} {q t : Int} {xs : List Int} (hx : ∀ (w' : World) (M : List Res), Sep w0 S w' (M ++ L) → RK kInt w' v xs) (hq : 0 ≤ q ∧ q ≤ 60000) (hxl : xs.length ≤ 16000000) :
  Calls Tryz.prog 84 #[.pointer (some ⟨g, 0, none⟩), .agg #[.int .i64 q, .int .i64 t, v]] w fun e w' => ∃ F', e = .returned (.bool (!(recV a (slotV q) (putR q t xs)).down)) ∧ Sep w0 S w' (bx g 34 (arrC (recV a (slotV q) (putR q t xs)) (.slice (some ⟨hh, 0, none⟩) n c) vd) :: rw_ oMem 89 F' (.slice (some ⟨hh, 0, none⟩) n c) (recV a (slotV q) (putR q t xs)).mems :: L) := by
 have HSM := Aside0.mk hsm
 have HFU := Aside0.mk hfu
 have HN := Aside0.mk hn
 have HM1 := Aside0.mk hml
 have HD0 := Aside0.mk hd
 have HX := Aside0.mk hx
 have HQ := Aside0.mk hq
 have HXL := Aside0.mk hxl
 subst hn
 obtain ⟨ys, hys⟩ : ∃ ys, putR q t xs = ys := ⟨_, rfl⟩
 have HYS := Aside0.mk hys
 have HYL := Aside0.mk (show ys.length ≤ 16777216 by rw [← hys]; exact putR_small hxl)
 have HRV := Aside0.mk (show recV a (slotV q) (putR q t xs) = recV a (slotV q) ys by rw [hys])
 clear hys hd hx hq hxl hfu hsm
 have hB := hs.alloc (g := w.heap.size) rfl #[.int .i64 q, .int .i64 t, v] 96
 have hC := hB.selT 3 [1, 2, 0] (by decide) (by simp <;> omega)
 simp only [qqN, qqT] at hC
 have H0 := Aside0.mk hC
 clear hB hC hs
 rw [HRV.out]
 obtain ⟨k0, k1, k2, k3, k4, k5, k6, k7, k8, k9, k10, k11, k12⟩ := thirteen (H0.out.get 0 rfl)
 go_enter Tryz.func84, Tryz.ntmps84
 go_wp2
 go_loopw [11] (fun v9 wr => ∃ (i : Nat) (st : ArrV) (F' : List Nat), i ≤ a.mems.length ∧ v9 = .int .i64 i ∧ Aside0 (putA a (slotV q) ys i = st) ∧ Aside0 (st.down = false) ∧ Aside0 (Sep w0 S wr (bx g 34 (arrC st (.slice (some ⟨hh, 0, none⟩) a.mems.length c) vd) :: rw_ oMem 89 F' (.slice (some ⟨hh, 0, none⟩) a.mems.length c) st.mems :: bx w.heap.size 96 #[.int .i64 q, .int .i64 t, v] :: L))) (fun v9 _ => a.mems.length - (intOf v9).toNat)
 case atStart => exact ⟨0, a, F, by omega, rfl, ⟨rfl⟩, HD0, H0⟩
 case round =>
  clear H0 k0 k1 k2 k3 k4 k5 k6 k7 k8 k9 k10 k11 k12 HD0
  obtain ⟨i, st, F', hi, rfl, HST, HD, HR⟩ := hrel
  have HSAME := Aside0.mk (show Same a st by rw [← HST.out]; exact putA_same _ _ _ i)
  have hsl : st.mems.length = a.mems.length := HSAME.out.len
  have HFS := Aside0.mk (show st.fuse ≤ 1000 by rw [← HST.out]; exact putA_fuse HFU.out i)
  have HSS := Aside0.mk (show ∀ m ∈ st.mems, Small m by rw [← HST.out]; exact putA_small HSM.out HYL.out i)
  have HSL := Aside0.mk hsl
  clear hsl
  obtain ⟨k0, k1, k2, k3, k4, k5, k6, k7, k8, k9, k10, k11, k12⟩ := thirteen (HR.out.get 0 rfl)
  obtain ⟨r0, r1, r2⟩ := three (HR.out.get 2 rfl)
  by_cases hlt : i < a.mems.length
  ·have i0 : (0 : Int) ≤ (i : Int) := by omega
   have il : (i : Int) < (a.mems.length : Int) := by omega
   obtain ⟨nx, hnx⟩ : ∃ nx, putV st i (slotV q) ys = nx := ⟨_, rfl⟩
   have HNX := Aside0.mk hnx
   have HN1 := Aside0.mk (show putA a (slotV q) ys (i + 1) = nx by rw [putA, HST.out]; exact hnx)
   clear hnx
   go_upto_region 4 with fail
   have HALL : ∀ w' : World, Below wr.heap.size wr w' → (w'.cell? ⟨w.heap.size, 0, none⟩ = some (.int .i64 q) ∧ w'.cell? ⟨w.heap.size, 1, none⟩ = some (.int .i64 t) ∧ w'.cell? ⟨w.heap.size, 2, none⟩ = some (v)) := fun w' hb => ⟨(hb.cell (lt_of_cell r0)).trans r0, (hb.cell (lt_of_cell r1)).trans r1, (hb.cell (lt_of_cell r2)).trans r2⟩
   replace HALL := Aside0.mk HALL
   clear k0 k1 k2 k3 k4 k5 k6 k7 k8 k9 k10 k11 k12 r0 r1 r2
   refine wp_region_seqc (fun w' => Below wr.heap.size wr w') [7] [(0, 2), (1, 2), (2, 2), (3, 1), (5, 1), (4, 0), (6, 0), (7, 0), (8, 2)] (by kernel_rfl) (by kernel_rfl) ?_
   have hS : Below wr.heap.size wr wr.drew := Below.drew (Below.refl _ _)
   repeat ((first | (refine seqp_pure rfl (fun _ _ _ h => h) (by rfl) (fun w_ => by go_simp; first | done | with_reducible rfl) ?_) | (refine seqp_take hS rfl (fun _ _ _ h => h) (by rfl) (fun w_ hSw => by have hSc := HALL.out w_ hSw; clear hSw; go_simp; first | done | with_reducible rfl) ?_) | (refine seqp_skip2 rfl (fun _ _ _ h => h) (by rfl) ?_) | (refine seqp_skip1 hS rfl (fun _ _ _ h => h) (by rfl) ?_) | (refine seqp_skip0 rfl (by rfl) ?_)); (try simp only [Act.put, qqP]))
   refine seqp_step rfl (fun K hK => ?_)
   go_simp
   go_at_call 129; refine (c_implSlotOf q _ HQ.out).mono ?_; rintro e w3 ⟨rfl, hb⟩
   replace hS := hS.trans (hb.mono hS.size); clear hb; refine hK.out _ _ ⟨fun _ _ => hS, ?_⟩; clear hK K; (try simp only [Act.put, qqP])
   have HS3 := Aside0.mk (HR.out.below hS)
   refine seqp_step rfl (fun K hK => ?_)
   go_simp
   go_at_call 130; refine (c_implPutRec (HX.out _ [_, _, _] HS3.out) (by have := HXL.out; omega)).mono ?_; rw [HYS.out]; rintro e w4 ⟨A4, c4, F4, rfl, hn4⟩; have hs4 := HS3.out.new hn4; have hb := hn4.below; clear hn4; have hB := hs4.selT 3 [1, 2, 0] (by decide) (by simp <;> omega); simp only [qqN, qqT] at hB; have HS4 := Aside0.mk hB; clear hs4 hB
   replace hS := hS.trans (hb.mono hS.size); clear hb; refine hK.out _ _ ⟨fun _ _ => hS, ?_⟩; clear hK K; (try simp only [Act.put, qqP])
   refine seqp_step rfl (fun K hK => ?_)
   go_simp
   go_at_call 109; refine (c_implPut (i := i) (k := slotV q) (xs := ys) HS4.out HSL.out.symm (by have := HSL.out; omega) HD.out HFS.out HSS.out HYL.out).mono ?_; rw [HNX.out]; rintro e w5 ⟨F5, rfl, hs5⟩; have hB := hs5.selT 4 [0, 1, 3] (by decide) (by simp <;> omega); simp only [qqN, qqT] at hB; have HS5 := Aside0.mk hB; clear hs5 hB HS4 HS3
   refine hK.out _ _ ⟨(fun h => (by cases h)), ?_⟩; clear hK K; (try simp only [Act.put, qqP])
   iterate 1 (refine seqp_pure rfl (fun _ _ _ h => h) (by rfl) (fun w_ => by go_simp; first | done | with_reducible rfl) ?_; (try simp only [Act.put, qqP]))
   clear hS HALL
   refine seqp_done ?_
   cases hdn : nx.down
   ·have HDN := Aside0.mk hdn
    have hdb : (!nx.down) = true := by rw [hdn]; rfl
    clear hdn
    go_wp2
    go_roundw
    case rel => exact ⟨i + 1, nx, F5, by omega, by go_num, HN1, HDN, HS5⟩
    case measure => simp [intOf]; omega
   ·have HDN := Aside0.mk hdn
    have hdb : (!nx.down) = false := by rw [hdn]; rfl
    clear hdn
    have HMV := Aside0.mk (show recV a (slotV q) ys = nx by rw [recV_down (i := i + 1) (by rw [HN1.out]; exact HDN.out) (by omega), HN1.out])
    go_wp2
    go_ret
    rw [HMV.out, HDN.out]
    have hE := HS5.out.selT 3 [0, 1] (by decide) (by simp <;> omega)
    simp only [qqN, qqT] at hE
    first | exact ⟨_, rfl, hE⟩ | exact ⟨rfl, _, hE⟩
  ·obtain rfl : i = a.mems.length := by omega
   have HMV := Aside0.mk (show syncV st = recV a (slotV q) ys by unfold recV; rw [HST.out])
   go_wp2_with (first
    | (go_at_call 58; refine (c_implSyncF HR.out HSL.out.symm (by have := HSL.out; have := HM1.out; omega) HD.out HFS.out HSS.out).mono ?_; rw [HMV.out]; rintro e w6 ⟨F6, rfl, hs6⟩; have HS5 := Aside0.mk hs6; clear hs6)
    | fail)
   go_ret
   have hE := HS5.out.selT 3 [0, 1] (by decide) (by simp <;> omega)
   simp only [qqN, qqT] at hE
   first | exact ⟨_, rfl, hE⟩ | exact ⟨rfl, _, hE⟩
set_option maxHeartbeats 8000000 in
set_option maxRecDepth 100000 in
theorem c_specRecF {w0 w : World} {S : List Nat} {L : List Res} {g hh n c : Nat} {F : List Nat} {vd : Value} {a : ArrV} (hs : Sep w0 S w (bx g 34 (arrC a (.slice (some ⟨hh, 0, none⟩) n c) vd) :: rw_ oMem 89 F (.slice (some ⟨hh, 0, none⟩) n c) a.mems :: L)) (hn : n = a.mems.length) (hml : a.mems.length ≤ 16777216) (hd : a.down = false) (hfu : a.fuse ≤ 1000) (hsm : ∀ m ∈ a.mems, Small m) {v : Value} {q t : Int} {xs : List Int} (hx : ∀ (w' : World) (M : List Res), Sep w0 S w' (M ++ L) → RK kInt w' v xs) (hq : 0 ≤ q ∧ q ≤ 60000) (hxl : xs.length ≤ 16000000) :
  Calls Tryz.prog 71 #[.pointer (some ⟨g, 0, none⟩), .agg #[.int .i64 q, .int .i64 t, v]] w fun e w' => ∃ F', e = .returned (.tuple #[]) ∧ Sep w0 S w' (bx g 34 (arrC (recV a (slotV q) (putR q t xs)) (.slice (some ⟨hh, 0, none⟩) n c) vd) :: rw_ oMem 89 F' (.slice (some ⟨hh, 0, none⟩) n c) (recV a (slotV q) (putR q t xs)).mems :: L) := by
 have HSM := Aside0.mk hsm
 have HFU := Aside0.mk hfu
 have HN := Aside0.mk hn
 have HM1 := Aside0.mk hml
 have HD0 := Aside0.mk hd
 have HX := Aside0.mk hx
 have HQ := Aside0.mk hq
 have HXL := Aside0.mk hxl
 subst hn
 obtain ⟨ys, hys⟩ : ∃ ys, putR q t xs = ys := ⟨_, rfl⟩
 have HYS := Aside0.mk hys
 have HYL := Aside0.mk (show ys.length ≤ 16777216 by rw [← hys]; exact putR_small hxl)
 have HRV := Aside0.mk (show recV a (slotV q) (putR q t xs) = recV a (slotV q) ys by rw [hys])
 clear hys hd hx hq hxl hfu hsm
 have hB := hs.alloc (g := w.heap.size) rfl #[.int .i64 q, .int .i64 t, v] 96
 have hC := hB.selT 3 [1, 2, 0] (by decide) (by simp <;> omega)
 simp only [qqN, qqT] at hC
 have H0 := Aside0.mk hC
 clear hB hC hs
 rw [HRV.out]
 obtain ⟨k0, k1, k2, k3, k4, k5, k6, k7, k8, k9, k10, k11, k12⟩ := thirteen (H0.out.get 0 rfl)
 go_enter Tryz.func71, Tryz.ntmps71
 go_wp2
 go_loopw [4] (fun v9 wr => ∃ (i : Nat) (st : ArrV) (F' : List Nat), i ≤ a.mems.length ∧ v9 = .int .i64 i ∧ Aside0 (putA a (slotV q) ys i = st) ∧ Aside0 (Sep w0 S wr (bx g 34 (arrC st (.slice (some ⟨hh, 0, none⟩) a.mems.length c) vd) :: rw_ oMem 89 F' (.slice (some ⟨hh, 0, none⟩) a.mems.length c) st.mems :: bx w.heap.size 96 #[.int .i64 q, .int .i64 t, v] :: L))) (fun v9 _ => a.mems.length - (intOf v9).toNat)
 case atStart => exact ⟨0, a, F, by omega, rfl, ⟨rfl⟩, H0⟩
 case round =>
  clear H0 k0 k1 k2 k3 k4 k5 k6 k7 k8 k9 k10 k11 k12 HD0
  obtain ⟨i, st, F', hi, rfl, HST, HR⟩ := hrel
  have HSAME := Aside0.mk (show Same a st by rw [← HST.out]; exact putA_same _ _ _ i)
  have hsl : st.mems.length = a.mems.length := HSAME.out.len
  have HFS := Aside0.mk (show st.fuse ≤ 1000 by rw [← HST.out]; exact putA_fuse HFU.out i)
  have HSS := Aside0.mk (show ∀ m ∈ st.mems, Small m by rw [← HST.out]; exact putA_small HSM.out HYL.out i)
  have HSL := Aside0.mk hsl
  clear hsl
  obtain ⟨k0, k1, k2, k3, k4, k5, k6, k7, k8, k9, k10, k11, k12⟩ := thirteen (HR.out.get 0 rfl)
  obtain ⟨r0, r1, r2⟩ := three (HR.out.get 2 rfl)
  by_cases hlt : i < a.mems.length
  ·have i0 : (0 : Int) ≤ (i : Int) := by omega
   have il : (i : Int) < (a.mems.length : Int) := by omega
   obtain ⟨nx, hnx⟩ : ∃ nx, putV st i (slotV q) ys = nx := ⟨_, rfl⟩
   have HNX := Aside0.mk hnx
   have HN1 := Aside0.mk (show putA a (slotV q) ys (i + 1) = nx by rw [putA, HST.out]; exact hnx)
   clear hnx
   go_upto_region 4 with fail
   have HALL : ∀ w' : World, Below wr.heap.size wr w' → (w'.cell? ⟨w.heap.size, 0, none⟩ = some (.int .i64 q) ∧ w'.cell? ⟨w.heap.size, 1, none⟩ = some (.int .i64 t) ∧ w'.cell? ⟨w.heap.size, 2, none⟩ = some (v)) := fun w' hb => ⟨(hb.cell (lt_of_cell r0)).trans r0, (hb.cell (lt_of_cell r1)).trans r1, (hb.cell (lt_of_cell r2)).trans r2⟩
   replace HALL := Aside0.mk HALL
   clear k0 k1 k2 k3 k4 k5 k6 k7 k8 k9 k10 k11 k12 r0 r1 r2
   refine wp_region_seqc (fun w' => Below wr.heap.size wr w') [7] [(0, 2), (1, 2), (2, 2), (3, 1), (5, 1), (4, 0), (6, 0), (7, 0)] (by kernel_rfl) (by kernel_rfl) ?_
   have hS : Below wr.heap.size wr wr.drew := Below.drew (Below.refl _ _)
   repeat ((first | (refine seqp_pure rfl (fun _ _ _ h => h) (by rfl) (fun w_ => by go_simp; first | done | with_reducible rfl) ?_) | (refine seqp_take hS rfl (fun _ _ _ h => h) (by rfl) (fun w_ hSw => by have hSc := HALL.out w_ hSw; clear hSw; go_simp; first | done | with_reducible rfl) ?_) | (refine seqp_skip2 rfl (fun _ _ _ h => h) (by rfl) ?_) | (refine seqp_skip1 hS rfl (fun _ _ _ h => h) (by rfl) ?_) | (refine seqp_skip0 rfl (by rfl) ?_)); (try simp only [Act.put, qqP]))
   refine seqp_step rfl (fun K hK => ?_)
   go_simp
   go_at_call 118; refine (c_specSlotOf q _ HQ.out).mono ?_; rintro e w3 ⟨rfl, hb⟩
   replace hS := hS.trans (hb.mono hS.size); clear hb; refine hK.out _ _ ⟨fun _ _ => hS, ?_⟩; clear hK K; (try simp only [Act.put, qqP])
   have HS3 := Aside0.mk (HR.out.below hS)
   refine seqp_step rfl (fun K hK => ?_)
   go_simp
   go_at_call 119; refine (c_specPutRec (HX.out _ [_, _, _] HS3.out) (by have := HXL.out; omega)).mono ?_; rw [HYS.out]; rintro e w4 ⟨A4, c4, F4, rfl, hn4⟩; have hs4 := HS3.out.new hn4; have hb := hn4.below; clear hn4; have hB := hs4.selT 3 [1, 2, 0] (by decide) (by simp <;> omega); simp only [qqN, qqT] at hB; have HS4 := Aside0.mk hB; clear hs4 hB
   replace hS := hS.trans (hb.mono hS.size); clear hb; refine hK.out _ _ ⟨fun _ _ => hS, ?_⟩; clear hK K; (try simp only [Act.put, qqP])
   refine seqp_step rfl (fun K hK => ?_)
   go_simp
   go_at_call 112; refine (c_specPut (i := i) (k := slotV q) (xs := ys) HS4.out HSL.out.symm (by have := HSL.out; omega) HFS.out HSS.out HYL.out).mono ?_; rw [HNX.out]; rintro e w5 ⟨F5, rfl, hs5⟩; have hB := hs5.selT 4 [0, 1, 3] (by decide) (by simp <;> omega); simp only [qqN, qqT] at hB; have HS5 := Aside0.mk hB; clear hs5 hB HS4 HS3
   refine hK.out _ _ ⟨(fun h => (by cases h)), ?_⟩; clear hK K; (try simp only [Act.put, qqP])
   clear hS HALL
   refine seqp_done ?_
   go_wp2
   go_roundw
   case rel => exact ⟨i + 1, nx, F5, by omega, by go_num, HN1, HS5⟩
   case measure => simp [intOf]; omega
  ·obtain rfl : i = a.mems.length := by omega
   have HMV := Aside0.mk (show syncV st = recV a (slotV q) ys by unfold recV; rw [HST.out])
   go_wp2_with (first
    | (go_at_call 60; refine (c_specSyncF HR.out HSL.out.symm (by have := HSL.out; have := HM1.out; omega) HFS.out HSS.out).mono ?_; rw [HMV.out]; rintro e w6 ⟨F6, rfl, hs6⟩; have HS5 := Aside0.mk hs6; clear hs6)
    | fail)
   go_end0
   have hE := HS5.out.selT 3 [0, 1] (by decide) (by simp <;> omega)
   simp only [qqN, qqT] at hE
   first | exact ⟨_, rfl, hE⟩ | exact ⟨rfl, _, hE⟩
end AStrF
end Go.Proofs.YtggmifnblcjdfaaGreat
