/- spec.ArrNew. Printed by mkanew.py. -/
import Derived.Test.YtggmifnblcjdfaaANewV
import Derived.Test.YtggmifnblcjdfaaABox
import Derived.Test.YtggmifnblcjdfaaMFail
import Derived.Test.YtggmifnblcjdfaaAOk
import Derived.Test.YtggmifnblcjdfaaRQ
import Derived.Test.YtggmifnblcjdfaaRPC
import Derived.Test.YtggmifnblcjdfaaAHole
namespace Go.Proofs.Ytggmifnblcjdfaa.ANewS
open Go.RowKit Go.Proofs.Ytggmifnblcjdfaa.RJ Go.Proofs.Ytggmifnblcjdfaa.RP Go.Proofs.YtggmifnblcjdfaaW.PrintWords Go.Proofs.Ytggmifnblcjdfaa.Fp Go.Proofs.Ytggmifnblcjdfaa.FpStep Go.Proofs.Ytggmifnblcjdfaa.MInt Go.Proofs.Ytggmifnblcjdfaa.MKinds Go.Proofs.Ytggmifnblcjdfaa.MRead Go.Proofs.Ytggmifnblcjdfaa.MMake Go.Proofs.Ytggmifnblcjdfaa.MPut Go.Proofs.Ytggmifnblcjdfaa.MHeld Go.Proofs.Ytggmifnblcjdfaa.MOk Go.Proofs.Ytggmifnblcjdfaa.MSuper Go.Proofs.Ytggmifnblcjdfaa.Sep Go.Proofs.Ytggmifnblcjdfaa.SepStep Go.Proofs.Ytggmifnblcjdfaa.AKinds Go.Proofs.Ytggmifnblcjdfaa.AMake Go.Proofs.Ytggmifnblcjdfaa.AEnt Go.Proofs.Ytggmifnblcjdfaa.ALaw Go.Proofs.Ytggmifnblcjdfaa.AArr Go.Proofs.Ytggmifnblcjdfaa.AOk Go.Proofs.Ytggmifnblcjdfaa.RQ Go.Proofs.Ytggmifnblcjdfaa.RPC Go.Proofs.Ytggmifnblcjdfaa.MVal Go.Proofs.Ytggmifnblcjdfaa.MWSuper Go.Proofs.Ytggmifnblcjdfaa.MFail Go.Proofs.Ytggmifnblcjdfaa.AXor Go.Proofs.Ytggmifnblcjdfaa.AMark Go.Proofs.Ytggmifnblcjdfaa.AHole Go.Proofs.Ytggmifnblcjdfaa.ANewV Go.Proofs.Ytggmifnblcjdfaa.ABox
set_option linter.unusedVariables false
set_option linter.unusedSimpArgs false
set_option maxHeartbeats 8000000 in
set_option maxRecDepth 100000 in
theorem c_specArrNew (id n s : Int) (w : World) :
    Calls Try.prog 18 #[.int .i64 id, .agg #[.int .i64 n, .int .i64 s]] w fun e w' => ∃ u F, e = .returned u ∧ New w w' (ar F u (newR id n s)) := by
  have HI := Aside0.mk (((Sep.start w []).alloc (g := w.heap.size) rfl #[.int .i64 n, .int .i64 s] 30).alloc (g := w.heap.size + 1) (by simp) arrZ 34)
  simp only [arrZ] at *
  obtain ⟨b0, b1⟩ := pair2 (HI.out.get 1 rfl)
  obtain ⟨z0, z1, z2, z3, z4, z5, z6, z7, z8, z9, z10, z11, z12⟩ := thirteen (HI.out.get 0 rfl)
  have gz := blk_frozen (HI.out.get 0 rfl)
  by_cases hg : geoB n s = true
  · by_cases hi : inR id 1 60000 = true
    · obtain ⟨q1, q2, q3, q4⟩ := geoB_true hg
      have HG := Aside0.mk hg
      have HID := Aside0.mk hi
      clear hg hi
      obtain ⟨k, rfl⟩ : ∃ k : Nat, n = (k : Int) := ⟨n.toNat, by omega⟩
      obtain ⟨q, rfl⟩ : ∃ q : Nat, s = (q : Int) := ⟨s.toNat, by omega⟩
      have HR := Aside0.mk (show newR id k q = partN id k q k by unfold newR newOk; rw [HG.out, HID.out]; simp)
      have HK := Aside0.mk (show 3 ≤ k ∧ k ≤ 5 ∧ 1 ≤ q ∧ q ≤ 8 by omega)
      obtain ⟨L, hL⟩ : ∃ L, L = 6 + q := ⟨_, rfl⟩
      have HL := Aside0.mk hL
      have hL0 : 0 < L := by omega
      have hL1 : (0 : Int) < (L : Int) := by omega
      have HNV := Aside0.mk (show newV (6 + (q : Int)) = ⟨List.replicate L [], [], false, []⟩ by unfold newV; rw [if_pos (by simp [inR]; omega), show (6 + (q : Int)).toNat = L by omega])
      clear hL
      go_enter Try.func18, Try.ntmps18
      go_upto_region 4 with (first
        | (go_at_call 38; refine (c_l1In _ _ _ _).mono ?_; rw [HID.out]; rintro e w3 ⟨rfl, hb⟩; have HS3 := Aside0.mk (HS2.out.dr hb); clear hb gz b0 b1 z0 z1 z2 z3 z4 z5 z6 z7 z8 z9 z10 z11 z12; obtain ⟨b0, b1⟩ := pair2 (HS3.out.get 1 rfl); obtain ⟨z0, z1, z2, z3, z4, z5, z6, z7, z8, z9, z10, z11, z12⟩ := thirteen (HS3.out.get 0 rfl); have gz := blk_frozen (HS3.out.get 0 rfl))
        | (go_at_call 45; refine (c_specGeoOk _ _ _).mono ?_; rw [HG.out]; rintro e w2 ⟨rfl, hb⟩; have HS2 := Aside0.mk (HI.out.below hb); clear hb gz b0 b1 z0 z1 z2 z3 z4 z5 z6 z7 z8 z9 z10 z11 z12; obtain ⟨b0, b1⟩ := pair2 (HS2.out.get 1 rfl); obtain ⟨z0, z1, z2, z3, z4, z5, z6, z7, z8, z9, z10, z11, z12⟩ := thirteen (HS2.out.get 0 rfl); have gz := blk_frozen (HS2.out.get 0 rfl))
        | fail)
      have hB := (HS3.out.alloc (g := w3.heap.size) rfl #[.int .i64 id, .int .i64 (k : Int), .int .i64 (q : Int), .slice none 0 0, .int .i64 (-1), .int .i64 0, .int .i64 0, .int .i64 0, .int .i64 0, .slice none 0 0, .int .i64 (-1), .bool false, .bool false] 34).nil oMem 57
      have hC := hB.sel [1, 0, 2, 3] (by decide) (by simp)
      simp only [List.map_cons, List.map_nil, pick, List.getD_cons_succ, List.getD_cons_zero, List.set_cons_zero, List.set_cons_succ, List.eraseIdx_cons_zero, List.eraseIdx_cons_succ, List.setIfInBounds_toArray] at hC
      generalize hgz : w3.heap.size = g5 at *
      generalize hww : w3.alloc (.cells #[.int .i64 id, .int .i64 (k : Int), .int .i64 (q : Int), .slice none 0 0, .int .i64 (-1), .int .i64 0, .int .i64 0, .int .i64 0, .int .i64 0, .slice none 0 0, .int .i64 (-1), .bool false, .bool false] 34 (0, 0)) = w4 at *
      have HS4 := Aside0.mk hC
      clear hB hC hgz hww HS3 HS2 gz b0 b1 z0 z1 z2 z3 z4 z5 z6 z7 z8 z9 z10 z11 z12
      go_wp2
      go_loopw [6] (fun v9 wr => ∃ (i : Nat) (A : Option Addr) (cA : Nat) (F : List Nat), i ≤ k ∧ v9 = .int .i64 i ∧ Aside0 (Sep w [] wr [bx g5 34 #[.int .i64 id, .int .i64 (k : Int), .int .i64 (q : Int), .slice A i cA, .int .i64 (-1), .int .i64 0, .int .i64 0, .int .i64 0, .int .i64 0, .slice none 0 0, .int .i64 (-1), .bool false, .bool false], rw_ oMem 57 F (.slice A i cA) (memsN id k q i), bx (w.heap.size + 1) 34 #[.int .i64 0, .int .i64 0, .int .i64 0, .slice none 0 0, .int .i64 0, .int .i64 0, .int .i64 0, .int .i64 0, .int .i64 0, .slice none 0 0, .int .i64 0, .bool false, .bool false], bx w.heap.size 30 #[.int .i64 (k : Int), .int .i64 (q : Int)]])) (fun v9 _ => k - (intOf v9).toNat)
      case atStart => exact ⟨0, none, 0, _, by omega, rfl, HS4⟩
      case round =>
        clear HS4
        obtain ⟨i, A, cA, F, hi, rfl, HRR⟩ := hrel
        obtain ⟨b0, b1⟩ := pair2 (HRR.out.get 3 rfl)
        by_cases hlt : i < k
        · have i0 : (0 : Int) ≤ (i : Int) := by omega
          have il : (i : Int) < (k : Int) := by omega
          obtain ⟨sup, hsup⟩ : ∃ sup, putSup ⟨id, 0, (i : Int), (k : Int), (q : Int), 0, -1, 0⟩ = sup := ⟨_, rfl⟩
          have HSUP := Aside0.mk hsup
          clear hsup
          go_upto_region 8 with (first
            | (go_at_call 53; refine (c_specMemNew _ _).mono ?_; rw [HNV.out]; rintro e w6 ⟨u6, F6, rfl, hn6⟩; have hs6 := HS5.out.new hn6; obtain ⟨A1, c1, A2, c2, A3, c3, rfl⟩ := me_form hs6; simp only [List.length_nil, List.length_replicate] at hs6; have HS6 := Aside0.mk hs6; clear hs6 hn6)
            | (go_at_call 54; refine (c_specL6Secs _ _ (by omega) (by omega)).mono ?_; rintro e w5 ⟨rfl, hb⟩; have HS5 := Aside0.mk (HRR.out.below hb); clear hb b0 b1)
            | fail)
          skip
          have hB := HS6.out.alloc (g := w6.heap.size) rfl #[.slice A1 L c1, .slice A2 0 c2, .bool false, .slice A3 0 c3] 57
          have hC := hB.sel [1, 0, 2, 3, 4, 5] (by decide) (by simp)
          simp only [List.map_cons, List.map_nil, pick, List.getD_cons_succ, List.getD_cons_zero, List.set_cons_zero, List.set_cons_succ, List.eraseIdx_cons_zero, List.eraseIdx_cons_succ, List.setIfInBounds_toArray] at hC
          obtain ⟨F1, F2, F3, hD⟩ := Sep.ofMemL hC
          simp only at hD
          obtain ⟨h1, cap9, hv9, _, _⟩ := O_form (show oSec.O 44 _ F1 (.slice A1 L c1) (List.replicate L []) from hD.get 0 rfl) (by simp; omega)
          obtain rfl := (Value.slice.inj hv9).1
          clear hv9 hB hC
          generalize hgz : w6.heap.size = g7 at *
          generalize hww : w6.alloc (.cells #[.slice (some ⟨h1, 0, none⟩) L c1, .slice A2 0 c2, .bool false, .slice A3 0 c3] 57 (0, 0)) = w7 at *
          have HS7 := Aside0.mk hD
          clear hD hgz hww HS6 HS5
          obtain ⟨b0, b1⟩ := pair2 (HS7.out.get 7 rfl)
          obtain ⟨m0, m1, m2, m3⟩ := four (HS7.out.get 3 rfl)
          have HALL : ∀ w' : World, Below w7.heap.size w7 w' → (w'.cell? ⟨g7, 0, none⟩ = some (.slice (some ⟨h1, 0, none⟩) L c1) ∧ w'.cell? ⟨w.heap.size, 0, none⟩ = some (.int .i64 (k : Int)) ∧ w'.cell? ⟨w.heap.size, 1, none⟩ = some (.int .i64 (q : Int))) := fun w' hb => ⟨(hb.cell (lt_of_cell m0)).trans m0, (hb.cell (lt_of_cell b0)).trans b0, (hb.cell (lt_of_cell b1)).trans b1⟩
          replace HALL := Aside0.mk HALL
          clear m0 m1 m2 m3 b0 b1
          refine wp_region_seqc (fun w' => Below w7.heap.size w7 w') [11] [(0, 2), (2, 2), (3, 2), (4, 2), (6, 2), (1, 1), (5, 1), (7, 1), (8, 2), (9, 0), (10, 2), (11, 0)] (by kernel_rfl) (by kernel_rfl) ?_
          have hS : Below w7.heap.size w7 w7.drew := Below.drew (Below.refl _ _)
          repeat ((first | (refine seqp_pure rfl (fun _ _ _ h => h) (by rfl) (fun w_ => by go_simp; first | done | with_reducible rfl) ?_) | (refine seqp_take hS rfl (fun _ _ _ h => h) (by rfl) (fun w_ hSw => by have hSc := HALL.out w_ hSw; clear hSw; go_simp; first | done | with_reducible rfl) ?_) | (refine seqp_skip2 rfl (fun _ _ _ h => h) (by rfl) ?_) | (refine seqp_skip1 hS rfl (fun _ _ _ h => h) (by rfl) ?_) | (refine seqp_skip0 rfl (by rfl) ?_)); (try simp only [Act.put, List.getElem_toArray, List.getElem_cons_succ, List.getElem_cons_zero, List.setIfInBounds_toArray, List.set_cons_zero, List.set_cons_succ]))
          refine seqp_step rfl (fun K hK => ?_)
          go_simp
          go_at_call 55; refine (c_specPutSuper _ _ _ _ _ _ _ _ _).mono ?_; rw [HSUP.out]; rintro e w8 ⟨u8, F8, rfl, hn8⟩; obtain ⟨A8, c8, rfl, hz8⟩ := O_reads (show oInt.O 3 w8 F8 u8 _ from hn8.lies.now); have hs8 := (HS7.out.below hS).new hn8; have hb := hn8.below; clear hn8 hz8; have HS8 := Aside0.mk hs8; clear hs8
          replace hS := hS.trans (hb.mono hS.size); clear hb; refine hK.out _ _ ⟨fun _ _ => hS, ?_⟩; clear hK K; (try simp only [Act.put, List.getElem_toArray, List.getElem_cons_succ, List.getElem_cons_zero, List.setIfInBounds_toArray, List.set_cons_zero, List.set_cons_succ])
          repeat ((first | (refine seqp_pure rfl (fun _ _ _ h => h) (by rfl) (fun w_ => by go_simp; first | done | with_reducible rfl) ?_) | (refine seqp_take hS rfl (fun _ _ _ h => h) (by rfl) (fun w_ hSw => by have hSc := HALL.out w_ hSw; clear hSw; go_simp; first | done | with_reducible rfl) ?_) | (refine seqp_skip2 rfl (fun _ _ _ h => h) (by rfl) ?_) | (refine seqp_skip1 hS rfl (fun _ _ _ h => h) (by rfl) ?_) | (refine seqp_skip0 rfl (by rfl) ?_)); (try simp only [Act.put, List.getElem_toArray, List.getElem_cons_succ, List.getElem_cons_zero, List.setIfInBounds_toArray, List.set_cons_zero, List.set_cons_succ]))
          obtain ⟨uu, cc1, cc2⟩ := O_cells (d := oSec) (t := 0) (HS8.out.get 1 rfl) (show 0 < (List.replicate L ([] : List Int)).length by have := HL.out; have := HK.out; simp; omega) (by decide)
          simp only [show oSec.sz = 1 from rfl, Nat.mul_one, Nat.add_zero] at cc1 cc2
          refine seqp_step rfl (fun K hK => ?_)
          go_simp
          refine hK.out _ _ ⟨(fun h => (by cases h)), ?_⟩; clear hK K; (try simp only [Act.put, List.getElem_toArray, List.getElem_cons_succ, List.getElem_cons_zero, List.setIfInBounds_toArray, List.set_cons_zero, List.set_cons_succ])
          clear hS HALL
          refine seqp_done ?_
          obtain ⟨F9, hput⟩ := Sep.put (d := oSec) (i := 0) (y := sup) (us := [.slice A8 sup.length c8]) (HS8.out.selT 2 [1, 0] (by decide) (by simp <;> omega)) (by simp; omega) ⟨_, rfl, HS8.out.get 0 rfl⟩
          simp only [List.map_cons, List.map_nil, pick, List.getD_cons_succ, List.getD_cons_zero, List.set_cons_zero, List.set_cons_succ, List.eraseIdx_cons_zero, List.eraseIdx_cons_succ, List.drop_succ_cons, List.drop_zero, List.append_eq, List.cons_append, List.nil_append, List.setIfInBounds_toArray] at hput
          rw [show (List.replicate L ([] : List Int)).set 0 sup = secsS id k q i 0 by rw [secsS, HNV.out, ← HSUP.out]; rfl] at hput
          simp only [show oSec.sz = 1 from rfl, Nat.mul_one] at hput
          have HS9 := Aside0.mk hput
          clear hput cc1 cc2
          go_wp2
          go_loopw [8] (fun v9 wr => ∃ (j : Nat) (F' : List Nat), j ≤ q ∧ v9 = .int .i64 j ∧ Aside0 (Sep w [] wr [rw_ oSec 44 F' (.slice (some ⟨h1, 0, none⟩) L c1) (secsS id k q i j), rw_ oWr 101 F2 (.slice A2 0 c2) [], rw_ oInt 3 F3 (.slice A3 0 c3) [], bx g7 57 #[.slice (some ⟨h1, 0, none⟩) L c1, .slice A2 0 c2, .bool false, .slice A3 0 c3], bx g5 34 #[.int .i64 id, .int .i64 (k : Int), .int .i64 (q : Int), .slice A i cA, .int .i64 (-1), .int .i64 0, .int .i64 0, .int .i64 0, .int .i64 0, .slice none 0 0, .int .i64 (-1), .bool false, .bool false], rw_ oMem 57 F (.slice A i cA) (memsN id k q i), bx (w.heap.size + 1) 34 #[.int .i64 0, .int .i64 0, .int .i64 0, .slice none 0 0, .int .i64 0, .int .i64 0, .int .i64 0, .int .i64 0, .int .i64 0, .slice none 0 0, .int .i64 0, .bool false, .bool false], bx w.heap.size 30 #[.int .i64 (k : Int), .int .i64 (q : Int)]])) (fun v9 _ => q - (intOf v9).toNat)
          case atStart => exact ⟨0, _, by omega, rfl, HS9⟩
          case round =>
            clear HS9 HS8 HS7
            obtain ⟨j, F', hj, rfl, HRI⟩ := hrel
            obtain ⟨b0, b1⟩ := pair2 (HRI.out.get 7 rfl)
            by_cases hjl : j < q
            · have j0 : (0 : Int) ≤ (j : Int) := by omega
              have jl : (j : Int) < (q : Int) := by omega
              obtain ⟨x, hx⟩ : ∃ x, x = 6 + j := ⟨_, rfl⟩
              have hx0 : (0 : Int) ≤ (x : Int) := by omega
              have hx1 : (x : Int) < (L : Int) := by have := HL.out; omega
              have HXJ := Aside0.mk hx
              obtain ⟨m0, m1, m2, m3⟩ := four (HRI.out.get 3 rfl)
              have HDV := Aside0.mk (show dataV (j : Int) = (x : Int) by rw [dataV_nat j (by omega)]; omega)
              clear hx
              go_upto_region 12 with fail
              refine wp_region_tr (fun w' => w'.cell? ⟨g7, 0, none⟩ = some (.slice (some ⟨h1, 0, none⟩) L c1)) [6] (Tr.p 0 (Tr.p 2 (Tr.t 1 (Tr.alt 3 (Tr.s 4 (Tr.p 5 (Tr.s 6 (Tr.nil)))) (Tr.s 4 (Tr.s 3 (Tr.p 5 (Tr.s 6 (Tr.nil))))))))) (by kernel_rfl) (by kernel_rfl) ?_
              have hS : (fun w' : World => w'.cell? ⟨g7, 0, none⟩ = some (.slice (some ⟨h1, 0, none⟩) L c1)) wr.drew := m0
              clear m0 m1 m2 m3 b0 b1
              have HRD := Aside0.mk HRI.out.drew
              generalize hwd : wr.drew = wd at *
              clear hwd
              iterate 2 (refine tr_pure rfl (fun _ _ _ h => h) (by rfl) (fun w_ => by go_simp; first | done | with_reducible rfl) ?_; (try simp only [Act.put, List.getElem_toArray, List.getElem_cons_succ, List.getElem_cons_zero, List.setIfInBounds_toArray, List.set_cons_zero, List.set_cons_succ]))
              iterate 1 (refine tr_take hS rfl (fun _ _ _ h => h) (by rfl) (fun w_ hSw => by (try dsimp only at hSw); go_simp; first | done | with_reducible rfl) ?_; (try simp only [Act.put, List.getElem_toArray, List.getElem_cons_succ, List.getElem_cons_zero, List.setIfInBounds_toArray, List.set_cons_zero, List.set_cons_succ]))
              refine tr_two ?_ ?_
              · refine tr_step rfl (fun K hK => ?_)
                go_simp
                go_at_call 56; refine (c_specDataAt (j : Int) _).mono ?_; rw [HDV.out]; rintro e w5 ⟨rfl, hd5⟩
                have HS5 := Aside0.mk (HRD.out.dr hd5)
                clear hd5
                have hSn := (four (HS5.out.get 3 rfl)).1
                clear hS
                refine hK.out _ _ ⟨fun _ _ => hSn, ?_⟩; clear hK K; (try simp only [Act.put, List.getElem_toArray, List.getElem_cons_succ, List.getElem_cons_zero, List.setIfInBounds_toArray, List.set_cons_zero, List.set_cons_succ])
                have hS := hSn
                clear hSn
                refine tr_step rfl (fun K hK => ?_)
                go_simp
                have HS6 := Aside0.mk (new_lit HS5.out rfl 3 #[.int .i64 0] (l := [0]) (n := 1) rfl rfl (by decide))
                generalize hwl : World.alloc w5 (.cells #[.int .i64 0] 3 (0, 0)) = w6 at *
                clear hwl
                have hSn := (four (HS6.out.get 4 rfl)).1
                clear hS
                refine hK.out _ _ ⟨fun _ _ => hSn, ?_⟩; clear hK K; (try simp only [Act.put, List.getElem_toArray, List.getElem_cons_succ, List.getElem_cons_zero, List.setIfInBounds_toArray, List.set_cons_zero, List.set_cons_succ])
                have hS := hSn
                clear hSn
                iterate 1 (refine tr_pure rfl (fun _ _ _ h => h) (by rfl) (fun w_ => by go_simp; first | done | with_reducible rfl) ?_; (try simp only [Act.put, List.getElem_toArray, List.getElem_cons_succ, List.getElem_cons_zero, List.setIfInBounds_toArray, List.set_cons_zero, List.set_cons_succ]))
                obtain ⟨uu, cc1, cc2⟩ := O_cells (d := oSec) (t := 0) (HS6.out.get 1 rfl) (show x < (secsS id k q i j).length by rw [secsS_len (by have := HK.out; omega)]; have := HL.out; have := HXJ.out; omega) (by decide)
                simp only [show oSec.sz = 1 from rfl, Nat.mul_one, Nat.add_zero] at cc1 cc2
                refine tr_step rfl (fun K hK => ?_)
                go_simp
                refine hK.out _ _ ⟨(fun h => (by cases h)), ?_⟩; clear hK K; (try simp only [Act.put, List.getElem_toArray, List.getElem_cons_succ, List.getElem_cons_zero, List.setIfInBounds_toArray, List.set_cons_zero, List.set_cons_succ])
                refine tr_done ?_
                go_wp2
                go_roundw
                case rel =>
                  obtain ⟨F9, hput⟩ := Sep.put (d := oSec) (i := x) (y := [0]) (us := [.slice (some ⟨_, 0, none⟩) 1 1]) (HS6.out.selT 2 [1, 0] (by decide) (by simp <;> omega)) (by rw [secsS_len (by have := HK.out; omega)]; have := HL.out; have := HXJ.out; omega) ⟨_, rfl, HS6.out.get 0 rfl⟩
                  simp only [List.map_cons, List.map_nil, pick, List.getD_cons_succ, List.getD_cons_zero, List.set_cons_zero, List.set_cons_succ, List.eraseIdx_cons_zero, List.eraseIdx_cons_succ, List.drop_succ_cons, List.drop_zero, List.append_eq, List.cons_append, List.nil_append, List.setIfInBounds_toArray] at hput
                  simp only [show oSec.sz = 1 from rfl, Nat.mul_one] at hput
                  rw [show (secsS id k q i j).set x [0] = secsS id k q i (j + 1) by rw [secsS, HDV.out]; rfl] at hput
                  exact ⟨j + 1, F9, by omega, by go_num, ⟨hput⟩⟩
                case measure => simp [intOf]; omega
              · refine tr_step rfl (fun K hK => ?_)
                go_simp
                have HS5 := Aside0.mk (new_lit HRD.out rfl 3 #[.int .i64 0] (l := [0]) (n := 1) rfl rfl (by decide))
                generalize hwl : World.alloc wd (.cells #[.int .i64 0] 3 (0, 0)) = w6 at *
                clear hwl
                have hSn := (four (HS5.out.get 4 rfl)).1
                clear hS
                refine hK.out _ _ ⟨fun _ _ => hSn, ?_⟩; clear hK K; (try simp only [Act.put, List.getElem_toArray, List.getElem_cons_succ, List.getElem_cons_zero, List.setIfInBounds_toArray, List.set_cons_zero, List.set_cons_succ])
                have hS := hSn
                clear hSn
                refine tr_step rfl (fun K hK => ?_)
                go_simp
                go_at_call 56; refine (c_specDataAt (j : Int) _).mono ?_; rw [HDV.out]; rintro e w5 ⟨rfl, hd5⟩
                have HS6 := Aside0.mk (HS5.out.dr hd5)
                clear hd5
                have hSn := (four (HS6.out.get 4 rfl)).1
                clear hS
                refine hK.out _ _ ⟨fun _ _ => hSn, ?_⟩; clear hK K; (try simp only [Act.put, List.getElem_toArray, List.getElem_cons_succ, List.getElem_cons_zero, List.setIfInBounds_toArray, List.set_cons_zero, List.set_cons_succ])
                have hS := hSn
                clear hSn
                iterate 1 (refine tr_pure rfl (fun _ _ _ h => h) (by rfl) (fun w_ => by go_simp; first | done | with_reducible rfl) ?_; (try simp only [Act.put, List.getElem_toArray, List.getElem_cons_succ, List.getElem_cons_zero, List.setIfInBounds_toArray, List.set_cons_zero, List.set_cons_succ]))
                obtain ⟨uu, cc1, cc2⟩ := O_cells (d := oSec) (t := 0) (HS6.out.get 1 rfl) (show x < (secsS id k q i j).length by rw [secsS_len (by have := HK.out; omega)]; have := HL.out; have := HXJ.out; omega) (by decide)
                simp only [show oSec.sz = 1 from rfl, Nat.mul_one, Nat.add_zero] at cc1 cc2
                refine tr_step rfl (fun K hK => ?_)
                go_simp
                refine hK.out _ _ ⟨(fun h => (by cases h)), ?_⟩; clear hK K; (try simp only [Act.put, List.getElem_toArray, List.getElem_cons_succ, List.getElem_cons_zero, List.setIfInBounds_toArray, List.set_cons_zero, List.set_cons_succ])
                refine tr_done ?_
                go_wp2
                go_roundw
                case rel =>
                  obtain ⟨F9, hput⟩ := Sep.put (d := oSec) (i := x) (y := [0]) (us := [.slice (some ⟨_, 0, none⟩) 1 1]) (HS6.out.selT 2 [1, 0] (by decide) (by simp <;> omega)) (by rw [secsS_len (by have := HK.out; omega)]; have := HL.out; have := HXJ.out; omega) ⟨_, rfl, HS6.out.get 0 rfl⟩
                  simp only [List.map_cons, List.map_nil, pick, List.getD_cons_succ, List.getD_cons_zero, List.set_cons_zero, List.set_cons_succ, List.eraseIdx_cons_zero, List.eraseIdx_cons_succ, List.drop_succ_cons, List.drop_zero, List.append_eq, List.cons_append, List.nil_append, List.setIfInBounds_toArray] at hput
                  simp only [show oSec.sz = 1 from rfl, Nat.mul_one] at hput
                  rw [show (secsS id k q i j).set x [0] = secsS id k q i (j + 1) by rw [secsS, HDV.out]; rfl] at hput
                  exact ⟨j + 1, F9, by omega, by go_num, ⟨hput⟩⟩
                case measure => simp [intOf]; omega
            · obtain rfl : j = q := by omega
              have hM := Sep.toMem (m := dskN id k j i) HRI.out
              have hC := hM.sel [3, 0, 1, 2, 4, 5] (by decide) (by simp)
              simp only [List.map_cons, List.map_nil, pick, List.getD_cons_succ, List.getD_cons_zero, List.set_cons_zero, List.set_cons_succ, List.eraseIdx_cons_zero, List.eraseIdx_cons_succ, List.setIfInBounds_toArray] at hC
              have HM := Aside0.mk hC
              clear hM hC HRI
              obtain ⟨m0, m1, m2, m3⟩ := four (HM.out.get 2 rfl)
              obtain ⟨a0_, a1_, a2_, a3_, a4_, a5_, a6_, a7_, a8_, a9_, a10_, a11_, a12_⟩ := thirteen (HM.out.get 3 rfl)
              go_wp2_with (first
                | (at_builtin; (refine app_one (d := oMem) (y := dskN id k j i) HM.out rfl _ _ 31 (.agg #[.slice none 0 0, .slice none 0 0, .bool false, .slice none 0 0]) 80 (by rfl) Try.underlying31 (by kernel_rfl) rfl (by decide) (by decide) [.slice (some ⟨h1, 0, none⟩) L c1, .slice A2 0 c2, .bool false, .slice A3 0 c3] (oMem_M.2 (HM.out.get 1 rfl)) (by rfl) (by rfl) rfl (n := i) (memsN_len _ _ _ _) (by have := HK.out; omega) ?_); intro A3' c3' w3' F3' hs3; have HN := Aside0.mk hs3; clear hs3 m0 m1 m2 m3 a0_ a1_ a2_ a3_ a4_ a5_ a6_ a7_ a8_ a9_ a10_ a11_ a12_; obtain ⟨a0_, a1_, a2_, a3_, a4_, a5_, a6_, a7_, a8_, a9_, a10_, a11_, a12_⟩ := thirteen (HN.out.get 2 rfl); have gz := blk_frozen (HN.out.get 2 rfl))
                | fail)
              go_roundw
              case rel =>
                have hB := HN.out.setb 2 rfl 3 (.slice A3' (i + 1) c3') (cs' := #[.int .i64 id, .int .i64 (k : Int), .int .i64 (j : Int), .slice A3' (i + 1) c3', .int .i64 (-1), .int .i64 0, .int .i64 0, .int .i64 0, .int .i64 0, .slice none 0 0, .int .i64 (-1), .bool false, .bool false]) rfl
                simp only [List.map_cons, List.map_nil, pick, List.getD_cons_succ, List.getD_cons_zero, List.set_cons_zero, List.set_cons_succ, List.eraseIdx_cons_zero, List.eraseIdx_cons_succ, List.setIfInBounds_toArray] at hB
                have hC := hB.sel [2, 0, 3, 4] (by decide) (by simp)
                simp only [List.map_cons, List.map_nil, pick, List.getD_cons_succ, List.getD_cons_zero, List.set_cons_zero, List.set_cons_succ, List.eraseIdx_cons_zero, List.eraseIdx_cons_succ, List.setIfInBounds_toArray] at hC
                rw [← memsN_succ] at hC
                exact ⟨i + 1, A3', c3', F3', by omega, by go_num, ⟨hC⟩⟩
              case measure => simp [intOf]; omega
        · obtain rfl : i = k := by omega
          obtain ⟨a0_, a1_, a2_, a3_, a4_, a5_, a6_, a7_, a8_, a9_, a10_, a11_, a12_⟩ := thirteen (HRR.out.get 0 rfl)
          obtain ⟨z0, z1, z2, z3, z4, z5, z6, z7, z8, z9, z10, z11, z12⟩ := thirteen (HRR.out.get 2 rfl)
          have gz := blk_frozen (HRR.out.get 2 rfl)
          go_wp2
          have HE := box13 HRR.out 2 rfl (.int .i64 id) (.int .i64 (i : Int)) (.int .i64 (q : Int)) (.slice A i cA) (.int .i64 (-1)) (.int .i64 0) (.int .i64 0) (.int .i64 0) (.int .i64 0) (.slice none 0 0) (.int .i64 (-1)) (.bool false) (.bool false)
          simp only [List.map_cons, List.map_nil, pick, List.getD_cons_succ, List.getD_cons_zero, List.set_cons_zero, List.set_cons_succ, List.eraseIdx_cons_zero, List.eraseIdx_cons_succ, List.setIfInBounds_toArray] at HE
          refine bodyPost_ret (results_cell_row rfl _ _ (w.heap.size + 1) 34 #[.int .i64 id, .int .i64 (i : Int), .int .i64 (q : Int), .slice A i cA, .int .i64 (-1), .int .i64 0, .int .i64 0, .int .i64 0, .int .i64 0, .slice none 0 0, .int .i64 (-1), .bool false, .bool false] (0, 0) _ rfl (HE.get 2 rfl) Try.underlying34 rfl (by kernel_rfl)) rfl ?_
          rw [HR.out]
          have hB := (HE.nil oWr 94).sel [2, 0] (by decide) (by simp)
          simp only [List.map_cons, List.map_nil, pick, List.getD_cons_succ, List.getD_cons_zero, List.set_cons_zero, List.set_cons_succ, List.eraseIdx_cons_zero, List.eraseIdx_cons_succ, List.setIfInBounds_toArray] at hB
          exact ⟨_, _, rfl, (Sep.toArr (a := partN id i q i) hB).toNew 0 rfl⟩
    · have HG := Aside0.mk hg
      clear hg
      have HID := Aside0.mk (show inR id 1 60000 = false by simpa using hi)
      clear hi
      have HR := Aside0.mk (show newR id n s = zeroA by unfold newR newOk; rw [HG.out, HID.out]; rfl)
      go_enter Try.func18, Try.ntmps18
      go_wp2_with (first
        | (go_at_call 38; refine (c_l1In _ _ _ _).mono ?_; rw [HID.out]; rintro e w3 ⟨rfl, hb⟩; have HS3 := Aside0.mk (HS2.out.dr hb); clear hb gz b0 b1 z0 z1 z2 z3 z4 z5 z6 z7 z8 z9 z10 z11 z12; obtain ⟨b0, b1⟩ := pair2 (HS3.out.get 1 rfl); obtain ⟨z0, z1, z2, z3, z4, z5, z6, z7, z8, z9, z10, z11, z12⟩ := thirteen (HS3.out.get 0 rfl); have gz := blk_frozen (HS3.out.get 0 rfl))
        | (go_at_call 45; refine (c_specGeoOk _ _ _).mono ?_; rw [HG.out]; rintro e w2 ⟨rfl, hb⟩; have HS2 := Aside0.mk (HI.out.below hb); clear hb gz b0 b1 z0 z1 z2 z3 z4 z5 z6 z7 z8 z9 z10 z11 z12; obtain ⟨b0, b1⟩ := pair2 (HS2.out.get 1 rfl); obtain ⟨z0, z1, z2, z3, z4, z5, z6, z7, z8, z9, z10, z11, z12⟩ := thirteen (HS2.out.get 0 rfl); have gz := blk_frozen (HS2.out.get 0 rfl))
        | fail)
      have HE := box13 HS3.out 0 rfl (.int .i64 0) (.int .i64 0) (.int .i64 0) (.slice none 0 0) (.int .i64 0) (.int .i64 0) (.int .i64 0) (.int .i64 0) (.int .i64 0) (.slice none 0 0) (.int .i64 0) (.bool false) (.bool false)
      simp only [List.map_cons, List.map_nil, pick, List.getD_cons_succ, List.getD_cons_zero, List.set_cons_zero, List.set_cons_succ, List.eraseIdx_cons_zero, List.eraseIdx_cons_succ, List.setIfInBounds_toArray] at HE
      refine bodyPost_ret (results_cell_row rfl _ _ (w.heap.size + 1) 34 #[.int .i64 0, .int .i64 0, .int .i64 0, .slice none 0 0, .int .i64 0, .int .i64 0, .int .i64 0, .int .i64 0, .int .i64 0, .slice none 0 0, .int .i64 0, .bool false, .bool false] (0, 0) _ rfl (HE.get 0 rfl) Try.underlying34 rfl (by kernel_rfl)) rfl ?_
      rw [HR.out]
      exact ⟨_, _, rfl, (Sep.toArr (a := zeroA) (((HE.nil oWr 94).nil oMem 57).sel [0, 1] (by decide) (by simp))).toNew 0 rfl⟩
  · have HG := Aside0.mk (show geoB n s = false by simpa using hg)
    clear hg
    have HR := Aside0.mk (show newR id n s = zeroA by unfold newR newOk; rw [HG.out]; rfl)
    go_enter Try.func18, Try.ntmps18
    go_wp2_with (first
      | (go_at_call 45; refine (c_specGeoOk _ _ _).mono ?_; rw [HG.out]; rintro e w2 ⟨rfl, hb⟩; have HS2 := Aside0.mk (HI.out.below hb); clear hb gz b0 b1 z0 z1 z2 z3 z4 z5 z6 z7 z8 z9 z10 z11 z12; obtain ⟨b0, b1⟩ := pair2 (HS2.out.get 1 rfl); obtain ⟨z0, z1, z2, z3, z4, z5, z6, z7, z8, z9, z10, z11, z12⟩ := thirteen (HS2.out.get 0 rfl); have gz := blk_frozen (HS2.out.get 0 rfl))
      | fail)
    have HE := box13 HS2.out 0 rfl (.int .i64 0) (.int .i64 0) (.int .i64 0) (.slice none 0 0) (.int .i64 0) (.int .i64 0) (.int .i64 0) (.int .i64 0) (.int .i64 0) (.slice none 0 0) (.int .i64 0) (.bool false) (.bool false)
    simp only [List.map_cons, List.map_nil, pick, List.getD_cons_succ, List.getD_cons_zero, List.set_cons_zero, List.set_cons_succ, List.eraseIdx_cons_zero, List.eraseIdx_cons_succ, List.setIfInBounds_toArray] at HE
    refine bodyPost_ret (results_cell_row rfl _ _ (w.heap.size + 1) 34 #[.int .i64 0, .int .i64 0, .int .i64 0, .slice none 0 0, .int .i64 0, .int .i64 0, .int .i64 0, .int .i64 0, .int .i64 0, .slice none 0 0, .int .i64 0, .bool false, .bool false] (0, 0) _ rfl (HE.get 0 rfl) Try.underlying34 rfl (by kernel_rfl)) rfl ?_
    rw [HR.out]
    exact ⟨_, _, rfl, (Sep.toArr (a := zeroA) (((HE.nil oWr 94).nil oMem 57).sel [0, 1] (by decide) (by simp))).toNew 0 rfl⟩
end Go.Proofs.Ytggmifnblcjdfaa.ANewS
