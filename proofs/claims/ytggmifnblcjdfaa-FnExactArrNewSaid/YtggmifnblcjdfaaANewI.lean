/- impl.ArrNew. Printed by mkanewi.py. -/
import Derived.Test.YtggmifnblcjdfaaANewV
import Derived.Test.YtggmifnblcjdfaaABox
import Derived.Test.YtggmifnblcjdfaaMFail
import Derived.Test.YtggmifnblcjdfaaMFlush
import Derived.Test.YtggmifnblcjdfaaMWrite
import Derived.Test.YtggmifnblcjdfaaAOk
import Derived.Test.YtggmifnblcjdfaaAOpV
import Derived.Test.YtggmifnblcjdfaaASupO2
import Derived.Test.YtggmifnblcjdfaaRQ
import Derived.Test.YtggmifnblcjdfaaRPC
import Derived.Test.YtggmifnblcjdfaaAHole
namespace Go.Proofs.Ytggmifnblcjdfaa.ANewI
open Go.RowKit Go.Proofs.Ytggmifnblcjdfaa.RJ Go.Proofs.Ytggmifnblcjdfaa.RP Go.Proofs.YtggmifnblcjdfaaW.PrintWords Go.Proofs.Ytggmifnblcjdfaa.Fp Go.Proofs.Ytggmifnblcjdfaa.FpStep Go.Proofs.Ytggmifnblcjdfaa.MInt Go.Proofs.Ytggmifnblcjdfaa.MKinds Go.Proofs.Ytggmifnblcjdfaa.MRead Go.Proofs.Ytggmifnblcjdfaa.MMake Go.Proofs.Ytggmifnblcjdfaa.MPut Go.Proofs.Ytggmifnblcjdfaa.MHeld Go.Proofs.Ytggmifnblcjdfaa.MOk Go.Proofs.Ytggmifnblcjdfaa.MSuper Go.Proofs.Ytggmifnblcjdfaa.Sep Go.Proofs.Ytggmifnblcjdfaa.SepStep Go.Proofs.Ytggmifnblcjdfaa.AKinds Go.Proofs.Ytggmifnblcjdfaa.AMake Go.Proofs.Ytggmifnblcjdfaa.AEnt Go.Proofs.Ytggmifnblcjdfaa.ALaw Go.Proofs.Ytggmifnblcjdfaa.AArr Go.Proofs.Ytggmifnblcjdfaa.AOk Go.Proofs.Ytggmifnblcjdfaa.RQ Go.Proofs.Ytggmifnblcjdfaa.RPC Go.Proofs.Ytggmifnblcjdfaa.MVal Go.Proofs.Ytggmifnblcjdfaa.MWrite Go.Proofs.Ytggmifnblcjdfaa.MWSuper Go.Proofs.Ytggmifnblcjdfaa.MFail Go.Proofs.Ytggmifnblcjdfaa.MFlush Go.Proofs.Ytggmifnblcjdfaa.AXor Go.Proofs.Ytggmifnblcjdfaa.AMark Go.Proofs.Ytggmifnblcjdfaa.AHole Go.Proofs.Ytggmifnblcjdfaa.AOpV Go.Proofs.Ytggmifnblcjdfaa.ASupO2 Go.Proofs.Ytggmifnblcjdfaa.ANewV Go.Proofs.Ytggmifnblcjdfaa.ABox
set_option linter.unusedVariables false
set_option linter.unusedSimpArgs false
theorem small_newV (n : Int) : Small (newV n) := by
  unfold newV
  split
  · rename_i h
    simp [inR] at h
    exact ⟨by simp; omega, fun x hx => by rw [List.eq_of_mem_replicate hx]; simp, by simp, by simp, by simp⟩
  · exact ⟨by simp, by simp, by simp, by simp, by simp⟩
theorem small_wsup {m : MemV} {s : SupV} (h : Small m) : Small (wsupV m s) := by
  unfold wsupV
  split
  · exact small_write h (by have := putSup_len s; omega)
  · exact h
theorem small_dskI (id n s : Int) (m : Nat) : ∀ j, Small (dskI id n s m j)
  | 0 => small_wsup (small_newV _)
  | j + 1 => small_write (small_dskI id n s m j) (by simp)
set_option maxHeartbeats 8000000 in
set_option maxRecDepth 100000 in
theorem c_implArrNew (id n s : Int) (w : World) :
    Calls Try.prog 20 #[.int .i64 id, .agg #[.int .i64 n, .int .i64 s]] w fun e w' => ∃ u F, e = .returned u ∧ New w w' (ar F u (newR id n s)) := by
  have HI := Aside0.mk (((Sep.start w []).alloc (g := w.heap.size) rfl #[.int .i64 n, .int .i64 s] 30).alloc (g := w.heap.size + 1) (by simp) arrZ 34)
  simp only [arrZ] at *
  obtain ⟨b0, b1⟩ := pair2 (HI.out.get 1 rfl)
  obtain ⟨z0, z1, z2, z3, z4, z5, z6, z7, z8, z9, z10, z11, z12⟩ := thirteen (HI.out.get 0 rfl)
  have gz := blk_frozen (HI.out.get 0 rfl)
  by_cases hg : geoB n s = true
  · by_cases hi : inR id 1 60000 = true
    · obtain ⟨q1, q2, q3, q4⟩ := geoB_true hg
      have HG := Aside0.mk hg
      have HID := Aside0.mk hi
      clear hg hi
      obtain ⟨k, rfl⟩ : ∃ k : Nat, n = (k : Int) := ⟨n.toNat, by omega⟩
      obtain ⟨q, rfl⟩ : ∃ q : Nat, s = (q : Int) := ⟨s.toNat, by omega⟩
      have HR := Aside0.mk (show newR id k q = partN id k q k by unfold newR newOk; rw [HG.out, HID.out]; simp)
      have HK := Aside0.mk (show 3 ≤ k ∧ k ≤ 5 ∧ 1 ≤ q ∧ q ≤ 8 by omega)
      go_enter Try.func20, Try.ntmps20
      go_upto_region 4 with (first
        | (go_at_call 41; refine (c_within _ _ _ _).mono ?_; rw [HID.out]; rintro e w3 ⟨rfl, hb⟩; have HS3 := Aside0.mk (HS2.out.dr hb); clear hb gz b0 b1 z0 z1 z2 z3 z4 z5 z6 z7 z8 z9 z10 z11 z12; obtain ⟨b0, b1⟩ := pair2 (HS3.out.get 1 rfl); obtain ⟨z0, z1, z2, z3, z4, z5, z6, z7, z8, z9, z10, z11, z12⟩ := thirteen (HS3.out.get 0 rfl); have gz := blk_frozen (HS3.out.get 0 rfl))
        | (go_at_call 48; refine (c_implGeoOk _ _ _).mono ?_; rw [HG.out]; rintro e w2 ⟨rfl, hb⟩; have HS2 := Aside0.mk (HI.out.below hb); clear hb gz b0 b1 z0 z1 z2 z3 z4 z5 z6 z7 z8 z9 z10 z11 z12; obtain ⟨b0, b1⟩ := pair2 (HS2.out.get 1 rfl); obtain ⟨z0, z1, z2, z3, z4, z5, z6, z7, z8, z9, z10, z11, z12⟩ := thirteen (HS2.out.get 0 rfl); have gz := blk_frozen (HS2.out.get 0 rfl))
        | fail)
      have hB := (HS3.out.alloc (g := w3.heap.size) rfl #[.int .i64 id, .int .i64 (k : Int), .int .i64 (q : Int), .slice none 0 0, .int .i64 (-1), .int .i64 0, .int .i64 0, .int .i64 0, .int .i64 0, .slice none 0 0, .int .i64 (-1), .bool false, .bool false] 34).nil oMem 57
      have hC := hB.sel [1, 0, 2, 3] (by decide) (by simp)
      simp only [List.map_cons, List.map_nil, pick, List.getD_cons_succ, List.getD_cons_zero, List.set_cons_zero, List.set_cons_succ, List.eraseIdx_cons_zero, List.eraseIdx_cons_succ, List.setIfInBounds_toArray] at hC
      generalize hgz : w3.heap.size = g5 at *
      generalize hww : w3.alloc (.cells #[.int .i64 id, .int .i64 (k : Int), .int .i64 (q : Int), .slice none 0 0, .int .i64 (-1), .int .i64 0, .int .i64 0, .int .i64 0, .int .i64 0, .slice none 0 0, .int .i64 (-1), .bool false, .bool false] 34 (0, 0)) = w4 at *
      have HS4 := Aside0.mk hC
      clear hB hC hgz hww HS3 HS2 gz b0 b1 z0 z1 z2 z3 z4 z5 z6 z7 z8 z9 z10 z11 z12
      obtain ⟨b0, b1⟩ := pair2 (HS4.out.get 3 rfl)
      go_wp2
      go_loopw [23] (fun v9 wr => ∃ (i : Nat) (A : Option Addr) (cA : Nat) (F : List Nat), i ≤ k ∧ v9 = .int .i64 i ∧ Aside0 (Sep w [] wr [bx g5 34 #[.int .i64 id, .int .i64 (k : Int), .int .i64 (q : Int), .slice A i cA, .int .i64 (-1), .int .i64 0, .int .i64 0, .int .i64 0, .int .i64 0, .slice none 0 0, .int .i64 (-1), .bool false, .bool false], rw_ oMem 57 F (.slice A i cA) (memsN id k q i), bx (w.heap.size + 1) 34 #[.int .i64 0, .int .i64 0, .int .i64 0, .slice none 0 0, .int .i64 0, .int .i64 0, .int .i64 0, .int .i64 0, .int .i64 0, .slice none 0 0, .int .i64 0, .bool false, .bool false], bx w.heap.size 30 #[.int .i64 (k : Int), .int .i64 (q : Int)]])) (fun v9 _ => k - (intOf v9).toNat)
      case atStart => exact ⟨0, none, 0, _, by omega, rfl, HS4⟩
      case round =>
        clear HS4 b0 b1
        obtain ⟨i, A, cA, F, hi, rfl, HRR⟩ := hrel
        by_cases hlt : i < k
        · have i0 : (0 : Int) ≤ (i : Int) := by omega
          have il : (i : Int) < (k : Int) := by omega
          go_upto_region 7 with fail
          go_cut [7] (fun sx wx => ∃ (g7 : Nat) (F7 : List Nat) (A1 : Option Addr) (c1 : Nat) (A2 : Option Addr) (c2 : Nat) (A3 : Option Addr) (c3 : Nat), sx = .pointer (some ⟨g7, 0, none⟩) ∧ Aside0 (Sep w [] wx [me F7 (.agg #[.slice A1 (dskI id k q i 0).secs.length c1, .slice A2 (dskI id k q i 0).cache.length c2, .bool (dskI id k q i 0).failed, .slice A3 (dskI id k q i 0).bad.length c3]) (dskI id k q i 0), bx g7 57 #[.slice A1 (dskI id k q i 0).secs.length c1, .slice A2 (dskI id k q i 0).cache.length c2, .bool (dskI id k q i 0).failed, .slice A3 (dskI id k q i 0).bad.length c3], bx g5 34 #[.int .i64 id, .int .i64 (k : Int), .int .i64 (q : Int), .slice A i cA, .int .i64 (-1), .int .i64 0, .int .i64 0, .int .i64 0, .int .i64 0, .slice none 0 0, .int .i64 (-1), .bool false, .bool false], rw_ oMem 57 F (.slice A i cA) (memsN id k q i), bx (w.heap.size + 1) 34 #[.int .i64 0, .int .i64 0, .int .i64 0, .slice none 0 0, .int .i64 0, .int .i64 0, .int .i64 0, .int .i64 0, .int .i64 0, .slice none 0 0, .int .i64 0, .bool false, .bool false], bx w.heap.size 30 #[.int .i64 (k : Int), .int .i64 (q : Int)]]))
          case first =>
            obtain ⟨b0, b1⟩ := pair2 (HRR.out.get 3 rfl)
            obtain ⟨a0_, a1_, a2_, a3_, a4_, a5_, a6_, a7_, a8_, a9_, a10_, a11_, a12_⟩ := thirteen (HRR.out.get 0 rfl)
            have HALL : ∀ w' : World, Below wr.heap.size wr w' → (w'.cell? ⟨g5, 0, none⟩ = some (.int .i64 id) ∧ w'.cell? ⟨g5, 1, none⟩ = some (.int .i64 (k : Int)) ∧ w'.cell? ⟨g5, 2, none⟩ = some (.int .i64 (q : Int)) ∧ w'.cell? ⟨g5, 3, none⟩ = some (.slice A i cA) ∧ w'.cell? ⟨g5, 4, none⟩ = some (.int .i64 (-1)) ∧ w'.cell? ⟨g5, 5, none⟩ = some (.int .i64 0) ∧ w'.cell? ⟨g5, 6, none⟩ = some (.int .i64 0) ∧ w'.cell? ⟨g5, 7, none⟩ = some (.int .i64 0) ∧ w'.cell? ⟨g5, 8, none⟩ = some (.int .i64 0) ∧ w'.cell? ⟨g5, 9, none⟩ = some (.slice none 0 0) ∧ w'.cell? ⟨g5, 10, none⟩ = some (.int .i64 (-1)) ∧ w'.cell? ⟨g5, 11, none⟩ = some (.bool false) ∧ w'.cell? ⟨g5, 12, none⟩ = some (.bool false) ∧ w'.cell? ⟨w.heap.size, 0, none⟩ = some (.int .i64 (k : Int)) ∧ w'.cell? ⟨w.heap.size, 1, none⟩ = some (.int .i64 (q : Int))) := fun w' hb => ⟨(hb.cell (lt_of_cell a0_)).trans a0_, (hb.cell (lt_of_cell a1_)).trans a1_, (hb.cell (lt_of_cell a2_)).trans a2_, (hb.cell (lt_of_cell a3_)).trans a3_, (hb.cell (lt_of_cell a4_)).trans a4_, (hb.cell (lt_of_cell a5_)).trans a5_, (hb.cell (lt_of_cell a6_)).trans a6_, (hb.cell (lt_of_cell a7_)).trans a7_, (hb.cell (lt_of_cell a8_)).trans a8_, (hb.cell (lt_of_cell a9_)).trans a9_, (hb.cell (lt_of_cell a10_)).trans a10_, (hb.cell (lt_of_cell a11_)).trans a11_, (hb.cell (lt_of_cell a12_)).trans a12_, (hb.cell (lt_of_cell b0)).trans b0, (hb.cell (lt_of_cell b1)).trans b1⟩
            replace HALL := Aside0.mk HALL
            clear b0 b1 a0_ a1_ a2_ a3_ a4_ a5_ a6_ a7_ a8_ a9_ a10_ a11_ a12_
            refine wp_region_tr (fun w' => Below wr.heap.size wr w') [8] (Tr.p 4 (Tr.t 0 (Tr.t 3 (Tr.alt 7 (Tr.s 1 (Tr.s 2 (Tr.s 5 (Tr.s 6 (Tr.s 8 (Tr.nil)))))) (Tr.s 1 (Tr.alt 7 (Tr.s 2 (Tr.s 5 (Tr.s 6 (Tr.s 8 (Tr.nil))))) (Tr.s 2 (Tr.alt 7 (Tr.s 5 (Tr.s 6 (Tr.s 8 (Tr.nil)))) (Tr.s 5 (Tr.alt 7 (Tr.s 6 (Tr.s 8 (Tr.nil))) (Tr.s 6 (Tr.s 7 (Tr.s 8 (Tr.nil)))))))))))))) (by kernel_rfl) (by kernel_rfl) ?_
            have hS : Below wr.heap.size wr wr.drew := Below.drew (Below.refl _ _)
            have HV := Aside0.mk (HRR.out.drew)
            generalize hwd : wr.drew = wd at *
            clear hwd
            iterate 1 (refine tr_pure rfl (fun _ _ _ h => h) (by rfl) (fun w_ => by go_simp; first | done | with_reducible rfl) ?_; (try simp only [Act.put, List.getElem_toArray, List.getElem_cons_succ, List.getElem_cons_zero, List.setIfInBounds_toArray, List.set_cons_zero, List.set_cons_succ]))
            iterate 2 (refine tr_take hS rfl (fun _ _ _ h => h) (by rfl) (fun w_ hSw => by have hSc := HALL.out w_ hSw; clear hSw; go_simp; first | done | with_reducible rfl) ?_; (try simp only [Act.put, List.getElem_toArray, List.getElem_cons_succ, List.getElem_cons_zero, List.setIfInBounds_toArray, List.set_cons_zero, List.set_cons_succ]))
            refine tr_two ?_ ?_
            · refine tr_step rfl (fun K hK => ?_)
              go_simp
              have hs9 := HV.out.alloc (g := wd.heap.size) rfl #[.slice none 0 0, .slice none 0 0, .bool false, .slice none 0 0] 57
              have hb := below_alloc (Below.refl wd.heap.size wd) (.cells #[.slice none 0 0, .slice none 0 0, .bool false, .slice none 0 0] 57 (0, 0))
              have HV1 := Aside0.mk hs9
              clear hs9
              replace hS := hS.trans (hb.mono hS.size); clear hb; refine hK.out _ _ ⟨fun _ _ => hS, ?_⟩; clear hK K; (try simp only [Act.put, List.getElem_toArray, List.getElem_cons_succ, List.getElem_cons_zero, List.setIfInBounds_toArray, List.set_cons_zero, List.set_cons_succ])
              skip
              obtain ⟨g7, hg7⟩ : ∃ g7, wd.heap.size = g7 := ⟨_, rfl⟩
              obtain ⟨wv1, hwl⟩ : ∃ x, World.alloc wd (.cells #[.slice none 0 0, .slice none 0 0, .bool false, .slice none 0 0] 57 (0, 0)) = x := ⟨_, rfl⟩
              simp only [hg7, hwl] at *
              clear hg7 hwl
              refine tr_step rfl (fun K hK => ?_)
              go_simp
              go_at_call 52; refine (c_implSectors _ _ (by omega) (by omega)).mono ?_; rintro e wv2 ⟨rfl, hb⟩
              have HV2 := Aside0.mk (HV1.out.below hb)
              replace hS := hS.trans (hb.mono hS.size); clear hb; refine hK.out _ _ ⟨fun _ _ => hS, ?_⟩; clear hK K; (try simp only [Act.put, List.getElem_toArray, List.getElem_cons_succ, List.getElem_cons_zero, List.setIfInBounds_toArray, List.set_cons_zero, List.set_cons_succ])
              refine tr_step rfl (fun K hK => ?_)
              go_simp
              go_at_call 58; refine (c_implMemNew _ _).mono ?_; rintro e wv3 ⟨u3, F3, rfl, hn⟩
              have hs9 := HV2.out.new hn
              have hb := hn.below
              obtain ⟨P1, p1, P2, p2, P3, p3, rfl⟩ := me_form hs9
              have HV3 := Aside0.mk hs9
              clear hs9 hn
              replace hS := hS.trans (hb.mono hS.size); clear hb; refine hK.out _ _ ⟨fun _ _ => hS, ?_⟩; clear hK K; (try simp only [Act.put, List.getElem_toArray, List.getElem_cons_succ, List.getElem_cons_zero, List.setIfInBounds_toArray, List.set_cons_zero, List.set_cons_succ])
              refine tr_step rfl (fun K hK => ?_)
              go_simp
              go_at_call 59; refine (c_superOf (a := partN id k q i) i).mono ?_; rintro e wv4 ⟨rfl, hz⟩
              have hb := hz.toBelow
              have HV4 := Aside0.mk (HV3.out.below hb)
              clear hz
              replace hS := hS.trans (hb.mono hS.size); clear hb; refine hK.out _ _ ⟨fun _ _ => hS, ?_⟩; clear hK K; (try simp only [Act.put, List.getElem_toArray, List.getElem_cons_succ, List.getElem_cons_zero, List.setIfInBounds_toArray, List.set_cons_zero, List.set_cons_succ])
              refine tr_step rfl (fun K hK => ?_)
              go_simp
              go_at_call 57; refine (c_implWriteSuper _ _ _ _ _ _ _ _ (MemO_R (HV4.out.get 0 rfl)) (small_newV _)).mono ?_; rintro e wv5 ⟨u5, F5, rfl, hn⟩
              have hs9 : Sep _ _ _ (me F5 u5 (dskI id k q i 0) :: _) := HV4.out.new hn
              have hb := hn.below
              obtain ⟨A1, c1, A2, c2, A3, c3, rfl⟩ := me_form hs9
              have HV5 := Aside0.mk hs9
              clear hs9 hn
              replace hS := hS.trans (hb.mono hS.size); clear hb; refine hK.out _ _ ⟨fun _ _ => hS, ?_⟩; clear hK K; (try simp only [Act.put, List.getElem_toArray, List.getElem_cons_succ, List.getElem_cons_zero, List.setIfInBounds_toArray, List.set_cons_zero, List.set_cons_succ])
              obtain ⟨d0, d1, d2, d3⟩ := four (HV5.out.get 2 rfl)
              have gz := blk_frozen (HV5.out.get 2 rfl)
              have f0 := gz 0
              have f1 := gz 1
              have f2 := gz 2
              have f3 := gz 3
              clear HALL
              refine tr_step rfl (fun K hK => ?_)
              go_simp
              refine hK.out _ _ ⟨(fun h => (by cases h)), ?_⟩; clear hK K; (try simp only [Act.put, List.getElem_toArray, List.getElem_cons_succ, List.getElem_cons_zero, List.setIfInBounds_toArray, List.set_cons_zero, List.set_cons_succ])
              clear hS
              refine tr_done ?_
              go_wp2_with fail
              go_meet
              have hE := (HV5.out.box4 2 rfl (.slice A1 (dskI id k q i 0).secs.length c1) (.slice A2 (dskI id k q i 0).cache.length c2) (.bool (dskI id k q i 0).failed) (.slice A3 (dskI id k q i 0).bad.length c3)).sel [0, 2, 3, 4, 5, 6] (by decide) (by simp)
              simp only [List.map_cons, List.map_nil, pick, List.getD_cons_succ, List.getD_cons_zero, List.set_cons_zero, List.set_cons_succ, List.eraseIdx_cons_zero, List.eraseIdx_cons_succ, List.setIfInBounds_toArray] at hE
              exact ⟨g7, _, A1, c1, A2, c2, A3, c3, rfl, ⟨hE⟩⟩
            · refine tr_step rfl (fun K hK => ?_)
              go_simp
              go_at_call 52; refine (c_implSectors _ _ (by omega) (by omega)).mono ?_; rintro e wv7 ⟨rfl, hb⟩
              have HV7 := Aside0.mk (HV.out.below hb)
              replace hS := hS.trans (hb.mono hS.size); clear hb; refine hK.out _ _ ⟨fun _ _ => hS, ?_⟩; clear hK K; (try simp only [Act.put, List.getElem_toArray, List.getElem_cons_succ, List.getElem_cons_zero, List.setIfInBounds_toArray, List.set_cons_zero, List.set_cons_succ])
              refine tr_two ?_ ?_
              · refine tr_step rfl (fun K hK => ?_)
                go_simp
                have hs9 := HV7.out.alloc (g := wv7.heap.size) rfl #[.slice none 0 0, .slice none 0 0, .bool false, .slice none 0 0] 57
                have hb := below_alloc (Below.refl wv7.heap.size wv7) (.cells #[.slice none 0 0, .slice none 0 0, .bool false, .slice none 0 0] 57 (0, 0))
                have HV8 := Aside0.mk hs9
                clear hs9
                replace hS := hS.trans (hb.mono hS.size); clear hb; refine hK.out _ _ ⟨fun _ _ => hS, ?_⟩; clear hK K; (try simp only [Act.put, List.getElem_toArray, List.getElem_cons_succ, List.getElem_cons_zero, List.setIfInBounds_toArray, List.set_cons_zero, List.set_cons_succ])
                skip
                obtain ⟨g7, hg7⟩ : ∃ g7, wv7.heap.size = g7 := ⟨_, rfl⟩
                obtain ⟨wv8, hwl⟩ : ∃ x, World.alloc wv7 (.cells #[.slice none 0 0, .slice none 0 0, .bool false, .slice none 0 0] 57 (0, 0)) = x := ⟨_, rfl⟩
                simp only [hg7, hwl] at *
                clear hg7 hwl
                refine tr_step rfl (fun K hK => ?_)
                go_simp
                go_at_call 58; refine (c_implMemNew _ _).mono ?_; rintro e wv9 ⟨u9, F9, rfl, hn⟩
                have hs9 := HV8.out.new hn
                have hb := hn.below
                obtain ⟨P1, p1, P2, p2, P3, p3, rfl⟩ := me_form hs9
                have HV9 := Aside0.mk hs9
                clear hs9 hn
                replace hS := hS.trans (hb.mono hS.size); clear hb; refine hK.out _ _ ⟨fun _ _ => hS, ?_⟩; clear hK K; (try simp only [Act.put, List.getElem_toArray, List.getElem_cons_succ, List.getElem_cons_zero, List.setIfInBounds_toArray, List.set_cons_zero, List.set_cons_succ])
                refine tr_step rfl (fun K hK => ?_)
                go_simp
                go_at_call 59; refine (c_superOf (a := partN id k q i) i).mono ?_; rintro e wv10 ⟨rfl, hz⟩
                have hb := hz.toBelow
                have HV10 := Aside0.mk (HV9.out.below hb)
                clear hz
                replace hS := hS.trans (hb.mono hS.size); clear hb; refine hK.out _ _ ⟨fun _ _ => hS, ?_⟩; clear hK K; (try simp only [Act.put, List.getElem_toArray, List.getElem_cons_succ, List.getElem_cons_zero, List.setIfInBounds_toArray, List.set_cons_zero, List.set_cons_succ])
                refine tr_step rfl (fun K hK => ?_)
                go_simp
                go_at_call 57; refine (c_implWriteSuper _ _ _ _ _ _ _ _ (MemO_R (HV10.out.get 0 rfl)) (small_newV _)).mono ?_; rintro e wv11 ⟨u11, F11, rfl, hn⟩
                have hs9 : Sep _ _ _ (me F11 u11 (dskI id k q i 0) :: _) := HV10.out.new hn
                have hb := hn.below
                obtain ⟨A1, c1, A2, c2, A3, c3, rfl⟩ := me_form hs9
                have HV11 := Aside0.mk hs9
                clear hs9 hn
                replace hS := hS.trans (hb.mono hS.size); clear hb; refine hK.out _ _ ⟨fun _ _ => hS, ?_⟩; clear hK K; (try simp only [Act.put, List.getElem_toArray, List.getElem_cons_succ, List.getElem_cons_zero, List.setIfInBounds_toArray, List.set_cons_zero, List.set_cons_succ])
                obtain ⟨d0, d1, d2, d3⟩ := four (HV11.out.get 2 rfl)
                have gz := blk_frozen (HV11.out.get 2 rfl)
                have f0 := gz 0
                have f1 := gz 1
                have f2 := gz 2
                have f3 := gz 3
                clear HALL
                refine tr_step rfl (fun K hK => ?_)
                go_simp
                refine hK.out _ _ ⟨(fun h => (by cases h)), ?_⟩; clear hK K; (try simp only [Act.put, List.getElem_toArray, List.getElem_cons_succ, List.getElem_cons_zero, List.setIfInBounds_toArray, List.set_cons_zero, List.set_cons_succ])
                clear hS
                refine tr_done ?_
                go_wp2_with fail
                go_meet
                have hE := (HV11.out.box4 2 rfl (.slice A1 (dskI id k q i 0).secs.length c1) (.slice A2 (dskI id k q i 0).cache.length c2) (.bool (dskI id k q i 0).failed) (.slice A3 (dskI id k q i 0).bad.length c3)).sel [0, 2, 3, 4, 5, 6] (by decide) (by simp)
                simp only [List.map_cons, List.map_nil, pick, List.getD_cons_succ, List.getD_cons_zero, List.set_cons_zero, List.set_cons_succ, List.eraseIdx_cons_zero, List.eraseIdx_cons_succ, List.setIfInBounds_toArray] at hE
                exact ⟨g7, _, A1, c1, A2, c2, A3, c3, rfl, ⟨hE⟩⟩
              · refine tr_step rfl (fun K hK => ?_)
                go_simp
                go_at_call 58; refine (c_implMemNew _ _).mono ?_; rintro e wv13 ⟨u13, F13, rfl, hn⟩
                have hs9 := HV7.out.new hn
                have hb := hn.below
                obtain ⟨P1, p1, P2, p2, P3, p3, rfl⟩ := me_form hs9
                have HV13 := Aside0.mk hs9
                clear hs9 hn
                replace hS := hS.trans (hb.mono hS.size); clear hb; refine hK.out _ _ ⟨fun _ _ => hS, ?_⟩; clear hK K; (try simp only [Act.put, List.getElem_toArray, List.getElem_cons_succ, List.getElem_cons_zero, List.setIfInBounds_toArray, List.set_cons_zero, List.set_cons_succ])
                refine tr_two ?_ ?_
                · refine tr_step rfl (fun K hK => ?_)
                  go_simp
                  have hs9 := HV13.out.alloc (g := wv13.heap.size) rfl #[.slice none 0 0, .slice none 0 0, .bool false, .slice none 0 0] 57
                  have hb := below_alloc (Below.refl wv13.heap.size wv13) (.cells #[.slice none 0 0, .slice none 0 0, .bool false, .slice none 0 0] 57 (0, 0))
                  have HV14 := Aside0.mk hs9
                  clear hs9
                  replace hS := hS.trans (hb.mono hS.size); clear hb; refine hK.out _ _ ⟨fun _ _ => hS, ?_⟩; clear hK K; (try simp only [Act.put, List.getElem_toArray, List.getElem_cons_succ, List.getElem_cons_zero, List.setIfInBounds_toArray, List.set_cons_zero, List.set_cons_succ])
                  skip
                  obtain ⟨g7, hg7⟩ : ∃ g7, wv13.heap.size = g7 := ⟨_, rfl⟩
                  obtain ⟨wv14, hwl⟩ : ∃ x, World.alloc wv13 (.cells #[.slice none 0 0, .slice none 0 0, .bool false, .slice none 0 0] 57 (0, 0)) = x := ⟨_, rfl⟩
                  simp only [hg7, hwl] at *
                  clear hg7 hwl
                  refine tr_step rfl (fun K hK => ?_)
                  go_simp
                  go_at_call 59; refine (c_superOf (a := partN id k q i) i).mono ?_; rintro e wv15 ⟨rfl, hz⟩
                  have hb := hz.toBelow
                  have HV15 := Aside0.mk (HV14.out.below hb)
                  clear hz
                  replace hS := hS.trans (hb.mono hS.size); clear hb; refine hK.out _ _ ⟨fun _ _ => hS, ?_⟩; clear hK K; (try simp only [Act.put, List.getElem_toArray, List.getElem_cons_succ, List.getElem_cons_zero, List.setIfInBounds_toArray, List.set_cons_zero, List.set_cons_succ])
                  refine tr_step rfl (fun K hK => ?_)
                  go_simp
                  go_at_call 57; refine (c_implWriteSuper _ _ _ _ _ _ _ _ (MemO_R (HV15.out.get 1 rfl)) (small_newV _)).mono ?_; rintro e wv16 ⟨u16, F16, rfl, hn⟩
                  have hs9 : Sep _ _ _ (me F16 u16 (dskI id k q i 0) :: _) := HV15.out.new hn
                  have hb := hn.below
                  obtain ⟨A1, c1, A2, c2, A3, c3, rfl⟩ := me_form hs9
                  have HV16 := Aside0.mk hs9
                  clear hs9 hn
                  replace hS := hS.trans (hb.mono hS.size); clear hb; refine hK.out _ _ ⟨fun _ _ => hS, ?_⟩; clear hK K; (try simp only [Act.put, List.getElem_toArray, List.getElem_cons_succ, List.getElem_cons_zero, List.setIfInBounds_toArray, List.set_cons_zero, List.set_cons_succ])
                  obtain ⟨d0, d1, d2, d3⟩ := four (HV16.out.get 1 rfl)
                  have gz := blk_frozen (HV16.out.get 1 rfl)
                  have f0 := gz 0
                  have f1 := gz 1
                  have f2 := gz 2
                  have f3 := gz 3
                  clear HALL
                  refine tr_step rfl (fun K hK => ?_)
                  go_simp
                  refine hK.out _ _ ⟨(fun h => (by cases h)), ?_⟩; clear hK K; (try simp only [Act.put, List.getElem_toArray, List.getElem_cons_succ, List.getElem_cons_zero, List.setIfInBounds_toArray, List.set_cons_zero, List.set_cons_succ])
                  clear hS
                  refine tr_done ?_
                  go_wp2_with fail
                  go_meet
                  have hE := (HV16.out.box4 1 rfl (.slice A1 (dskI id k q i 0).secs.length c1) (.slice A2 (dskI id k q i 0).cache.length c2) (.bool (dskI id k q i 0).failed) (.slice A3 (dskI id k q i 0).bad.length c3)).sel [0, 1, 3, 4, 5, 6] (by decide) (by simp)
                  simp only [List.map_cons, List.map_nil, pick, List.getD_cons_succ, List.getD_cons_zero, List.set_cons_zero, List.set_cons_succ, List.eraseIdx_cons_zero, List.eraseIdx_cons_succ, List.setIfInBounds_toArray] at hE
                  exact ⟨g7, _, A1, c1, A2, c2, A3, c3, rfl, ⟨hE⟩⟩
                · refine tr_step rfl (fun K hK => ?_)
                  go_simp
                  go_at_call 59; refine (c_superOf (a := partN id k q i) i).mono ?_; rintro e wv18 ⟨rfl, hz⟩
                  have hb := hz.toBelow
                  have HV18 := Aside0.mk (HV13.out.below hb)
                  clear hz
                  replace hS := hS.trans (hb.mono hS.size); clear hb; refine hK.out _ _ ⟨fun _ _ => hS, ?_⟩; clear hK K; (try simp only [Act.put, List.getElem_toArray, List.getElem_cons_succ, List.getElem_cons_zero, List.setIfInBounds_toArray, List.set_cons_zero, List.set_cons_succ])
                  refine tr_two ?_ ?_
                  · refine tr_step rfl (fun K hK => ?_)
                    go_simp
                    have hs9 := HV18.out.alloc (g := wv18.heap.size) rfl #[.slice none 0 0, .slice none 0 0, .bool false, .slice none 0 0] 57
                    have hb := below_alloc (Below.refl wv18.heap.size wv18) (.cells #[.slice none 0 0, .slice none 0 0, .bool false, .slice none 0 0] 57 (0, 0))
                    have HV19 := Aside0.mk hs9
                    clear hs9
                    replace hS := hS.trans (hb.mono hS.size); clear hb; refine hK.out _ _ ⟨fun _ _ => hS, ?_⟩; clear hK K; (try simp only [Act.put, List.getElem_toArray, List.getElem_cons_succ, List.getElem_cons_zero, List.setIfInBounds_toArray, List.set_cons_zero, List.set_cons_succ])
                    skip
                    obtain ⟨g7, hg7⟩ : ∃ g7, wv18.heap.size = g7 := ⟨_, rfl⟩
                    obtain ⟨wv19, hwl⟩ : ∃ x, World.alloc wv18 (.cells #[.slice none 0 0, .slice none 0 0, .bool false, .slice none 0 0] 57 (0, 0)) = x := ⟨_, rfl⟩
                    simp only [hg7, hwl] at *
                    clear hg7 hwl
                    refine tr_step rfl (fun K hK => ?_)
                    go_simp
                    go_at_call 57; refine (c_implWriteSuper _ _ _ _ _ _ _ _ (MemO_R (HV19.out.get 1 rfl)) (small_newV _)).mono ?_; rintro e wv20 ⟨u20, F20, rfl, hn⟩
                    have hs9 : Sep _ _ _ (me F20 u20 (dskI id k q i 0) :: _) := HV19.out.new hn
                    have hb := hn.below
                    obtain ⟨A1, c1, A2, c2, A3, c3, rfl⟩ := me_form hs9
                    have HV20 := Aside0.mk hs9
                    clear hs9 hn
                    replace hS := hS.trans (hb.mono hS.size); clear hb; refine hK.out _ _ ⟨fun _ _ => hS, ?_⟩; clear hK K; (try simp only [Act.put, List.getElem_toArray, List.getElem_cons_succ, List.getElem_cons_zero, List.setIfInBounds_toArray, List.set_cons_zero, List.set_cons_succ])
                    obtain ⟨d0, d1, d2, d3⟩ := four (HV20.out.get 1 rfl)
                    have gz := blk_frozen (HV20.out.get 1 rfl)
                    have f0 := gz 0
                    have f1 := gz 1
                    have f2 := gz 2
                    have f3 := gz 3
                    clear HALL
                    refine tr_step rfl (fun K hK => ?_)
                    go_simp
                    refine hK.out _ _ ⟨(fun h => (by cases h)), ?_⟩; clear hK K; (try simp only [Act.put, List.getElem_toArray, List.getElem_cons_succ, List.getElem_cons_zero, List.setIfInBounds_toArray, List.set_cons_zero, List.set_cons_succ])
                    clear hS
                    refine tr_done ?_
                    go_wp2_with fail
                    go_meet
                    have hE := (HV20.out.box4 1 rfl (.slice A1 (dskI id k q i 0).secs.length c1) (.slice A2 (dskI id k q i 0).cache.length c2) (.bool (dskI id k q i 0).failed) (.slice A3 (dskI id k q i 0).bad.length c3)).sel [0, 1, 3, 4, 5, 6] (by decide) (by simp)
                    simp only [List.map_cons, List.map_nil, pick, List.getD_cons_succ, List.getD_cons_zero, List.set_cons_zero, List.set_cons_succ, List.eraseIdx_cons_zero, List.eraseIdx_cons_succ, List.setIfInBounds_toArray] at hE
                    exact ⟨g7, _, A1, c1, A2, c2, A3, c3, rfl, ⟨hE⟩⟩
                  · refine tr_step rfl (fun K hK => ?_)
                    go_simp
                    go_at_call 57; refine (c_implWriteSuper _ _ _ _ _ _ _ _ (MemO_R (HV18.out.get 0 rfl)) (small_newV _)).mono ?_; rintro e wv22 ⟨u22, F22, rfl, hn⟩
                    have hs9 : Sep _ _ _ (me F22 u22 (dskI id k q i 0) :: _) := HV18.out.new hn
                    have hb := hn.below
                    obtain ⟨A1, c1, A2, c2, A3, c3, rfl⟩ := me_form hs9
                    have HV22 := Aside0.mk hs9
                    clear hs9 hn
                    replace hS := hS.trans (hb.mono hS.size); clear hb; refine hK.out _ _ ⟨fun _ _ => hS, ?_⟩; clear hK K; (try simp only [Act.put, List.getElem_toArray, List.getElem_cons_succ, List.getElem_cons_zero, List.setIfInBounds_toArray, List.set_cons_zero, List.set_cons_succ])
                    refine tr_step rfl (fun K hK => ?_)
                    go_simp
                    have hs9 := HV22.out.alloc (g := wv22.heap.size) rfl #[.slice none 0 0, .slice none 0 0, .bool false, .slice none 0 0] 57
                    have hb := below_alloc (Below.refl wv22.heap.size wv22) (.cells #[.slice none 0 0, .slice none 0 0, .bool false, .slice none 0 0] 57 (0, 0))
                    have HV23 := Aside0.mk hs9
                    clear hs9
                    replace hS := hS.trans (hb.mono hS.size); clear hb; refine hK.out _ _ ⟨fun _ _ => hS, ?_⟩; clear hK K; (try simp only [Act.put, List.getElem_toArray, List.getElem_cons_succ, List.getElem_cons_zero, List.setIfInBounds_toArray, List.set_cons_zero, List.set_cons_succ])
                    skip
                    obtain ⟨g7, hg7⟩ : ∃ g7, wv22.heap.size = g7 := ⟨_, rfl⟩
                    obtain ⟨wv23, hwl⟩ : ∃ x, World.alloc wv22 (.cells #[.slice none 0 0, .slice none 0 0, .bool false, .slice none 0 0] 57 (0, 0)) = x := ⟨_, rfl⟩
                    simp only [hg7, hwl] at *
                    clear hg7 hwl
                    obtain ⟨d0, d1, d2, d3⟩ := four (HV23.out.get 0 rfl)
                    have gz := blk_frozen (HV23.out.get 0 rfl)
                    have f0 := gz 0
                    have f1 := gz 1
                    have f2 := gz 2
                    have f3 := gz 3
                    clear HALL
                    refine tr_step rfl (fun K hK => ?_)
                    go_simp
                    refine hK.out _ _ ⟨(fun h => (by cases h)), ?_⟩; clear hK K; (try simp only [Act.put, List.getElem_toArray, List.getElem_cons_succ, List.getElem_cons_zero, List.setIfInBounds_toArray, List.set_cons_zero, List.set_cons_succ])
                    clear hS
                    refine tr_done ?_
                    go_wp2_with fail
                    go_meet
                    have hE := (HV23.out.box4 0 rfl (.slice A1 (dskI id k q i 0).secs.length c1) (.slice A2 (dskI id k q i 0).cache.length c2) (.bool (dskI id k q i 0).failed) (.slice A3 (dskI id k q i 0).bad.length c3)).sel [1, 0, 3, 4, 5, 6] (by decide) (by simp)
                    simp only [List.map_cons, List.map_nil, pick, List.getD_cons_succ, List.getD_cons_zero, List.set_cons_zero, List.set_cons_succ, List.eraseIdx_cons_zero, List.eraseIdx_cons_succ, List.setIfInBounds_toArray] at hE
                    exact ⟨g7, _, A1, c1, A2, c2, A3, c3, rfl, ⟨hE⟩⟩
          case' rest => skip
          obtain ⟨g7, F7, A1, c1, A2, c2, A3, c3, rfl, HC⟩ := hcut
          obtain ⟨b0, b1⟩ := pair2 (HC.out.get 5 rfl)
          go_wp2
          go_loopw [35] (fun v9 wr => ∃ (j : Nat) (F7 : List Nat) (A1 : Option Addr) (c1 : Nat) (A2 : Option Addr) (c2 : Nat) (A3 : Option Addr) (c3 : Nat), j ≤ q ∧ v9 = .int .i64 j ∧ Aside0 (Sep w [] wr [me F7 (.agg #[.slice A1 (dskI id k q i j).secs.length c1, .slice A2 (dskI id k q i j).cache.length c2, .bool (dskI id k q i j).failed, .slice A3 (dskI id k q i j).bad.length c3]) (dskI id k q i j), bx g7 57 #[.slice A1 (dskI id k q i j).secs.length c1, .slice A2 (dskI id k q i j).cache.length c2, .bool (dskI id k q i j).failed, .slice A3 (dskI id k q i j).bad.length c3], bx g5 34 #[.int .i64 id, .int .i64 (k : Int), .int .i64 (q : Int), .slice A i cA, .int .i64 (-1), .int .i64 0, .int .i64 0, .int .i64 0, .int .i64 0, .slice none 0 0, .int .i64 (-1), .bool false, .bool false], rw_ oMem 57 F (.slice A i cA) (memsN id k q i), bx (w.heap.size + 1) 34 #[.int .i64 0, .int .i64 0, .int .i64 0, .slice none 0 0, .int .i64 0, .int .i64 0, .int .i64 0, .int .i64 0, .int .i64 0, .slice none 0 0, .int .i64 0, .bool false, .bool false], bx w.heap.size 30 #[.int .i64 (k : Int), .int .i64 (q : Int)]])) (fun v9 _ => q - (intOf v9).toNat)
          case atStart => exact ⟨0, F7, A1, c1, A2, c2, A3, c3, by omega, rfl, HC⟩
          case round =>
            clear HC b0 b1
            obtain ⟨j, F7, A1, c1, A2, c2, A3, c3, hj, rfl, HRI⟩ := hrel
            by_cases hjl : j < q
            · have j0 : (0 : Int) ≤ (j : Int) := by omega
              have jl : (j : Int) < (q : Int) := by omega
              obtain ⟨d0, d1, d2, d3⟩ := four (HRI.out.get 1 rfl)
              go_upto_region 11 with fail
              refine wp_region_tr (fun w' => w'.cell? ⟨g7, 0, none⟩ = some (.slice A1 (dskI id k q i j).secs.length c1) ∧ w'.cell? ⟨g7, 1, none⟩ = some (.slice A2 (dskI id k q i j).cache.length c2) ∧ w'.cell? ⟨g7, 2, none⟩ = some (.bool (dskI id k q i j).failed) ∧ w'.cell? ⟨g7, 3, none⟩ = some (.slice A3 (dskI id k q i j).bad.length c3)) [8] (Tr.p 1 (Tr.t 0 (Tr.alt 2 (Tr.s 3 (Tr.s 4 (Tr.p 5 (Tr.p 6 (Tr.p 7 (Tr.s 8 (Tr.nil))))))) (Tr.s 3 (Tr.s 2 (Tr.s 4 (Tr.p 5 (Tr.p 6 (Tr.p 7 (Tr.s 8 (Tr.nil))))))))))) (by kernel_rfl) (by kernel_rfl) ?_
              have hS : (fun w' : World => w'.cell? ⟨g7, 0, none⟩ = some (.slice A1 (dskI id k q i j).secs.length c1) ∧ w'.cell? ⟨g7, 1, none⟩ = some (.slice A2 (dskI id k q i j).cache.length c2) ∧ w'.cell? ⟨g7, 2, none⟩ = some (.bool (dskI id k q i j).failed) ∧ w'.cell? ⟨g7, 3, none⟩ = some (.slice A3 (dskI id k q i j).bad.length c3)) wr.drew := ⟨d0, d1, d2, d3⟩
              clear d0 d1 d2 d3
              have HRD := Aside0.mk HRI.out.drew
              generalize hwd : wr.drew = wd at *
              clear hwd
              iterate 1 (refine tr_pure rfl (fun _ _ _ h => h) (by rfl) (fun w_ => by go_simp; first | done | with_reducible rfl) ?_; (try simp only [Act.put, List.getElem_toArray, List.getElem_cons_succ, List.getElem_cons_zero, List.setIfInBounds_toArray, List.set_cons_zero, List.set_cons_succ]))
              iterate 1 (refine tr_take hS rfl (fun _ _ _ h => h) (by rfl) (fun w_ hSw => by (try dsimp only at hSw); go_simp; first | done | with_reducible rfl) ?_; (try simp only [Act.put, List.getElem_toArray, List.getElem_cons_succ, List.getElem_cons_zero, List.setIfInBounds_toArray, List.set_cons_zero, List.set_cons_succ]))
              refine tr_two ?_ ?_
              · refine tr_step rfl (fun K hK => ?_)
                go_simp
                go_at_call 61; refine (c_implDataAt (j : Int) _).mono ?_; rintro e w5 ⟨rfl, hd5⟩
                have HS5 := Aside0.mk (HRD.out.dr hd5)
                clear hd5
                have hSn := four (HS5.out.get 1 rfl)
                clear hS
                refine hK.out _ _ ⟨fun _ _ => hSn, ?_⟩; clear hK K; (try simp only [Act.put, List.getElem_toArray, List.getElem_cons_succ, List.getElem_cons_zero, List.setIfInBounds_toArray, List.set_cons_zero, List.set_cons_succ])
                have hS := hSn
                clear hSn
                refine tr_step rfl (fun K hK => ?_)
                go_simp
                have HS6 := Aside0.mk (new_lit HS5.out rfl 3 #[.int .i64 0] (l := [0]) (n := 1) rfl rfl (by decide))
                generalize hwl : World.alloc w5 (.cells #[.int .i64 0] 3 (0, 0)) = w6 at *
                clear hwl
                have hSn := four (HS6.out.get 2 rfl)
                clear hS
                refine hK.out _ _ ⟨fun _ _ => hSn, ?_⟩; clear hK K; (try simp only [Act.put, List.getElem_toArray, List.getElem_cons_succ, List.getElem_cons_zero, List.setIfInBounds_toArray, List.set_cons_zero, List.set_cons_succ])
                have hS := hSn
                clear hSn
                refine tr_step rfl (fun K hK => ?_)
                go_simp
                go_at_call 60; refine (c_implWriteSec (n := dataV (j : Int)) (MemO_R (HS6.out.get 1 rfl)) (small_dskI _ _ _ _ _) (O_RK (HS6.out.get 0 rfl)) (by simp)).mono ?_; rintro e w7 ⟨u7, F8, rfl, hn⟩
                have hs9 : Sep _ _ _ (me F8 u7 (dskI id k q i (j + 1)) :: _) := HS6.out.new hn
                obtain ⟨B1, e1, B2, e2, B3, e3, rfl⟩ := me_form hs9
                have HS7 := Aside0.mk hs9
                clear hs9 hn
                have hSn := four (HS7.out.get 3 rfl)
                clear hS
                refine hK.out _ _ ⟨fun _ _ => hSn, ?_⟩; clear hK K; (try simp only [Act.put, List.getElem_toArray, List.getElem_cons_succ, List.getElem_cons_zero, List.setIfInBounds_toArray, List.set_cons_zero, List.set_cons_succ])
                have hS := hSn
                clear hSn
                iterate 3 (refine tr_pure rfl (fun _ _ _ h => h) (by rfl) (fun w_ => by go_simp; first | done | with_reducible rfl) ?_; (try simp only [Act.put, List.getElem_toArray, List.getElem_cons_succ, List.getElem_cons_zero, List.setIfInBounds_toArray, List.set_cons_zero, List.set_cons_succ]))
                obtain ⟨d0, d1, d2, d3⟩ := four (HS7.out.get 3 rfl)
                have gz := blk_frozen (HS7.out.get 3 rfl)
                have f0 := gz 0
                have f1 := gz 1
                have f2 := gz 2
                have f3 := gz 3
                refine tr_step rfl (fun K hK => ?_)
                go_simp
                refine hK.out _ _ ⟨(fun h => (by cases h)), ?_⟩; clear hK K; (try simp only [Act.put, List.getElem_toArray, List.getElem_cons_succ, List.getElem_cons_zero, List.setIfInBounds_toArray, List.set_cons_zero, List.set_cons_succ])
                refine tr_done ?_
                go_wp2
                go_roundw
                case rel =>
                  have hE := (HS7.out.box4 3 rfl (.slice B1 (dskI id k q i (j + 1)).secs.length e1) (.slice B2 (dskI id k q i (j + 1)).cache.length e2) (.bool (dskI id k q i (j + 1)).failed) (.slice B3 (dskI id k q i (j + 1)).bad.length e3)).sel [0, 3, 4, 5, 6, 7] (by decide) (by simp)
                  simp only [List.map_cons, List.map_nil, pick, List.getD_cons_succ, List.getD_cons_zero, List.set_cons_zero, List.set_cons_succ, List.eraseIdx_cons_zero, List.eraseIdx_cons_succ, List.setIfInBounds_toArray] at hE
                  exact ⟨j + 1, F8, B1, e1, B2, e2, B3, e3, by omega, by go_num, ⟨hE⟩⟩
                case measure => simp [intOf]; omega
              · refine tr_step rfl (fun K hK => ?_)
                go_simp
                have HS5 := Aside0.mk (new_lit HRD.out rfl 3 #[.int .i64 0] (l := [0]) (n := 1) rfl rfl (by decide))
                generalize hwl : World.alloc wd (.cells #[.int .i64 0] 3 (0, 0)) = w6 at *
                clear hwl
                have hSn := four (HS5.out.get 2 rfl)
                clear hS
                refine hK.out _ _ ⟨fun _ _ => hSn, ?_⟩; clear hK K; (try simp only [Act.put, List.getElem_toArray, List.getElem_cons_succ, List.getElem_cons_zero, List.setIfInBounds_toArray, List.set_cons_zero, List.set_cons_succ])
                have hS := hSn
                clear hSn
                refine tr_step rfl (fun K hK => ?_)
                go_simp
                go_at_call 61; refine (c_implDataAt (j : Int) _).mono ?_; rintro e w5 ⟨rfl, hd5⟩
                have HS6 := Aside0.mk (HS5.out.dr hd5)
                clear hd5
                have hSn := four (HS6.out.get 2 rfl)
                clear hS
                refine hK.out _ _ ⟨fun _ _ => hSn, ?_⟩; clear hK K; (try simp only [Act.put, List.getElem_toArray, List.getElem_cons_succ, List.getElem_cons_zero, List.setIfInBounds_toArray, List.set_cons_zero, List.set_cons_succ])
                have hS := hSn
                clear hSn
                refine tr_step rfl (fun K hK => ?_)
                go_simp
                go_at_call 60; refine (c_implWriteSec (n := dataV (j : Int)) (MemO_R (HS6.out.get 1 rfl)) (small_dskI _ _ _ _ _) (O_RK (HS6.out.get 0 rfl)) (by simp)).mono ?_; rintro e w7 ⟨u7, F8, rfl, hn⟩
                have hs9 : Sep _ _ _ (me F8 u7 (dskI id k q i (j + 1)) :: _) := HS6.out.new hn
                obtain ⟨B1, e1, B2, e2, B3, e3, rfl⟩ := me_form hs9
                have HS7 := Aside0.mk hs9
                clear hs9 hn
                have hSn := four (HS7.out.get 3 rfl)
                clear hS
                refine hK.out _ _ ⟨fun _ _ => hSn, ?_⟩; clear hK K; (try simp only [Act.put, List.getElem_toArray, List.getElem_cons_succ, List.getElem_cons_zero, List.setIfInBounds_toArray, List.set_cons_zero, List.set_cons_succ])
                have hS := hSn
                clear hSn
                iterate 3 (refine tr_pure rfl (fun _ _ _ h => h) (by rfl) (fun w_ => by go_simp; first | done | with_reducible rfl) ?_; (try simp only [Act.put, List.getElem_toArray, List.getElem_cons_succ, List.getElem_cons_zero, List.setIfInBounds_toArray, List.set_cons_zero, List.set_cons_succ]))
                obtain ⟨d0, d1, d2, d3⟩ := four (HS7.out.get 3 rfl)
                have gz := blk_frozen (HS7.out.get 3 rfl)
                have f0 := gz 0
                have f1 := gz 1
                have f2 := gz 2
                have f3 := gz 3
                refine tr_step rfl (fun K hK => ?_)
                go_simp
                refine hK.out _ _ ⟨(fun h => (by cases h)), ?_⟩; clear hK K; (try simp only [Act.put, List.getElem_toArray, List.getElem_cons_succ, List.getElem_cons_zero, List.setIfInBounds_toArray, List.set_cons_zero, List.set_cons_succ])
                refine tr_done ?_
                go_wp2
                go_roundw
                case rel =>
                  have hE := (HS7.out.box4 3 rfl (.slice B1 (dskI id k q i (j + 1)).secs.length e1) (.slice B2 (dskI id k q i (j + 1)).cache.length e2) (.bool (dskI id k q i (j + 1)).failed) (.slice B3 (dskI id k q i (j + 1)).bad.length e3)).sel [0, 3, 4, 5, 6, 7] (by decide) (by simp)
                  simp only [List.map_cons, List.map_nil, pick, List.getD_cons_succ, List.getD_cons_zero, List.set_cons_zero, List.set_cons_succ, List.eraseIdx_cons_zero, List.eraseIdx_cons_succ, List.setIfInBounds_toArray] at hE
                  exact ⟨j + 1, F8, B1, e1, B2, e2, B3, e3, by omega, by go_num, ⟨hE⟩⟩
                case measure => simp [intOf]; omega
            · obtain rfl : j = q := by omega
              obtain ⟨d0, d1, d2, d3⟩ := four (HRI.out.get 1 rfl)
              obtain ⟨a0_, a1_, a2_, a3_, a4_, a5_, a6_, a7_, a8_, a9_, a10_, a11_, a12_⟩ := thirteen (HRI.out.get 2 rfl)
              have HFL := Aside0.mk (show flushV (dskI id k j i j) = dskN id k j i by have h1 := flush_dsk (m := i) HG.out HID.out (by omega); rwa [show ((j : Int)).toNat = j from rfl] at h1)
              go_upto_region 13 with fail
              refine wp_region_seqp (fun w' => w'.cell? ⟨g5, 3, none⟩ = some (.slice A i cA) ∧ w'.cell? ⟨g7, 0, none⟩ = some (.slice A1 (dskI id k j i j).secs.length c1) ∧ w'.cell? ⟨g7, 1, none⟩ = some (.slice A2 (dskI id k j i j).cache.length c2) ∧ w'.cell? ⟨g7, 2, none⟩ = some (.bool (dskI id k j i j).failed) ∧ w'.cell? ⟨g7, 3, none⟩ = some (.slice A3 (dskI id k j i j).bad.length c3)) [7] [(0, 2), (1, 1), (2, 1), (3, 0), (4, 0), (5, 0), (6, 2), (7, 0)] (by kernel_rfl) (by kernel_rfl) ?_
              have hS : (fun w' : World => w'.cell? ⟨g5, 3, none⟩ = some (.slice A i cA) ∧ w'.cell? ⟨g7, 0, none⟩ = some (.slice A1 (dskI id k j i j).secs.length c1) ∧ w'.cell? ⟨g7, 1, none⟩ = some (.slice A2 (dskI id k j i j).cache.length c2) ∧ w'.cell? ⟨g7, 2, none⟩ = some (.bool (dskI id k j i j).failed) ∧ w'.cell? ⟨g7, 3, none⟩ = some (.slice A3 (dskI id k j i j).bad.length c3)) wr.drew := ⟨a3_, d0, d1, d2, d3⟩
              clear d0 d1 d2 d3 a0_ a1_ a2_ a3_ a4_ a5_ a6_ a7_ a8_ a9_ a10_ a11_ a12_
              have HRD := Aside0.mk HRI.out.drew
              generalize hwd : wr.drew = wd at *
              clear hwd
              repeat ((first | (refine seqp_pure rfl (fun _ _ _ h => h) (by rfl) (fun w_ => by go_simp; first | done | with_reducible rfl) ?_) | (refine seqp_take hS rfl (fun _ _ _ h => h) (by rfl) (fun w_ hSw => by (try dsimp only at hSw); go_simp; first | done | with_reducible rfl) ?_) | (refine seqp_skip2 rfl (fun _ _ _ h => h) (by rfl) ?_) | (refine seqp_skip1 hS rfl (fun _ _ _ h => h) (by rfl) ?_) | (refine seqp_skip0 rfl (by rfl) ?_)); (try simp only [Act.put, List.getElem_toArray, List.getElem_cons_succ, List.getElem_cons_zero, List.setIfInBounds_toArray, List.set_cons_zero, List.set_cons_succ]))
              refine seqp_step rfl (fun K hK => ?_)
              go_simp
              go_at_call 62; refine (c_implFlushMem (MemO_R (HRD.out.get 0 rfl)) (small_dskI _ _ _ _ _)).mono ?_; rw [HFL.out]; rintro e w5 ⟨u5, F8, rfl, hn⟩
              have hs9 := HRD.out.new hn
              obtain ⟨E1, f1, E2, f2, E3, f3, rfl⟩ := me_form hs9
              have HS5 := Aside0.mk hs9
              clear hs9 hn hS
              have hS : (fun w' : World => w'.cell? ⟨g5, 3, none⟩ = some (.slice A i cA) ∧ w'.cell? ⟨g7, 0, none⟩ = some (.slice A1 (dskI id k j i j).secs.length c1) ∧ w'.cell? ⟨g7, 1, none⟩ = some (.slice A2 (dskI id k j i j).cache.length c2) ∧ w'.cell? ⟨g7, 2, none⟩ = some (.bool (dskI id k j i j).failed) ∧ w'.cell? ⟨g7, 3, none⟩ = some (.slice A3 (dskI id k j i j).bad.length c3)) w5 := ⟨(thirteen (HS5.out.get 3 rfl)).2.2.2.1, four (HS5.out.get 2 rfl)⟩
              refine hK.out _ _ ⟨fun _ _ => hS, ?_⟩; clear hK K; (try simp only [Act.put, List.getElem_toArray, List.getElem_cons_succ, List.getElem_cons_zero, List.setIfInBounds_toArray, List.set_cons_zero, List.set_cons_succ])
              refine seqp_step rfl (fun K hK => ?_)
              go_simp
              refine hK.out _ _ ⟨fun _ _ => ⟨cell_alloc hS.1 _, cell_alloc hS.2.1 _, cell_alloc hS.2.2.1 _, cell_alloc hS.2.2.2.1 _, cell_alloc hS.2.2.2.2 _⟩, ?_⟩; clear hK K; (try simp only [Act.put, List.getElem_toArray, List.getElem_cons_succ, List.getElem_cons_zero, List.setIfInBounds_toArray, List.set_cons_zero, List.set_cons_succ])
              refine seqp_step rfl (fun K hK => ?_)
              refine step_app (d := oMem) (y := dskN id k j i) (HS5.out.selT 5 [4, 0, 2, 3] (by decide) (by simp <;> omega)) 0 rfl _ _ 31 (.agg #[.slice none 0 0, .slice none 0 0, .bool false, .slice none 0 0]) 80 (by rfl) Try.underlying31 (by kernel_rfl) rfl (by decide) (by decide) [.slice E1 (dskN id k j i).secs.length f1, .slice E2 (dskN id k j i).cache.length f2, .bool (dskN id k j i).failed, .slice E3 (dskN id k j i).bad.length f3] (oMem_M.2 (HS5.out.get 0 rfl)) (by rfl) (by rfl) (by rfl) (n := i) (memsN_len _ _ _ _) (by have := HK.out; omega) ?_
              intro g9 c9 w9 F9 hs8
              simp only [List.map_cons, List.map_nil, pick, List.getD_cons_succ, List.getD_cons_zero, List.set_cons_zero, List.set_cons_succ, List.eraseIdx_cons_zero, List.eraseIdx_cons_succ, List.drop_succ_cons, List.drop_zero, List.append_eq, List.cons_append, List.nil_append, List.setIfInBounds_toArray] at hs8
              have HS8 := Aside0.mk hs8
              clear hs8 hS
              have hS : (fun w' : World => w'.cell? ⟨g5, 3, none⟩ = some (.slice A i cA) ∧ w'.cell? ⟨g7, 0, none⟩ = some (.slice A1 (dskI id k j i j).secs.length c1) ∧ w'.cell? ⟨g7, 1, none⟩ = some (.slice A2 (dskI id k j i j).cache.length c2) ∧ w'.cell? ⟨g7, 2, none⟩ = some (.bool (dskI id k j i j).failed) ∧ w'.cell? ⟨g7, 3, none⟩ = some (.slice A3 (dskI id k j i j).bad.length c3)) w9 := ⟨(thirteen (HS8.out.get 2 rfl)).2.2.2.1, four (HS8.out.get 1 rfl)⟩
              refine hK.out _ _ ⟨fun _ _ => hS, ?_⟩; clear hK K; (try simp only [Act.put, List.getElem_toArray, List.getElem_cons_succ, List.getElem_cons_zero, List.setIfInBounds_toArray, List.set_cons_zero, List.set_cons_succ])
              repeat ((first | (refine seqp_pure rfl (fun _ _ _ h => h) (by rfl) (fun w_ => by go_simp; first | done | with_reducible rfl) ?_) | (refine seqp_take hS rfl (fun _ _ _ h => h) (by rfl) (fun w_ hSw => by (try dsimp only at hSw); go_simp; first | done | with_reducible rfl) ?_) | (refine seqp_skip2 rfl (fun _ _ _ h => h) (by rfl) ?_) | (refine seqp_skip1 hS rfl (fun _ _ _ h => h) (by rfl) ?_) | (refine seqp_skip0 rfl (by rfl) ?_)); (try simp only [Act.put, List.getElem_toArray, List.getElem_cons_succ, List.getElem_cons_zero, List.setIfInBounds_toArray, List.set_cons_zero, List.set_cons_succ]))
              obtain ⟨a0_, a1_, a2_, a3_, a4_, a5_, a6_, a7_, a8_, a9_, a10_, a11_, a12_⟩ := thirteen (HS8.out.get 2 rfl)
              have gz := blk_frozen (HS8.out.get 2 rfl)
              have f3' := gz 3
              refine seqp_step rfl (fun K hK => ?_)
              go_simp
              refine hK.out _ _ ⟨(fun h => (by cases h)), ?_⟩; clear hK K; (try simp only [Act.put, List.getElem_toArray, List.getElem_cons_succ, List.getElem_cons_zero, List.setIfInBounds_toArray, List.set_cons_zero, List.set_cons_succ])
              clear hS gz f3' a0_ a1_ a2_ a3_ a4_ a5_ a6_ a7_ a8_ a9_ a10_ a11_ a12_
              refine seqp_done ?_
              go_wp2
              go_roundw
              case rel =>
                have hB := HS8.out.setb 2 rfl 3 (.slice (some ⟨g9, 0, none⟩) (i + 1) c9) (cs' := #[.int .i64 id, .int .i64 (k : Int), .int .i64 (j : Int), .slice (some ⟨g9, 0, none⟩) (i + 1) c9, .int .i64 (-1), .int .i64 0, .int .i64 0, .int .i64 0, .int .i64 0, .slice none 0 0, .int .i64 (-1), .bool false, .bool false]) rfl
                simp only [List.map_cons, List.map_nil, pick, List.getD_cons_succ, List.getD_cons_zero, List.set_cons_zero, List.set_cons_succ, List.eraseIdx_cons_zero, List.eraseIdx_cons_succ, List.setIfInBounds_toArray] at hB
                have hC := hB.sel [2, 0, 3, 4] (by decide) (by simp)
                simp only [List.map_cons, List.map_nil, pick, List.getD_cons_succ, List.getD_cons_zero, List.set_cons_zero, List.set_cons_succ, List.eraseIdx_cons_zero, List.eraseIdx_cons_succ, List.setIfInBounds_toArray] at hC
                rw [← memsN_succ] at hC
                exact ⟨i + 1, some ⟨g9, 0, none⟩, c9, F9, by omega, by go_num, ⟨hC⟩⟩
              case measure => simp [intOf]; omega
        · obtain rfl : i = k := by omega
          obtain ⟨a0_, a1_, a2_, a3_, a4_, a5_, a6_, a7_, a8_, a9_, a10_, a11_, a12_⟩ := thirteen (HRR.out.get 0 rfl)
          obtain ⟨z0, z1, z2, z3, z4, z5, z6, z7, z8, z9, z10, z11, z12⟩ := thirteen (HRR.out.get 2 rfl)
          have gz := blk_frozen (HRR.out.get 2 rfl)
          go_wp2
          have HE := box13 HRR.out 2 rfl (.int .i64 id) (.int .i64 (i : Int)) (.int .i64 (q : Int)) (.slice A i cA) (.int .i64 (-1)) (.int .i64 0) (.int .i64 0) (.int .i64 0) (.int .i64 0) (.slice none 0 0) (.int .i64 (-1)) (.bool false) (.bool false)
          simp only [List.map_cons, List.map_nil, pick, List.getD_cons_succ, List.getD_cons_zero, List.set_cons_zero, List.set_cons_succ, List.eraseIdx_cons_zero, List.eraseIdx_cons_succ, List.setIfInBounds_toArray] at HE
          refine bodyPost_ret (results_cell_row rfl _ _ (w.heap.size + 1) 34 #[.int .i64 id, .int .i64 (i : Int), .int .i64 (q : Int), .slice A i cA, .int .i64 (-1), .int .i64 0, .int .i64 0, .int .i64 0, .int .i64 0, .slice none 0 0, .int .i64 (-1), .bool false, .bool false] (0, 0) _ rfl (HE.get 2 rfl) Try.underlying34 rfl (by kernel_rfl)) rfl ?_
          rw [HR.out]
          have hB := (HE.nil oWr 94).sel [2, 0] (by decide) (by simp)
          simp only [List.map_cons, List.map_nil, pick, List.getD_cons_succ, List.getD_cons_zero, List.set_cons_zero, List.set_cons_succ, List.eraseIdx_cons_zero, List.eraseIdx_cons_succ, List.setIfInBounds_toArray] at hB
          exact ⟨_, _, rfl, (Sep.toArr (a := partN id i q i) hB).toNew 0 rfl⟩
    · have HG := Aside0.mk hg
      clear hg
      have HID := Aside0.mk (show inR id 1 60000 = false by simpa using hi)
      clear hi
      have HR := Aside0.mk (show newR id n s = zeroA by unfold newR newOk; rw [HG.out, HID.out]; rfl)
      go_enter Try.func20, Try.ntmps20
      go_wp2_with (first
        | (go_at_call 41; refine (c_within _ _ _ _).mono ?_; rw [HID.out]; rintro e w3 ⟨rfl, hb⟩; have HS3 := Aside0.mk (HS2.out.dr hb); clear hb gz b0 b1 z0 z1 z2 z3 z4 z5 z6 z7 z8 z9 z10 z11 z12; obtain ⟨b0, b1⟩ := pair2 (HS3.out.get 1 rfl); obtain ⟨z0, z1, z2, z3, z4, z5, z6, z7, z8, z9, z10, z11, z12⟩ := thirteen (HS3.out.get 0 rfl); have gz := blk_frozen (HS3.out.get 0 rfl))
        | (go_at_call 48; refine (c_implGeoOk _ _ _).mono ?_; rw [HG.out]; rintro e w2 ⟨rfl, hb⟩; have HS2 := Aside0.mk (HI.out.below hb); clear hb gz b0 b1 z0 z1 z2 z3 z4 z5 z6 z7 z8 z9 z10 z11 z12; obtain ⟨b0, b1⟩ := pair2 (HS2.out.get 1 rfl); obtain ⟨z0, z1, z2, z3, z4, z5, z6, z7, z8, z9, z10, z11, z12⟩ := thirteen (HS2.out.get 0 rfl); have gz := blk_frozen (HS2.out.get 0 rfl))
        | fail)
      have HE := box13 HS3.out 0 rfl (.int .i64 0) (.int .i64 0) (.int .i64 0) (.slice none 0 0) (.int .i64 0) (.int .i64 0) (.int .i64 0) (.int .i64 0) (.int .i64 0) (.slice none 0 0) (.int .i64 0) (.bool false) (.bool false)
      simp only [List.map_cons, List.map_nil, pick, List.getD_cons_succ, List.getD_cons_zero, List.set_cons_zero, List.set_cons_succ, List.eraseIdx_cons_zero, List.eraseIdx_cons_succ, List.setIfInBounds_toArray] at HE
      refine bodyPost_ret (results_cell_row rfl _ _ (w.heap.size + 1) 34 #[.int .i64 0, .int .i64 0, .int .i64 0, .slice none 0 0, .int .i64 0, .int .i64 0, .int .i64 0, .int .i64 0, .int .i64 0, .slice none 0 0, .int .i64 0, .bool false, .bool false] (0, 0) _ rfl (HE.get 0 rfl) Try.underlying34 rfl (by kernel_rfl)) rfl ?_
      rw [HR.out]
      exact ⟨_, _, rfl, (Sep.toArr (a := zeroA) (((HE.nil oWr 94).nil oMem 57).sel [0, 1] (by decide) (by simp))).toNew 0 rfl⟩
  · have HG := Aside0.mk (show geoB n s = false by simpa using hg)
    clear hg
    have HR := Aside0.mk (show newR id n s = zeroA by unfold newR newOk; rw [HG.out]; rfl)
    go_enter Try.func20, Try.ntmps20
    go_wp2_with (first
      | (go_at_call 48; refine (c_implGeoOk _ _ _).mono ?_; rw [HG.out]; rintro e w2 ⟨rfl, hb⟩; have HS2 := Aside0.mk (HI.out.below hb); clear hb gz b0 b1 z0 z1 z2 z3 z4 z5 z6 z7 z8 z9 z10 z11 z12; obtain ⟨b0, b1⟩ := pair2 (HS2.out.get 1 rfl); obtain ⟨z0, z1, z2, z3, z4, z5, z6, z7, z8, z9, z10, z11, z12⟩ := thirteen (HS2.out.get 0 rfl); have gz := blk_frozen (HS2.out.get 0 rfl))
      | fail)
    have HE := box13 HS2.out 0 rfl (.int .i64 0) (.int .i64 0) (.int .i64 0) (.slice none 0 0) (.int .i64 0) (.int .i64 0) (.int .i64 0) (.int .i64 0) (.int .i64 0) (.slice none 0 0) (.int .i64 0) (.bool false) (.bool false)
    simp only [List.map_cons, List.map_nil, pick, List.getD_cons_succ, List.getD_cons_zero, List.set_cons_zero, List.set_cons_succ, List.eraseIdx_cons_zero, List.eraseIdx_cons_succ, List.setIfInBounds_toArray] at HE
    refine bodyPost_ret (results_cell_row rfl _ _ (w.heap.size + 1) 34 #[.int .i64 0, .int .i64 0, .int .i64 0, .slice none 0 0, .int .i64 0, .int .i64 0, .int .i64 0, .int .i64 0, .int .i64 0, .slice none 0 0, .int .i64 0, .bool false, .bool false] (0, 0) _ rfl (HE.get 0 rfl) Try.underlying34 rfl (by kernel_rfl)) rfl ?_
    rw [HR.out]
    exact ⟨_, _, rfl, (Sep.toArr (a := zeroA) (((HE.nil oWr 94).nil oMem 57).sel [0, 1] (by decide) (by simp))).toNew 0 rfl⟩
end Go.Proofs.Ytggmifnblcjdfaa.ANewI
