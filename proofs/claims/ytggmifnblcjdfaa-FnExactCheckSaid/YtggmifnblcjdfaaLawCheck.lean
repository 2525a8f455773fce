/- The law FnExactCheck: it returns true. Printed by mkalaw.py. -/
import Derived.Test.YtggmifnblcjdfaaAQCheck
import Derived.Test.YtggmifnblcjdfaaALawLib
import Derived.Deep.DrawnRows
namespace Go.Proofs.Ytggmifnblcjdfaa.LawCheck
open Go.RowKit Go.Proofs.Ytggmifnblcjdfaa.RJ Go.Proofs.Ytggmifnblcjdfaa.RP Go.Proofs.YtggmifnblcjdfaaW.PrintWords Go.Proofs.Ytggmifnblcjdfaa.Fp Go.Proofs.Ytggmifnblcjdfaa.FpStep Go.Proofs.Ytggmifnblcjdfaa.MInt Go.Proofs.Ytggmifnblcjdfaa.MKinds Go.Proofs.Ytggmifnblcjdfaa.MRead Go.Proofs.Ytggmifnblcjdfaa.MMake Go.Proofs.Ytggmifnblcjdfaa.MPut Go.Proofs.Ytggmifnblcjdfaa.MHeld Go.Proofs.Ytggmifnblcjdfaa.MOk Go.Proofs.Ytggmifnblcjdfaa.MSuper Go.Proofs.Ytggmifnblcjdfaa.Sep Go.Proofs.Ytggmifnblcjdfaa.SepStep Go.Proofs.Ytggmifnblcjdfaa.AKinds Go.Proofs.Ytggmifnblcjdfaa.AMake Go.Proofs.Ytggmifnblcjdfaa.AEnt Go.Proofs.Ytggmifnblcjdfaa.ALaw Go.Proofs.Ytggmifnblcjdfaa.AArr Go.Proofs.Ytggmifnblcjdfaa.AOk Go.Proofs.Ytggmifnblcjdfaa.LawLib Go.Proofs.Ytggmifnblcjdfaa.LawLiveAt Go.Proofs.Ytggmifnblcjdfaa.AHole Go.Proofs.Ytggmifnblcjdfaa.AMark Go.Proofs.Ytggmifnblcjdfaa.ALawLib Go.Proofs.Ytggmifnblcjdfaa.AMarkV Go.Proofs.Ytggmifnblcjdfaa.AQCheck
set_option linter.unusedVariables false
set_option linter.unusedSimpArgs false
set_option maxHeartbeats 8000000 in
set_option maxRecDepth 100000 in
theorem law_Check {w : World} {v : Value} {a : ArrV} (h : ArrR w v a) : Calls Try.prog 9 #[v] w fun e w' => e = .returned (.bool true) ∧ Below w.heap.size w w' := by
  have H := Aside0.mk h
  obtain ⟨vm, vd, rfl, r1, r2⟩ := h
  clear r1 r2
  simp only [arrC] at *
  by_cases hz : (1048576 : Int) - (szA a : Int) < 0
  · have HZ := Aside0.mk hz

    go_enter Try.func9, Try.ntmps9
    go_wp2_with (first
      | (go_at_call 11; refine (c_szArr (ArrR_below H.out (below_alloc (Below.refl _ _) _)) (by omega) (by omega)).mono ?_; rw [sub0_neg HZ.out]; rintro e w1 ⟨rfl, hb⟩; have HS1 := Aside0.mk (((Sep.start w []).alloc (g := w.heap.size) rfl #[.int .i64 a.id, .int .i64 a.gn, .int .i64 a.gs, vm, .int .i64 a.lost, .int .i64 a.built, .int .i64 a.seq, .int .i64 a.tail, .int .i64 a.gen, vd, .int .i64 a.fuse, .bool a.down, .bool a.broken] 27).below hb); clear hb)
      | fail)
    go_ret
    exact ⟨rfl, HS1.out.toBelow⟩
  · have HZ := Aside0.mk hz
    have hsm : SmallA a := smallA_of a (by omega)
    have HSm := Aside0.mk hsm
    have HTA := Aside0.mk (show totMS a.mems + totW a.dirty ≤ 1048576 by have := totA_sz a; omega)
    clear hsm
    obtain ⟨r, hr⟩ : ∃ r, checkR a = r := ⟨_, rfl⟩
    have HRr := Aside0.mk hr
    clear hr
    have HTR := Aside0.mk (show totMS r.mems + totW r.dirty ≤ 1099511627776 by have := checkR_tot a; rw [HRr.out] at this; have := HTA.out; have := HSm.out.1; omega)
    go_enter Try.func9, Try.ntmps9
    go_upto_region 5 with (first
      | (go_at_call 11; refine (c_szArr (ArrR_below H.out (below_alloc (Below.refl _ _) _)) (by omega) (by omega)).mono ?_; rw [sub0_pos (by have := HZ.out; omega)]; rintro e w1 ⟨rfl, hb⟩; have HS1 := Aside0.mk (((Sep.start w []).alloc (g := w.heap.size) rfl #[.int .i64 a.id, .int .i64 a.gn, .int .i64 a.gs, vm, .int .i64 a.lost, .int .i64 a.built, .int .i64 a.seq, .int .i64 a.tail, .int .i64 a.gen, vd, .int .i64 a.fuse, .bool a.down, .bool a.broken] 27).below hb); clear hb)
      | fail)
    obtain ⟨a0_, a1_, a2_, a3_, a4_, a5_, a6_, a7_, a8_, a9_, a10_, a11_, a12_⟩ := thirteen (HS1.out.get 0 rfl)
    go_upto_region 6 with (first
      | (go_at_call 13; refine (c_toArr (ArrR_below H.out HS1.out.toBelow) HSm.out).mono ?_; rintro e w2 ⟨u2, Fu2, rfl, hn⟩; have HS2 := Aside0.mk (HS1.out.new hn); clear hn)
      | (go_at_call 32; refine (c_specCheck (ArrO_R (HS2.out.get 0 rfl)) HSm.out).mono ?_; rw [HRr.out]; rintro e w3 ⟨u3, F3, rfl, hn⟩; have HS3 := Aside0.mk (HS2.out.new hn); clear hn; obtain ⟨A3, p3, B3, q3, rfl⟩ := ar_form HS3.out; simp only [arrC] at *)
      | fail)
    have hB := HS3.out.alloc (g := w3.heap.size) rfl #[.int .i64 r.id, .int .i64 r.gn, .int .i64 r.gs, .slice A3 r.mems.length p3, .int .i64 r.lost, .int .i64 r.built, .int .i64 r.seq, .int .i64 r.tail, .int .i64 r.gen, .slice B3 r.dirty.length q3, .int .i64 r.fuse, .bool r.down, .bool r.broken] 34
    generalize hgg : w3.heap.size = g4 at *
    generalize hww : w3.alloc (.cells #[.int .i64 r.id, .int .i64 r.gn, .int .i64 r.gs, .slice A3 r.mems.length p3, .int .i64 r.lost, .int .i64 r.built, .int .i64 r.seq, .int .i64 r.tail, .int .i64 r.gen, .slice B3 r.dirty.length q3, .int .i64 r.fuse, .bool r.down, .bool r.broken] 34 (0, 0)) = w4 at *
    have HS4 := Aside0.mk hB
    clear hB hgg hww
    have hB := HS4.out.sel [0, 1, 3] (by decide) (by simp)
    simp only [List.map_cons, List.map_nil, pick, List.getD_cons_succ, List.getD_cons_zero, List.set_cons_zero, List.set_cons_succ, List.eraseIdx_cons_zero, List.eraseIdx_cons_succ, List.setIfInBounds_toArray] at hB
    have HS4b := Aside0.mk hB
    clear hB
    clear a0_ a1_ a2_ a3_ a4_ a5_ a6_ a7_ a8_ a9_ a10_ a11_ a12_
    obtain ⟨a0_, a1_, a2_, a3_, a4_, a5_, a6_, a7_, a8_, a9_, a10_, a11_, a12_⟩ := thirteen (HS4b.out.get 2 rfl)
    go_upto_region 7 with (first
      | (go_at_call 13; refine (c_toArr (ArrR_below H.out HS4b.out.toBelow) HSm.out).mono ?_; rintro e w5 ⟨u5, Fu5, rfl, hn⟩; have HS5 := Aside0.mk (HS4b.out.new hn); clear hn; obtain ⟨A5, p5, B5, q5, rfl⟩ := ar_form HS5.out; simp only [arrC] at *)
      | fail)
    have hB := HS5.out.alloc (g := w5.heap.size) rfl #[.int .i64 a.id, .int .i64 a.gn, .int .i64 a.gs, .slice A5 a.mems.length p5, .int .i64 a.lost, .int .i64 a.built, .int .i64 a.seq, .int .i64 a.tail, .int .i64 a.gen, .slice B5 a.dirty.length q5, .int .i64 a.fuse, .bool a.down, .bool a.broken] 34
    generalize hgg : w5.heap.size = g6 at *
    generalize hww : w5.alloc (.cells #[.int .i64 a.id, .int .i64 a.gn, .int .i64 a.gs, .slice A5 a.mems.length p5, .int .i64 a.lost, .int .i64 a.built, .int .i64 a.seq, .int .i64 a.tail, .int .i64 a.gen, .slice B5 a.dirty.length q5, .int .i64 a.fuse, .bool a.down, .bool a.broken] 34 (0, 0)) = w6 at *
    have HS6 := Aside0.mk hB
    clear hB hgg hww
    clear a0_ a1_ a2_ a3_ a4_ a5_ a6_ a7_ a8_ a9_ a10_ a11_ a12_
    obtain ⟨x0_, x1_, x2_, x3_, x4_, x5_, x6_, x7_, x8_, x9_, x10_, x11_, x12_⟩ := thirteen (HS6.out.get 0 rfl)
    go_upto_region 8 with (first
      | (go_at_call 33; refine (c_implCheck (ArrO_R (HS6.out.get 1 rfl)) HSm.out).mono ?_; rw [HRr.out]; rintro e w7 ⟨u8, F8, rfl, hn⟩; have HS7 := Aside0.mk (HS6.out.new hn); clear hn; obtain ⟨A8, p8, B8, q8, rfl⟩ := ar_form HS7.out; simp only [arrC] at *)
      | fail)
    have hB := HS7.out.alloc (g := w7.heap.size) rfl #[.int .i64 r.id, .int .i64 r.gn, .int .i64 r.gs, .slice A8 r.mems.length p8, .int .i64 r.lost, .int .i64 r.built, .int .i64 r.seq, .int .i64 r.tail, .int .i64 r.gen, .slice B8 r.dirty.length q8, .int .i64 r.fuse, .bool r.down, .bool r.broken] 34
    generalize hgg : w7.heap.size = g8 at *
    generalize hww : w7.alloc (.cells #[.int .i64 r.id, .int .i64 r.gn, .int .i64 r.gs, .slice A8 r.mems.length p8, .int .i64 r.lost, .int .i64 r.built, .int .i64 r.seq, .int .i64 r.tail, .int .i64 r.gen, .slice B8 r.dirty.length q8, .int .i64 r.fuse, .bool r.down, .bool r.broken] 34 (0, 0)) = w8 at *
    have HS8 := Aside0.mk hB
    clear hB hgg hww
    clear x0_ x1_ x2_ x3_ x4_ x5_ x6_ x7_ x8_ x9_ x10_ x11_ x12_
    obtain ⟨g0_, g1_, g2_, g3_, g4_, g5_, g6_, g7_, g8_, g9_, g10_, g11_, g12_⟩ := thirteen (HS8.out.get 0 rfl)
    obtain ⟨v0_, v1_, v2_, v3_, v4_, v5_, v6_, v7_, v8_, v9_, v10_, v11_, v12_⟩ := thirteen (HS8.out.get 4 rfl)
    go_upto_region 10 with (first
      | (go_at_call 15; refine (c_eqArr (ArrO_R (HS8.out.get 1 rfl)) (ArrO_R (HS8.out.get 5 rfl))).mono ?_; rintro e w9 ⟨rfl, hb⟩; have HS9 := Aside0.mk (HS8.out.below hb); clear hb; clear g0_ g1_ g2_ g3_ g4_ g5_ g6_ g7_ g8_ g9_ g10_ g11_ g12_; clear v0_ v1_ v2_ v3_ v4_ v5_ v6_ v7_ v8_ v9_ v10_ v11_ v12_; obtain ⟨x0_, x1_, x2_, x3_, x4_, x5_, x6_, x7_, x8_, x9_, x10_, x11_, x12_⟩ := thirteen (HS9.out.get 2 rfl); obtain ⟨a0_, a1_, a2_, a3_, a4_, a5_, a6_, a7_, a8_, a9_, a10_, a11_, a12_⟩ := thirteen (HS9.out.get 6 rfl))
      | fail)
    go_wp2
    have HALL : ∀ w' : World, Below w9.heap.size w9 w' → (w'.cell? ⟨g6, 0, none⟩ = some (.int .i64 a.id) ∧ w'.cell? ⟨g6, 1, none⟩ = some (.int .i64 a.gn) ∧ w'.cell? ⟨g6, 2, none⟩ = some (.int .i64 a.gs) ∧ w'.cell? ⟨g6, 3, none⟩ = some (.slice A5 a.mems.length p5) ∧ w'.cell? ⟨g6, 4, none⟩ = some (.int .i64 a.lost) ∧ w'.cell? ⟨g6, 5, none⟩ = some (.int .i64 a.built) ∧ w'.cell? ⟨g6, 6, none⟩ = some (.int .i64 a.seq) ∧ w'.cell? ⟨g6, 7, none⟩ = some (.int .i64 a.tail) ∧ w'.cell? ⟨g6, 8, none⟩ = some (.int .i64 a.gen) ∧ w'.cell? ⟨g6, 9, none⟩ = some (.slice B5 a.dirty.length q5) ∧ w'.cell? ⟨g6, 10, none⟩ = some (.int .i64 a.fuse) ∧ w'.cell? ⟨g6, 11, none⟩ = some (.bool a.down) ∧ w'.cell? ⟨g6, 12, none⟩ = some (.bool a.broken) ∧ w'.cell? ⟨w.heap.size, 0, none⟩ = some (.int .i64 a.id) ∧ w'.cell? ⟨w.heap.size, 1, none⟩ = some (.int .i64 a.gn) ∧ w'.cell? ⟨w.heap.size, 2, none⟩ = some (.int .i64 a.gs) ∧ w'.cell? ⟨w.heap.size, 3, none⟩ = some (vm) ∧ w'.cell? ⟨w.heap.size, 4, none⟩ = some (.int .i64 a.lost) ∧ w'.cell? ⟨w.heap.size, 5, none⟩ = some (.int .i64 a.built) ∧ w'.cell? ⟨w.heap.size, 6, none⟩ = some (.int .i64 a.seq) ∧ w'.cell? ⟨w.heap.size, 7, none⟩ = some (.int .i64 a.tail) ∧ w'.cell? ⟨w.heap.size, 8, none⟩ = some (.int .i64 a.gen) ∧ w'.cell? ⟨w.heap.size, 9, none⟩ = some (vd) ∧ w'.cell? ⟨w.heap.size, 10, none⟩ = some (.int .i64 a.fuse) ∧ w'.cell? ⟨w.heap.size, 11, none⟩ = some (.bool a.down) ∧ w'.cell? ⟨w.heap.size, 12, none⟩ = some (.bool a.broken)) := fun w' hb => ⟨(hb.cell (lt_of_cell x0_)).trans x0_, (hb.cell (lt_of_cell x1_)).trans x1_, (hb.cell (lt_of_cell x2_)).trans x2_, (hb.cell (lt_of_cell x3_)).trans x3_, (hb.cell (lt_of_cell x4_)).trans x4_, (hb.cell (lt_of_cell x5_)).trans x5_, (hb.cell (lt_of_cell x6_)).trans x6_, (hb.cell (lt_of_cell x7_)).trans x7_, (hb.cell (lt_of_cell x8_)).trans x8_, (hb.cell (lt_of_cell x9_)).trans x9_, (hb.cell (lt_of_cell x10_)).trans x10_, (hb.cell (lt_of_cell x11_)).trans x11_, (hb.cell (lt_of_cell x12_)).trans x12_, (hb.cell (lt_of_cell a0_)).trans a0_, (hb.cell (lt_of_cell a1_)).trans a1_, (hb.cell (lt_of_cell a2_)).trans a2_, (hb.cell (lt_of_cell a3_)).trans a3_, (hb.cell (lt_of_cell a4_)).trans a4_, (hb.cell (lt_of_cell a5_)).trans a5_, (hb.cell (lt_of_cell a6_)).trans a6_, (hb.cell (lt_of_cell a7_)).trans a7_, (hb.cell (lt_of_cell a8_)).trans a8_, (hb.cell (lt_of_cell a9_)).trans a9_, (hb.cell (lt_of_cell a10_)).trans a10_, (hb.cell (lt_of_cell a11_)).trans a11_, (hb.cell (lt_of_cell a12_)).trans a12_⟩
    replace HALL := Aside0.mk HALL
    clear x0_ x1_ x2_ x3_ x4_ x5_ x6_ x7_ x8_ x9_ x10_ x11_ x12_
    clear a0_ a1_ a2_ a3_ a4_ a5_ a6_ a7_ a8_ a9_ a10_ a11_ a12_
    refine wp_region_seqp (fun w' => Below w9.heap.size w9 w') [] [(0, 1), (1, 1), (2, 0), (3, 0), (4, 2)] (by kernel_rfl) (by kernel_rfl) ?_
    have hS : Below w9.heap.size w9 w9.drew := Below.drew (Below.refl _ _)
    repeat ((first | (refine seqp_pure rfl (fun _ _ _ h => h) (by rfl) (fun w_ => by go_simp; first | done | with_reducible rfl) ?_) | (refine seqp_take hS rfl (fun _ _ _ h => h) (by rfl) (fun w_ hSw => by have hSc := HALL.out w_ hSw; clear hSw; go_simp; first | done | with_reducible rfl) ?_) | (refine seqp_skip2 rfl (fun _ _ _ h => h) (by rfl) ?_) | (refine seqp_skip1 hS rfl (fun _ _ _ h => h) (by rfl) ?_) | (refine seqp_skip0 rfl (by rfl) ?_)); (try simp only [Act.put, List.getElem_toArray, List.getElem_cons_succ, List.getElem_cons_zero, List.setIfInBounds_toArray, List.set_cons_zero, List.set_cons_succ]))
    refine seqp_step rfl (fun K hK => ?_)
    go_simp
    go_at_call 13; refine (c_toArr (ArrR_below H.out HS9.out.drew.toBelow) HSm.out).mono ?_; rintro e w10 ⟨u10, F10, rfl, hn⟩
    have HS10 := Aside0.mk (HS9.out.drew.new hn)
    have hb := hn.below
    clear hn
    replace hS := hS.trans (hb.mono hS.size); clear hb; refine hK.out _ _ ⟨fun _ _ => hS, ?_⟩; clear hK K; (try simp only [Act.put, List.getElem_toArray, List.getElem_cons_succ, List.getElem_cons_zero, List.setIfInBounds_toArray, List.set_cons_zero, List.set_cons_succ])
    repeat ((first | (refine seqp_pure rfl (fun _ _ _ h => h) (by rfl) (fun w_ => by go_simp; first | done | with_reducible rfl) ?_) | (refine seqp_take hS rfl (fun _ _ _ h => h) (by rfl) (fun w_ hSw => by have hSc := HALL.out w_ hSw; clear hSw; go_simp; first | done | with_reducible rfl) ?_) | (refine seqp_skip2 rfl (fun _ _ _ h => h) (by rfl) ?_) | (refine seqp_skip1 hS rfl (fun _ _ _ h => h) (by rfl) ?_) | (refine seqp_skip0 rfl (by rfl) ?_)); (try simp only [Act.put, List.getElem_toArray, List.getElem_cons_succ, List.getElem_cons_zero, List.setIfInBounds_toArray, List.set_cons_zero, List.set_cons_succ]))
    refine seqp_step rfl (fun K hK => ?_)
    go_simp
    go_at_call 15; refine (c_eqArr (ArrO_R (HS10.out.get 4 rfl)) (ArrO_R (HS10.out.get 0 rfl))).mono ?_; rintro e w11 ⟨rfl, hb⟩
    have HS11 := Aside0.mk (HS10.out.below hb)
    replace hS := hS.trans (hb.mono hS.size); clear hb; refine hK.out _ _ ⟨fun _ _ => hS, ?_⟩; clear hK K; (try simp only [Act.put, List.getElem_toArray, List.getElem_cons_succ, List.getElem_cons_zero, List.setIfInBounds_toArray, List.set_cons_zero, List.set_cons_succ])
    repeat ((first | (refine seqp_pure rfl (fun _ _ _ h => h) (by rfl) (fun w_ => by go_simp; first | done | with_reducible rfl) ?_) | (refine seqp_take hS rfl (fun _ _ _ h => h) (by rfl) (fun w_ hSw => by have hSc := HALL.out w_ hSw; clear hSw; go_simp; first | done | with_reducible rfl) ?_) | (refine seqp_skip2 rfl (fun _ _ _ h => h) (by rfl) ?_) | (refine seqp_skip1 hS rfl (fun _ _ _ h => h) (by rfl) ?_) | (refine seqp_skip0 rfl (by rfl) ?_)); (try simp only [Act.put, List.getElem_toArray, List.getElem_cons_succ, List.getElem_cons_zero, List.setIfInBounds_toArray, List.set_cons_zero, List.set_cons_succ]))
    clear hS HALL
    refine seqp_done ?_
    have hB := HS11.out.sel [1, 2, 3, 4, 5, 6, 7] (by decide) (by simp)
    simp only [List.map_cons, List.map_nil, pick, List.getD_cons_succ, List.getD_cons_zero, List.set_cons_zero, List.set_cons_succ, List.eraseIdx_cons_zero, List.eraseIdx_cons_succ, List.setIfInBounds_toArray] at hB
    have HS12 := Aside0.mk hB
    clear hB
    obtain ⟨x0_, x1_, x2_, x3_, x4_, x5_, x6_, x7_, x8_, x9_, x10_, x11_, x12_⟩ := thirteen (HS12.out.get 2 rfl)
    go_upto_region 13 with fail
    go_upto_region 14 with (first
      | (go_at_call 21; refine (c_markArr (show ArrO _ _ _ a from HS12.out.get 3 rfl) (HS12.out.fnd 3 rfl) (by omega) (by have := HTA.out; omega)).mono ?_; rintro e w13 ⟨rfl, F13, hu⟩; have hB := HS12.out.upd (r := ar _ _ a) 3 rfl hu; simp only [List.map_cons, List.map_nil, pick, List.getD_cons_succ, List.getD_cons_zero, List.set_cons_zero, List.set_cons_succ, List.eraseIdx_cons_zero, List.eraseIdx_cons_succ, List.setIfInBounds_toArray] at hB; have HS13 := Aside0.mk hB; clear hB hu; clear x0_ x1_ x2_ x3_ x4_ x5_ x6_ x7_ x8_ x9_ x10_ x11_ x12_; obtain ⟨g0_, g1_, g2_, g3_, g4_, g5_, g6_, g7_, g8_, g9_, g10_, g11_, g12_⟩ := thirteen (HS13.out.get 0 rfl); obtain ⟨v0_, v1_, v2_, v3_, v4_, v5_, v6_, v7_, v8_, v9_, v10_, v11_, v12_⟩ := thirteen (HS13.out.get 4 rfl))
      | fail)
    go_upto_region 17 with (first
      | (go_at_call 15; refine (c_eqArr (show ArrR _ _ r from ArrO_R (HS13.out.get 1 rfl)) (show ArrR _ _ r from ArrO_R (HS13.out.get 5 rfl))).mono ?_; rintro e w14 ⟨rfl, hb⟩; have HS14 := Aside0.mk (HS13.out.below hb); clear hb; clear g0_ g1_ g2_ g3_ g4_ g5_ g6_ g7_ g8_ g9_ g10_ g11_ g12_; clear v0_ v1_ v2_ v3_ v4_ v5_ v6_ v7_ v8_ v9_ v10_ v11_ v12_; obtain ⟨g0_, g1_, g2_, g3_, g4_, g5_, g6_, g7_, g8_, g9_, g10_, g11_, g12_⟩ := thirteen (HS14.out.get 0 rfl))
      | fail)
    go_upto_region 19 with (first
      | (go_at_call 21; refine (c_markArr (show ArrO _ _ _ r from HS14.out.get 1 rfl) (HS14.out.fnd 1 rfl) (by omega) (by have := HTR.out; omega)).mono ?_; rintro e w15 ⟨rfl, F15, hu⟩; have hB := HS14.out.upd (r := ar _ _ r) 1 rfl hu; simp only [List.map_cons, List.map_nil, pick, List.getD_cons_succ, List.getD_cons_zero, List.set_cons_zero, List.set_cons_succ, List.eraseIdx_cons_zero, List.eraseIdx_cons_succ, List.setIfInBounds_toArray] at hB; have HS15 := Aside0.mk hB; clear hB hu; clear g0_ g1_ g2_ g3_ g4_ g5_ g6_ g7_ g8_ g9_ g10_ g11_ g12_; obtain ⟨g0_, g1_, g2_, g3_, g4_, g5_, g6_, g7_, g8_, g9_, g10_, g11_, g12_⟩ := thirteen (HS15.out.get 0 rfl))
      | fail)
    go_upto_region 24 with (first
      | (go_at_call 22; refine (c_heldArr (ms := r.mems) (ds := r.dirty) (show ArrR _ _ (mkArr 1 r) from ArrO_R (HS15.out.get 1 rfl)) rfl rfl (by omega) (by have := HTR.out; omega)).mono ?_; rintro e w16 ⟨rfl, hb⟩; have HS16 := Aside0.mk (HS15.out.below hb); clear hb; clear g0_ g1_ g2_ g3_ g4_ g5_ g6_ g7_ g8_ g9_ g10_ g11_ g12_; obtain ⟨a0_, a1_, a2_, a3_, a4_, a5_, a6_, a7_, a8_, a9_, a10_, a11_, a12_⟩ := thirteen (HS16.out.get 6 rfl))
      | fail)
    go_upto_region 25 with (first
      | (go_at_call 13; refine (c_toArr (ArrR_below H.out HS16.out.toBelow) HSm.out).mono ?_; rintro e w17 ⟨u17, Fu17, rfl, hn⟩; have HS17 := Aside0.mk (HS16.out.new hn); clear hn)
      | (go_at_call 33; refine (c_implCheck (ArrO_R (HS17.out.get 0 rfl)) HSm.out).mono ?_; rw [HRr.out]; rintro e w18 ⟨u18, F18, rfl, hn⟩; have HS18 := Aside0.mk (HS17.out.new hn); clear hn; obtain ⟨A18, p18, B18, q18, rfl⟩ := ar_form HS18.out; simp only [arrC] at *)
      | fail)
    have hB := HS18.out.alloc (g := w18.heap.size) rfl #[.int .i64 r.id, .int .i64 r.gn, .int .i64 r.gs, .slice A18 r.mems.length p18, .int .i64 r.lost, .int .i64 r.built, .int .i64 r.seq, .int .i64 r.tail, .int .i64 r.gen, .slice B18 r.dirty.length q18, .int .i64 r.fuse, .bool r.down, .bool r.broken] 34
    generalize hgg : w18.heap.size = g19 at *
    generalize hww : w18.alloc (.cells #[.int .i64 r.id, .int .i64 r.gn, .int .i64 r.gs, .slice A18 r.mems.length p18, .int .i64 r.lost, .int .i64 r.built, .int .i64 r.seq, .int .i64 r.tail, .int .i64 r.gen, .slice B18 r.dirty.length q18, .int .i64 r.fuse, .bool r.down, .bool r.broken] 34 (0, 0)) = w19 at *
    have HS19 := Aside0.mk hB
    clear hB hgg hww
    have hB := HS19.out.sel [0, 1, 3, 4, 5, 6, 7, 8, 9] (by decide) (by simp)
    simp only [List.map_cons, List.map_nil, pick, List.getD_cons_succ, List.getD_cons_zero, List.set_cons_zero, List.set_cons_succ, List.eraseIdx_cons_zero, List.eraseIdx_cons_succ, List.setIfInBounds_toArray] at hB
    have HS20 := Aside0.mk hB
    clear hB
    clear a0_ a1_ a2_ a3_ a4_ a5_ a6_ a7_ a8_ a9_ a10_ a11_ a12_
    obtain ⟨h0_, h1_, h2_, h3_, h4_, h5_, h6_, h7_, h8_, h9_, h10_, h11_, h12_⟩ := thirteen (HS20.out.get 0 rfl)
    obtain ⟨v0_, v1_, v2_, v3_, v4_, v5_, v6_, v7_, v8_, v9_, v10_, v11_, v12_⟩ := thirteen (HS20.out.get 6 rfl)
    go_upto_region 28 with (first
      | (go_at_call 15; refine (c_eqArr (show ArrR _ _ r from ArrO_R (HS20.out.get 1 rfl)) (show ArrR _ _ r from ArrO_R (HS20.out.get 7 rfl))).mono ?_; rintro e w21 ⟨rfl, hb⟩; have HS21 := Aside0.mk (HS20.out.below hb); clear hb; clear h0_ h1_ h2_ h3_ h4_ h5_ h6_ h7_ h8_ h9_ h10_ h11_ h12_; clear v0_ v1_ v2_ v3_ v4_ v5_ v6_ v7_ v8_ v9_ v10_ v11_ v12_; obtain ⟨g0_, g1_, g2_, g3_, g4_, g5_, g6_, g7_, g8_, g9_, g10_, g11_, g12_⟩ := thirteen (HS21.out.get 2 rfl))
      | fail)
    go_wp2_with (first
      | (go_at_call 22; refine (c_heldArr (ms := r.mems) (ds := r.dirty) (show ArrR _ _ (mkArr 1 r) from ArrO_R (HS21.out.get 3 rfl)) rfl rfl (by omega) (by have := HTR.out; omega)).mono ?_; rintro e w22 ⟨rfl, hb⟩; have HS22 := Aside0.mk (HS21.out.below hb); clear hb; clear g0_ g1_ g2_ g3_ g4_ g5_ g6_ g7_ g8_ g9_ g10_ g11_ g12_)
      | fail)
    go_ret
    exact ⟨rfl, HS22.out.toBelow⟩
end Go.Proofs.Ytggmifnblcjdfaa.LawCheck
