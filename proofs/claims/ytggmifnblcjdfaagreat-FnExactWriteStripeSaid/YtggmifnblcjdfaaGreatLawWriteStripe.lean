/- The law FnExactWriteStripe: it returns true. Printed by mkasl.py. -/
import Derived.Test.YtggmifnblcjdfaaGreatAQStripe
import Derived.Test.YtggmifnblcjdfaaGreatLawLiveAt
import Derived.Test.YtggmifnblcjdfaaGreatALawLib
import Derived.Deep.DrawnRows
namespace Go.Proofs.YtggmifnblcjdfaaGreat.LawWriteStripe
open Go.RowKit Go.Proofs.YtggmifnblcjdfaaGreat.RJ Go.Proofs.YtggmifnblcjdfaaGreat.RP Go.Proofs.YtggmifnblcjdfaaGreatW.PrintWords Go.Proofs.YtggmifnblcjdfaaGreat.Fp Go.Proofs.YtggmifnblcjdfaaGreat.FpStep Go.Proofs.YtggmifnblcjdfaaGreat.MInt Go.Proofs.YtggmifnblcjdfaaGreat.MKinds Go.Proofs.YtggmifnblcjdfaaGreat.MRead Go.Proofs.YtggmifnblcjdfaaGreat.MMake Go.Proofs.YtggmifnblcjdfaaGreat.MPut Go.Proofs.YtggmifnblcjdfaaGreat.MHeld Go.Proofs.YtggmifnblcjdfaaGreat.MOk Go.Proofs.YtggmifnblcjdfaaGreat.MSuper Go.Proofs.YtggmifnblcjdfaaGreat.Sep Go.Proofs.YtggmifnblcjdfaaGreat.SepStep Go.Proofs.YtggmifnblcjdfaaGreat.AKinds Go.Proofs.YtggmifnblcjdfaaGreat.AMake Go.Proofs.YtggmifnblcjdfaaGreat.AEnt Go.Proofs.YtggmifnblcjdfaaGreat.ALaw Go.Proofs.YtggmifnblcjdfaaGreat.AArr Go.Proofs.YtggmifnblcjdfaaGreat.AOk Go.Proofs.YtggmifnblcjdfaaGreat.LawLib Go.Proofs.YtggmifnblcjdfaaGreat.LawLiveAt Go.Proofs.YtggmifnblcjdfaaGreat.AHole Go.Proofs.YtggmifnblcjdfaaGreat.AMark Go.Proofs.YtggmifnblcjdfaaGreat.ALawLib Go.Proofs.YtggmifnblcjdfaaGreat.AStrV Go.Proofs.YtggmifnblcjdfaaGreat.AQStripe
set_option linter.unusedVariables false
set_option linter.unusedSimpArgs false
set_option maxHeartbeats 8000000 in
set_option maxRecDepth 100000 in
theorem law_WriteStripe {w : World} {v u : Value} {a : ArrV} {s : Int} {data : List Int} (h : ArrR w v a) (hx : RK kInt w u data) : Calls Tryz.prog 3 #[v, .int .i64 s, u] w fun e w' => e = .returned (.bool true) ∧ Below w.heap.size w w' := by
  have H := Aside0.mk h
  have HX := Aside0.mk hx
  have lx := RK_len hx
  obtain ⟨vm, vd, rfl, r1, r2⟩ := h
  obtain ⟨XB, xc, rfl, hx9⟩ := id hx
  clear r1 r2 hx9 hx
  simp only [arrC] at *
  by_cases hdl : 1048576 < data.length
  · have hdb : decide (1048576 < (data.length : Int)) = true := decide_eq_true (by omega)
    have hB := (Sep.start w []).alloc (g := w.heap.size) rfl #[.int .i64 a.id, .int .i64 a.gn, .int .i64 a.gs, vm, .int .i64 a.lost, .int .i64 a.built, .int .i64 a.seq, .int .i64 a.tail, .int .i64 a.gen, vd, .int .i64 a.fuse, .bool a.down, .bool a.broken] 27
    go_enter Tryz.func3, Tryz.ntmps3
    go_wp2
    go_ret
    exact ⟨rfl, hB.toBelow⟩
  by_cases hz : (1048576 : Int) - (szA a : Int) < 0
  · have HZ := Aside0.mk hz
    have hdb : decide (1048576 < (data.length : Int)) = false := decide_eq_false (by omega)
    go_enter Tryz.func3, Tryz.ntmps3
    go_wp2_with (first
      | (go_at_call 5; refine (c_szArr (ArrR_below H.out (below_alloc (Below.refl _ _) _)) (by omega) (by omega)).mono ?_; rw [sub0_neg HZ.out]; rintro e w1 ⟨rfl, hb⟩; have HS1 := Aside0.mk (((Sep.start w []).alloc (g := w.heap.size) rfl #[.int .i64 a.id, .int .i64 a.gn, .int .i64 a.gs, vm, .int .i64 a.lost, .int .i64 a.built, .int .i64 a.seq, .int .i64 a.tail, .int .i64 a.gen, vd, .int .i64 a.fuse, .bool a.down, .bool a.broken] 27).below hb); clear hb)
      | fail)
    go_ret
    exact ⟨rfl, HS1.out.toBelow⟩
  · have HZ := Aside0.mk hz
    have hsm : SmallA a := smallA_of a (by omega)
    have HSm := Aside0.mk hsm
    have HTA := Aside0.mk (show totMS a.mems + totW a.dirty ≤ 1048576 by have := totA_sz a; omega)
    clear hsm
    obtain ⟨⟨r, rc⟩, hr⟩ : ∃ r, wrR a s data = r := ⟨_, rfl⟩
    have HRr := Aside0.mk hr
    clear hr
    have HTR := Aside0.mk (show totMS r.mems + totW r.dirty ≤ 1000000000000000 by have := wrR_tot a s data (by omega); rw [HRr.out] at this; have := HTA.out; have := HSm.out.1; simp only at *; omega)
    go_enter Tryz.func3, Tryz.ntmps3
    have hdb : decide (1048576 < (data.length : Int)) = false := decide_eq_false (by omega)
    go_upto_region 7 with (first
      | (go_at_call 5; refine (c_szArr (ArrR_below H.out (below_alloc (Below.refl _ _) _)) (by omega) (by omega)).mono ?_; rw [sub0_pos (by have := HZ.out; omega)]; rintro e w1 ⟨rfl, hb⟩; have HS1 := Aside0.mk (((Sep.start w []).alloc (g := w.heap.size) rfl #[.int .i64 a.id, .int .i64 a.gn, .int .i64 a.gs, vm, .int .i64 a.lost, .int .i64 a.built, .int .i64 a.seq, .int .i64 a.tail, .int .i64 a.gen, vd, .int .i64 a.fuse, .bool a.down, .bool a.broken] 27).below hb); clear hb)
      | fail)
    obtain ⟨a0_, a1_, a2_, a3_, a4_, a5_, a6_, a7_, a8_, a9_, a10_, a11_, a12_⟩ := thirteen (HS1.out.get 0 rfl)
    go_upto_region 8 with (first
      | (go_at_call 6; refine (c_specStripe (s := s) (ArrO_R (HS3.out.get 1 rfl)) HSm.out (O_RK (HS3.out.get 0 rfl)) (by omega)).mono ?_; rw [HRr.out]; rintro e w4 ⟨u4, F4, rfl, hn⟩; have HS4 := Aside0.mk (HS3.out.new hn); clear hn; obtain ⟨A4, p4, B4, q4, rfl⟩ := ar_form HS4.out; simp only [arrC] at *)
      | (go_at_call 8; refine (c_toIntS (HS2.out.rk HX.out) (by omega)).mono ?_; rintro e w3 ⟨u3, F3, rfl, ho, hf, hb⟩; obtain ⟨A3, c3, rfl, hz⟩ := O_reads ho; have HS3 := Aside0.mk (HS2.out.new (new_row ho hf hb)); clear ho hf hb hz)
      | (go_at_call 7; refine (c_toArr (ArrR_below H.out HS1.out.toBelow) HSm.out).mono ?_; rintro e w2 ⟨u2, Fu2, rfl, hn⟩; have HS2 := Aside0.mk (HS1.out.new hn); clear hn)
      | fail)
    clear HS2 HS3
    have hB := HS4.out.alloc (g := w4.heap.size) rfl #[.int .i64 r.id, .int .i64 r.gn, .int .i64 r.gs, .slice A4 r.mems.length p4, .int .i64 r.lost, .int .i64 r.built, .int .i64 r.seq, .int .i64 r.tail, .int .i64 r.gen, .slice B4 r.dirty.length q4, .int .i64 r.fuse, .bool r.down, .bool r.broken] 34
    generalize hgg : w4.heap.size = g5 at *
    generalize hww : w4.alloc (.cells #[.int .i64 r.id, .int .i64 r.gn, .int .i64 r.gs, .slice A4 r.mems.length p4, .int .i64 r.lost, .int .i64 r.built, .int .i64 r.seq, .int .i64 r.tail, .int .i64 r.gen, .slice B4 r.dirty.length q4, .int .i64 r.fuse, .bool r.down, .bool r.broken] 34 (0, 0)) = w5 at *
    have HS5 := Aside0.mk hB
    clear hB hgg hww HS4
    have hB := HS5.out.sel [0, 1, 4] (by decide) (by simp)
    simp only [List.map_cons, List.map_nil, pick, List.getD_cons_succ, List.getD_cons_zero, List.set_cons_zero, List.set_cons_succ, List.eraseIdx_cons_zero, List.eraseIdx_cons_succ, List.setIfInBounds_toArray] at hB
    have HS5b := Aside0.mk hB
    clear hB HS5
    clear a0_ a1_ a2_ a3_ a4_ a5_ a6_ a7_ a8_ a9_ a10_ a11_ a12_
    obtain ⟨a0_, a1_, a2_, a3_, a4_, a5_, a6_, a7_, a8_, a9_, a10_, a11_, a12_⟩ := thirteen (HS5b.out.get 2 rfl)
    go_upto_region 9 with (first
      | (go_at_call 7; refine (c_toArr (ArrR_below H.out HS5b.out.toBelow) HSm.out).mono ?_; rintro e w6 ⟨u6, Fu6, rfl, hn⟩; have HS6 := Aside0.mk (HS5b.out.new hn); clear hn; obtain ⟨A6, p6, B6, q6, rfl⟩ := ar_form HS6.out; simp only [arrC] at *)
      | fail)
    clear HS5b
    have hB := HS6.out.alloc (g := w6.heap.size) rfl #[.int .i64 a.id, .int .i64 a.gn, .int .i64 a.gs, .slice A6 a.mems.length p6, .int .i64 a.lost, .int .i64 a.built, .int .i64 a.seq, .int .i64 a.tail, .int .i64 a.gen, .slice B6 a.dirty.length q6, .int .i64 a.fuse, .bool a.down, .bool a.broken] 34
    generalize hgg : w6.heap.size = g7 at *
    generalize hww : w6.alloc (.cells #[.int .i64 a.id, .int .i64 a.gn, .int .i64 a.gs, .slice A6 a.mems.length p6, .int .i64 a.lost, .int .i64 a.built, .int .i64 a.seq, .int .i64 a.tail, .int .i64 a.gen, .slice B6 a.dirty.length q6, .int .i64 a.fuse, .bool a.down, .bool a.broken] 34 (0, 0)) = w7 at *
    have HS7 := Aside0.mk hB
    clear hB hgg hww HS6
    clear a0_ a1_ a2_ a3_ a4_ a5_ a6_ a7_ a8_ a9_ a10_ a11_ a12_
    go_upto_region 10 with (first
      | (go_at_call 8; refine (c_toIntS (HS7.out.rk HX.out) (by omega)).mono ?_; rintro e w8 ⟨u8, F8, rfl, ho, hf, hb⟩; obtain ⟨A8, c8, rfl, hz⟩ := O_reads ho; have HS8 := Aside0.mk (HS7.out.new (new_row ho hf hb)); clear ho hf hb hz)
      | fail)
    clear HS7
    obtain ⟨x0_, x1_, x2_, x3_, x4_, x5_, x6_, x7_, x8_, x9_, x10_, x11_, x12_⟩ := thirteen (HS8.out.get 1 rfl)
    go_upto_region 11 with (first
      | (go_at_call 9; refine (c_implStripe (s := s) (ArrO_R (HS8.out.get 2 rfl)) HSm.out (O_RK (HS8.out.get 0 rfl)) (by omega)).mono ?_; rw [HRr.out]; rintro e w9 ⟨u9, F9, rfl, hn⟩; have HS9 := Aside0.mk (HS8.out.new hn); clear hn; obtain ⟨A9, p9, B9, q9, rfl⟩ := ar_form HS9.out; simp only [arrC] at *)
      | fail)
    clear HS8
    clear x0_ x1_ x2_ x3_ x4_ x5_ x6_ x7_ x8_ x9_ x10_ x11_ x12_
    have hB := HS9.out.alloc (g := w9.heap.size) rfl #[.int .i64 r.id, .int .i64 r.gn, .int .i64 r.gs, .slice A9 r.mems.length p9, .int .i64 r.lost, .int .i64 r.built, .int .i64 r.seq, .int .i64 r.tail, .int .i64 r.gen, .slice B9 r.dirty.length q9, .int .i64 r.fuse, .bool r.down, .bool r.broken] 34
    generalize hgg : w9.heap.size = g10 at *
    generalize hww : w9.alloc (.cells #[.int .i64 r.id, .int .i64 r.gn, .int .i64 r.gs, .slice A9 r.mems.length p9, .int .i64 r.lost, .int .i64 r.built, .int .i64 r.seq, .int .i64 r.tail, .int .i64 r.gen, .slice B9 r.dirty.length q9, .int .i64 r.fuse, .bool r.down, .bool r.broken] 34 (0, 0)) = w10 at *
    have HS10 := Aside0.mk hB
    clear hB hgg hww HS9
    obtain ⟨g0_, g1_, g2_, g3_, g4_, g5_, g6_, g7_, g8_, g9_, g10_, g11_, g12_⟩ := thirteen (HS10.out.get 0 rfl)
    obtain ⟨v0_, v1_, v2_, v3_, v4_, v5_, v6_, v7_, v8_, v9_, v10_, v11_, v12_⟩ := thirteen (HS10.out.get 5 rfl)
    go_upto_region 13 with (first
      | (go_at_call 10; refine (c_eqArr (show ArrR _ _ r from ArrO_R (HS10.out.get 1 rfl)) (show ArrR _ _ r from ArrO_R (HS10.out.get 6 rfl))).mono ?_; rintro e w11 ⟨rfl, hb⟩; have HS11 := Aside0.mk (HS10.out.below hb); clear hb; clear g0_ g1_ g2_ g3_ g4_ g5_ g6_ g7_ g8_ g9_ g10_ g11_ g12_; clear v0_ v1_ v2_ v3_ v4_ v5_ v6_ v7_ v8_ v9_ v10_ v11_ v12_; obtain ⟨x0_, x1_, x2_, x3_, x4_, x5_, x6_, x7_, x8_, x9_, x10_, x11_, x12_⟩ := thirteen (HS11.out.get 3 rfl); obtain ⟨a0_, a1_, a2_, a3_, a4_, a5_, a6_, a7_, a8_, a9_, a10_, a11_, a12_⟩ := thirteen (HS11.out.get 7 rfl))
      | fail)
    clear HS10
    have HALL : ∀ w' : World, Below w11.heap.size w11 w' → (w'.cell? ⟨g7, 0, none⟩ = some (.int .i64 a.id) ∧ w'.cell? ⟨g7, 1, none⟩ = some (.int .i64 a.gn) ∧ w'.cell? ⟨g7, 2, none⟩ = some (.int .i64 a.gs) ∧ w'.cell? ⟨g7, 3, none⟩ = some (.slice A6 a.mems.length p6) ∧ w'.cell? ⟨g7, 4, none⟩ = some (.int .i64 a.lost) ∧ w'.cell? ⟨g7, 5, none⟩ = some (.int .i64 a.built) ∧ w'.cell? ⟨g7, 6, none⟩ = some (.int .i64 a.seq) ∧ w'.cell? ⟨g7, 7, none⟩ = some (.int .i64 a.tail) ∧ w'.cell? ⟨g7, 8, none⟩ = some (.int .i64 a.gen) ∧ w'.cell? ⟨g7, 9, none⟩ = some (.slice B6 a.dirty.length q6) ∧ w'.cell? ⟨g7, 10, none⟩ = some (.int .i64 a.fuse) ∧ w'.cell? ⟨g7, 11, none⟩ = some (.bool a.down) ∧ w'.cell? ⟨g7, 12, none⟩ = some (.bool a.broken) ∧ w'.cell? ⟨w.heap.size, 0, none⟩ = some (.int .i64 a.id) ∧ w'.cell? ⟨w.heap.size, 1, none⟩ = some (.int .i64 a.gn) ∧ w'.cell? ⟨w.heap.size, 2, none⟩ = some (.int .i64 a.gs) ∧ w'.cell? ⟨w.heap.size, 3, none⟩ = some (vm) ∧ w'.cell? ⟨w.heap.size, 4, none⟩ = some (.int .i64 a.lost) ∧ w'.cell? ⟨w.heap.size, 5, none⟩ = some (.int .i64 a.built) ∧ w'.cell? ⟨w.heap.size, 6, none⟩ = some (.int .i64 a.seq) ∧ w'.cell? ⟨w.heap.size, 7, none⟩ = some (.int .i64 a.tail) ∧ w'.cell? ⟨w.heap.size, 8, none⟩ = some (.int .i64 a.gen) ∧ w'.cell? ⟨w.heap.size, 9, none⟩ = some (vd) ∧ w'.cell? ⟨w.heap.size, 10, none⟩ = some (.int .i64 a.fuse) ∧ w'.cell? ⟨w.heap.size, 11, none⟩ = some (.bool a.down) ∧ w'.cell? ⟨w.heap.size, 12, none⟩ = some (.bool a.broken)) := fun w' hb => ⟨(hb.cell (lt_of_cell x0_)).trans x0_, (hb.cell (lt_of_cell x1_)).trans x1_, (hb.cell (lt_of_cell x2_)).trans x2_, (hb.cell (lt_of_cell x3_)).trans x3_, (hb.cell (lt_of_cell x4_)).trans x4_, (hb.cell (lt_of_cell x5_)).trans x5_, (hb.cell (lt_of_cell x6_)).trans x6_, (hb.cell (lt_of_cell x7_)).trans x7_, (hb.cell (lt_of_cell x8_)).trans x8_, (hb.cell (lt_of_cell x9_)).trans x9_, (hb.cell (lt_of_cell x10_)).trans x10_, (hb.cell (lt_of_cell x11_)).trans x11_, (hb.cell (lt_of_cell x12_)).trans x12_, (hb.cell (lt_of_cell a0_)).trans a0_, (hb.cell (lt_of_cell a1_)).trans a1_, (hb.cell (lt_of_cell a2_)).trans a2_, (hb.cell (lt_of_cell a3_)).trans a3_, (hb.cell (lt_of_cell a4_)).trans a4_, (hb.cell (lt_of_cell a5_)).trans a5_, (hb.cell (lt_of_cell a6_)).trans a6_, (hb.cell (lt_of_cell a7_)).trans a7_, (hb.cell (lt_of_cell a8_)).trans a8_, (hb.cell (lt_of_cell a9_)).trans a9_, (hb.cell (lt_of_cell a10_)).trans a10_, (hb.cell (lt_of_cell a11_)).trans a11_, (hb.cell (lt_of_cell a12_)).trans a12_⟩
    replace HALL := Aside0.mk HALL
    clear x0_ x1_ x2_ x3_ x4_ x5_ x6_ x7_ x8_ x9_ x10_ x11_ x12_
    clear a0_ a1_ a2_ a3_ a4_ a5_ a6_ a7_ a8_ a9_ a10_ a11_ a12_
    refine wp_region_seqp (fun w' => Below w11.heap.size w11 w') [] [(0, 1), (1, 1), (2, 0), (3, 0), (4, 2)] (by kernel_rfl) (by kernel_rfl) ?_
    have hS : Below w11.heap.size w11 w11.drew := Below.drew (Below.refl _ _)
    repeat ((first | (refine seqp_pure rfl (fun _ _ _ h => h) (by rfl) (fun w_ => by go_simp; first | done | with_reducible rfl) ?_) | (refine seqp_take hS rfl (fun _ _ _ h => h) (by rfl) (fun w_ hSw => by have hSc := HALL.out w_ hSw; clear hSw; go_simp; first | done | with_reducible rfl) ?_) | (refine seqp_skip2 rfl (fun _ _ _ h => h) (by rfl) ?_) | (refine seqp_skip1 hS rfl (fun _ _ _ h => h) (by rfl) ?_) | (refine seqp_skip0 rfl (by rfl) ?_)); (try simp only [Act.put, List.getElem_toArray, List.getElem_cons_succ, List.getElem_cons_zero, List.setIfInBounds_toArray, List.set_cons_zero, List.set_cons_succ]))
    refine seqp_step rfl (fun K hK => ?_)
    go_simp
    go_at_call 7; refine (c_toArr (ArrR_below H.out HS11.out.drew.toBelow) HSm.out).mono ?_; rintro e w12 ⟨u12, F12, rfl, hn⟩
    have HS12 := Aside0.mk (HS11.out.drew.new hn)
    have hb := hn.below
    clear hn
    replace hS := hS.trans (hb.mono hS.size); clear hb; refine hK.out _ _ ⟨fun _ _ => hS, ?_⟩; clear hK K; (try simp only [Act.put, List.getElem_toArray, List.getElem_cons_succ, List.getElem_cons_zero, List.setIfInBounds_toArray, List.set_cons_zero, List.set_cons_succ])
    refine seqp_step rfl (fun K hK => ?_)
    go_simp
    go_at_call 10; refine (c_eqArr (ArrO_R (HS12.out.get 5 rfl)) (ArrO_R (HS12.out.get 0 rfl))).mono ?_; rintro e w13 ⟨rfl, hb⟩
    have HS13 := Aside0.mk (HS12.out.below hb)
    replace hS := hS.trans (hb.mono hS.size); clear hb; refine hK.out _ _ ⟨fun _ _ => hS, ?_⟩; clear hK K; (try simp only [Act.put, List.getElem_toArray, List.getElem_cons_succ, List.getElem_cons_zero, List.setIfInBounds_toArray, List.set_cons_zero, List.set_cons_succ])
    repeat ((first | (refine seqp_pure rfl (fun _ _ _ h => h) (by rfl) (fun w_ => by go_simp; first | done | with_reducible rfl) ?_) | (refine seqp_take hS rfl (fun _ _ _ h => h) (by rfl) (fun w_ hSw => by have hSc := HALL.out w_ hSw; clear hSw; go_simp; first | done | with_reducible rfl) ?_) | (refine seqp_skip2 rfl (fun _ _ _ h => h) (by rfl) ?_) | (refine seqp_skip1 hS rfl (fun _ _ _ h => h) (by rfl) ?_) | (refine seqp_skip0 rfl (by rfl) ?_)); (try simp only [Act.put, List.getElem_toArray, List.getElem_cons_succ, List.getElem_cons_zero, List.setIfInBounds_toArray, List.set_cons_zero, List.set_cons_succ]))
    clear hS HALL
    refine seqp_done ?_
    clear HS11 HS12
    have hB := HS13.out.sel [1, 2, 3, 4, 5, 6, 7, 8] (by decide) (by simp)
    simp only [List.map_cons, List.map_nil, pick, List.getD_cons_succ, List.getD_cons_zero, List.set_cons_zero, List.set_cons_succ, List.eraseIdx_cons_zero, List.eraseIdx_cons_succ, List.setIfInBounds_toArray] at hB
    have HS14 := Aside0.mk hB
    clear hB HS13
    go_upto_region 17 with (first
      | (go_at_call 11; refine (c_eqIntS (O_RK (show oInt.O 3 _ F8 _ data from HS15.out.get 3 rfl)) (O_RK (show oInt.O 3 _ F15 _ data from HS15.out.get 0 rfl))).mono ?_; rw [decide_eq_true rfl]; rintro e w16 ⟨rfl, hb⟩; have HS16 := Aside0.mk (HS15.out.dr hb); clear hb; skip)
      | (go_at_call 8; refine (c_toIntS (HS14.out.rk HX.out) (by omega)).mono ?_; rintro e w15 ⟨u15, F15, rfl, ho, hf, hb⟩; obtain ⟨A15, c15, rfl, hz⟩ := O_reads ho; have HS15 := Aside0.mk (HS14.out.new (new_row ho hf hb)); clear ho hf hb hz)
      | fail)
    clear HS14 HS15
    have hB := HS16.out.sel [1, 2, 3, 4, 5, 6, 7, 8] (by decide) (by simp)
    simp only [List.map_cons, List.map_nil, pick, List.getD_cons_succ, List.getD_cons_zero, List.set_cons_zero, List.set_cons_succ, List.eraseIdx_cons_zero, List.eraseIdx_cons_succ, List.setIfInBounds_toArray] at hB
    have HS17 := Aside0.mk hB
    clear hB HS16
    obtain ⟨x0_, x1_, x2_, x3_, x4_, x5_, x6_, x7_, x8_, x9_, x10_, x11_, x12_⟩ := thirteen (HS17.out.get 3 rfl)
    go_upto_region 18 with fail
    go_upto_region 19 with (first
      | (go_at_call 12; refine (c_markArr (show ArrO _ _ _ a from HS17.out.get 4 rfl) (HS17.out.fnd 4 rfl) (by omega) (by have := HTA.out; omega)).mono ?_; rintro e w18 ⟨rfl, F18, hu⟩; have hB := HS17.out.upd (r := ar _ _ a) 4 rfl hu; simp only [List.map_cons, List.map_nil, pick, List.getD_cons_succ, List.getD_cons_zero, List.set_cons_zero, List.set_cons_succ, List.eraseIdx_cons_zero, List.eraseIdx_cons_succ, List.setIfInBounds_toArray] at hB; have HS18 := Aside0.mk hB; clear hB hu; clear x0_ x1_ x2_ x3_ x4_ x5_ x6_ x7_ x8_ x9_ x10_ x11_ x12_)
      | fail)
    clear HS17
    go_upto_region 20 with (first
      | (go_at_call 13; refine (c_markIntS (show oInt.O 3 _ F8 _ data from HS18.out.get 2 rfl) (by omega) (by have := HTA.out; omega)).mono ?_; rintro e w19 ⟨rfl, hu, hc⟩; have hB := Sep.row_upd HS18.out (d := oInt) (xs := data) 2 rfl hu hc; simp only [List.map_cons, List.map_nil, pick, List.getD_cons_succ, List.getD_cons_zero, List.set_cons_zero, List.set_cons_succ, List.eraseIdx_cons_zero, List.eraseIdx_cons_succ, List.setIfInBounds_toArray] at hB; have HS19 := Aside0.mk hB; clear hB hu hc; skip)
      | fail)
    clear HS18
    obtain ⟨g0_, g1_, g2_, g3_, g4_, g5_, g6_, g7_, g8_, g9_, g10_, g11_, g12_⟩ := thirteen (HS19.out.get 0 rfl)
    obtain ⟨v0_, v1_, v2_, v3_, v4_, v5_, v6_, v7_, v8_, v9_, v10_, v11_, v12_⟩ := thirteen (HS19.out.get 5 rfl)
    go_upto_region 22 with (first
      | (go_at_call 10; refine (c_eqArr (show ArrR _ _ r from ArrO_R (HS19.out.get 1 rfl)) (show ArrR _ _ r from ArrO_R (HS19.out.get 6 rfl))).mono ?_; rintro e w20 ⟨rfl, hb⟩; have HS20 := Aside0.mk (HS19.out.below hb); clear hb; clear g0_ g1_ g2_ g3_ g4_ g5_ g6_ g7_ g8_ g9_ g10_ g11_ g12_; clear v0_ v1_ v2_ v3_ v4_ v5_ v6_ v7_ v8_ v9_ v10_ v11_ v12_; obtain ⟨g0_, g1_, g2_, g3_, g4_, g5_, g6_, g7_, g8_, g9_, g10_, g11_, g12_⟩ := thirteen (HS20.out.get 0 rfl))
      | fail)
    clear HS19
    go_upto_region 24 with (first
      | (go_at_call 12; refine (c_markArr (show ArrO _ _ _ r from HS20.out.get 1 rfl) (HS20.out.fnd 1 rfl) (by omega) (by have := HTR.out; omega)).mono ?_; rintro e w21 ⟨rfl, F21, hu⟩; have hB := HS20.out.upd (r := ar _ _ r) 1 rfl hu; simp only [List.map_cons, List.map_nil, pick, List.getD_cons_succ, List.getD_cons_zero, List.set_cons_zero, List.set_cons_succ, List.eraseIdx_cons_zero, List.eraseIdx_cons_succ, List.setIfInBounds_toArray] at hB; have HS21 := Aside0.mk hB; clear hB hu; clear g0_ g1_ g2_ g3_ g4_ g5_ g6_ g7_ g8_ g9_ g10_ g11_ g12_; obtain ⟨g0_, g1_, g2_, g3_, g4_, g5_, g6_, g7_, g8_, g9_, g10_, g11_, g12_⟩ := thirteen (HS21.out.get 0 rfl))
      | fail)
    clear HS20
    go_upto_region 30 with (first
      | (go_at_call 14; refine (c_heldArr (ms := r.mems) (ds := r.dirty) (show ArrR _ _ (mkArr 1 r) from ArrO_R (HS21.out.get 1 rfl)) rfl rfl (by omega) (by have := HTR.out; omega)).mono ?_; rintro e w22 ⟨rfl, hb⟩; have HS22 := Aside0.mk (HS21.out.below hb); clear hb; clear g0_ g1_ g2_ g3_ g4_ g5_ g6_ g7_ g8_ g9_ g10_ g11_ g12_; obtain ⟨a0_, a1_, a2_, a3_, a4_, a5_, a6_, a7_, a8_, a9_, a10_, a11_, a12_⟩ := thirteen (HS22.out.get 7 rfl))
      | fail)
    clear HS21
    go_upto_region 31 with (first
      | (go_at_call 9; refine (c_implStripe (s := s) (ArrO_R (HS24.out.get 1 rfl)) HSm.out (O_RK (HS24.out.get 0 rfl)) (by omega)).mono ?_; rw [HRr.out]; rintro e w25 ⟨u25, F25, rfl, hn⟩; have HS25 := Aside0.mk (HS24.out.new hn); clear hn; obtain ⟨A25, p25, B25, q25, rfl⟩ := ar_form HS25.out; simp only [arrC] at *)
      | (go_at_call 8; refine (c_toIntS (HS23.out.rk HX.out) (by omega)).mono ?_; rintro e w24 ⟨u24, F24, rfl, ho, hf, hb⟩; obtain ⟨A24, c24, rfl, hz⟩ := O_reads ho; have HS24 := Aside0.mk (HS23.out.new (new_row ho hf hb)); clear ho hf hb hz)
      | (go_at_call 7; refine (c_toArr (ArrR_below H.out HS22.out.toBelow) HSm.out).mono ?_; rintro e w23 ⟨u23, Fu23, rfl, hn⟩; have HS23 := Aside0.mk (HS22.out.new hn); clear hn)
      | fail)
    clear HS22 HS23 HS24
    have hB := HS25.out.alloc (g := w25.heap.size) rfl #[.int .i64 r.id, .int .i64 r.gn, .int .i64 r.gs, .slice A25 r.mems.length p25, .int .i64 r.lost, .int .i64 r.built, .int .i64 r.seq, .int .i64 r.tail, .int .i64 r.gen, .slice B25 r.dirty.length q25, .int .i64 r.fuse, .bool r.down, .bool r.broken] 34
    generalize hgg : w25.heap.size = g26 at *
    generalize hww : w25.alloc (.cells #[.int .i64 r.id, .int .i64 r.gn, .int .i64 r.gs, .slice A25 r.mems.length p25, .int .i64 r.lost, .int .i64 r.built, .int .i64 r.seq, .int .i64 r.tail, .int .i64 r.gen, .slice B25 r.dirty.length q25, .int .i64 r.fuse, .bool r.down, .bool r.broken] 34 (0, 0)) = w26 at *
    have HS26 := Aside0.mk hB
    clear hB hgg hww HS25
    have hB := HS26.out.sel [0, 1, 4, 5, 6, 7, 8, 9, 10, 11] (by decide) (by simp)
    simp only [List.map_cons, List.map_nil, pick, List.getD_cons_succ, List.getD_cons_zero, List.set_cons_zero, List.set_cons_succ, List.eraseIdx_cons_zero, List.eraseIdx_cons_succ, List.setIfInBounds_toArray] at hB
    have HS27 := Aside0.mk hB
    clear hB HS26
    clear a0_ a1_ a2_ a3_ a4_ a5_ a6_ a7_ a8_ a9_ a10_ a11_ a12_
    obtain ⟨h0_, h1_, h2_, h3_, h4_, h5_, h6_, h7_, h8_, h9_, h10_, h11_, h12_⟩ := thirteen (HS27.out.get 0 rfl)
    obtain ⟨v0_, v1_, v2_, v3_, v4_, v5_, v6_, v7_, v8_, v9_, v10_, v11_, v12_⟩ := thirteen (HS27.out.get 7 rfl)
    go_upto_region 34 with (first
      | (go_at_call 10; refine (c_eqArr (show ArrR _ _ r from ArrO_R (HS27.out.get 1 rfl)) (show ArrR _ _ r from ArrO_R (HS27.out.get 8 rfl))).mono ?_; rintro e w28 ⟨rfl, hb⟩; have HS28 := Aside0.mk (HS27.out.below hb); clear hb; clear h0_ h1_ h2_ h3_ h4_ h5_ h6_ h7_ h8_ h9_ h10_ h11_ h12_; clear v0_ v1_ v2_ v3_ v4_ v5_ v6_ v7_ v8_ v9_ v10_ v11_ v12_; obtain ⟨g0_, g1_, g2_, g3_, g4_, g5_, g6_, g7_, g8_, g9_, g10_, g11_, g12_⟩ := thirteen (HS28.out.get 2 rfl))
      | fail)
    clear HS27
    go_wp2_with (first
      | (go_at_call 14; refine (c_heldArr (ms := r.mems) (ds := r.dirty) (show ArrR _ _ (mkArr 1 r) from ArrO_R (HS28.out.get 3 rfl)) rfl rfl (by omega) (by have := HTR.out; omega)).mono ?_; rintro e w29 ⟨rfl, hb⟩; have HS29 := Aside0.mk (HS28.out.below hb); clear hb; clear g0_ g1_ g2_ g3_ g4_ g5_ g6_ g7_ g8_ g9_ g10_ g11_ g12_)
      | fail)
    go_ret
    exact ⟨rfl, HS29.out.toBelow⟩
end Go.Proofs.YtggmifnblcjdfaaGreat.LawWriteStripe
