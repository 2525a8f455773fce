/- The law FnExactArrNew: it returns true. Printed by mkanewl.py. -/
import Derived.Test.YtggmifnblcjdfaaANewS
import Derived.Test.YtggmifnblcjdfaaANewI
import Derived.Test.YtggmifnblcjdfaaALawLib
import Derived.Deep.DrawnRows
namespace Go.Proofs.Ytggmifnblcjdfaa.LawArrNew
open Go.RowKit Go.Proofs.Ytggmifnblcjdfaa.RJ Go.Proofs.Ytggmifnblcjdfaa.RP Go.Proofs.YtggmifnblcjdfaaW.PrintWords Go.Proofs.Ytggmifnblcjdfaa.Fp Go.Proofs.Ytggmifnblcjdfaa.FpStep Go.Proofs.Ytggmifnblcjdfaa.MInt Go.Proofs.Ytggmifnblcjdfaa.MKinds Go.Proofs.Ytggmifnblcjdfaa.MRead Go.Proofs.Ytggmifnblcjdfaa.MMake Go.Proofs.Ytggmifnblcjdfaa.MPut Go.Proofs.Ytggmifnblcjdfaa.MHeld Go.Proofs.Ytggmifnblcjdfaa.MOk Go.Proofs.Ytggmifnblcjdfaa.MSuper Go.Proofs.Ytggmifnblcjdfaa.Sep Go.Proofs.Ytggmifnblcjdfaa.SepStep Go.Proofs.Ytggmifnblcjdfaa.AKinds Go.Proofs.Ytggmifnblcjdfaa.AMake Go.Proofs.Ytggmifnblcjdfaa.AEnt Go.Proofs.Ytggmifnblcjdfaa.ALaw Go.Proofs.Ytggmifnblcjdfaa.AArr Go.Proofs.Ytggmifnblcjdfaa.AOk Go.Proofs.Ytggmifnblcjdfaa.LawLib Go.Proofs.Ytggmifnblcjdfaa.ALawLib Go.Proofs.Ytggmifnblcjdfaa.MVal Go.Proofs.Ytggmifnblcjdfaa.MWSuper Go.Proofs.Ytggmifnblcjdfaa.AXor Go.Proofs.Ytggmifnblcjdfaa.AHole Go.Proofs.Ytggmifnblcjdfaa.AMark Go.Proofs.Ytggmifnblcjdfaa.AOpV Go.Proofs.Ytggmifnblcjdfaa.ANewV Go.Proofs.Ytggmifnblcjdfaa.ANewS Go.Proofs.Ytggmifnblcjdfaa.ANewI Go.Proofs.Ytggmifnblcjdfaa.ABox
set_option linter.unusedVariables false
set_option linter.unusedSimpArgs false
theorem wsup_tot (m : MemV) (s : SupV) : totM (wsupV m s) ≤ totM m + 10 := by
  unfold wsupV
  split
  · have h1 := writeV_tot (m := m) (n := s.gen % 2) (xs := putSup s)
    have h2 := putSup_len s
    omega
  · omega
theorem dskI_tot (id n s : Int) (m : Nat) : ∀ j, totM (dskI id n s m j) ≤ 4194314 + j * 2
  | 0 => by have h1 := wsup_tot (newV (6 + s)) (supN id n s m); have h2 := newV_tot (6 + s); rw [dskI]; omega
  | j + 1 => by
    have h1 := dskI_tot id n s m j
    have h2 := writeV_tot (m := dskI id n s m j) (n := dataV (j : Int)) (xs := [0])
    simp only [List.length_singleton] at h2
    rw [dskI]; omega
theorem memsN_tot {id n s : Int} (hg : geoB n s = true) (hi : inR id 1 60000 = true) : ∀ i : Nat, (i : Int) ≤ n → totMS (memsN id n s i) ≤ i * 4194400
  | 0, _ => by simp [memsN, totMS]
  | i + 1, h => by
    have ih := memsN_tot hg hi i (by omega)
    have h1 := dskI_tot id n s i s.toNat
    have h2 := flushV_tot (dskI id n s i s.toNat)
    rw [flush_dsk hg hi (by omega)] at h2
    have h3 : s ≤ 8 := by simp [geoB, inR] at hg; omega
    have h4 : ∀ (l : List MemV) (x : MemV), totMS (l ++ [x]) = totMS l + tot1 x := by
      intro l x
      induction l with
      | nil => simp [totMS]
      | cons y l ih => rw [List.cons_append, totMS, ih, totMS]; omega
    rw [memsN_succ, h4, tot1_eq]; omega
theorem newR_tot (id n s : Int) : totMS (newR id n s).mems + totW (newR id n s).dirty ≤ 1000000000 := by
  unfold newR
  split
  · rename_i h
    unfold newOk at h
    rw [Bool.and_eq_true] at h
    have h5 : n ≤ 5 ∧ 3 ≤ n := by have := h.1; simp [geoB, inR] at this; omega
    have h1 := memsN_tot h.1 h.2 n.toNat (by omega)
    have h2 : n.toNat ≤ 5 := by omega
    show totMS (memsN id n s n.toNat) + totW [] ≤ _
    simp only [totW]
    omega
  · simp [zeroA, totMS, totW]
set_option maxHeartbeats 8000000 in
set_option maxRecDepth 100000 in
theorem law_ArrNew {w : World} {id n s : Int} : Calls Try.prog 5 #[.int .i64 id, .agg #[.int .i64 n, .int .i64 s]] w fun e w' => e = .returned (.bool true) ∧ Below w.heap.size w w' := by
  have HS0 := Aside0.mk ((Sep.start w []).alloc (g := w.heap.size) rfl #[.int .i64 n, .int .i64 s] 23)
  obtain ⟨e0, e1⟩ := pair2 (HS0.out.get 0 rfl)
  obtain ⟨r, hr⟩ : ∃ r, newR id n s = r := ⟨_, rfl⟩
  have HRr := Aside0.mk hr
  have HTR := Aside0.mk (show totMS r.mems + totW r.dirty ≤ 1000000000 by rw [← hr]; exact newR_tot _ _ _)
  clear hr
  go_enter Try.func5, Try.ntmps5
  go_upto_region 2 with (first
    | (go_at_call 18; refine (c_specArrNew id n s _).mono ?_; rw [HRr.out]; rintro e w2 ⟨u2, F2, rfl, hn⟩; have HS2 := Aside0.mk (HS1.out.new hn); clear hn; obtain ⟨A2, p2, B2, q2, rfl⟩ := ar_form HS2.out; simp only [arrC] at *)
    | (go_at_call 19; refine (c_toGeo _ _).mono ?_; rintro e w1 ⟨rfl, hb⟩; have HS1 := Aside0.mk (HS0.out.below hb); clear hb e0 e1; obtain ⟨e0, e1⟩ := pair2 (HS1.out.get 0 rfl))
    | fail)
  clear HS0 HS1
  have hB := HS2.out.alloc (g := w2.heap.size) rfl #[.int .i64 r.id, .int .i64 r.gn, .int .i64 r.gs, .slice A2 r.mems.length p2, .int .i64 r.lost, .int .i64 r.built, .int .i64 r.seq, .int .i64 r.tail, .int .i64 r.gen, .slice B2 r.dirty.length q2, .int .i64 r.fuse, .bool r.down, .bool r.broken] 34
  generalize hgg : w2.heap.size = g3 at *
  generalize hww : w2.alloc (.cells #[.int .i64 r.id, .int .i64 r.gn, .int .i64 r.gs, .slice A2 r.mems.length p2, .int .i64 r.lost, .int .i64 r.built, .int .i64 r.seq, .int .i64 r.tail, .int .i64 r.gen, .slice B2 r.dirty.length q2, .int .i64 r.fuse, .bool r.down, .bool r.broken] 34 (0, 0)) = w3 at *
  have HS3 := Aside0.mk hB
  clear hB hgg hww HS2
  clear e0 e1
  obtain ⟨e0, e1⟩ := pair2 (HS3.out.get 2 rfl)
  go_upto_region 3 with (first
    | (go_at_call 20; refine (c_implArrNew id n s _).mono ?_; rw [HRr.out]; rintro e w5 ⟨u5, F5, rfl, hn⟩; have HS5 := Aside0.mk (HS4.out.new hn); clear hn; obtain ⟨A5, p5, B5, q5, rfl⟩ := ar_form HS5.out; simp only [arrC] at *)
    | (go_at_call 19; refine (c_toGeo _ _).mono ?_; rintro e w4 ⟨rfl, hb⟩; have HS4 := Aside0.mk (HS3.out.below hb); clear hb e0 e1; obtain ⟨e0, e1⟩ := pair2 (HS4.out.get 2 rfl))
    | fail)
  clear HS3 HS4
  have hB := HS5.out.alloc (g := w5.heap.size) rfl #[.int .i64 r.id, .int .i64 r.gn, .int .i64 r.gs, .slice A5 r.mems.length p5, .int .i64 r.lost, .int .i64 r.built, .int .i64 r.seq, .int .i64 r.tail, .int .i64 r.gen, .slice B5 r.dirty.length q5, .int .i64 r.fuse, .bool r.down, .bool r.broken] 34
  generalize hgg : w5.heap.size = g6 at *
  generalize hww : w5.alloc (.cells #[.int .i64 r.id, .int .i64 r.gn, .int .i64 r.gs, .slice A5 r.mems.length p5, .int .i64 r.lost, .int .i64 r.built, .int .i64 r.seq, .int .i64 r.tail, .int .i64 r.gen, .slice B5 r.dirty.length q5, .int .i64 r.fuse, .bool r.down, .bool r.broken] 34 (0, 0)) = w6 at *
  have HS6 := Aside0.mk hB
  clear hB hgg hww HS5
  clear e0 e1
  obtain ⟨g0_, g1_, g2_, g3_, g4_, g5_, g6_, g7_, g8_, g9_, g10_, g11_, g12_⟩ := thirteen (HS6.out.get 0 rfl)
  obtain ⟨v0_, v1_, v2_, v3_, v4_, v5_, v6_, v7_, v8_, v9_, v10_, v11_, v12_⟩ := thirteen (HS6.out.get 2 rfl)
  go_upto_region 6 with (first
    | (go_at_call 15; refine (c_eqArr (show ArrR _ _ r from ArrO_R (HS6.out.get 1 rfl)) (show ArrR _ _ r from ArrO_R (HS6.out.get 3 rfl))).mono ?_; rintro e w7 ⟨rfl, hb⟩; have HS7 := Aside0.mk (HS6.out.below hb); clear hb; clear g0_ g1_ g2_ g3_ g4_ g5_ g6_ g7_ g8_ g9_ g10_ g11_ g12_; clear v0_ v1_ v2_ v3_ v4_ v5_ v6_ v7_ v8_ v9_ v10_ v11_ v12_; obtain ⟨g0_, g1_, g2_, g3_, g4_, g5_, g6_, g7_, g8_, g9_, g10_, g11_, g12_⟩ := thirteen (HS7.out.get 0 rfl))
    | fail)
  clear HS6
  go_upto_region 8 with (first
    | (go_at_call 21; refine (c_markArr (show ArrO _ _ _ r from HS7.out.get 1 rfl) (HS7.out.fnd 1 rfl) (by omega) (by have := HTR.out; omega)).mono ?_; rintro e w8 ⟨rfl, F8, hu⟩; have hB := HS7.out.upd (r := ar _ _ r) 1 rfl hu; simp only [List.map_cons, List.map_nil, pick, List.getD_cons_succ, List.getD_cons_zero, List.set_cons_zero, List.set_cons_succ, List.eraseIdx_cons_zero, List.eraseIdx_cons_succ, List.setIfInBounds_toArray] at hB; have HS8 := Aside0.mk hB; clear hB hu; clear g0_ g1_ g2_ g3_ g4_ g5_ g6_ g7_ g8_ g9_ g10_ g11_ g12_; obtain ⟨g0_, g1_, g2_, g3_, g4_, g5_, g6_, g7_, g8_, g9_, g10_, g11_, g12_⟩ := thirteen (HS8.out.get 0 rfl))
    | fail)
  clear HS7
  go_upto_region 13 with (first
    | (go_at_call 22; refine (c_heldArr (ms := r.mems) (ds := r.dirty) (show ArrR _ _ (mkArr 1 r) from ArrO_R (HS8.out.get 1 rfl)) rfl rfl (by omega) (by have := HTR.out; omega)).mono ?_; rintro e w9 ⟨rfl, hb⟩; have HS9 := Aside0.mk (HS8.out.below hb); clear hb; clear g0_ g1_ g2_ g3_ g4_ g5_ g6_ g7_ g8_ g9_ g10_ g11_ g12_; obtain ⟨e0, e1⟩ := pair2 (HS9.out.get 4 rfl))
    | fail)
  clear HS8
  go_upto_region 14 with (first
    | (go_at_call 20; refine (c_implArrNew id n s _).mono ?_; rw [HRr.out]; rintro e w11 ⟨u11, F11, rfl, hn⟩; have HS11 := Aside0.mk (HS10.out.new hn); clear hn; obtain ⟨A11, p11, B11, q11, rfl⟩ := ar_form HS11.out; simp only [arrC] at *)
    | (go_at_call 19; refine (c_toGeo _ _).mono ?_; rintro e w10 ⟨rfl, hb⟩; have HS10 := Aside0.mk (HS9.out.below hb); clear hb e0 e1; obtain ⟨e0, e1⟩ := pair2 (HS10.out.get 4 rfl))
    | fail)
  clear HS9 HS10
  have hB := HS11.out.alloc (g := w11.heap.size) rfl #[.int .i64 r.id, .int .i64 r.gn, .int .i64 r.gs, .slice A11 r.mems.length p11, .int .i64 r.lost, .int .i64 r.built, .int .i64 r.seq, .int .i64 r.tail, .int .i64 r.gen, .slice B11 r.dirty.length q11, .int .i64 r.fuse, .bool r.down, .bool r.broken] 34
  generalize hgg : w11.heap.size = g12 at *
  generalize hww : w11.alloc (.cells #[.int .i64 r.id, .int .i64 r.gn, .int .i64 r.gs, .slice A11 r.mems.length p11, .int .i64 r.lost, .int .i64 r.built, .int .i64 r.seq, .int .i64 r.tail, .int .i64 r.gen, .slice B11 r.dirty.length q11, .int .i64 r.fuse, .bool r.down, .bool r.broken] 34 (0, 0)) = w12 at *
  have HS12 := Aside0.mk hB
  clear hB hgg hww HS11
  clear e0 e1
  obtain ⟨h0_, h1_, h2_, h3_, h4_, h5_, h6_, h7_, h8_, h9_, h10_, h11_, h12_⟩ := thirteen (HS12.out.get 0 rfl)
  obtain ⟨v0_, v1_, v2_, v3_, v4_, v5_, v6_, v7_, v8_, v9_, v10_, v11_, v12_⟩ := thirteen (HS12.out.get 4 rfl)
  go_upto_region 17 with (first
    | (go_at_call 15; refine (c_eqArr (show ArrR _ _ r from ArrO_R (HS12.out.get 1 rfl)) (show ArrR _ _ r from ArrO_R (HS12.out.get 5 rfl))).mono ?_; rintro e w13 ⟨rfl, hb⟩; have HS13 := Aside0.mk (HS12.out.below hb); clear hb; clear h0_ h1_ h2_ h3_ h4_ h5_ h6_ h7_ h8_ h9_ h10_ h11_ h12_; clear v0_ v1_ v2_ v3_ v4_ v5_ v6_ v7_ v8_ v9_ v10_ v11_ v12_; obtain ⟨g0_, g1_, g2_, g3_, g4_, g5_, g6_, g7_, g8_, g9_, g10_, g11_, g12_⟩ := thirteen (HS13.out.get 2 rfl))
    | fail)
  clear HS12
  go_wp2_with (first
    | (go_at_call 22; refine (c_heldArr (ms := r.mems) (ds := r.dirty) (show ArrR _ _ (mkArr 1 r) from ArrO_R (HS13.out.get 3 rfl)) rfl rfl (by omega) (by have := HTR.out; omega)).mono ?_; rintro e w14 ⟨rfl, hb⟩; have HS14 := Aside0.mk (HS13.out.below hb); clear hb; clear g0_ g1_ g2_ g3_ g4_ g5_ g6_ g7_ g8_ g9_ g10_ g11_ g12_)
    | fail)
  go_ret
  exact ⟨rfl, HS14.out.toBelow⟩
end Go.Proofs.Ytggmifnblcjdfaa.LawArrNew
