/- The law FnExactBestSuper: it returns true. -/
import Derived.Test.YtbejlccfclkiiaaLawLib
import Derived.Test.YtbejlccfclkiiaaMSuper
import Derived.Test.YtbejlccfclkiiaaMBest
import Derived.Test.YtbejlccfclkiiaaMSuperL
import Derived.Deep.DrawnRows
namespace Go.Proofs.Ytbejlccfclkiiaa.LawBestSuper
open Go.RowKit Go.Proofs.Ytbejlccfclkiiaa.RJ Go.Proofs.YtbejlccfclkiiaaW.PrintWords Go.Proofs.Ytbejlccfclkiiaa.Fp Go.Proofs.Ytbejlccfclkiiaa.MInt Go.Proofs.Ytbejlccfclkiiaa.MKinds Go.Proofs.Ytbejlccfclkiiaa.MRead Go.Proofs.Ytbejlccfclkiiaa.MMake Go.Proofs.Ytbejlccfclkiiaa.MPut Go.Proofs.Ytbejlccfclkiiaa.MHeld Go.Proofs.Ytbejlccfclkiiaa.MMark Go.Proofs.Ytbejlccfclkiiaa.MOk Go.Proofs.Ytbejlccfclkiiaa.MVal Go.Proofs.Ytbejlccfclkiiaa.Sep Go.Proofs.Ytbejlccfclkiiaa.SepStep Go.Proofs.Ytbejlccfclkiiaa.LawLib Go.Proofs.Ytbejlccfclkiiaa.MSuper Go.Proofs.Ytbejlccfclkiiaa.MBest Go.Proofs.Ytbejlccfclkiiaa.MSuperL
set_option linter.unusedVariables false
set_option linter.unusedSimpArgs false
attribute [local go_sem ↓] Go.wp_at_zero Go.wp_at_succ
set_option maxHeartbeats 8000000 in
set_option maxRecDepth 100000 in
theorem law_BestSuper {w : World} {v : Value} {m : MemV} {n : Int} (h : MemR w v m) : Calls Try.prog 9 #[v, .int .i64 n] w fun e w' => e = .returned (.bool true) ∧ Below w.heap.size w w' := by
  have H := Aside0.mk h
  obtain ⟨s, c, b, rfl, r1, r2, r3⟩ := h
  clear r1 r2 r3
  by_cases hz : (1048576 : Int) - (szM m : Int) < 0
  · go_enter Try.func9, Try.ntmps9
    go_wp2_with (first
      | (go_at_call 20; refine (c_szMem (MemR_below H.out (below_alloc (Below.refl _ _) _)) (by omega) (by omega)).mono ?_; rw [sub0_neg (by omega)]; rintro e w1 ⟨rfl, hb⟩; have HS1 := Aside0.mk (((Sep.start w []).alloc (g := w.heap.size) rfl #[s, c, .bool m.failed, b] 33).below hb); clear hb)
      | fail)
    go_ret
    exact ⟨rfl, HS1.out.toBelow⟩
  · have hsz : totM m ≤ 1048576 := by have := totM_szM m; omega
    have hsm : Small m := small_of m (by omega)
    have HSm := Aside0.mk hsm
    clear hsm
    go_enter Try.func9, Try.ntmps9
    go_upto_region 5 with (first
      | (go_at_call 20; refine (c_szMem (MemR_below H.out (below_alloc (Below.refl _ _) _)) (by omega) (by omega)).mono ?_; rw [sub0_pos (by omega)]; rintro e w1 ⟨rfl, hb⟩; have HS1 := Aside0.mk (((Sep.start w []).alloc (g := w.heap.size) rfl #[s, c, .bool m.failed, b] 33).below hb); clear hb)
      | fail)
    obtain ⟨a0_, a1_, a2_, a3_⟩ := four (HS1.out.get 0 rfl)
    go_upto_region 6 with (first
      | (go_at_call 22; refine (c_toMem (MemR_below H.out HS1.out.toBelow) HSm.out).mono ?_; rintro e w2 ⟨u2, F2, rfl, hu, hF, hb⟩; have HS2 := Aside0.mk (HS1.out.new (new_mem hu hF hb)); clear hu hF hb)
      | (go_at_call 36; refine (c_specBestSuper (MemO_R (HS2.out.get 0 rfl)) HSm.out).mono ?_; rintro e w3 ⟨rfl, hb⟩; simp only [supA]; have HS3 := Aside0.mk (HS2.out.below hb); clear hb)
      | fail)
    have hB := HS3.out.alloc (g := w3.heap.size) rfl #[.int .i64 (bestN m n 2).1.id, .int .i64 (bestN m n 2).1.gen, .int .i64 (bestN m n 2).1.role, .int .i64 (bestN m n 2).1.n, .int .i64 (bestN m n 2).1.st, .int .i64 (bestN m n 2).1.tail, .int .i64 (bestN m n 2).1.lost, .int .i64 (bestN m n 2).1.built] 49
    generalize hgg : w3.heap.size = g4 at *
    generalize hww : w3.alloc (.cells #[.int .i64 (bestN m n 2).1.id, .int .i64 (bestN m n 2).1.gen, .int .i64 (bestN m n 2).1.role, .int .i64 (bestN m n 2).1.n, .int .i64 (bestN m n 2).1.st, .int .i64 (bestN m n 2).1.tail, .int .i64 (bestN m n 2).1.lost, .int .i64 (bestN m n 2).1.built] 49 (0, 0)) = w4 at *
    have HS4 := Aside0.mk hB
    clear hB hgg hww
    have hB := HS4.out.sel [0, 2] (by decide) (by simp)
    simp only [List.map_cons, List.map_nil, pick, List.getD_cons_succ, List.getD_cons_zero, List.set_cons_zero, List.set_cons_succ, List.eraseIdx_cons_zero, List.eraseIdx_cons_succ, List.setIfInBounds_toArray] at hB
    have HS5 := Aside0.mk hB
    clear hB
    clear a0_ a1_ a2_ a3_; obtain ⟨a0_, a1_, a2_, a3_⟩ := four (HS5.out.get 1 rfl)
    go_upto_region 7 with (first
      | (go_at_call 22; refine (c_toMem (MemR_below H.out HS5.out.toBelow) HSm.out).mono ?_; rintro e w6 ⟨u6, F6, rfl, hu, hF, hb⟩; have HS6 := Aside0.mk (HS5.out.new (new_mem hu hF hb)); clear hu hF hb; obtain ⟨A6, p6, B6, q6, C6, r6, rfl⟩ := me_form HS6.out)
      | fail)
    have hB := HS6.out.alloc (g := w6.heap.size) rfl #[.slice A6 m.secs.length p6, .slice B6 m.cache.length q6, .bool m.failed, .slice C6 m.bad.length r6] 26
    generalize hgg : w6.heap.size = g7 at *
    generalize hww : w6.alloc (.cells #[.slice A6 m.secs.length p6, .slice B6 m.cache.length q6, .bool m.failed, .slice C6 m.bad.length r6] 26 (0, 0)) = w7 at *
    have HS7 := Aside0.mk hB
    clear hB hgg hww
    have hB := HS7.out.sel [0, 1, 2, 3] (by decide) (by simp)
    simp only [List.map_cons, List.map_nil, pick, List.getD_cons_succ, List.getD_cons_zero, List.set_cons_zero, List.set_cons_succ, List.eraseIdx_cons_zero, List.eraseIdx_cons_succ, List.setIfInBounds_toArray] at hB
    have HS8 := Aside0.mk hB
    clear hB
    clear a0_ a1_ a2_ a3_; obtain ⟨x00_, x01_, x02_, x03_⟩ := four (HS8.out.get 0 rfl)
    go_upto_region 8 with (first
      | (go_at_call 37; refine (c_implBestSuper (MemO_R (HS8.out.get 1 rfl)) HSm.out).mono ?_; rintro e w9 ⟨rfl, hb⟩; simp only [supA]; have HS9 := Aside0.mk (HS8.out.below hb); clear hb)
      | fail)
    have hB := HS9.out.alloc (g := w9.heap.size) rfl #[.int .i64 (bestN m n 2).1.id, .int .i64 (bestN m n 2).1.gen, .int .i64 (bestN m n 2).1.role, .int .i64 (bestN m n 2).1.n, .int .i64 (bestN m n 2).1.st, .int .i64 (bestN m n 2).1.tail, .int .i64 (bestN m n 2).1.lost, .int .i64 (bestN m n 2).1.built] 49
    generalize hgg : w9.heap.size = g10 at *
    generalize hww : w9.alloc (.cells #[.int .i64 (bestN m n 2).1.id, .int .i64 (bestN m n 2).1.gen, .int .i64 (bestN m n 2).1.role, .int .i64 (bestN m n 2).1.n, .int .i64 (bestN m n 2).1.st, .int .i64 (bestN m n 2).1.tail, .int .i64 (bestN m n 2).1.lost, .int .i64 (bestN m n 2).1.built] 49 (0, 0)) = w10 at *
    have HS10 := Aside0.mk hB
    clear hB hgg hww
    clear x00_ x01_ x02_ x03_
    obtain ⟨g00_, g01_, g02_, g03_, g04_, g05_, g06_, g07_⟩ := eight (HS10.out.get 0 rfl); obtain ⟨w00_, w01_, w02_, w03_, w04_, w05_, w06_, w07_⟩ := eight (HS10.out.get 3 rfl)
    go_upto_region 10 with (first
      | (go_at_call 38; refine (c_eqSuper _ _ _ _ _ _ _ _ _).mono ?_; rintro e w11 ⟨rfl, hb⟩; have HS11 := Aside0.mk (HS10.out.below hb); clear hb; clear g00_ g01_ g02_ g03_ g04_ g05_ g06_ g07_ w00_ w01_ w02_ w03_ w04_ w05_ w06_ w07_; obtain ⟨x00_, x01_, x02_, x03_⟩ := four (HS11.out.get 1 rfl); obtain ⟨a0_, a1_, a2_, a3_⟩ := four (HS11.out.get 4 rfl))
      | fail)
    go_wp2
    refine wp_region_seq (fun w' => w'.cell? ⟨g7, 0, none⟩ = some (.slice A6 m.secs.length p6) ∧ w'.cell? ⟨g7, 1, none⟩ = some (.slice B6 m.cache.length q6) ∧ w'.cell? ⟨g7, 2, none⟩ = some (.bool m.failed) ∧ w'.cell? ⟨g7, 3, none⟩ = some (.slice C6 m.bad.length r6) ∧ w'.cell? ⟨w.heap.size, 0, none⟩ = some (s) ∧ w'.cell? ⟨w.heap.size, 1, none⟩ = some (c) ∧ w'.cell? ⟨w.heap.size, 2, none⟩ = some (.bool m.failed) ∧ w'.cell? ⟨w.heap.size, 3, none⟩ = some (b)) [] [(0, true), (1, true), (2, false), (3, false), (4, true)] (by kernel_rfl) (by kernel_rfl) ?_
    have hS : (fun w' : World => w'.cell? ⟨g7, 0, none⟩ = some (.slice A6 m.secs.length p6) ∧ w'.cell? ⟨g7, 1, none⟩ = some (.slice B6 m.cache.length q6) ∧ w'.cell? ⟨g7, 2, none⟩ = some (.bool m.failed) ∧ w'.cell? ⟨g7, 3, none⟩ = some (.slice C6 m.bad.length r6) ∧ w'.cell? ⟨w.heap.size, 0, none⟩ = some (s) ∧ w'.cell? ⟨w.heap.size, 1, none⟩ = some (c) ∧ w'.cell? ⟨w.heap.size, 2, none⟩ = some (.bool m.failed) ∧ w'.cell? ⟨w.heap.size, 3, none⟩ = some (b)) w11.drew := ⟨x00_, x01_, x02_, x03_, a0_, a1_, a2_, a3_⟩
    iterate 2 (refine seq_take hS rfl (fun _ _ _ h => h) (by rfl) (fun w_ hSw => by (try dsimp only at hSw); go_simp; first | done | with_reducible rfl) ?_; (try simp only [Act.put, List.setIfInBounds_toArray, List.set_cons_zero, List.set_cons_succ]))
    refine seq_step rfl (fun K hK => ?_)
    go_simp
    go_at_call 22; refine (c_toMem (MemR_below H.out HS11.out.drew.toBelow) HSm.out).mono ?_; rintro e w12 ⟨u12, F12, rfl, hu, hF, hb⟩
    have HS12 := Aside0.mk (HS11.out.drew.new (new_mem hu hF hb))
    clear hu hF hb hS
    clear x00_ x01_ x02_ x03_ a0_ a1_ a2_ a3_; obtain ⟨x00_, x01_, x02_, x03_⟩ := four (HS12.out.get 2 rfl); obtain ⟨a0_, a1_, a2_, a3_⟩ := four (HS12.out.get 5 rfl)
    have hS : (fun w' : World => w'.cell? ⟨g7, 0, none⟩ = some (.slice A6 m.secs.length p6) ∧ w'.cell? ⟨g7, 1, none⟩ = some (.slice B6 m.cache.length q6) ∧ w'.cell? ⟨g7, 2, none⟩ = some (.bool m.failed) ∧ w'.cell? ⟨g7, 3, none⟩ = some (.slice C6 m.bad.length r6) ∧ w'.cell? ⟨w.heap.size, 0, none⟩ = some (s) ∧ w'.cell? ⟨w.heap.size, 1, none⟩ = some (c) ∧ w'.cell? ⟨w.heap.size, 2, none⟩ = some (.bool m.failed) ∧ w'.cell? ⟨w.heap.size, 3, none⟩ = some (b)) w12 := ⟨x00_, x01_, x02_, x03_, a0_, a1_, a2_, a3_⟩
    refine hK.out _ _ ⟨fun _ => hS, ?_⟩; clear hK K; (try simp only [Act.put, List.setIfInBounds_toArray, List.set_cons_zero, List.set_cons_succ])
    refine seq_step rfl (fun K hK => ?_)
    go_simp
    go_at_call 17; refine (c_eqMem (MemO_R (HS12.out.get 3 rfl)) (MemO_R (HS12.out.get 0 rfl))).mono ?_; rw [decide_eq_true rfl]; rintro e w13 ⟨rfl, hb⟩
    have HS13 := Aside0.mk (HS12.out.below hb)
    clear hb hS
    clear x00_ x01_ x02_ x03_ a0_ a1_ a2_ a3_; obtain ⟨x00_, x01_, x02_, x03_⟩ := four (HS13.out.get 2 rfl); obtain ⟨a0_, a1_, a2_, a3_⟩ := four (HS13.out.get 5 rfl)
    have hS : (fun w' : World => w'.cell? ⟨g7, 0, none⟩ = some (.slice A6 m.secs.length p6) ∧ w'.cell? ⟨g7, 1, none⟩ = some (.slice B6 m.cache.length q6) ∧ w'.cell? ⟨g7, 2, none⟩ = some (.bool m.failed) ∧ w'.cell? ⟨g7, 3, none⟩ = some (.slice C6 m.bad.length r6) ∧ w'.cell? ⟨w.heap.size, 0, none⟩ = some (s) ∧ w'.cell? ⟨w.heap.size, 1, none⟩ = some (c) ∧ w'.cell? ⟨w.heap.size, 2, none⟩ = some (.bool m.failed) ∧ w'.cell? ⟨w.heap.size, 3, none⟩ = some (b)) w13 := ⟨x00_, x01_, x02_, x03_, a0_, a1_, a2_, a3_⟩
    refine hK.out _ _ ⟨fun _ => hS, ?_⟩; clear hK K; (try simp only [Act.put, List.setIfInBounds_toArray, List.set_cons_zero, List.set_cons_succ])
    iterate 1 (refine seq_take hS rfl (fun _ _ _ h => h) (by rfl) (fun w_ hSw => by (try dsimp only at hSw); go_simp; first | done | with_reducible rfl) ?_; (try simp only [Act.put, List.setIfInBounds_toArray, List.set_cons_zero, List.set_cons_succ]))
    clear hS
    refine seq_done ?_
    go_wp2
    go_ret
    exact ⟨rfl, HS13.out.toBelow⟩
end Go.Proofs.Ytbejlccfclkiiaa.LawBestSuper
