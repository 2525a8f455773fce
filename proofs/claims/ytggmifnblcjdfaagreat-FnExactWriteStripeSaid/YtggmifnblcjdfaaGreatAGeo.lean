/- Where parities and blocks are, of both. Printed by mkadata.py. -/
import Derived.Test.YtggmifnblcjdfaaGreatAOkI
namespace Go.Proofs.YtggmifnblcjdfaaGreat.AGeo
open Go.RowKit Go.Proofs.YtggmifnblcjdfaaGreat.RJ Go.Proofs.YtggmifnblcjdfaaGreat.RP Go.Proofs.YtggmifnblcjdfaaGreatW.PrintWords Go.Proofs.YtggmifnblcjdfaaGreat.Fp Go.Proofs.YtggmifnblcjdfaaGreat.FpStep Go.Proofs.YtggmifnblcjdfaaGreat.MInt Go.Proofs.YtggmifnblcjdfaaGreat.MKinds Go.Proofs.YtggmifnblcjdfaaGreat.MRead Go.Proofs.YtggmifnblcjdfaaGreat.MMake Go.Proofs.YtggmifnblcjdfaaGreat.MPut Go.Proofs.YtggmifnblcjdfaaGreat.MHeld Go.Proofs.YtggmifnblcjdfaaGreat.MOk Go.Proofs.YtggmifnblcjdfaaGreat.MSuper Go.Proofs.YtggmifnblcjdfaaGreat.Sep Go.Proofs.YtggmifnblcjdfaaGreat.SepStep Go.Proofs.YtggmifnblcjdfaaGreat.AKinds Go.Proofs.YtggmifnblcjdfaaGreat.AMake Go.Proofs.YtggmifnblcjdfaaGreat.AEnt Go.Proofs.YtggmifnblcjdfaaGreat.ALaw Go.Proofs.YtggmifnblcjdfaaGreat.AArr Go.Proofs.YtggmifnblcjdfaaGreat.AOk Go.Proofs.YtggmifnblcjdfaaGreat.AOkD Go.Proofs.YtggmifnblcjdfaaGreat.AOkI
set_option linter.unusedVariables false
set_option linter.unusedSimpArgs false
def parN (n st : Int) : Int := n - 1 - st % n
def diskN (n st i : Int) : Int := (parN n st + 1 + i) % n
theorem parN_in {n st : Int} (hn : 3 ≤ n ∧ n ≤ 5) : 0 ≤ parN n st ∧ parN n st < n := by
  have h1 := Int.emod_nonneg st (b := n) (by omega)
  have h2 := Int.emod_lt_of_pos st (b := n) (by omega)
  unfold parN; omega
theorem diskN_in {n st i : Int} (hn : 3 ≤ n ∧ n ≤ 5) : 0 ≤ diskN n st i ∧ diskN n st i < n := ⟨Int.emod_nonneg _ (by omega), Int.emod_lt_of_pos _ (by omega)⟩
theorem c_l3Stripe (n s st : Int) (w : World) (hg : geoB n s = true) :
    Calls Tryz.prog 153 #[.agg #[.int .i64 n, .int .i64 s], .int .i64 st] w fun e w' => e = .returned (.bool (inR st 0 (s - 1))) ∧ Below w.heap.size w w' := by
  have hs : 1 ≤ s ∧ s ≤ 8 := by simp [geoB, inR] at hg; omega
  have ws : IntKind.i64.wrap (s - 1) = s - 1 := IntWalk.i64_in _ (by omega)
  have HG := Aside0.mk hg
  clear hs hg
  have H0 := Aside0.mk ((Sep.start w []).alloc (g := w.heap.size) rfl #[.int .i64 n, .int .i64 s] 30)
  go_enter Tryz.func153, Tryz.ntmps153
  go_wp2_with (first
    | (go_at_call 70; refine (c_l1In _ _ _ _).mono ?_; rintro e w2 ⟨rfl, hb⟩; have HS2 := Aside0.mk (HS1.out.dr hb); clear hb)
    | (go_at_call 104; refine (c_specGeoOk _ _ _).mono ?_; rw [HG.out]; rintro e w1 ⟨rfl, hb⟩; have HS1 := Aside0.mk (H0.out.below hb); clear hb; obtain ⟨k0, k1⟩ := two_cells (HS1.out.get 0 rfl))
    | fail)
  go_ret
  exact ⟨rfl, HS2.out.toBelow⟩
set_option maxHeartbeats 1000000 in
theorem c_implParityOf (n s st : Int) (w : World) (hg : geoB n s = true) (hi : inR st 0 (s - 1) = true) :
    Calls Tryz.prog 132 #[.agg #[.int .i64 n, .int .i64 s], .int .i64 st] w fun e w' => e = .returned (.int .i64 (parN n st)) ∧ Below w.heap.size w w' := by
  have hgn : 3 ≤ n ∧ n ≤ 5 := by simp [geoB, inR] at hg; omega
  have hst : 0 ≤ st := by simp [inR] at hi; omega
  have HG := Aside0.mk hg
  have HI := Aside0.mk hi
  have HS := Aside0.mk ((Sep.start w []).alloc (g := w.heap.size) rfl #[.int .i64 n, .int .i64 s] 30)
  obtain ⟨k0, k1⟩ := two_cells (HS.out.get 0 rfl)
  have hn0 : (n == 0) = false := by simp; omega
  have hnz : ¬ n = 0 := by omega
  have hm0 := Int.emod_nonneg st (b := n) (by omega)
  have hm1 := Int.emod_lt_of_pos st (b := n) (by omega)
  clear hg hi
  go_enter Tryz.func132, Tryz.ntmps132
  go_upto_region 3 with (first
    | (go_at_call 38; refine (c_hasStripe _ _ _ _ HG.out).mono ?_; rw [HI.out]; rintro e w1 ⟨rfl, hb⟩; have hs1 := HS.out.below hb; clear hb HS k0 k1; have HS := Aside0.mk hs1; clear hs1; obtain ⟨k0, k1⟩ := two_cells (HS.out.get 0 rfl))
    | fail)
  go_quiet (fail)
  go_wp2
  go_ret
  exact ⟨ret_int (by unfold parN; omega), (HS.out.drewN _).toBelow⟩
set_option maxHeartbeats 1000000 in
theorem c_implDiskOf (n s st i : Int) (w : World) (hg : geoB n s = true) (hi : inR st 0 (s - 1) = true) (hj : inR i 0 (n - 2) = true) :
    Calls Tryz.prog 133 #[.agg #[.int .i64 n, .int .i64 s], .int .i64 st, .int .i64 i] w fun e w' => e = .returned (.int .i64 (diskN n st i)) ∧ Below w.heap.size w w' := by
  have hgn : 3 ≤ n ∧ n ≤ 5 := by simp [geoB, inR] at hg; omega
  have hst : 0 ≤ st := by simp [inR] at hi; omega
  have HG := Aside0.mk hg
  have HI := Aside0.mk hi
  have HS := Aside0.mk ((Sep.start w []).alloc (g := w.heap.size) rfl #[.int .i64 n, .int .i64 s] 30)
  obtain ⟨k0, k1⟩ := two_cells (HS.out.get 0 rfl)
  have hn0 : (n == 0) = false := by simp; omega
  have hnz : ¬ n = 0 := by omega
  have hp := parN_in (st := st) hgn
  have hj2 : 0 ≤ i ∧ i ≤ n - 2 := by simp [inR] at hj; omega
  have HJ := Aside0.mk hj
  have wn : IntKind.i64.wrap (n - 2) = n - 2 := IntWalk.i64_in _ (by omega)
  have wn1 : IntKind.i64.wrap (parN n st + 1) = parN n st + 1 := IntWalk.i64_in _ (by omega)
  have wn2 : IntKind.i64.wrap (parN n st + 1 + i) = parN n st + 1 + i := IntWalk.i64_in _ (by omega)
  have hq : 0 ≤ parN n st + 1 + i := by omega
  clear hg hi hj
  go_enter Tryz.func133, Tryz.ntmps133
  go_upto_region 3 with (first
    | (go_at_call 38; refine (c_hasStripe _ _ _ _ HG.out).mono ?_; rw [HI.out]; rintro e w1 ⟨rfl, hb⟩; have hs1 := HS.out.below hb; clear hb HS k0 k1; have HS := Aside0.mk hs1; clear hs1; obtain ⟨k0, k1⟩ := two_cells (HS.out.get 0 rfl))
    | (go_at_call 78; refine (c_within _ _ _ _).mono ?_; rw [HJ.out]; rintro e w2 ⟨rfl, hb⟩; have hs1 := HS.out.dr hb; clear hb HS k0 k1; have HS := Aside0.mk hs1; clear hs1; obtain ⟨k0, k1⟩ := two_cells (HS.out.get 0 rfl))
    | fail)
  have HALL : ∀ w' : World, Below w2.heap.size w2 w' → (w'.cell? ⟨w.heap.size, 0, none⟩ = some (.int .i64 n) ∧ w'.cell? ⟨w.heap.size, 1, none⟩ = some (.int .i64 s)) := fun w' hb => ⟨(hb.cell (lt_of_cell k0)).trans k0, (hb.cell (lt_of_cell k1)).trans k1⟩
  replace HALL := Aside0.mk HALL
  clear k0 k1
  refine wp_region_seqp (fun w' => Below w2.heap.size w2 w') [] [(1, 2), (4, 2), (6, 2), (0, 1), (7, 1), (2, 0), (3, 2), (5, 2), (8, 2), (9, 0)] (by kernel_rfl) (by kernel_rfl) ?_
  have hS : Below w2.heap.size w2 w2.drew := Below.drew (Below.refl _ _)
  repeat ((first | (refine seqp_pure rfl (fun _ _ _ h => h) (by rfl) (fun w_ => by go_simp; first | done | with_reducible rfl) ?_) | (refine seqp_take hS rfl (fun _ _ _ h => h) (by rfl) (fun w_ hSw => by have hSc := HALL.out w_ hSw; clear hSw; go_simp; first | done | with_reducible rfl) ?_) | (refine seqp_skip2 rfl (fun _ _ _ h => h) (by rfl) ?_) | (refine seqp_skip1 hS rfl (fun _ _ _ h => h) (by rfl) ?_) | (refine seqp_skip0 rfl (by rfl) ?_)); (try simp only [Act.put, List.getElem_toArray, List.getElem_cons_succ, List.getElem_cons_zero, List.setIfInBounds_toArray, List.set_cons_zero, List.set_cons_succ]))
  refine seqp_step rfl (fun K hK => ?_)
  go_simp
  go_at_call 132; refine (c_implParityOf _ _ _ _ HG.out HI.out).mono ?_; rintro e w3 ⟨rfl, hb⟩
  replace hS := hS.trans (hb.mono hS.size); clear hb; refine hK.out _ _ ⟨fun _ _ => hS, ?_⟩; clear hK K; (try simp only [Act.put, List.getElem_toArray, List.getElem_cons_succ, List.getElem_cons_zero, List.setIfInBounds_toArray, List.set_cons_zero, List.set_cons_succ])
  repeat ((first | (refine seqp_pure rfl (fun _ _ _ h => h) (by rfl) (fun w_ => by go_simp; first | done | with_reducible rfl) ?_) | (refine seqp_take hS rfl (fun _ _ _ h => h) (by rfl) (fun w_ hSw => by have hSc := HALL.out w_ hSw; clear hSw; go_simp; first | done | with_reducible rfl) ?_) | (refine seqp_skip2 rfl (fun _ _ _ h => h) (by rfl) ?_) | (refine seqp_skip1 hS rfl (fun _ _ _ h => h) (by rfl) ?_) | (refine seqp_skip0 rfl (by rfl) ?_)); (try simp only [Act.put, List.getElem_toArray, List.getElem_cons_succ, List.getElem_cons_zero, List.setIfInBounds_toArray, List.set_cons_zero, List.set_cons_succ]))
  refine seqp_step rfl (fun K hK => ?_)
  go_simp
  refine hK.out _ _ ⟨fun _ _ => hS, ?_⟩; clear hK K; (try simp only [Act.put, List.getElem_toArray, List.getElem_cons_succ, List.getElem_cons_zero, List.setIfInBounds_toArray, List.set_cons_zero, List.set_cons_succ])
  refine seqp_done ?_
  go_wp2
  go_ret
  exact ⟨ret_int (by unfold diskN; first | rfl | exact (Int.tmod_eq_emod_of_nonneg hq)), (HS.out.below hS).toBelow⟩
set_option maxHeartbeats 1000000 in
theorem c_specParityOf (n s st : Int) (w : World) (hg : geoB n s = true) (hi : inR st 0 (s - 1) = true) :
    Calls Tryz.prog 120 #[.agg #[.int .i64 n, .int .i64 s], .int .i64 st] w fun e w' => e = .returned (.int .i64 (parN n st)) ∧ Below w.heap.size w w' := by
  have hgn : 3 ≤ n ∧ n ≤ 5 := by simp [geoB, inR] at hg; omega
  have hst : 0 ≤ st := by simp [inR] at hi; omega
  have HG := Aside0.mk hg
  have HI := Aside0.mk hi
  have HS := Aside0.mk ((Sep.start w []).alloc (g := w.heap.size) rfl #[.int .i64 n, .int .i64 s] 30)
  obtain ⟨k0, k1⟩ := two_cells (HS.out.get 0 rfl)
  have hn0 : (n == 0) = false := by simp; omega
  have hnz : ¬ n = 0 := by omega
  have hm0 := Int.emod_nonneg st (b := n) (by omega)
  have hm1 := Int.emod_lt_of_pos st (b := n) (by omega)
  clear hg hi
  go_enter Tryz.func120, Tryz.ntmps120
  go_upto_region 3 with (first
    | (go_at_call 153; refine (c_l3Stripe _ _ _ _ HG.out).mono ?_; rw [HI.out]; rintro e w1 ⟨rfl, hb⟩; have hs1 := HS.out.below hb; clear hb HS k0 k1; have HS := Aside0.mk hs1; clear hs1; obtain ⟨k0, k1⟩ := two_cells (HS.out.get 0 rfl))
    | fail)
  go_quiet (fail)
  go_wp2
  go_ret
  exact ⟨ret_int (by unfold parN; omega), (HS.out.drewN _).toBelow⟩
set_option maxHeartbeats 1000000 in
theorem c_specDiskOf (n s st i : Int) (w : World) (hg : geoB n s = true) (hi : inR st 0 (s - 1) = true) (hj : inR i 0 (n - 2) = true) :
    Calls Tryz.prog 183 #[.agg #[.int .i64 n, .int .i64 s], .int .i64 st, .int .i64 i] w fun e w' => e = .returned (.int .i64 (diskN n st i)) ∧ Below w.heap.size w w' := by
  have hgn : 3 ≤ n ∧ n ≤ 5 := by simp [geoB, inR] at hg; omega
  have hst : 0 ≤ st := by simp [inR] at hi; omega
  have HG := Aside0.mk hg
  have HI := Aside0.mk hi
  have HS := Aside0.mk ((Sep.start w []).alloc (g := w.heap.size) rfl #[.int .i64 n, .int .i64 s] 30)
  obtain ⟨k0, k1⟩ := two_cells (HS.out.get 0 rfl)
  have hn0 : (n == 0) = false := by simp; omega
  have hnz : ¬ n = 0 := by omega
  have hp := parN_in (st := st) hgn
  have hj2 : 0 ≤ i ∧ i ≤ n - 2 := by simp [inR] at hj; omega
  have HJ := Aside0.mk hj
  have wn : IntKind.i64.wrap (n - 2) = n - 2 := IntWalk.i64_in _ (by omega)
  have wn1 : IntKind.i64.wrap (parN n st + 1) = parN n st + 1 := IntWalk.i64_in _ (by omega)
  have wn2 : IntKind.i64.wrap (parN n st + 1 + i) = parN n st + 1 + i := IntWalk.i64_in _ (by omega)
  have hq : 0 ≤ parN n st + 1 + i := by omega
  clear hg hi hj
  go_enter Tryz.func183, Tryz.ntmps183
  go_upto_region 3 with (first
    | (go_at_call 153; refine (c_l3Stripe _ _ _ _ HG.out).mono ?_; rw [HI.out]; rintro e w1 ⟨rfl, hb⟩; have hs1 := HS.out.below hb; clear hb HS k0 k1; have HS := Aside0.mk hs1; clear hs1; obtain ⟨k0, k1⟩ := two_cells (HS.out.get 0 rfl))
    | (go_at_call 70; refine (c_l1In _ _ _ _).mono ?_; rw [HJ.out]; rintro e w2 ⟨rfl, hb⟩; have hs1 := HS.out.dr hb; clear hb HS k0 k1; have HS := Aside0.mk hs1; clear hs1; obtain ⟨k0, k1⟩ := two_cells (HS.out.get 0 rfl))
    | fail)
  have HALL : ∀ w' : World, Below w2.heap.size w2 w' → (w'.cell? ⟨w.heap.size, 0, none⟩ = some (.int .i64 n) ∧ w'.cell? ⟨w.heap.size, 1, none⟩ = some (.int .i64 s)) := fun w' hb => ⟨(hb.cell (lt_of_cell k0)).trans k0, (hb.cell (lt_of_cell k1)).trans k1⟩
  replace HALL := Aside0.mk HALL
  clear k0 k1
  refine wp_region_seqp (fun w' => Below w2.heap.size w2 w') [] [(1, 2), (4, 2), (6, 2), (0, 1), (7, 1), (2, 0), (3, 2), (5, 2), (8, 2), (9, 0)] (by kernel_rfl) (by kernel_rfl) ?_
  have hS : Below w2.heap.size w2 w2.drew := Below.drew (Below.refl _ _)
  repeat ((first | (refine seqp_pure rfl (fun _ _ _ h => h) (by rfl) (fun w_ => by go_simp; first | done | with_reducible rfl) ?_) | (refine seqp_take hS rfl (fun _ _ _ h => h) (by rfl) (fun w_ hSw => by have hSc := HALL.out w_ hSw; clear hSw; go_simp; first | done | with_reducible rfl) ?_) | (refine seqp_skip2 rfl (fun _ _ _ h => h) (by rfl) ?_) | (refine seqp_skip1 hS rfl (fun _ _ _ h => h) (by rfl) ?_) | (refine seqp_skip0 rfl (by rfl) ?_)); (try simp only [Act.put, List.getElem_toArray, List.getElem_cons_succ, List.getElem_cons_zero, List.setIfInBounds_toArray, List.set_cons_zero, List.set_cons_succ]))
  refine seqp_step rfl (fun K hK => ?_)
  go_simp
  go_at_call 120; refine (c_specParityOf _ _ _ _ HG.out HI.out).mono ?_; rintro e w3 ⟨rfl, hb⟩
  replace hS := hS.trans (hb.mono hS.size); clear hb; refine hK.out _ _ ⟨fun _ _ => hS, ?_⟩; clear hK K; (try simp only [Act.put, List.getElem_toArray, List.getElem_cons_succ, List.getElem_cons_zero, List.setIfInBounds_toArray, List.set_cons_zero, List.set_cons_succ])
  repeat ((first | (refine seqp_pure rfl (fun _ _ _ h => h) (by rfl) (fun w_ => by go_simp; first | done | with_reducible rfl) ?_) | (refine seqp_take hS rfl (fun _ _ _ h => h) (by rfl) (fun w_ hSw => by have hSc := HALL.out w_ hSw; clear hSw; go_simp; first | done | with_reducible rfl) ?_) | (refine seqp_skip2 rfl (fun _ _ _ h => h) (by rfl) ?_) | (refine seqp_skip1 hS rfl (fun _ _ _ h => h) (by rfl) ?_) | (refine seqp_skip0 rfl (by rfl) ?_)); (try simp only [Act.put, List.getElem_toArray, List.getElem_cons_succ, List.getElem_cons_zero, List.setIfInBounds_toArray, List.set_cons_zero, List.set_cons_succ]))
  refine seqp_step rfl (fun K hK => ?_)
  go_simp
  refine hK.out _ _ ⟨fun _ _ => hS, ?_⟩; clear hK K; (try simp only [Act.put, List.getElem_toArray, List.getElem_cons_succ, List.getElem_cons_zero, List.setIfInBounds_toArray, List.set_cons_zero, List.set_cons_succ])
  refine seqp_done ?_
  go_wp2
  go_ret
  exact ⟨ret_int (by unfold diskN; first | rfl | exact (Int.tmod_eq_emod_of_nonneg hq)), (HS.out.below hS).toBelow⟩
end Go.Proofs.YtggmifnblcjdfaaGreat.AGeo
