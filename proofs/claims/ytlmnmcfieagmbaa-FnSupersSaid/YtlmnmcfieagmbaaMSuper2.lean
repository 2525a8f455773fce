/- GetSuper, of both. -/
import Derived.Test.YtlmnmcfieagmbaaMSuper
namespace Go.Proofs.Ytlmnmcfieagmbaa.MSuper
open Go.RowKit Go.Proofs.Ytlmnmcfieagmbaa.RJ Go.Proofs.YtlmnmcfieagmbaaW.PrintWords Go.Proofs.Ytlmnmcfieagmbaa.Fp Go.Proofs.Ytlmnmcfieagmbaa.FpStep Go.Proofs.Ytlmnmcfieagmbaa.MInt Go.Proofs.Ytlmnmcfieagmbaa.MKinds Go.Proofs.Ytlmnmcfieagmbaa.MRead Go.Proofs.Ytlmnmcfieagmbaa.MMake Go.Proofs.Ytlmnmcfieagmbaa.MPut Go.Proofs.Ytlmnmcfieagmbaa.MVal Go.Proofs.Ytlmnmcfieagmbaa.Sep Go.Proofs.Ytlmnmcfieagmbaa.SepStep Go.Proofs.Ytlmnmcfieagmbaa.MReadS
set_option linter.unusedVariables false
set_option linter.unusedSimpArgs false
attribute [local go_sem ↓] Go.wp_at_zero Go.wp_at_succ
def ofL (l : List Int) : SupV := ⟨l.getD 1 0, l.getD 2 0, l.getD 3 0, l.getD 4 0, l.getD 5 0, l.getD 6 0, IntKind.i64.wrap (l.getD 7 0 - 1), l.getD 8 0⟩
def getB (l : List Int) : Bool := decide (l.length = 9) && (l.getD 0 0 == 21317 && supB (ofL l))
def getS (l : List Int) : SupV := if getB l then ofL l else sup0
theorem nine {l : List Int} (h : l.length = 9) : ∃ a0 a1 a2 a3 a4 a5 a6 a7 a8, l = [a0, a1, a2, a3, a4, a5, a6, a7, a8] := by
  match l, h with
  | [a0, a1, a2, a3, a4, a5, a6, a7, a8], _ => exact ⟨_, _, _, _, _, _, _, _, _, rfl⟩
set_option maxHeartbeats 4000000 in
set_option maxRecDepth 100000 in
theorem c_implGetSuper {w : World} {v : Value} {l : List Int} (h : RK kInt w v l) :
    Calls Try.prog 44 #[v] w fun e w' => e = .returned (.tuple #[.agg (supA (getS l)), .bool (getB l)]) ∧ Below w.heap.size w w' := by
  have ll := RK_len h
  by_cases h9 : l.length = 9
  · obtain ⟨ad, cap, rfl, hc⟩ := ints_at h (by omega)
    obtain ⟨a0, a1, a2, a3, a4, a5, a6, a7, a8, rfl⟩ := nine h9
    have H := Aside0.mk h
    have d0 : w.cell? ad = some (.int .i64 a0) := by have := hc 0 _ rfl; simpa [Addr.add] using this
    have d1 : w.cell? ⟨ad.block, ad.off + 1, none⟩ = some (.int .i64 a1) := by have := hc 1 _ rfl; simpa [Addr.add] using this
    have d2 : w.cell? ⟨ad.block, ad.off + 2, none⟩ = some (.int .i64 a2) := by have := hc 2 _ rfl; simpa [Addr.add] using this
    have d3 : w.cell? ⟨ad.block, ad.off + 3, none⟩ = some (.int .i64 a3) := by have := hc 3 _ rfl; simpa [Addr.add] using this
    have d4 : w.cell? ⟨ad.block, ad.off + 4, none⟩ = some (.int .i64 a4) := by have := hc 4 _ rfl; simpa [Addr.add] using this
    have d5 : w.cell? ⟨ad.block, ad.off + 5, none⟩ = some (.int .i64 a5) := by have := hc 5 _ rfl; simpa [Addr.add] using this
    have d6 : w.cell? ⟨ad.block, ad.off + 6, none⟩ = some (.int .i64 a6) := by have := hc 6 _ rfl; simpa [Addr.add] using this
    have d7 : w.cell? ⟨ad.block, ad.off + 7, none⟩ = some (.int .i64 a7) := by have := hc 7 _ rfl; simpa [Addr.add] using this
    have d8 : w.cell? ⟨ad.block, ad.off + 8, none⟩ = some (.int .i64 a8) := by have := hc 8 _ rfl; simpa [Addr.add] using this
    have D := Aside0.mk (And.intro d0 (And.intro d1 (And.intro d2 (And.intro d3 (And.intro d4 (And.intro d5 (And.intro d6 (And.intro d7 d8))))))))
    clear h hc h9 d0 d1 d2 d3 d4 d5 d6 d7 d8 ll
    have d0 := cell_alloc D.out.1
    by_cases hm : a0 = 21317
    · subst hm
      go_enter Try.func44, Try.ntmps44
      go_upto_region 3 with fail
      obtain ⟨e0, e1, e2, e3, e4, e5, e6, e7, e8⟩ := D.out
      have H0 := Aside0.mk ((Sep.start w []).alloc (g := w.heap.size) rfl #[.int .i64 0, .int .i64 0, .int .i64 0, .int .i64 0, .int .i64 0, .int .i64 0, .int .i64 0, .int .i64 0] 53)
      replace e1 := cell_alloc e1; replace e2 := cell_alloc e2; replace e3 := cell_alloc e3; replace e4 := cell_alloc e4; replace e5 := cell_alloc e5; replace e6 := cell_alloc e6; replace e7 := cell_alloc e7; replace e8 := cell_alloc e8
      refine wp_region_seq (fun w' => w'.cell? ⟨ad.block, ad.off + 1, none⟩ = some (.int .i64 a1) ∧ w'.cell? ⟨ad.block, ad.off + 2, none⟩ = some (.int .i64 a2) ∧ w'.cell? ⟨ad.block, ad.off + 3, none⟩ = some (.int .i64 a3) ∧ w'.cell? ⟨ad.block, ad.off + 4, none⟩ = some (.int .i64 a4) ∧ w'.cell? ⟨ad.block, ad.off + 5, none⟩ = some (.int .i64 a5) ∧ w'.cell? ⟨ad.block, ad.off + 6, none⟩ = some (.int .i64 a6) ∧ w'.cell? ⟨ad.block, ad.off + 7, none⟩ = some (.int .i64 a7) ∧ w'.cell? ⟨ad.block, ad.off + 8, none⟩ = some (.int .i64 a8)) [27] [(0, true), (1, true), (2, true), (3, true), (4, true), (5, true), (6, true), (7, true), (8, true), (9, true), (10, true), (11, true), (12, true), (13, true), (14, true), (15, true), (16, true), (17, true), (18, true), (19, true), (20, true), (21, true), (22, true), (23, true), (24, true), (25, true), (26, false), (27, false)] (by kernel_rfl) (by kernel_rfl) ?_
      have hS : (fun w' : World => w'.cell? ⟨ad.block, ad.off + 1, none⟩ = some (.int .i64 a1) ∧ w'.cell? ⟨ad.block, ad.off + 2, none⟩ = some (.int .i64 a2) ∧ w'.cell? ⟨ad.block, ad.off + 3, none⟩ = some (.int .i64 a3) ∧ w'.cell? ⟨ad.block, ad.off + 4, none⟩ = some (.int .i64 a4) ∧ w'.cell? ⟨ad.block, ad.off + 5, none⟩ = some (.int .i64 a5) ∧ w'.cell? ⟨ad.block, ad.off + 6, none⟩ = some (.int .i64 a6) ∧ w'.cell? ⟨ad.block, ad.off + 7, none⟩ = some (.int .i64 a7) ∧ w'.cell? ⟨ad.block, ad.off + 8, none⟩ = some (.int .i64 a8)) (w.alloc (.cells #[.int .i64 0, .int .i64 0, .int .i64 0, .int .i64 0, .int .i64 0, .int .i64 0, .int .i64 0, .int .i64 0] 53 (0, 0))).drew := ⟨e1 _, e2 _, e3 _, e4 _, e5 _, e6 _, e7 _, e8 _⟩
      iterate 26 (refine seq_take hS rfl (fun _ _ _ h => h) (by rfl) (fun w_ hSw => by (try dsimp only at hSw); go_simp; first | done | with_reducible rfl) ?_; (try simp only [Act.put, List.getElem_toArray, List.getElem_cons_succ, List.getElem_cons_zero, List.setIfInBounds_toArray, List.set_cons_zero, List.set_cons_succ]))
      clear hS d0
      refine seq_step rfl (fun K hK => ?_)
      go_simp
      refine hK.out _ _ ⟨fun _ => ⟨cell_alloc (e1 _) _, cell_alloc (e2 _) _, cell_alloc (e3 _) _, cell_alloc (e4 _) _, cell_alloc (e5 _) _, cell_alloc (e6 _) _, cell_alloc (e7 _) _, cell_alloc (e8 _) _⟩, ?_⟩; clear hK K; (try simp only [Act.put, List.getElem_toArray, List.getElem_cons_succ, List.getElem_cons_zero, List.setIfInBounds_toArray, List.set_cons_zero, List.set_cons_succ])
      clear e0 e1 e2 e3 e4 e5 e6 e7 e8
      refine seq_step rfl (fun K hK => ?_)
      go_simp
      refine hK.out _ _ ⟨(fun h => (by cases h)), ?_⟩; clear hK K; (try simp only [Act.put, List.getElem_toArray, List.getElem_cons_succ, List.getElem_cons_zero, List.setIfInBounds_toArray, List.set_cons_zero, List.set_cons_succ])
      refine seq_done ?_
      go_upto_region 4 with fail
      have hof : ofL [21317, a1, a2, a3, a4, a5, a6, a7, a8] = ⟨a1, a2, a3, a4, a5, a6, IntKind.i64.wrap (a7 - 1), a8⟩ := rfl
      generalize IntKind.i64.wrap (a7 - 1) = b7 at *
      have hg : getB [21317, a1, a2, a3, a4, a5, a6, a7, a8] = supB ⟨a1, a2, a3, a4, a5, a6, b7, a8⟩ := by unfold getB; rw [hof]; simp
      have hgs : getS [21317, a1, a2, a3, a4, a5, a6, a7, a8] = if supB ⟨a1, a2, a3, a4, a5, a6, b7, a8⟩ then ⟨a1, a2, a3, a4, a5, a6, b7, a8⟩ else sup0 := by unfold getS; rw [hg, hof]
      have Hg := Aside0.mk (And.intro hg hgs)
      clear hof hg hgs
      by_cases hsup : supB ⟨a1, a2, a3, a4, a5, a6, b7, a8⟩ = true
      · go_wp2_with (first
          | (go_at_call 49; refine (c_implSuperOk _ _ _ _ _ _ _ _ _).mono ?_; rw [hsup]; rintro e w1 ⟨rfl, hb⟩; have HS := Aside0.mk (((H0.out.alloc (g := w.heap.size + 1) (by simp) #[.int .i64 a1, .int .i64 a2, .int .i64 a3, .int .i64 a4, .int .i64 a5, .int .i64 a6, .int .i64 b7, .int .i64 a8] 53).drew).below hb); clear hb; obtain ⟨k0, k1, k2, k3, k4, k5, k6, k7⟩ := eight (HS.out.get 0 rfl); obtain ⟨z0, z1, z2, z3, z4, z5, z6, z7⟩ := eight (HS.out.get 1 rfl); have fz := blk_frozen (HS.out.get 1 rfl))
          | fail)
        have HE : Sep w [] _ _ := ((((((((HS.out.setb 1 rfl 0 (.int .i64 a1) rfl).setb 1 rfl 1 (.int .i64 a2) rfl).setb 1 rfl 2 (.int .i64 a3) rfl).setb 1 rfl 3 (.int .i64 a4) rfl).setb 1 rfl 4 (.int .i64 a5) rfl).setb 1 rfl 5 (.int .i64 a6) rfl).setb 1 rfl 6 (.int .i64 b7) rfl).setb 1 rfl 7 (.int .i64 a8) rfl)
        refine bodyPost_ret (results_ct rfl _ _ w.heap.size 53 #[.int .i64 a1, .int .i64 a2, .int .i64 a3, .int .i64 a4, .int .i64 a5, .int .i64 a6, .int .i64 b7, .int .i64 a8] (0, 0) _ rfl (HE.get 1 rfl) Try.underlying53 rfl (by kernel_rfl)) rfl ?_
        exact ⟨by rw [Hg.out.1, Hg.out.2, hsup]; rfl, HE.toBelow⟩
      · simp only [Bool.not_eq_true] at hsup
        go_wp2_with (first
          | (go_at_call 49; refine (c_implSuperOk _ _ _ _ _ _ _ _ _).mono ?_; rw [hsup]; rintro e w1 ⟨rfl, hb⟩; have HS := Aside0.mk (((H0.out.alloc (g := w.heap.size + 1) (by simp) #[.int .i64 a1, .int .i64 a2, .int .i64 a3, .int .i64 a4, .int .i64 a5, .int .i64 a6, .int .i64 b7, .int .i64 a8] 53).drew).below hb); clear hb; obtain ⟨k0, k1, k2, k3, k4, k5, k6, k7⟩ := eight (HS.out.get 0 rfl); obtain ⟨z0, z1, z2, z3, z4, z5, z6, z7⟩ := eight (HS.out.get 1 rfl); have fz := blk_frozen (HS.out.get 1 rfl))
          | fail)
        have HE : Sep w [] _ _ := ((((((((HS.out.setb 1 rfl 0 (.int .i64 0) rfl).setb 1 rfl 1 (.int .i64 0) rfl).setb 1 rfl 2 (.int .i64 0) rfl).setb 1 rfl 3 (.int .i64 0) rfl).setb 1 rfl 4 (.int .i64 0) rfl).setb 1 rfl 5 (.int .i64 0) rfl).setb 1 rfl 6 (.int .i64 0) rfl).setb 1 rfl 7 (.int .i64 0) rfl)
        refine bodyPost_ret (results_ct rfl _ _ w.heap.size 53 #[.int .i64 0, .int .i64 0, .int .i64 0, .int .i64 0, .int .i64 0, .int .i64 0, .int .i64 0, .int .i64 0] (0, 0) _ rfl (HE.get 1 rfl) Try.underlying53 rfl (by kernel_rfl)) rfl ?_
        exact ⟨by rw [Hg.out.1, Hg.out.2, hsup]; rfl, HE.toBelow⟩
    · have hne : (a0 != 21317) = true := by simpa using hm
      have hg : getB [a0, a1, a2, a3, a4, a5, a6, a7, a8] = false := by simp [getB, hm]
      have Hg := Aside0.mk hg
      have Hm := Aside0.mk hm
      clear hg hm
      go_enter Try.func44, Try.ntmps44
      go_wp2
      have HE := (Sep.start w []).alloc (g := w.heap.size) rfl #[.int .i64 0, .int .i64 0, .int .i64 0, .int .i64 0, .int .i64 0, .int .i64 0, .int .i64 0, .int .i64 0] 53
      refine bodyPost_ret (results_ct rfl _ _ w.heap.size 53 #[.int .i64 0, .int .i64 0, .int .i64 0, .int .i64 0, .int .i64 0, .int .i64 0, .int .i64 0, .int .i64 0] (0, 0) _ rfl (HE.get 0 rfl) Try.underlying53 rfl (by kernel_rfl)) rfl ?_
      exact ⟨by unfold getS; rw [Hg.out]; rfl, HE.toBelow⟩
  · obtain ⟨A, cap, rfl, _⟩ := h
    have hne : ((l.length : Int) != 9) = true := by simp; omega
    have hg : getB l = false := by simp [getB, h9]
    have Hg := Aside0.mk hg
    have H9 := Aside0.mk h9
    clear hg h9
    go_enter Try.func44, Try.ntmps44
    go_wp2
    have HE := (Sep.start w []).alloc (g := w.heap.size) rfl #[.int .i64 0, .int .i64 0, .int .i64 0, .int .i64 0, .int .i64 0, .int .i64 0, .int .i64 0, .int .i64 0] 53
    refine bodyPost_ret (results_ct rfl _ _ w.heap.size 53 #[.int .i64 0, .int .i64 0, .int .i64 0, .int .i64 0, .int .i64 0, .int .i64 0, .int .i64 0, .int .i64 0] (0, 0) _ rfl (HE.get 0 rfl) Try.underlying53 rfl (by kernel_rfl)) rfl ?_
    exact ⟨by unfold getS; rw [Hg.out]; rfl, HE.toBelow⟩
set_option maxHeartbeats 4000000 in
set_option maxRecDepth 100000 in
theorem c_specGetSuper {w : World} {v : Value} {l : List Int} (h : RK kInt w v l) :
    Calls Try.prog 45 #[v] w fun e w' => e = .returned (.tuple #[.agg (supA (getS l)), .bool (getB l)]) ∧ Below w.heap.size w w' := by
  have ll := RK_len h
  by_cases h9 : l.length = 9
  · obtain ⟨ad, cap, rfl, hc⟩ := ints_at h (by omega)
    obtain ⟨a0, a1, a2, a3, a4, a5, a6, a7, a8, rfl⟩ := nine h9
    have H := Aside0.mk h
    have d0 : w.cell? ad = some (.int .i64 a0) := by have := hc 0 _ rfl; simpa [Addr.add] using this
    have d1 : w.cell? ⟨ad.block, ad.off + 1, none⟩ = some (.int .i64 a1) := by have := hc 1 _ rfl; simpa [Addr.add] using this
    have d2 : w.cell? ⟨ad.block, ad.off + 2, none⟩ = some (.int .i64 a2) := by have := hc 2 _ rfl; simpa [Addr.add] using this
    have d3 : w.cell? ⟨ad.block, ad.off + 3, none⟩ = some (.int .i64 a3) := by have := hc 3 _ rfl; simpa [Addr.add] using this
    have d4 : w.cell? ⟨ad.block, ad.off + 4, none⟩ = some (.int .i64 a4) := by have := hc 4 _ rfl; simpa [Addr.add] using this
    have d5 : w.cell? ⟨ad.block, ad.off + 5, none⟩ = some (.int .i64 a5) := by have := hc 5 _ rfl; simpa [Addr.add] using this
    have d6 : w.cell? ⟨ad.block, ad.off + 6, none⟩ = some (.int .i64 a6) := by have := hc 6 _ rfl; simpa [Addr.add] using this
    have d7 : w.cell? ⟨ad.block, ad.off + 7, none⟩ = some (.int .i64 a7) := by have := hc 7 _ rfl; simpa [Addr.add] using this
    have d8 : w.cell? ⟨ad.block, ad.off + 8, none⟩ = some (.int .i64 a8) := by have := hc 8 _ rfl; simpa [Addr.add] using this
    have D := Aside0.mk (And.intro d0 (And.intro d1 (And.intro d2 (And.intro d3 (And.intro d4 (And.intro d5 (And.intro d6 (And.intro d7 d8))))))))
    clear h hc h9 d0 d1 d2 d3 d4 d5 d6 d7 d8 ll
    have d0 := cell_alloc D.out.1
    by_cases hm : a0 = 21317
    · subst hm
      go_enter Try.func45, Try.ntmps45
      go_upto_region 3 with fail
      obtain ⟨e0, e1, e2, e3, e4, e5, e6, e7, e8⟩ := D.out
      have H0 := Aside0.mk ((Sep.start w []).alloc (g := w.heap.size) rfl #[.int .i64 0, .int .i64 0, .int .i64 0, .int .i64 0, .int .i64 0, .int .i64 0, .int .i64 0, .int .i64 0] 53)
      replace e1 := cell_alloc e1; replace e2 := cell_alloc e2; replace e3 := cell_alloc e3; replace e4 := cell_alloc e4; replace e5 := cell_alloc e5; replace e6 := cell_alloc e6; replace e7 := cell_alloc e7; replace e8 := cell_alloc e8
      refine wp_region_seq (fun w' => w'.cell? ⟨ad.block, ad.off + 1, none⟩ = some (.int .i64 a1) ∧ w'.cell? ⟨ad.block, ad.off + 2, none⟩ = some (.int .i64 a2) ∧ w'.cell? ⟨ad.block, ad.off + 3, none⟩ = some (.int .i64 a3) ∧ w'.cell? ⟨ad.block, ad.off + 4, none⟩ = some (.int .i64 a4) ∧ w'.cell? ⟨ad.block, ad.off + 5, none⟩ = some (.int .i64 a5) ∧ w'.cell? ⟨ad.block, ad.off + 6, none⟩ = some (.int .i64 a6) ∧ w'.cell? ⟨ad.block, ad.off + 7, none⟩ = some (.int .i64 a7) ∧ w'.cell? ⟨ad.block, ad.off + 8, none⟩ = some (.int .i64 a8)) [27] [(0, true), (1, true), (2, true), (3, true), (4, true), (5, true), (6, true), (7, true), (8, true), (9, true), (10, true), (11, true), (12, true), (13, true), (14, true), (15, true), (16, true), (17, true), (18, true), (19, true), (20, true), (21, true), (22, true), (23, true), (24, true), (25, true), (26, false), (27, false)] (by kernel_rfl) (by kernel_rfl) ?_
      have hS : (fun w' : World => w'.cell? ⟨ad.block, ad.off + 1, none⟩ = some (.int .i64 a1) ∧ w'.cell? ⟨ad.block, ad.off + 2, none⟩ = some (.int .i64 a2) ∧ w'.cell? ⟨ad.block, ad.off + 3, none⟩ = some (.int .i64 a3) ∧ w'.cell? ⟨ad.block, ad.off + 4, none⟩ = some (.int .i64 a4) ∧ w'.cell? ⟨ad.block, ad.off + 5, none⟩ = some (.int .i64 a5) ∧ w'.cell? ⟨ad.block, ad.off + 6, none⟩ = some (.int .i64 a6) ∧ w'.cell? ⟨ad.block, ad.off + 7, none⟩ = some (.int .i64 a7) ∧ w'.cell? ⟨ad.block, ad.off + 8, none⟩ = some (.int .i64 a8)) (w.alloc (.cells #[.int .i64 0, .int .i64 0, .int .i64 0, .int .i64 0, .int .i64 0, .int .i64 0, .int .i64 0, .int .i64 0] 53 (0, 0))).drew := ⟨e1 _, e2 _, e3 _, e4 _, e5 _, e6 _, e7 _, e8 _⟩
      iterate 26 (refine seq_take hS rfl (fun _ _ _ h => h) (by rfl) (fun w_ hSw => by (try dsimp only at hSw); go_simp; first | done | with_reducible rfl) ?_; (try simp only [Act.put, List.getElem_toArray, List.getElem_cons_succ, List.getElem_cons_zero, List.setIfInBounds_toArray, List.set_cons_zero, List.set_cons_succ]))
      clear hS d0
      refine seq_step rfl (fun K hK => ?_)
      go_simp
      refine hK.out _ _ ⟨fun _ => ⟨cell_alloc (e1 _) _, cell_alloc (e2 _) _, cell_alloc (e3 _) _, cell_alloc (e4 _) _, cell_alloc (e5 _) _, cell_alloc (e6 _) _, cell_alloc (e7 _) _, cell_alloc (e8 _) _⟩, ?_⟩; clear hK K; (try simp only [Act.put, List.getElem_toArray, List.getElem_cons_succ, List.getElem_cons_zero, List.setIfInBounds_toArray, List.set_cons_zero, List.set_cons_succ])
      clear e0 e1 e2 e3 e4 e5 e6 e7 e8
      refine seq_step rfl (fun K hK => ?_)
      go_simp
      refine hK.out _ _ ⟨(fun h => (by cases h)), ?_⟩; clear hK K; (try simp only [Act.put, List.getElem_toArray, List.getElem_cons_succ, List.getElem_cons_zero, List.setIfInBounds_toArray, List.set_cons_zero, List.set_cons_succ])
      refine seq_done ?_
      go_upto_region 4 with fail
      have hof : ofL [21317, a1, a2, a3, a4, a5, a6, a7, a8] = ⟨a1, a2, a3, a4, a5, a6, IntKind.i64.wrap (a7 - 1), a8⟩ := rfl
      generalize IntKind.i64.wrap (a7 - 1) = b7 at *
      have hg : getB [21317, a1, a2, a3, a4, a5, a6, a7, a8] = supB ⟨a1, a2, a3, a4, a5, a6, b7, a8⟩ := by unfold getB; rw [hof]; simp
      have hgs : getS [21317, a1, a2, a3, a4, a5, a6, a7, a8] = if supB ⟨a1, a2, a3, a4, a5, a6, b7, a8⟩ then ⟨a1, a2, a3, a4, a5, a6, b7, a8⟩ else sup0 := by unfold getS; rw [hg, hof]
      have Hg := Aside0.mk (And.intro hg hgs)
      clear hof hg hgs
      by_cases hsup : supB ⟨a1, a2, a3, a4, a5, a6, b7, a8⟩ = true
      · go_wp2_with (first
          | (go_at_call 50; refine (c_specSuperOk _ _ _ _ _ _ _ _ _).mono ?_; rw [hsup]; rintro e w1 ⟨rfl, hb⟩; have HS := Aside0.mk (((H0.out.alloc (g := w.heap.size + 1) (by simp) #[.int .i64 a1, .int .i64 a2, .int .i64 a3, .int .i64 a4, .int .i64 a5, .int .i64 a6, .int .i64 b7, .int .i64 a8] 53).drew).below hb); clear hb; obtain ⟨k0, k1, k2, k3, k4, k5, k6, k7⟩ := eight (HS.out.get 0 rfl); obtain ⟨z0, z1, z2, z3, z4, z5, z6, z7⟩ := eight (HS.out.get 1 rfl); have fz := blk_frozen (HS.out.get 1 rfl))
          | fail)
        have HE : Sep w [] _ _ := ((((((((HS.out.setb 1 rfl 0 (.int .i64 a1) rfl).setb 1 rfl 1 (.int .i64 a2) rfl).setb 1 rfl 2 (.int .i64 a3) rfl).setb 1 rfl 3 (.int .i64 a4) rfl).setb 1 rfl 4 (.int .i64 a5) rfl).setb 1 rfl 5 (.int .i64 a6) rfl).setb 1 rfl 6 (.int .i64 b7) rfl).setb 1 rfl 7 (.int .i64 a8) rfl)
        refine bodyPost_ret (results_ct rfl _ _ w.heap.size 53 #[.int .i64 a1, .int .i64 a2, .int .i64 a3, .int .i64 a4, .int .i64 a5, .int .i64 a6, .int .i64 b7, .int .i64 a8] (0, 0) _ rfl (HE.get 1 rfl) Try.underlying53 rfl (by kernel_rfl)) rfl ?_
        exact ⟨by rw [Hg.out.1, Hg.out.2, hsup]; rfl, HE.toBelow⟩
      · simp only [Bool.not_eq_true] at hsup
        go_wp2_with (first
          | (go_at_call 50; refine (c_specSuperOk _ _ _ _ _ _ _ _ _).mono ?_; rw [hsup]; rintro e w1 ⟨rfl, hb⟩; have HS := Aside0.mk (((H0.out.alloc (g := w.heap.size + 1) (by simp) #[.int .i64 a1, .int .i64 a2, .int .i64 a3, .int .i64 a4, .int .i64 a5, .int .i64 a6, .int .i64 b7, .int .i64 a8] 53).drew).below hb); clear hb; obtain ⟨k0, k1, k2, k3, k4, k5, k6, k7⟩ := eight (HS.out.get 0 rfl); obtain ⟨z0, z1, z2, z3, z4, z5, z6, z7⟩ := eight (HS.out.get 1 rfl); have fz := blk_frozen (HS.out.get 1 rfl))
          | fail)
        have HE : Sep w [] _ _ := ((((((((HS.out.setb 1 rfl 0 (.int .i64 0) rfl).setb 1 rfl 1 (.int .i64 0) rfl).setb 1 rfl 2 (.int .i64 0) rfl).setb 1 rfl 3 (.int .i64 0) rfl).setb 1 rfl 4 (.int .i64 0) rfl).setb 1 rfl 5 (.int .i64 0) rfl).setb 1 rfl 6 (.int .i64 0) rfl).setb 1 rfl 7 (.int .i64 0) rfl)
        refine bodyPost_ret (results_ct rfl _ _ w.heap.size 53 #[.int .i64 0, .int .i64 0, .int .i64 0, .int .i64 0, .int .i64 0, .int .i64 0, .int .i64 0, .int .i64 0] (0, 0) _ rfl (HE.get 1 rfl) Try.underlying53 rfl (by kernel_rfl)) rfl ?_
        exact ⟨by rw [Hg.out.1, Hg.out.2, hsup]; rfl, HE.toBelow⟩
    · have hne : (a0 != 21317) = true := by simpa using hm
      have hg : getB [a0, a1, a2, a3, a4, a5, a6, a7, a8] = false := by simp [getB, hm]
      have Hg := Aside0.mk hg
      have Hm := Aside0.mk hm
      clear hg hm
      go_enter Try.func45, Try.ntmps45
      go_wp2
      have HE := (Sep.start w []).alloc (g := w.heap.size) rfl #[.int .i64 0, .int .i64 0, .int .i64 0, .int .i64 0, .int .i64 0, .int .i64 0, .int .i64 0, .int .i64 0] 53
      refine bodyPost_ret (results_ct rfl _ _ w.heap.size 53 #[.int .i64 0, .int .i64 0, .int .i64 0, .int .i64 0, .int .i64 0, .int .i64 0, .int .i64 0, .int .i64 0] (0, 0) _ rfl (HE.get 0 rfl) Try.underlying53 rfl (by kernel_rfl)) rfl ?_
      exact ⟨by unfold getS; rw [Hg.out]; rfl, HE.toBelow⟩
  · obtain ⟨A, cap, rfl, _⟩ := h
    have hne : ((l.length : Int) != 9) = true := by simp; omega
    have hg : getB l = false := by simp [getB, h9]
    have Hg := Aside0.mk hg
    have H9 := Aside0.mk h9
    clear hg h9
    go_enter Try.func45, Try.ntmps45
    go_wp2
    have HE := (Sep.start w []).alloc (g := w.heap.size) rfl #[.int .i64 0, .int .i64 0, .int .i64 0, .int .i64 0, .int .i64 0, .int .i64 0, .int .i64 0, .int .i64 0] 53
    refine bodyPost_ret (results_ct rfl _ _ w.heap.size 53 #[.int .i64 0, .int .i64 0, .int .i64 0, .int .i64 0, .int .i64 0, .int .i64 0, .int .i64 0, .int .i64 0] (0, 0) _ rfl (HE.get 0 rfl) Try.underlying53 rfl (by kernel_rfl)) rfl ?_
    exact ⟨by unfold getS; rw [Hg.out]; rfl, HE.toBelow⟩
end Go.Proofs.Ytlmnmcfieagmbaa.MSuper
