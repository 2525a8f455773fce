/- WriteSec, of both. -/
import Derived.Test.YtlmnmcfieagmbaaMCopyS
import Derived.Test.YtlmnmcfieagmbaaMDel
import Derived.Test.YtlmnmcfieagmbaaMReadS
namespace Go.Proofs.Ytlmnmcfieagmbaa.MWrite
open Go.RowKit Go.Proofs.Ytlmnmcfieagmbaa.RJ Go.Proofs.YtlmnmcfieagmbaaW.PrintWords Go.Proofs.Ytlmnmcfieagmbaa.Fp Go.Proofs.Ytlmnmcfieagmbaa.FpStep Go.Proofs.Ytlmnmcfieagmbaa.MInt Go.Proofs.Ytlmnmcfieagmbaa.MKinds Go.Proofs.Ytlmnmcfieagmbaa.MRead Go.Proofs.Ytlmnmcfieagmbaa.MMake Go.Proofs.Ytlmnmcfieagmbaa.MPut Go.Proofs.Ytlmnmcfieagmbaa.MOk Go.Proofs.Ytlmnmcfieagmbaa.MVal Go.Proofs.Ytlmnmcfieagmbaa.Sep Go.Proofs.Ytlmnmcfieagmbaa.SepStep Go.Proofs.Ytlmnmcfieagmbaa.MCopy Go.Proofs.Ytlmnmcfieagmbaa.MCopyS Go.Proofs.Ytlmnmcfieagmbaa.MDel Go.Proofs.Ytlmnmcfieagmbaa.MReadS
set_option linter.unusedVariables false
set_option linter.unusedSimpArgs false
attribute [local go_sem ↓] Go.wp_at_zero Go.wp_at_succ
theorem one {w : World} {g : Nat} {a : Value} {t : TypeId} (h : w.heap[g]? = some (.cells #[a] t (0, 0))) : w.cell? ⟨g, 0, none⟩ = some a := (blk_cell h 0).trans rfl
theorem not_lt60 {k : Nat} (h : k ≤ 60) : Value.bool ((k : Int) == 60) = .bool (!decide (k < 60)) := by
  congr 1
  by_cases h1 : k = 60
  · subst h1; rfl
  · have h2 : k < 60 := by omega
    have h3 : ((k : Int) == 60) = false := by simp; omega
    rw [h3]; simp [h2]
theorem ge60 {k : Nat} : Value.bool (decide ((60 : Int) ≤ (k : Int))) = .bool (!decide (k < 60)) := by
  congr 1
  by_cases h1 : k < 60
  · have : ¬ (60 : Int) ≤ (k : Int) := by omega
    simp [h1, this]
  · have : (60 : Int) ≤ (k : Int) := by omega
    simp [h1, this]
theorem memB_cache {m : MemV} (h : memB m = true) : m.cache.length ≤ 60 := by simp [memB] at h; omega
set_option maxHeartbeats 4000000 in
set_option maxRecDepth 100000 in
theorem c_implWriteSec {w : World} {v : Value} {m : MemV} {n : Int} {vs : Value} {xs : List Int} (h : MemR w v m) (hs : Small m) (hx : RK kInt w vs xs) (hxl : xs.length ≤ 16777216) :
    Calls Try.prog 39 #[v, .int .i64 n, vs] w fun e w' => ∃ u F, e = .returned (.tuple #[u, .bool (canWrite m n xs)]) ∧ New w w' (me F u (writeV m n xs)) := by
  have H := Aside0.mk h
  obtain ⟨s, c, b, rfl, r1, r2, r3⟩ := h
  obtain ⟨A1, c1, rfl, _⟩ := r1
  obtain ⟨A2, c2, rfl, _⟩ := r2
  obtain ⟨A3, c3, rfl, _⟩ := r3
  obtain ⟨AX, cX, rfl, _⟩ := id hx
  have HX := Aside0.mk hx
  have hb1 := hs.1
  have hb2 := hs.2.2.1
  have HS := Aside0.mk hs
  clear hs hx
  generalize hmf : m.failed = mf at H
  have Hmf := Aside0.mk hmf
  clear hmf
  go_enter Try.func39, Try.ntmps39
  go_upto_region 2 with (first
    | (go_at_call 101; refine (c_copyMem (MemR_below H.out (below_alloc (below_alloc (below_alloc (Below.refl _ _) _) _) _)) HS.out).mono ?_; rintro e w1 ⟨u, F, rfl, hn⟩; obtain ⟨B1, d1, B2, d2, B3, d3, F1, F2, F3, rfl, h1⟩ := (((((Sep.start w []).alloc (g := w.heap.size) rfl #[.slice A1 m.secs.length c1, .slice A2 m.cache.length c2, .bool mf, .slice A3 m.bad.length c3] 30).alloc (g := w.heap.size + 1) (by simp) #[.int .i64 n] 3).alloc (g := w.heap.size + 1 + 1) (by simp) #[.slice none 0 0, .slice none 0 0, .bool false, .slice none 0 0] 30).new hn).ofMem; rw [Hmf.out]; have HS1 := Aside0.mk (h1.alloc (g := w1.heap.size) rfl #[.slice B1 m.secs.length d1, .slice B2 m.cache.length d2, .bool mf, .slice B3 m.bad.length d3] 30); clear hn h1)
    | fail)
  generalize hg : w1.heap.size = g at *
  generalize hw2 : w1.alloc (.cells #[.slice B1 m.secs.length d1, .slice B2 m.cache.length d2, .bool mf, .slice B3 m.bad.length d3] 30 (0, 0)) = w2 at *
  clear hg hw2
  obtain ⟨k1, k2, k3, k4⟩ := four (HS1.out.get 6 rfl)
  have kn := one (HS1.out.get 5 rfl)
  go_cut [34] (fun s34 wx => s34 = .bool (!canWrite m n xs) ∧ Aside0 (Sep w [] wx [bx g 30 #[.slice B1 m.secs.length d1, .slice B2 m.cache.length d2, .bool mf, .slice B3 m.bad.length d3], rw_ oSec 24 F1 (.slice B1 m.secs.length d1) m.secs, rw_ oWr 66 F2 (.slice B2 m.cache.length d2) (m.cache), rw_ oInt 3 F3 (.slice B3 m.bad.length d3) (m.bad), bx (w.heap.size + 1 + 1) 30 #[.slice none 0 0, .slice none 0 0, .bool false, .slice none 0 0], bx (w.heap.size + 1) 3 #[.int .i64 n], bx w.heap.size 30 #[.slice A1 m.secs.length c1, .slice A2 m.cache.length c2, .bool mf, .slice A3 m.bad.length c3]]))
  case first =>
    have hk := Hmf.out
    by_cases hA : memB m = true
    · have h60 := memB_cache hA
      cases mf
      · by_cases hC : inR n 0 ((m.secs.length : Int) - 1) = true
        · by_cases hD : secB xs = true
          · have hcan : canWrite m n xs = decide (m.cache.length < 60) := by simp [canWrite, hA, hk, hC, hD]
            have Hcan := Aside0.mk hcan
            clear hcan hk
            go_wp2_with (first
              | (go_at_call 28; refine (c_implMemOk (MemR_below H.out HS1.out.toBelow)).mono ?_; rintro e w3 ⟨rfl, hb⟩; have HS2 := Aside0.mk (HS1.out.below hb); clear hb k1 k2 k3 k4 kn; obtain ⟨k1, k2, k3, k4⟩ := four (HS2.out.get 6 rfl); have kn := one (HS2.out.get 5 rfl))
              | (go_at_call 102; refine (c_hasSec (MemR_below H.out HS2.out.toBelow)).mono ?_; rintro e w4 ⟨rfl, hb⟩; have HS3 := Aside0.mk (HS2.out.below hb); clear hb k1 k2 k3 k4 kn; obtain ⟨k1, k2, k3, k4⟩ := four (HS3.out.get 6 rfl); have kn := one (HS3.out.get 5 rfl))
              | (go_at_call 70; refine (c_implSecOk (HS3.out.rk HX.out)).mono ?_; rintro e w5 ⟨rfl, hb⟩; have HS4 := Aside0.mk (HS3.out.dr hb); clear hb k1 k2 k3 k4 kn; obtain ⟨k1, k2, k3, k4⟩ := four (HS4.out.get 6 rfl); have kn := one (HS4.out.get 5 rfl))
              | fail)
            go_meet
            exact ⟨by rw [Hcan.out, not_lt60 h60], HS4⟩
          · simp only [Bool.not_eq_true] at hD
            have hcan : canWrite m n xs = false := by simp [canWrite, hA, hk, hC, hD]
            have Hcan := Aside0.mk hcan
            clear hcan hk
            go_wp2_with (first
              | (go_at_call 28; refine (c_implMemOk (MemR_below H.out HS1.out.toBelow)).mono ?_; rintro e w3 ⟨rfl, hb⟩; have HS2 := Aside0.mk (HS1.out.below hb); clear hb k1 k2 k3 k4 kn; obtain ⟨k1, k2, k3, k4⟩ := four (HS2.out.get 6 rfl); have kn := one (HS2.out.get 5 rfl))
              | (go_at_call 102; refine (c_hasSec (MemR_below H.out HS2.out.toBelow)).mono ?_; rintro e w4 ⟨rfl, hb⟩; have HS3 := Aside0.mk (HS2.out.below hb); clear hb k1 k2 k3 k4 kn; obtain ⟨k1, k2, k3, k4⟩ := four (HS3.out.get 6 rfl); have kn := one (HS3.out.get 5 rfl))
              | (go_at_call 70; refine (c_implSecOk (HS3.out.rk HX.out)).mono ?_; rintro e w5 ⟨rfl, hb⟩; have HS4 := Aside0.mk (HS3.out.dr hb); clear hb k1 k2 k3 k4 kn; obtain ⟨k1, k2, k3, k4⟩ := four (HS4.out.get 6 rfl); have kn := one (HS4.out.get 5 rfl))
              | fail)
            go_meet
            exact ⟨by rw [Hcan.out]; rfl, HS4⟩
        · simp only [Bool.not_eq_true] at hC
          have hcan : canWrite m n xs = false := by simp [canWrite, hA, hk, hC]
          have Hcan := Aside0.mk hcan
          clear hcan hk
          go_wp2_with (first
            | (go_at_call 28; refine (c_implMemOk (MemR_below H.out HS1.out.toBelow)).mono ?_; rintro e w3 ⟨rfl, hb⟩; have HS2 := Aside0.mk (HS1.out.below hb); clear hb k1 k2 k3 k4 kn; obtain ⟨k1, k2, k3, k4⟩ := four (HS2.out.get 6 rfl); have kn := one (HS2.out.get 5 rfl))
            | (go_at_call 102; refine (c_hasSec (MemR_below H.out HS2.out.toBelow)).mono ?_; rintro e w4 ⟨rfl, hb⟩; have HS3 := Aside0.mk (HS2.out.below hb); clear hb k1 k2 k3 k4 kn; obtain ⟨k1, k2, k3, k4⟩ := four (HS3.out.get 6 rfl); have kn := one (HS3.out.get 5 rfl))
            | fail)
          go_meet
          exact ⟨by rw [Hcan.out]; rfl, HS3⟩
      · have hcan : canWrite m n xs = false := by simp [canWrite, hk]
        have Hcan := Aside0.mk hcan
        clear hcan hk
        go_wp2_with (first
          | (go_at_call 28; refine (c_implMemOk (MemR_below H.out HS1.out.toBelow)).mono ?_; rintro e w3 ⟨rfl, hb⟩; have HS2 := Aside0.mk (HS1.out.below hb); clear hb k1 k2 k3 k4 kn; obtain ⟨k1, k2, k3, k4⟩ := four (HS2.out.get 6 rfl); have kn := one (HS2.out.get 5 rfl))
          | fail)
        go_meet
        exact ⟨by rw [Hcan.out]; rfl, HS2⟩
    · simp only [Bool.not_eq_true] at hA
      have hcan : canWrite m n xs = false := by simp [canWrite, hA]
      have Hcan := Aside0.mk hcan
      clear hcan hk
      go_wp2_with (first
        | (go_at_call 28; refine (c_implMemOk (MemR_below H.out HS1.out.toBelow)).mono ?_; rintro e w3 ⟨rfl, hb⟩; have HS2 := Aside0.mk (HS1.out.below hb); clear hb k1 k2 k3 k4 kn; obtain ⟨k1, k2, k3, k4⟩ := four (HS2.out.get 6 rfl); have kn := one (HS2.out.get 5 rfl))
        | fail)
      go_meet
      exact ⟨by rw [Hcan.out]; rfl, HS2⟩
  case rest =>
    obtain ⟨rfl, HB⟩ := hcut
    clear k1 k2 k3 k4 kn HS1
    obtain ⟨k1, k2, k3, k4⟩ := four (HB.out.get 0 rfl)
    obtain ⟨z1, z2, z3, z4⟩ := four (HB.out.get 4 rfl)
    have fz := blk_frozen (HB.out.get 4 rfl)
    by_cases hcan : canWrite m n xs = true
    · have Hcan := Aside0.mk hcan
      rw [hcan]
      have h60 : m.cache.length < 60 := by simp [canWrite] at hcan; omega
      clear hcan z1 z2 z3 z4 fz k1 k3 k4
      have kn := one (HB.out.get 5 rfl)
      go_wp2
      refine wp_region_seq (fun w' => w'.cell? ⟨g, 1, none⟩ = some (.slice B2 m.cache.length d2) ∧ w'.cell? ⟨w.heap.size + 1, 0, none⟩ = some (.int .i64 n)) [9] [(0, true), (1, true), (2, true), (3, true), (4, false), (5, true), (6, false), (7, false), (8, true), (9, false)] (by kernel_rfl) (by kernel_rfl) ?_
      have hS : (fun w' : World => w'.cell? ⟨g, 1, none⟩ = some (.slice B2 m.cache.length d2) ∧ w'.cell? ⟨w.heap.size + 1, 0, none⟩ = some (.int .i64 n)) wc.drew := ⟨k2, kn⟩
      iterate 4 (refine seq_take hS rfl (fun _ _ _ h => h) (by rfl) (fun w_ hSw => by (try dsimp only at hSw); go_simp; first | done | with_reducible rfl) ?_; (try simp only [Act.put, List.getElem_toArray, List.getElem_cons_succ, List.getElem_cons_zero, List.setIfInBounds_toArray, List.set_cons_zero, List.set_cons_succ]))
      refine seq_step rfl (fun K hK => ?_)
      go_simp
      go_at_call 118; refine (c_copyInts (HB.out.drew.rk HX.out) hxl).mono ?_; rintro e w3 ⟨u1, K_, rfl, hu, hG, hb⟩
      have HS1 := Aside0.mk (HB.out.drew.new (new_row hu hG hb)); obtain ⟨A5, c5, rfl, hzz⟩ := O_RK hu; have HU := Aside0.mk hu; clear hzz hu hG hb k2 kn hS
      have k2 := (four (HS1.out.get 1 rfl)).2.1
      have kn := one (HS1.out.get 6 rfl)
      have hS : (fun w' : World => w'.cell? ⟨g, 1, none⟩ = some (.slice B2 m.cache.length d2) ∧ w'.cell? ⟨w.heap.size + 1, 0, none⟩ = some (.int .i64 n)) w3 := ⟨k2, kn⟩
      refine hK.out _ _ ⟨fun _ => hS, ?_⟩; clear hK K; (try simp only [Act.put, List.getElem_toArray, List.getElem_cons_succ, List.getElem_cons_zero, List.setIfInBounds_toArray, List.set_cons_zero, List.set_cons_succ])
      iterate 1 (refine seq_take hS rfl (fun _ _ _ h => h) (by rfl) (fun w_ hSw => by (try dsimp only at hSw); go_simp; first | done | with_reducible rfl) ?_; (try simp only [Act.put, List.getElem_toArray, List.getElem_cons_succ, List.getElem_cons_zero, List.setIfInBounds_toArray, List.set_cons_zero, List.set_cons_succ]))
      refine seq_step rfl (fun K hK => ?_)
      go_simp
      refine hK.out _ _ ⟨fun _ => ⟨cell_alloc k2 _, cell_alloc kn _⟩, ?_⟩; clear hK K; (try simp only [Act.put, List.getElem_toArray, List.getElem_cons_succ, List.getElem_cons_zero, List.setIfInBounds_toArray, List.set_cons_zero, List.set_cons_succ])
      refine seq_step rfl (fun K hK => ?_)
      refine step_app (d := oWr) (y := (n, xs)) (HS1.out.sel [3, 0, 1, 2, 4, 5, 6, 7] (by decide) (by simp)) 0 rfl _ _ 28 (.agg #[.int .i64 0, .slice none 0 0]) 32 (by rfl) Try.underlying28 (by kernel_rfl) rfl (by decide) (by decide) [.int .i64 n, .slice A5 xs.length c5] ⟨[], K_, [.int .i64 n], [.slice A5 xs.length c5], rfl, rfl, ⟨rfl, rfl⟩, _, rfl, HU.out⟩ (by rfl) (by rfl) (by rfl) (n := m.cache.length) rfl (by omega) ?_
      intro g2 cap2 w4 F4 h2
      have HS2 := Aside0.mk h2
      clear k2 kn hS
      have k2 := (four (h2.get 1 rfl)).2.1
      have kn := one (h2.get 5 rfl)
      have fz := blk_frozen (h2.get 1 rfl)
      clear h2
      have hS : (fun w' : World => w'.cell? ⟨g, 1, none⟩ = some (.slice B2 m.cache.length d2) ∧ w'.cell? ⟨w.heap.size + 1, 0, none⟩ = some (.int .i64 n)) w4 := ⟨k2, kn⟩
      refine hK.out _ _ ⟨fun _ => hS, ?_⟩; clear hK K; (try simp only [Act.put, List.getElem_toArray, List.getElem_cons_succ, List.getElem_cons_zero, List.setIfInBounds_toArray, List.set_cons_zero, List.set_cons_succ])
      iterate 1 (refine seq_take hS rfl (fun _ _ _ h => h) (by rfl) (fun w_ hSw => by (try dsimp only at hSw); go_simp; first | done | with_reducible rfl) ?_; (try simp only [Act.put, List.getElem_toArray, List.getElem_cons_succ, List.getElem_cons_zero, List.setIfInBounds_toArray, List.set_cons_zero, List.set_cons_succ]))
      clear hS
      refine seq_step rfl (fun K hK => ?_)
      go_simp
      refine hK.out _ _ ⟨(fun h => (by cases h)), ?_⟩; clear hK K; (try simp only [Act.put, List.getElem_toArray, List.getElem_cons_succ, List.getElem_cons_zero, List.setIfInBounds_toArray, List.set_cons_zero, List.set_cons_succ])
      refine seq_done ?_
      have hB := HS2.out.setb 1 rfl 1 (.slice (some ⟨g2, 0, none⟩) (m.cache.length + 1) cap2) rfl
      generalize hw5 : w4.setCell ⟨g, 1, none⟩ (.slice (some ⟨g2, 0, none⟩) (m.cache.length + 1) cap2) = w5 at *
      simp only [List.map_cons, List.map_nil, pick, List.getD_cons_succ, List.getD_cons_zero, List.set_cons_zero, List.set_cons_succ, List.eraseIdx_cons_zero, List.eraseIdx_cons_succ, List.setIfInBounds_toArray] at hB
      have HS3 := Aside0.mk hB
      clear hB k2 kn fz hw5
      have k4 := (four (HS3.out.get 1 rfl)).2.2.2
      go_wp2_with (first
        | (go_at_call 123; refine (c_DeleteFunc (HS3.out.get 3 rfl) (HS3.out.fnd 3 rfl) (one (HS3.out.get 5 rfl)) (HS3.out.apart 5 3 rfl rfl (by decide) _ (by simp [bx]))).mono ?_; rintro e w6 ⟨u, rfl, hu⟩; obtain ⟨B4, d4, rfl, hzz⟩ := O_RK (show oInt.O 3 w6 F3 u (without m.bad n) from hu.lies.now); have h7 := HS3.out.upd 3 rfl hu; simp only [List.map_cons, List.map_nil, pick, List.getD_cons_succ, List.getD_cons_zero, List.set_cons_zero, List.set_cons_succ, List.eraseIdx_cons_zero, List.eraseIdx_cons_succ, List.setIfInBounds_toArray] at h7; have HS4 := Aside0.mk h7; clear h7; clear hzz hu k4; obtain ⟨k1, k2, k3, k4⟩ := four (HS4.out.get 1 rfl); have fk := blk_frozen (HS4.out.get 1 rfl); obtain ⟨z1, z2, z3, z4⟩ := four (HS4.out.get 4 rfl); have fz := blk_frozen (HS4.out.get 4 rfl); have hgr : g ≠ w.heap.size + 1 + 1 := HS4.out.neq 1 4 rfl rfl (by decide); have hrg : w.heap.size + 1 + 1 ≠ g := Ne.symm hgr)
        | fail)
      have HE : Sep w [] _ _ := ((((HS4.out.setb 1 rfl 3 (.slice B4 (without m.bad n).length d4) rfl).setb 4 rfl 0 (.slice B1 m.secs.length d1) rfl).setb 4 rfl 1 (.slice (some ⟨g2, 0, none⟩) (m.cache.length + 1) cap2) rfl).setb 4 rfl 2 (.bool mf) rfl).setb 4 rfl 3 (.slice B4 (without m.bad n).length d4) rfl
      refine bodyPost_ret (results_ct rfl _ _ (w.heap.size + 1 + 1) 30 #[.slice B1 m.secs.length d1, .slice (some ⟨g2, 0, none⟩) (m.cache.length + 1) cap2, .bool mf, .slice B4 (without m.bad n).length d4] (0, 0) _ rfl (HE.get 4 rfl) Try.underlying30 rfl (by kernel_rfl)) rfl ?_
      have h9 := (HE.sel [2, 0, 3] (by decide) (by simp)).toMem (m := ⟨m.secs, m.cache ++ [(n, xs)], m.failed, without m.bad n⟩)
      refine ⟨_, F1 ++ (F4 ++ F3), ret2 Hcan.out.symm, ?_⟩
      unfold writeV
      rw [Hcan.out, if_pos rfl]
      rw [Hmf.out] at h9 ⊢
      exact h9.toNew 0 rfl
    · simp only [Bool.not_eq_true] at hcan
      have Hcan := Aside0.mk hcan
      rw [hcan]
      clear hcan
      go_wp2
      have HE : Sep w [] _ _ := (((HB.out.setb 4 rfl 0 (.slice B1 m.secs.length d1) rfl).setb 4 rfl 1 (.slice B2 m.cache.length d2) rfl).setb 4 rfl 2 (.bool mf) rfl).setb 4 rfl 3 (.slice B3 m.bad.length d3) rfl
      refine bodyPost_ret (results_ct rfl _ _ (w.heap.size + 1 + 1) 30 #[.slice B1 m.secs.length d1, .slice B2 m.cache.length d2, .bool mf, .slice B3 m.bad.length d3] (0, 0) _ rfl (HE.get 4 rfl) Try.underlying30 rfl (by kernel_rfl)) rfl ?_
      have h9 := (HE.sel [1, 2, 3] (by decide) (by simp)).toMem (m := m)
      rw [Hmf.out] at h9
      refine ⟨_, F1 ++ (F2 ++ F3), ret2 Hcan.out.symm, ?_⟩
      unfold writeV
      rw [Hcan.out]
      exact h9.toNew 0 rfl
set_option maxHeartbeats 4000000 in
set_option maxRecDepth 100000 in
theorem c_specWriteSec {w : World} {v : Value} {m : MemV} {n : Int} {vs : Value} {xs : List Int} (h : MemR w v m) (hs : Small m) (hx : RK kInt w vs xs) (hxl : xs.length ≤ 16777216) :
    Calls Try.prog 40 #[v, .int .i64 n, vs] w fun e w' => ∃ u F, e = .returned (.tuple #[u, .bool (canWrite m n xs)]) ∧ New w w' (me F u (writeV m n xs)) := by
  have H := Aside0.mk h
  obtain ⟨s, c, b, rfl, r1, r2, r3⟩ := h
  obtain ⟨A1, c1, rfl, _⟩ := r1
  obtain ⟨A2, c2, rfl, _⟩ := r2
  obtain ⟨A3, c3, rfl, _⟩ := r3
  obtain ⟨AX, cX, rfl, _⟩ := id hx
  have HX := Aside0.mk hx
  have hb1 := hs.1
  have hb2 := hs.2.2.1
  have HS := Aside0.mk hs
  clear hs hx
  generalize hmf : m.failed = mf at H
  have Hmf := Aside0.mk hmf
  clear hmf
  go_enter Try.func40, Try.ntmps40
  go_upto_region 2 with (first
    | (go_at_call 95; refine (c_l2Copy (MemR_below H.out (below_alloc (below_alloc (Below.refl _ _) _) _)) HS.out).mono ?_; rintro e w1 ⟨u, F, rfl, hn⟩; obtain ⟨B1, d1, B2, d2, B3, d3, F1, F2, F3, rfl, h1⟩ := ((((Sep.start w []).alloc (g := w.heap.size) rfl #[.slice A1 m.secs.length c1, .slice A2 m.cache.length c2, .bool mf, .slice A3 m.bad.length c3] 30).alloc (g := w.heap.size + 1) (by simp) #[.slice none 0 0, .slice none 0 0, .bool false, .slice none 0 0] 30).new hn).ofMem; rw [Hmf.out]; have HS1 := Aside0.mk (h1.alloc (g := w1.heap.size) rfl #[.slice B1 m.secs.length d1, .slice B2 m.cache.length d2, .bool mf, .slice B3 m.bad.length d3] 30); clear hn h1)
    | fail)
  generalize hg : w1.heap.size = g at *
  generalize hw2 : w1.alloc (.cells #[.slice B1 m.secs.length d1, .slice B2 m.cache.length d2, .bool mf, .slice B3 m.bad.length d3] 30 (0, 0)) = w2 at *
  clear hg hw2
  obtain ⟨k1, k2, k3, k4⟩ := four (HS1.out.get 5 rfl)
  go_cut [37] (fun s37 wx => s37 = .bool (!canWrite m n xs) ∧ Aside0 (Sep w [] wx [bx g 30 #[.slice B1 m.secs.length d1, .slice B2 m.cache.length d2, .bool mf, .slice B3 m.bad.length d3], rw_ oSec 24 F1 (.slice B1 m.secs.length d1) m.secs, rw_ oWr 66 F2 (.slice B2 m.cache.length d2) (m.cache), rw_ oInt 3 F3 (.slice B3 m.bad.length d3) (m.bad), bx (w.heap.size + 1) 30 #[.slice none 0 0, .slice none 0 0, .bool false, .slice none 0 0], bx w.heap.size 30 #[.slice A1 m.secs.length c1, .slice A2 m.cache.length c2, .bool mf, .slice A3 m.bad.length c3]]))
  case first =>
    have hk := Hmf.out
    by_cases hA : memB m = true
    · have h60 := memB_cache hA
      cases mf
      · by_cases hC : inR n 0 ((m.secs.length : Int) - 1) = true
        · by_cases hD : secB xs = true
          · have hcan : canWrite m n xs = decide (m.cache.length < 60) := by simp [canWrite, hA, hk, hC, hD]
            have Hcan := Aside0.mk hcan
            clear hcan hk
            go_wp2_with (first
              | (go_at_call 29; refine (c_specMemOk (MemR_below H.out HS1.out.toBelow)).mono ?_; rintro e w3 ⟨rfl, hb⟩; have HS2 := Aside0.mk (HS1.out.below hb); clear hb k1 k2 k3 k4; obtain ⟨k1, k2, k3, k4⟩ := four (HS2.out.get 5 rfl))
              | (go_at_call 96; refine (c_l1In _ _ _ _).mono ?_; rintro e w4 ⟨rfl, hb⟩; have HS3 := Aside0.mk (HS2.out.dr hb); clear hb k1 k2 k3 k4; obtain ⟨k1, k2, k3, k4⟩ := four (HS3.out.get 5 rfl))
              | (go_at_call 121; refine (c_specSecOk (HS3.out.rk HX.out)).mono ?_; rintro e w5 ⟨rfl, hb⟩; have HS4 := Aside0.mk (HS3.out.dr hb); clear hb k1 k2 k3 k4; obtain ⟨k1, k2, k3, k4⟩ := four (HS4.out.get 5 rfl))
              | fail)
            go_meet
            exact ⟨by rw [Hcan.out, ge60], HS4⟩
          · simp only [Bool.not_eq_true] at hD
            have hcan : canWrite m n xs = false := by simp [canWrite, hA, hk, hC, hD]
            have Hcan := Aside0.mk hcan
            clear hcan hk
            go_wp2_with (first
              | (go_at_call 29; refine (c_specMemOk (MemR_below H.out HS1.out.toBelow)).mono ?_; rintro e w3 ⟨rfl, hb⟩; have HS2 := Aside0.mk (HS1.out.below hb); clear hb k1 k2 k3 k4; obtain ⟨k1, k2, k3, k4⟩ := four (HS2.out.get 5 rfl))
              | (go_at_call 96; refine (c_l1In _ _ _ _).mono ?_; rintro e w4 ⟨rfl, hb⟩; have HS3 := Aside0.mk (HS2.out.dr hb); clear hb k1 k2 k3 k4; obtain ⟨k1, k2, k3, k4⟩ := four (HS3.out.get 5 rfl))
              | (go_at_call 121; refine (c_specSecOk (HS3.out.rk HX.out)).mono ?_; rintro e w5 ⟨rfl, hb⟩; have HS4 := Aside0.mk (HS3.out.dr hb); clear hb k1 k2 k3 k4; obtain ⟨k1, k2, k3, k4⟩ := four (HS4.out.get 5 rfl))
              | fail)
            go_meet
            exact ⟨by rw [Hcan.out]; rfl, HS4⟩
        · simp only [Bool.not_eq_true] at hC
          have hcan : canWrite m n xs = false := by simp [canWrite, hA, hk, hC]
          have Hcan := Aside0.mk hcan
          clear hcan hk
          go_wp2_with (first
            | (go_at_call 29; refine (c_specMemOk (MemR_below H.out HS1.out.toBelow)).mono ?_; rintro e w3 ⟨rfl, hb⟩; have HS2 := Aside0.mk (HS1.out.below hb); clear hb k1 k2 k3 k4; obtain ⟨k1, k2, k3, k4⟩ := four (HS2.out.get 5 rfl))
            | (go_at_call 96; refine (c_l1In _ _ _ _).mono ?_; rintro e w4 ⟨rfl, hb⟩; have HS3 := Aside0.mk (HS2.out.dr hb); clear hb k1 k2 k3 k4; obtain ⟨k1, k2, k3, k4⟩ := four (HS3.out.get 5 rfl))
            | fail)
          go_meet
          exact ⟨by rw [Hcan.out]; rfl, HS3⟩
      · have hcan : canWrite m n xs = false := by simp [canWrite, hk]
        have Hcan := Aside0.mk hcan
        clear hcan hk
        go_wp2_with (first
          | (go_at_call 29; refine (c_specMemOk (MemR_below H.out HS1.out.toBelow)).mono ?_; rintro e w3 ⟨rfl, hb⟩; have HS2 := Aside0.mk (HS1.out.below hb); clear hb k1 k2 k3 k4; obtain ⟨k1, k2, k3, k4⟩ := four (HS2.out.get 5 rfl))
          | fail)
        go_meet
        exact ⟨by rw [Hcan.out]; rfl, HS2⟩
    · simp only [Bool.not_eq_true] at hA
      have hcan : canWrite m n xs = false := by simp [canWrite, hA]
      have Hcan := Aside0.mk hcan
      clear hcan hk
      go_wp2_with (first
        | (go_at_call 29; refine (c_specMemOk (MemR_below H.out HS1.out.toBelow)).mono ?_; rintro e w3 ⟨rfl, hb⟩; have HS2 := Aside0.mk (HS1.out.below hb); clear hb k1 k2 k3 k4; obtain ⟨k1, k2, k3, k4⟩ := four (HS2.out.get 5 rfl))
        | fail)
      go_meet
      exact ⟨by rw [Hcan.out]; rfl, HS2⟩
  case rest =>
    obtain ⟨rfl, HB⟩ := hcut
    clear k1 k2 k3 k4 HS1
    obtain ⟨k1, k2, k3, k4⟩ := four (HB.out.get 0 rfl)
    obtain ⟨z1, z2, z3, z4⟩ := four (HB.out.get 4 rfl)
    have fz := blk_frozen (HB.out.get 4 rfl)
    by_cases hcan : canWrite m n xs = true
    · have Hcan := Aside0.mk hcan
      rw [hcan]
      have h60 : m.cache.length < 60 := by simp [canWrite] at hcan; omega
      clear hcan z1 z2 z3 z4 fz k1 k3 k4
      go_wp2
      refine wp_region_seq (fun w' => w'.cell? ⟨g, 1, none⟩ = some (.slice B2 m.cache.length d2)) [10] [(0, true), (1, true), (2, true), (4, true), (3, false), (5, false), (6, true), (7, false), (8, false), (9, true), (10, false)] (by kernel_rfl) (by kernel_rfl) ?_
      have hS : (fun w' : World => w'.cell? ⟨g, 1, none⟩ = some (.slice B2 m.cache.length d2)) wc.drew := k2
      iterate 4 (refine seq_take hS rfl (fun _ _ _ h => h) (by rfl) (fun w_ hSw => by (try dsimp only at hSw); go_simp; first | done | with_reducible rfl) ?_; (try simp only [Act.put, List.getElem_toArray, List.getElem_cons_succ, List.getElem_cons_zero, List.setIfInBounds_toArray, List.set_cons_zero, List.set_cons_succ]))
      refine seq_step rfl (fun K hK => ?_)
      go_simp
      refine hK.out _ _ ⟨fun _ => cell_alloc k2 _, ?_⟩; clear hK K; (try simp only [Act.put, List.getElem_toArray, List.getElem_cons_succ, List.getElem_cons_zero, List.setIfInBounds_toArray, List.set_cons_zero, List.set_cons_succ])
      refine seq_step rfl (fun K hK => ?_)
      refine step_copy .i64 (HB.out.drew.lit (g := wc.heap.size) rfl oInt 3) (by rfl) _ _ 24 8 (by rfl) Try.underlying24 (by kernel_rfl) (by decide) _ xs (by rfl) (by rfl) ((HB.out.drew.lit (g := wc.heap.size) rfl oInt 3).rk HX.out) (by omega) ?_
      intro A5 c5 w3 K_ h1
      have HS1 := Aside0.mk h1
      clear k2 hS h1
      have k2 := (four (HS1.out.get 1 rfl)).2.1
      have hS : (fun w' : World => w'.cell? ⟨g, 1, none⟩ = some (.slice B2 m.cache.length d2)) w3 := k2
      refine hK.out _ _ ⟨fun _ => hS, ?_⟩; clear hK K; (try simp only [Act.put, List.getElem_toArray, List.getElem_cons_succ, List.getElem_cons_zero, List.setIfInBounds_toArray, List.set_cons_zero, List.set_cons_succ])
      iterate 1 (refine seq_take hS rfl (fun _ _ _ h => h) (by rfl) (fun w_ hSw => by (try dsimp only at hSw); go_simp; first | done | with_reducible rfl) ?_; (try simp only [Act.put, List.getElem_toArray, List.getElem_cons_succ, List.getElem_cons_zero, List.setIfInBounds_toArray, List.set_cons_zero, List.set_cons_succ]))
      refine seq_step rfl (fun K hK => ?_)
      go_simp
      refine hK.out _ _ ⟨fun _ => cell_alloc k2 _, ?_⟩; clear hK K; (try simp only [Act.put, List.getElem_toArray, List.getElem_cons_succ, List.getElem_cons_zero, List.setIfInBounds_toArray, List.set_cons_zero, List.set_cons_succ])
      refine seq_step rfl (fun K hK => ?_)
      refine step_app (d := oWr) (y := (n, xs)) (HS1.out.sel [3, 0, 1, 2, 4, 5, 6] (by decide) (by simp)) 0 rfl _ _ 28 (.agg #[.int .i64 0, .slice none 0 0]) 32 (by rfl) Try.underlying28 (by kernel_rfl) rfl (by decide) (by decide) [.int .i64 n, .slice A5 xs.length c5] ⟨[], K_, [.int .i64 n], [.slice A5 xs.length c5], rfl, rfl, ⟨rfl, rfl⟩, _, rfl, HS1.out.get 0 rfl⟩ (by rfl) (by rfl) (by rfl) (n := m.cache.length) rfl (by omega) ?_
      intro g2 cap2 w4 F4 h2
      have HS2 := Aside0.mk h2
      clear k2 hS
      have k2 := (four (h2.get 1 rfl)).2.1
      have fz := blk_frozen (h2.get 1 rfl)
      clear h2
      have hS : (fun w' : World => w'.cell? ⟨g, 1, none⟩ = some (.slice B2 m.cache.length d2)) w4 := k2
      refine hK.out _ _ ⟨fun _ => hS, ?_⟩; clear hK K; (try simp only [Act.put, List.getElem_toArray, List.getElem_cons_succ, List.getElem_cons_zero, List.setIfInBounds_toArray, List.set_cons_zero, List.set_cons_succ])
      iterate 1 (refine seq_take hS rfl (fun _ _ _ h => h) (by rfl) (fun w_ hSw => by (try dsimp only at hSw); go_simp; first | done | with_reducible rfl) ?_; (try simp only [Act.put, List.getElem_toArray, List.getElem_cons_succ, List.getElem_cons_zero, List.setIfInBounds_toArray, List.set_cons_zero, List.set_cons_succ]))
      clear hS
      refine seq_step rfl (fun K hK => ?_)
      go_simp
      refine hK.out _ _ ⟨(fun h => (by cases h)), ?_⟩; clear hK K; (try simp only [Act.put, List.getElem_toArray, List.getElem_cons_succ, List.getElem_cons_zero, List.setIfInBounds_toArray, List.set_cons_zero, List.set_cons_succ])
      refine seq_done ?_
      have hB := HS2.out.setb 1 rfl 1 (.slice (some ⟨g2, 0, none⟩) (m.cache.length + 1) cap2) rfl
      generalize hw5 : w4.setCell ⟨g, 1, none⟩ (.slice (some ⟨g2, 0, none⟩) (m.cache.length + 1) cap2) = w5 at *
      simp only [List.map_cons, List.map_nil, pick, List.getD_cons_succ, List.getD_cons_zero, List.set_cons_zero, List.set_cons_succ, List.eraseIdx_cons_zero, List.eraseIdx_cons_succ, List.setIfInBounds_toArray] at hB
      have HS3 := Aside0.mk hB
      clear hB k2 fz hw5
      have k4 := (four (HS3.out.get 5 rfl)).2.2.2
      have H3 := Aside0.mk (show RK kInt w (.slice A3 m.bad.length c3) m.bad by obtain ⟨s_, c_, b_, e_, _, _, r_⟩ := H.out; cases e_; exact r_)
      go_wp2_with (first
        | (go_at_call 125; refine (c_l2Without (HS3.out.rk H3.out) HS.out.2.2.2.2).mono ?_; rintro e w6 ⟨u, F6, rfl, hu, hF, hb⟩; obtain ⟨B4, d4, rfl, hzz⟩ := O_RK hu; have h7 := HS3.out.new (new_row hu hF hb); have HS4 := Aside0.mk h7; clear h7 hzz hu hF hb k4; obtain ⟨k1, k2, k3, k4⟩ := four (HS4.out.get 2 rfl); have fk := blk_frozen (HS4.out.get 2 rfl); obtain ⟨z1, z2, z3, z4⟩ := four (HS4.out.get 5 rfl); have fz := blk_frozen (HS4.out.get 5 rfl); have hgr : g ≠ w.heap.size + 1 := HS4.out.neq 2 5 rfl rfl (by decide); have hrg : w.heap.size + 1 ≠ g := Ne.symm hgr)
        | fail)
      have HE : Sep w [] _ _ := ((((HS4.out.setb 2 rfl 3 (.slice B4 (without m.bad n).length d4) rfl).setb 5 rfl 0 (.slice B1 m.secs.length d1) rfl).setb 5 rfl 1 (.slice (some ⟨g2, 0, none⟩) (m.cache.length + 1) cap2) rfl).setb 5 rfl 2 (.bool mf) rfl).setb 5 rfl 3 (.slice B4 (without m.bad n).length d4) rfl
      refine bodyPost_ret (results_ct rfl _ _ (w.heap.size + 1) 30 #[.slice B1 m.secs.length d1, .slice (some ⟨g2, 0, none⟩) (m.cache.length + 1) cap2, .bool mf, .slice B4 (without m.bad n).length d4] (0, 0) _ rfl (HE.get 5 rfl) Try.underlying30 rfl (by kernel_rfl)) rfl ?_
      have h9 := (HE.sel [3, 1, 0] (by decide) (by simp)).toMem (m := ⟨m.secs, m.cache ++ [(n, xs)], m.failed, without m.bad n⟩)
      refine ⟨_, F1 ++ (F4 ++ F6), ret2 Hcan.out.symm, ?_⟩
      unfold writeV
      rw [Hcan.out, if_pos rfl]
      rw [Hmf.out] at h9 ⊢
      exact h9.toNew 0 rfl
    · simp only [Bool.not_eq_true] at hcan
      have Hcan := Aside0.mk hcan
      rw [hcan]
      clear hcan
      go_wp2
      have HE : Sep w [] _ _ := (((HB.out.setb 4 rfl 0 (.slice B1 m.secs.length d1) rfl).setb 4 rfl 1 (.slice B2 m.cache.length d2) rfl).setb 4 rfl 2 (.bool mf) rfl).setb 4 rfl 3 (.slice B3 m.bad.length d3) rfl
      refine bodyPost_ret (results_ct rfl _ _ (w.heap.size + 1) 30 #[.slice B1 m.secs.length d1, .slice B2 m.cache.length d2, .bool mf, .slice B3 m.bad.length d3] (0, 0) _ rfl (HE.get 4 rfl) Try.underlying30 rfl (by kernel_rfl)) rfl ?_
      have h9 := (HE.sel [1, 2, 3] (by decide) (by simp)).toMem (m := m)
      rw [Hmf.out] at h9
      refine ⟨_, F1 ++ (F2 ++ F3), ret2 Hcan.out.symm, ?_⟩
      unfold writeV
      rw [Hcan.out]
      exact h9.toNew 0 rfl
end Go.Proofs.Ytlmnmcfieagmbaa.MWrite
