/- FlushMem and FallMem of the document. -/
import Derived.Test.YtlmnmcfieagmbaaMFlush
import Derived.Test.YtlmnmcfieagmbaaMRel
namespace Go.Proofs.Ytlmnmcfieagmbaa.MFlushS
open Go.RowKit Go.Proofs.Ytlmnmcfieagmbaa.RJ Go.Proofs.YtlmnmcfieagmbaaW.PrintWords Go.Proofs.Ytlmnmcfieagmbaa.Fp Go.Proofs.Ytlmnmcfieagmbaa.FpStep Go.Proofs.Ytlmnmcfieagmbaa.MInt Go.Proofs.Ytlmnmcfieagmbaa.MKinds Go.Proofs.Ytlmnmcfieagmbaa.MRead Go.Proofs.Ytlmnmcfieagmbaa.MMake Go.Proofs.Ytlmnmcfieagmbaa.MPut Go.Proofs.Ytlmnmcfieagmbaa.MOk Go.Proofs.Ytlmnmcfieagmbaa.MVal Go.Proofs.Ytlmnmcfieagmbaa.Sep Go.Proofs.Ytlmnmcfieagmbaa.SepStep Go.Proofs.Ytlmnmcfieagmbaa.MCopy Go.Proofs.Ytlmnmcfieagmbaa.MCopyS Go.Proofs.Ytlmnmcfieagmbaa.MFlush Go.Proofs.Ytlmnmcfieagmbaa.MRel
set_option linter.unusedVariables false
set_option linter.unusedSimpArgs false
attribute [local go_sem ↓] Go.wp_at_zero Go.wp_at_succ
/-- Of a cache, what is not given away yet: the entries from i on. -/
def Left (l : List (Int × List Int)) (i : Nat) (es : List (Int × Option (List Int))) : Prop := es.length = l.length ∧ ∀ (j : Nat) (x : Int × List Int), i ≤ j → l[j]? = some x → es[j]? = some (x.1, some x.2)
theorem Left.start (l : List (Int × List Int)) : Left l 0 (l.map (fun x => (x.1, some x.2))) := ⟨by simp, fun j x _ h => by rw [List.getElem?_map, h]; rfl⟩
theorem Left.skip {l : List (Int × List Int)} {i : Nat} {es : List (Int × Option (List Int))} (h : Left l i es) : Left l (i + 1) es := ⟨h.1, fun j x hj hx => h.2 j x (by omega) hx⟩
theorem Left.give {l : List (Int × List Int)} {i : Nat} {es : List (Int × Option (List Int))} (h : Left l i es) (y : Int × Option (List Int)) : Left l (i + 1) (es.set i y) := ⟨by simp [h.1], fun j x hj hx => by rw [List.getElem?_set_ne (by omega)]; exact h.2 j x (by omega) hx⟩
theorem fallW_append (k : Int) (a b : List (Int × List Int)) : ∀ (j : Nat) (secs : List (List Int)), fallW k j secs (a ++ b) = fallW k (j + a.length) (fallW k j secs a) b := by
  induction a with
  | nil => intro j secs; rfl
  | cons e l ih => intro j secs; rw [List.cons_append, fallW, ih, fallW, List.length_cons, show j + 1 + l.length = j + (l.length + 1) by omega]
theorem fallW_late (k : Int) (l : List (Int × List Int)) : ∀ (j : Nat) (secs : List (List Int)), 20 ≤ j → fallW k j secs l = secs := by
  induction l with
  | nil => intro j secs _; rfl
  | cons e l ih =>
    intro j secs hj
    rw [fallW, ih _ _ (by omega), if_neg]
    simp [kept]; omega
theorem fall_rest (k : Int) (l : List (Int × List Int)) (secs : List (List Int)) (i : Nat) (h : 20 ≤ i) : fallW k 0 secs (l.take i) = fallW k 0 secs l := by
  rcases Nat.lt_or_ge i l.length with hl | hl
  · conv => rhs; rw [← List.take_append_drop i l, fallW_append]
    rw [fallW_late k (l.drop i) _ _ (by rw [List.length_take]; omega)]
  · rw [List.take_of_length_le hl]
set_option maxHeartbeats 4000000 in
set_option maxRecDepth 100000 in
theorem c_specFlushMem {w : World} {v : Value} {m : MemV} (h : MemR w v m) (hs : Small m) :
    Calls Try.prog 37 #[v] w fun e w' => ∃ u F, e = .returned u ∧ New w w' (me F u (flushV m)) := by
  have H := Aside0.mk h
  obtain ⟨s, c, b, rfl, r1, r2, r3⟩ := h
  have H2 := Aside0.mk r2
  obtain ⟨A1, c1, rfl, _⟩ := r1
  obtain ⟨A2, c2, rfl, _⟩ := r2
  obtain ⟨A3, c3, rfl, _⟩ := r3
  have hb1 := hs.1
  have hb2 := hs.2.2.1
  have HS := Aside0.mk hs
  clear hs
  generalize hmf : m.failed = mf at H
  have Hmf := Aside0.mk hmf
  clear hmf
  go_enter Try.func37, Try.ntmps37
  go_upto_region 2 with (first
    | (go_at_call 95; refine (c_l2Copy (MemR_below H.out (below_alloc (below_alloc (Below.refl _ _) _) _)) HS.out).mono ?_; rintro e w1 ⟨u, F, rfl, hn⟩; obtain ⟨B1, d1, B2, d2, B3, d3, F1, F2, F3, rfl, h1⟩ := ((((Sep.start w []).alloc (g := w.heap.size) rfl #[.slice A1 m.secs.length c1, .slice A2 m.cache.length c2, .bool mf, .slice A3 m.bad.length c3] 30).alloc (g := w.heap.size + 1) (by simp) #[.slice none 0 0, .slice none 0 0, .bool false, .slice none 0 0] 30).new hn).ofMem; rw [Hmf.out]; have HS1 := Aside0.mk (h1.alloc (g := w1.heap.size) rfl #[.slice B1 m.secs.length d1, .slice B2 m.cache.length d2, .bool mf, .slice B3 m.bad.length d3] 30); clear hn h1)
    | fail)
  generalize hg : w1.heap.size = g at *
  generalize hw2 : w1.alloc (.cells #[.slice B1 m.secs.length d1, .slice B2 m.cache.length d2, .bool mf, .slice B3 m.bad.length d3] 30 (0, 0)) = w2 at *
  clear hg hw2
  obtain ⟨k1, k2, k3, k4⟩ := four (HS1.out.get 5 rfl)
  go_cut [13] (fun s13 wx => s13 = .bool (!(memB m && !m.failed)) ∧ Aside0 (Sep w [] wx [bx g 30 #[.slice B1 m.secs.length d1, .slice B2 m.cache.length d2, .bool mf, .slice B3 m.bad.length d3], rw_ oSec 24 F1 (.slice B1 m.secs.length d1) (m.secs), rw_ oWr 66 F2 (.slice B2 m.cache.length d2) m.cache, rw_ oInt 3 F3 (.slice B3 m.bad.length d3) m.bad, bx (w.heap.size + 1) 30 #[.slice none 0 0, .slice none 0 0, .bool false, .slice none 0 0], bx w.heap.size 30 #[.slice A1 m.secs.length c1, .slice A2 m.cache.length c2, .bool mf, .slice A3 m.bad.length c3]]))
  case first =>
    have hk := Hmf.out
    by_cases hA : memB m = true
    · have hcan : (!(memB m && !m.failed)) = mf := by rw [hA, hk]; simp
      have Hcan := Aside0.mk hcan
      clear hcan hk
      cases mf
      · go_wp2_with (first
          | (go_at_call 29; refine (c_specMemOk (MemR_below H.out HS1.out.toBelow)).mono ?_; rintro e w3 ⟨rfl, hb⟩; have HS2 := Aside0.mk (HS1.out.below hb); clear hb k1 k2 k3 k4; obtain ⟨k1, k2, k3, k4⟩ := four (HS2.out.get 5 rfl))
          | fail)
        go_meet
        exact ⟨by rw [Hcan.out], HS2⟩
      · go_wp2_with (first
          | (go_at_call 29; refine (c_specMemOk (MemR_below H.out HS1.out.toBelow)).mono ?_; rintro e w3 ⟨rfl, hb⟩; have HS2 := Aside0.mk (HS1.out.below hb); clear hb k1 k2 k3 k4; obtain ⟨k1, k2, k3, k4⟩ := four (HS2.out.get 5 rfl))
          | fail)
        go_meet
        exact ⟨by rw [Hcan.out], HS2⟩
    · simp only [Bool.not_eq_true] at hA
      have hcan : (!(memB m && !m.failed)) = true := by rw [hA]; rfl
      have Hcan := Aside0.mk hcan
      clear hcan hk
      go_wp2_with (first
        | (go_at_call 29; refine (c_specMemOk (MemR_below H.out HS1.out.toBelow)).mono ?_; rintro e w3 ⟨rfl, hb⟩; have HS2 := Aside0.mk (HS1.out.below hb); clear hb k1 k2 k3 k4; obtain ⟨k1, k2, k3, k4⟩ := four (HS2.out.get 5 rfl))
        | fail)
      go_meet
      exact ⟨by rw [Hcan.out], HS2⟩
  case rest =>
    obtain ⟨rfl, HB⟩ := hcut
    clear k1 k2 k3 k4 HS1
    by_cases hcan : (memB m && !m.failed) = true
    · have hc2 : (!(memB m && !m.failed)) = false := by rw [hcan]; rfl
      rw [hc2]
      have hval : flushV m = ⟨m.cache.foldl putW m.secs, [], m.failed, m.bad⟩ := by unfold flushV; rw [if_pos hcan]
      obtain ⟨hp1, hp2, hp3, hp4, hp5⟩ := memB_parts (m := m) (by simp at hcan; exact hcan.1)
      have Hval := Aside0.mk hval
      have Hp2 := Aside0.mk hp2
      have hl1 := hp4.1
      clear hcan hval hp1 hp2 hp3 hp4 hp5 hc2
      obtain ⟨gs, capS, hB1, _, _⟩ := O_form (show oSec.O 24 wc F1 (.slice B1 m.secs.length d1) m.secs from HB.out.get 1 rfl) (by omega)
      cases hB1
      have HU := Aside0.mk ((Sep.toU (HB.out.sel [2, 0, 1, 3, 4, 5] (by decide) (by simp))).sel [1, 2, 0, 3, 4, 5] (by decide) (by simp))
      obtain ⟨k1, k2, k3, k4⟩ := four (HU.out.get 0 rfl)
      go_wp2
      go_loopw [4] (fun v4 wr => ∃ i : Nat, i ≤ m.cache.length ∧ v4 = .int .i64 i ∧ ∃ (F F2 : List Nat) (es : List (Int × Option (List Int))), Aside0 (Left m.cache i es ∧ Sep w [] wr [bx g 30 #[.slice (some ⟨gs, 0, none⟩) m.secs.length d1, .slice B2 m.cache.length d2, .bool mf, .slice B3 m.bad.length d3], rw_ oSec 24 F (.slice (some ⟨gs, 0, none⟩) m.secs.length d1) ((m.cache.take i).foldl putW m.secs), rw_ oWrU 66 F2 (.slice B2 m.cache.length d2) es, rw_ oInt 3 F3 (.slice B3 m.bad.length d3) m.bad, bx (w.heap.size + 1) 30 #[.slice none 0 0, .slice none 0 0, .bool false, .slice none 0 0], bx w.heap.size 30 #[.slice A1 m.secs.length c1, .slice A2 m.cache.length c2, .bool mf, .slice A3 m.bad.length c3]])) (fun v4 _ => m.cache.length - (intOf v4).toNat)
      case atStart => exact ⟨0, by omega, rfl, F1, F2, _, ⟨Left.start _, HU.out⟩⟩
      case round =>
        obtain ⟨i, hi, rfl, F, F2, es, HLR⟩ := hrel
        have HR := Aside0.mk HLR.out.2
        clear k1 k2 k3 k4
        obtain ⟨k1, k2, k3, k4⟩ := four (HR.out.get 0 rfl)
        by_cases hlt : i < m.cache.length
        · obtain ⟨⟨xn, x⟩, hxi⟩ : ∃ x, m.cache[i]? = some x := ⟨_, List.getElem?_eq_getElem hlt⟩
          have hei := HLR.out.1.2 i _ (Nat.le_refl _) hxi
          obtain ⟨gc, capC, hB2, _, _⟩ := O_form (show oWrU.O 66 _ F2 (.slice B2 m.cache.length d2) es from HR.out.get 2 rfl) (by rw [HLR.out.1.1]; omega)
          rw [HLR.out.1.1] at hB2
          cases hB2
          obtain ⟨q, hq, hql, _⟩ := wrB_at (Hp2.out _ (List.mem_of_getElem? hxi))
          simp only at hq
          subst hq
          have Hxi := Aside0.mk hxi
          have Hei := Aside0.mk hei
          have q0 : (0 : Int) ≤ (q : Int) := by omega
          have ql : (q : Int) < (m.secs.length : Int) := by omega
          have i0 : (0 : Int) ≤ (i : Int) := by omega
          have i1 : (i : Int) < (m.cache.length : Int) := by omega
          clear hxi hei
          obtain ⟨G, A6, c6, F3_, cn, cu, hgive⟩ := Sep.give (HR.out.sel [2, 0, 1, 3, 4, 5] (by decide) (by simp)) Hei.out
          have HG := Aside0.mk hgive
          have hlen : q < ((m.cache.take i).foldl putW m.secs).length := by rw [foldPut_len]; omega
          obtain ⟨uu, cc1, cc2⟩ := O_cells (d := oSec) (t := 0) (HR.out.get 1 rfl) hlen (by decide)
          simp only [show oSec.sz = 1 from rfl, Nat.mul_one, Nat.add_zero] at cc1 cc2
          clear hgive k3 k4
          go_wp2
          refine wp_region_seq (fun w' => w'.cell? ⟨g, 0, none⟩ = some (.slice (some ⟨gs, 0, none⟩) m.secs.length d1) ∧ w'.cell? ⟨g, 1, none⟩ = some (.slice (some ⟨gc, 0, none⟩) m.cache.length d2) ∧ w'.cell? ⟨gc, i * 2, none⟩ = some (.int .i64 (q : Int)) ∧ w'.cell? ⟨gc, i * 2 + 1, none⟩ = some (.slice A6 x.length c6)) [15] [(0, true), (1, true), (2, true), (3, true), (4, true), (5, true), (6, true), (7, true), (8, true), (9, true), (10, true), (11, true), (12, true), (13, true), (14, true), (15, false)] (by kernel_rfl) (by kernel_rfl) ?_
          have hS : (fun w' : World => w'.cell? ⟨g, 0, none⟩ = some (.slice (some ⟨gs, 0, none⟩) m.secs.length d1) ∧ w'.cell? ⟨g, 1, none⟩ = some (.slice (some ⟨gc, 0, none⟩) m.cache.length d2) ∧ w'.cell? ⟨gc, i * 2, none⟩ = some (.int .i64 (q : Int)) ∧ w'.cell? ⟨gc, i * 2 + 1, none⟩ = some (.slice A6 x.length c6)) wr.drew := ⟨k1, k2, cn, cu⟩
          iterate 15 (refine seq_take hS rfl (fun _ _ _ h => h) (by rfl) (fun w_ hSw => by (try dsimp only at hSw); go_simp; first | done | with_reducible rfl) ?_; (try simp only [Act.put, List.getElem_toArray, List.getElem_cons_succ, List.getElem_cons_zero, List.setIfInBounds_toArray, List.set_cons_zero, List.set_cons_succ]))
          clear hS
          refine seq_step rfl (fun K hK => ?_)
          go_simp
          refine hK.out _ _ ⟨(fun h => (by cases h)), ?_⟩; clear hK K; (try simp only [Act.put, List.getElem_toArray, List.getElem_cons_succ, List.getElem_cons_zero, List.setIfInBounds_toArray, List.set_cons_zero, List.set_cons_succ])
          refine seq_done ?_
          go_wp2
          go_roundw
          case rel =>
            have hgd := HG.out.drew
            obtain ⟨F', hput⟩ := Sep.put (d := oSec) (i := q) (y := x) (us := [.slice A6 x.length c6]) (hgd.sel [3, 0, 1, 2, 4, 5, 6] (by decide) (by simp)) hlen ⟨_, rfl, HG.out.drew.get 0 rfl⟩
            refine ⟨i + 1, by omega, by go_num, F', F3_, es.set i ((q : Int), none), ⟨HLR.out.1.give _, ?_⟩⟩
            rw [take_snoc Hxi.out, foldPut_snoc]
            have h8 := hput.sel [2, 0, 1, 3, 4, 5] (by decide) (by simp)
            simp only [show oSec.sz = 1 from rfl, Nat.mul_one] at h8
            exact h8
          case measure => simp [intOf]; omega
        · obtain rfl : i = m.cache.length := by omega
          rw [List.take_length] at HR
          obtain ⟨z1, z2, z3, z4⟩ := four (HR.out.get 4 rfl)
          replace z1 := cell_alloc z1; replace z2 := cell_alloc z2; replace z3 := cell_alloc z3; replace z4 := cell_alloc z4
          have a1 := cell_alloc k1; have a2 := cell_alloc k2; have a3 := cell_alloc k3; have a4 := cell_alloc k4
          have fk := frozen_alloc (HR.out.get 0 rfl)
          have fz := frozen_alloc (HR.out.get 4 rfl)
          have hgr : g ≠ w.heap.size + 1 := HR.out.neq 0 4 rfl rfl (by decide)
          have hrg : w.heap.size + 1 ≠ g := Ne.symm hgr
          go_wp2
          have HE : Sep w [] _ _ := (((((HR.out.lit (g := wr.heap.size) rfl oWr 66).setb 1 rfl 1 (.slice (some ⟨wr.heap.size, 0, none⟩) 0 0) rfl).setb 5 rfl 0 (.slice (some ⟨gs, 0, none⟩) m.secs.length d1) rfl).setb 5 rfl 1 (.slice (some ⟨wr.heap.size, 0, none⟩) 0 0) rfl).setb 5 rfl 2 (.bool mf) rfl).setb 5 rfl 3 (.slice B3 m.bad.length d3) rfl
          refine bodyPost_ret (results_cell_row rfl _ _ (w.heap.size + 1) 30 #[.slice (some ⟨gs, 0, none⟩) m.secs.length d1, .slice (some ⟨wr.heap.size, 0, none⟩) 0 0, .bool mf, .slice B3 m.bad.length d3] (0, 0) _ rfl (HE.get 5 rfl) Try.underlying30 rfl (by kernel_rfl)) rfl ?_
          rw [Hval.out]
          have h9 := ((HE.sel [2, 0, 4] (by decide) (by simp))).toMem (m := ⟨m.cache.foldl putW m.secs, [], m.failed, m.bad⟩)
          rw [Hmf.out] at h9 ⊢
          exact ⟨_, _, rfl, h9.toNew 0 rfl⟩
    · simp only [Bool.not_eq_true] at hcan
      have hval : flushV m = m := by unfold flushV; rw [hcan]; rfl
      have Hval := Aside0.mk hval
      rw [hcan]
      obtain ⟨k1, k2, k3, k4⟩ := four (HB.out.get 0 rfl)
      obtain ⟨z1, z2, z3, z4⟩ := four (HB.out.get 4 rfl)
      have fz := blk_frozen (HB.out.get 4 rfl)
      clear hcan hval
      go_wp2
      have HE : Sep w [] _ _ := (((HB.out.setb 4 rfl 0 (.slice B1 m.secs.length d1) rfl).setb 4 rfl 1 (.slice B2 m.cache.length d2) rfl).setb 4 rfl 2 (.bool mf) rfl).setb 4 rfl 3 (.slice B3 m.bad.length d3) rfl
      refine bodyPost_ret (results_cell_row rfl _ _ (w.heap.size + 1) 30 #[.slice B1 m.secs.length d1, .slice B2 m.cache.length d2, .bool mf, .slice B3 m.bad.length d3] (0, 0) _ rfl (HE.get 4 rfl) Try.underlying30 rfl (by kernel_rfl)) rfl ?_
      rw [Hval.out]
      have h9 := (HE.sel [1, 2, 3] (by decide) (by simp)).toMem (m := m)
      rw [Hmf.out] at h9
      exact ⟨_, _, rfl, h9.toNew 0 rfl⟩
set_option maxHeartbeats 4000000 in
set_option maxRecDepth 100000 in
theorem c_specFallMem {w : World} {v : Value} {m : MemV} {n : Int} (h : MemR w v m) (hs : Small m) :
    Calls Try.prog 33 #[v, .int .i64 n] w fun e w' => ∃ u F, e = .returned u ∧ New w w' (me F u (fallV m n)) := by
  have H := Aside0.mk h
  obtain ⟨s, c, b, rfl, r1, r2, r3⟩ := h
  have H2 := Aside0.mk r2
  obtain ⟨A1, c1, rfl, _⟩ := r1
  obtain ⟨A2, c2, rfl, _⟩ := r2
  obtain ⟨A3, c3, rfl, _⟩ := r3
  have hb1 := hs.1
  have hb2 := hs.2.2.1
  have HS := Aside0.mk hs
  clear hs
  generalize hmf : m.failed = mf at H
  have Hmf := Aside0.mk hmf
  clear hmf
  go_enter Try.func33, Try.ntmps33
  go_upto_region 2 with (first
    | (go_at_call 95; refine (c_l2Copy (MemR_below H.out (below_alloc (below_alloc (Below.refl _ _) _) _)) HS.out).mono ?_; rintro e w1 ⟨u, F, rfl, hn⟩; obtain ⟨B1, d1, B2, d2, B3, d3, F1, F2, F3, rfl, h1⟩ := ((((Sep.start w []).alloc (g := w.heap.size) rfl #[.slice A1 m.secs.length c1, .slice A2 m.cache.length c2, .bool mf, .slice A3 m.bad.length c3] 30).alloc (g := w.heap.size + 1) (by simp) #[.slice none 0 0, .slice none 0 0, .bool false, .slice none 0 0] 30).new hn).ofMem; rw [Hmf.out]; have HS1 := Aside0.mk (h1.alloc (g := w1.heap.size) rfl #[.slice B1 m.secs.length d1, .slice B2 m.cache.length d2, .bool mf, .slice B3 m.bad.length d3] 30); clear hn h1)
    | fail)
  generalize hg : w1.heap.size = g at *
  generalize hw2 : w1.alloc (.cells #[.slice B1 m.secs.length d1, .slice B2 m.cache.length d2, .bool mf, .slice B3 m.bad.length d3] 30 (0, 0)) = w2 at *
  clear hg hw2
  obtain ⟨k1, k2, k3, k4⟩ := four (HS1.out.get 5 rfl)
  by_cases hcan : memB m = true
  · have hpp := memB_parts hcan
    obtain ⟨hp1, hp2, hp3, hp4, hp5⟩ := hpp
    have Hp2 := Aside0.mk hp2
    have hl1 := hp4.1
    clear hp1 hp2 hp3 hp4 hp5
    go_upto_if 15 with (first
      | (go_at_call 29; refine (c_specMemOk (MemR_below H.out HS1.out.toBelow)).mono ?_; rw [hcan]; rintro e w3 ⟨rfl, hb⟩; have HS2 := Aside0.mk (HS1.out.below hb); clear hb k1 k2 k3 k4)
      | (go_at_call 96; refine (c_l1In _ _ _ _).mono ?_; rintro e w4 ⟨rfl, hb⟩; have HS3 := Aside0.mk (HS2.out.dr hb); clear hb)
      | fail)
    go_cut [1] (fun s1 wx => ∃ kk : Nat, s1 = .int .i64 (kk : Int) ∧ kk ≤ 1048575 ∧ Aside0 ((if inR n 0 1048575 then n else 0) = (kk : Int)) ∧ Aside0 (Sep w [] wx [bx g 30 #[.slice B1 m.secs.length d1, .slice B2 m.cache.length d2, .bool mf, .slice B3 m.bad.length d3], rw_ oSec 24 F1 (.slice B1 m.secs.length d1) (m.secs), rw_ oWr 66 F2 (.slice B2 m.cache.length d2) m.cache, rw_ oInt 3 F3 (.slice B3 m.bad.length d3) m.bad, bx (w.heap.size + 1) 30 #[.slice none 0 0, .slice none 0 0, .bool false, .slice none 0 0], bx w.heap.size 30 #[.slice A1 m.secs.length c1, .slice A2 m.cache.length c2, .bool mf, .slice A3 m.bad.length c3]]))
    case first =>
      by_cases hin : inR n 0 1048575 = true
      · have hr : (0 : Int) ≤ n ∧ n ≤ 1048575 := by simpa [inR] using hin
        have hc2 : (!inR n 0 1048575) = false := by rw [hin]; rfl
        have hif : (if inR n 0 1048575 then n else 0) = ((n.toNat : Nat) : Int) := by rw [if_pos hin]; omega
        have Hif := Aside0.mk hif
        rw [hc2]
        clear hin hc2 hif
        go_wp2_with fail
        go_meet
        exact ⟨n.toNat, by rw [Int.toNat_of_nonneg hr.1], by omega, Hif, HS3⟩
      · have hc2 : (!inR n 0 1048575) = true := by simpa using hin
        have hif : (if inR n 0 1048575 then n else 0) = ((0 : Nat) : Int) := by rw [if_neg hin]; rfl
        have Hif := Aside0.mk hif
        rw [hc2]
        clear hin hc2 hif
        go_wp2_with fail
        go_meet
        exact ⟨0, rfl, by omega, Hif, HS3⟩
    case rest =>
      obtain ⟨kk, rfl, hkk, Hkk, HB⟩ := hcut
      clear HS1 HS2 HS3
      have hval : fallV m n = ⟨fallW (kk : Int) 0 m.secs m.cache, [], m.failed, m.bad⟩ := by unfold fallV; rw [if_pos hcan, Hkk.out]
      have Hval := Aside0.mk hval
      clear hcan hval
      obtain ⟨gs, capS, hB1, _, _⟩ := O_form (show oSec.O 24 wc F1 (.slice B1 m.secs.length d1) m.secs from HB.out.get 1 rfl) (by omega)
      cases hB1
      have HU := Aside0.mk ((Sep.toU (HB.out.sel [2, 0, 1, 3, 4, 5] (by decide) (by simp))).sel [1, 2, 0, 3, 4, 5] (by decide) (by simp))
      obtain ⟨k1, k2, k3, k4⟩ := four (HU.out.get 0 rfl)
      go_wp2
      go_loopw [6] (fun v6 wr => ∃ i : Nat, i ≤ m.cache.length ∧ v6 = .int .i64 i ∧ ∃ (F F2 : List Nat) (es : List (Int × Option (List Int))), Aside0 (Left m.cache i es ∧ Sep w [] wr [bx g 30 #[.slice (some ⟨gs, 0, none⟩) m.secs.length d1, .slice B2 m.cache.length d2, .bool mf, .slice B3 m.bad.length d3], rw_ oSec 24 F (.slice (some ⟨gs, 0, none⟩) m.secs.length d1) (fallW kk 0 m.secs (m.cache.take i)), rw_ oWrU 66 F2 (.slice B2 m.cache.length d2) es, rw_ oInt 3 F3 (.slice B3 m.bad.length d3) m.bad, bx (w.heap.size + 1) 30 #[.slice none 0 0, .slice none 0 0, .bool false, .slice none 0 0], bx w.heap.size 30 #[.slice A1 m.secs.length c1, .slice A2 m.cache.length c2, .bool mf, .slice A3 m.bad.length c3]])) (fun v6 _ => m.cache.length - (intOf v6).toNat)
      case atStart => exact ⟨0, by omega, rfl, F1, F2, _, ⟨Left.start _, HU.out⟩⟩
      case round =>
        obtain ⟨i, hi, rfl, F, F2, es, HLR⟩ := hrel
        have HR := Aside0.mk HLR.out.2
        clear k1 k2 k3 k4
        obtain ⟨k1, k2, k3, k4⟩ := four (HR.out.get 0 rfl)
        by_cases hlt : i < m.cache.length
        · obtain ⟨⟨xn, x⟩, hxi⟩ : ∃ x, m.cache[i]? = some x := ⟨_, List.getElem?_eq_getElem hlt⟩
          have hei := HLR.out.1.2 i _ (Nat.le_refl _) hxi
          obtain ⟨gc, capC, hB2, _, _⟩ := O_form (show oWrU.O 66 _ F2 (.slice B2 m.cache.length d2) es from HR.out.get 2 rfl) (by rw [HLR.out.1.1]; omega)
          rw [HLR.out.1.1] at hB2
          cases hB2
          obtain ⟨q, hq, hql, _⟩ := wrB_at (Hp2.out _ (List.mem_of_getElem? hxi))
          simp only at hq
          subst hq
          have Hxi := Aside0.mk hxi
          have Hei := Aside0.mk hei
          have q0 : (0 : Int) ≤ (q : Int) := by omega
          have ql : (q : Int) < (m.secs.length : Int) := by omega
          have i0 : (0 : Int) ≤ (i : Int) := by omega
          have i1 : (i : Int) < (m.cache.length : Int) := by omega
          clear hxi hei
          by_cases h20 : i < 20
          · by_cases hbit : kk.testBit i = true
            · have hT : (bits BinOp.and IntKind.i64 ((kk : Int) / 2 ^ i) 1 == 1) = true := by rw [bit_test kk i hkk]; exact hbit
              obtain ⟨G, A6, c6, F3_, cn, cu, hgive⟩ := Sep.give (HR.out.sel [2, 0, 1, 3, 4, 5] (by decide) (by simp)) Hei.out
              have HG := Aside0.mk hgive
              have hlen : q < (fallW kk 0 m.secs (m.cache.take i)).length := by rw [fallW_len]; omega
              obtain ⟨uu, cc1, cc2⟩ := O_cells (d := oSec) (t := 0) (HR.out.get 1 rfl) hlen (by decide)
              simp only [show oSec.sz = 1 from rfl, Nat.mul_one, Nat.add_zero] at cc1 cc2
              clear hgive k3 k4
              go_wp2
              refine wp_region_seq (fun w' => w'.cell? ⟨g, 0, none⟩ = some (.slice (some ⟨gs, 0, none⟩) m.secs.length d1) ∧ w'.cell? ⟨g, 1, none⟩ = some (.slice (some ⟨gc, 0, none⟩) m.cache.length d2) ∧ w'.cell? ⟨gc, i * 2, none⟩ = some (.int .i64 (q : Int)) ∧ w'.cell? ⟨gc, i * 2 + 1, none⟩ = some (.slice A6 x.length c6)) [15] [(0, true), (1, true), (2, true), (3, true), (4, true), (5, true), (6, true), (7, true), (8, true), (9, true), (10, true), (11, true), (12, true), (13, true), (14, true), (15, false)] (by kernel_rfl) (by kernel_rfl) ?_
              have hS : (fun w' : World => w'.cell? ⟨g, 0, none⟩ = some (.slice (some ⟨gs, 0, none⟩) m.secs.length d1) ∧ w'.cell? ⟨g, 1, none⟩ = some (.slice (some ⟨gc, 0, none⟩) m.cache.length d2) ∧ w'.cell? ⟨gc, i * 2, none⟩ = some (.int .i64 (q : Int)) ∧ w'.cell? ⟨gc, i * 2 + 1, none⟩ = some (.slice A6 x.length c6)) wr.drew := ⟨k1, k2, cn, cu⟩
              iterate 15 (refine seq_take hS rfl (fun _ _ _ h => h) (by rfl) (fun w_ hSw => by (try dsimp only at hSw); go_simp; first | done | with_reducible rfl) ?_; (try simp only [Act.put, List.getElem_toArray, List.getElem_cons_succ, List.getElem_cons_zero, List.setIfInBounds_toArray, List.set_cons_zero, List.set_cons_succ]))
              clear hS
              refine seq_step rfl (fun K hK => ?_)
              go_simp
              refine hK.out _ _ ⟨(fun h => (by cases h)), ?_⟩; clear hK K; (try simp only [Act.put, List.getElem_toArray, List.getElem_cons_succ, List.getElem_cons_zero, List.setIfInBounds_toArray, List.set_cons_zero, List.set_cons_succ])
              refine seq_done ?_
              go_wp2
              go_roundw
              case rel =>
                have hgd := HG.out.drew
                obtain ⟨F', hput⟩ := Sep.put (d := oSec) (i := q) (y := x) (us := [.slice A6 x.length c6]) (hgd.sel [3, 0, 1, 2, 4, 5, 6] (by decide) (by simp)) hlen ⟨_, rfl, HG.out.drew.get 0 rfl⟩
                refine ⟨i + 1, by omega, by go_num, F', F3_, es.set i ((q : Int), none), ⟨HLR.out.1.give _, ?_⟩⟩
                rw [take_snoc Hxi.out, fallW_snoc, List.length_take, Nat.min_eq_left hi, kept_lo h20, hbit, if_pos rfl]
                have h8 := hput.sel [2, 0, 1, 3, 4, 5] (by decide) (by simp)
                simp only [show oSec.sz = 1 from rfl, Nat.mul_one] at h8
                exact h8
              case measure => simp [intOf]; omega
            · simp only [Bool.not_eq_true] at hbit
              have hT : (bits BinOp.and IntKind.i64 ((kk : Int) / 2 ^ i) 1 == 1) = false := by rw [bit_test kk i hkk]; exact hbit
              clear k1 k3 k4
              go_wp2
              go_roundw
              case rel =>
                refine ⟨i + 1, by omega, by go_num, F, F2, es, ⟨HLR.out.1.skip, ?_⟩⟩
                rw [take_snoc Hxi.out, fallW_snoc, List.length_take, Nat.min_eq_left hi, kept_lo h20, hbit, if_neg (by decide)]
                exact HR.out
              case measure => simp [intOf]; omega
          · have hd : decide ((i : Int) < 20) = false := by simp; omega
            rw [fall_rest (kk : Int) m.cache m.secs i (by omega)] at HR
            obtain ⟨z1, z2, z3, z4⟩ := four (HR.out.get 4 rfl)
            replace z1 := cell_alloc z1; replace z2 := cell_alloc z2; replace z3 := cell_alloc z3; replace z4 := cell_alloc z4
            have a1 := cell_alloc k1; have a2 := cell_alloc k2; have a3 := cell_alloc k3; have a4 := cell_alloc k4
            have fk := frozen_alloc (HR.out.get 0 rfl)
            have fz := frozen_alloc (HR.out.get 4 rfl)
            have hgr : g ≠ w.heap.size + 1 := HR.out.neq 0 4 rfl rfl (by decide)
            have hrg : w.heap.size + 1 ≠ g := Ne.symm hgr
            go_wp2
            have HE : Sep w [] _ _ := (((((HR.out.lit (g := wr.heap.size) rfl oWr 66).setb 1 rfl 1 (.slice (some ⟨wr.heap.size, 0, none⟩) 0 0) rfl).setb 5 rfl 0 (.slice (some ⟨gs, 0, none⟩) m.secs.length d1) rfl).setb 5 rfl 1 (.slice (some ⟨wr.heap.size, 0, none⟩) 0 0) rfl).setb 5 rfl 2 (.bool mf) rfl).setb 5 rfl 3 (.slice B3 m.bad.length d3) rfl
            refine bodyPost_ret (results_cell_row rfl _ _ (w.heap.size + 1) 30 #[.slice (some ⟨gs, 0, none⟩) m.secs.length d1, .slice (some ⟨wr.heap.size, 0, none⟩) 0 0, .bool mf, .slice B3 m.bad.length d3] (0, 0) _ rfl (HE.get 5 rfl) Try.underlying30 rfl (by kernel_rfl)) rfl ?_
            rw [Hval.out]
            have h9 := ((HE.sel [2, 0, 4] (by decide) (by simp))).toMem (m := ⟨fallW (kk : Int) 0 m.secs m.cache, [], m.failed, m.bad⟩)
            rw [Hmf.out] at h9 ⊢
            first | exact ⟨_, _, rfl, h9.toNew 0 rfl⟩ | exact ⟨_, rfl, _, h9.toNew 0 rfl⟩
        · obtain rfl : i = m.cache.length := by omega
          rw [List.take_length] at HR
          obtain ⟨z1, z2, z3, z4⟩ := four (HR.out.get 4 rfl)
          replace z1 := cell_alloc z1; replace z2 := cell_alloc z2; replace z3 := cell_alloc z3; replace z4 := cell_alloc z4
          have a1 := cell_alloc k1; have a2 := cell_alloc k2; have a3 := cell_alloc k3; have a4 := cell_alloc k4
          have fk := frozen_alloc (HR.out.get 0 rfl)
          have fz := frozen_alloc (HR.out.get 4 rfl)
          have hgr : g ≠ w.heap.size + 1 := HR.out.neq 0 4 rfl rfl (by decide)
          have hrg : w.heap.size + 1 ≠ g := Ne.symm hgr
          go_wp2
          have HE : Sep w [] _ _ := (((((HR.out.lit (g := wr.heap.size) rfl oWr 66).setb 1 rfl 1 (.slice (some ⟨wr.heap.size, 0, none⟩) 0 0) rfl).setb 5 rfl 0 (.slice (some ⟨gs, 0, none⟩) m.secs.length d1) rfl).setb 5 rfl 1 (.slice (some ⟨wr.heap.size, 0, none⟩) 0 0) rfl).setb 5 rfl 2 (.bool mf) rfl).setb 5 rfl 3 (.slice B3 m.bad.length d3) rfl
          refine bodyPost_ret (results_cell_row rfl _ _ (w.heap.size + 1) 30 #[.slice (some ⟨gs, 0, none⟩) m.secs.length d1, .slice (some ⟨wr.heap.size, 0, none⟩) 0 0, .bool mf, .slice B3 m.bad.length d3] (0, 0) _ rfl (HE.get 5 rfl) Try.underlying30 rfl (by kernel_rfl)) rfl ?_
          rw [Hval.out]
          have h9 := ((HE.sel [2, 0, 4] (by decide) (by simp))).toMem (m := ⟨fallW (kk : Int) 0 m.secs m.cache, [], m.failed, m.bad⟩)
          rw [Hmf.out] at h9 ⊢
          first | exact ⟨_, _, rfl, h9.toNew 0 rfl⟩ | exact ⟨_, rfl, _, h9.toNew 0 rfl⟩
  · simp only [Bool.not_eq_true] at hcan
    have hval : fallV m n = m := by unfold fallV; rw [hcan]; rfl
    have Hval := Aside0.mk hval
    go_upto_region 3 with (first
      | (go_at_call 29; refine (c_specMemOk (MemR_below H.out HS1.out.toBelow)).mono ?_; rw [hcan]; rintro e w3 ⟨rfl, hb⟩; have HB := Aside0.mk (HS1.out.below hb); clear hb k1 k2 k3 k4)
      | fail)
    clear hcan hval
    obtain ⟨k1, k2, k3, k4⟩ := four (HB.out.get 0 rfl)
    obtain ⟨z1, z2, z3, z4⟩ := four (HB.out.get 4 rfl)
    have fz := blk_frozen (HB.out.get 4 rfl)
    go_wp2
    have HE : Sep w [] _ _ := (((HB.out.setb 4 rfl 0 (.slice B1 m.secs.length d1) rfl).setb 4 rfl 1 (.slice B2 m.cache.length d2) rfl).setb 4 rfl 2 (.bool mf) rfl).setb 4 rfl 3 (.slice B3 m.bad.length d3) rfl
    refine bodyPost_ret (results_cell_row rfl _ _ (w.heap.size + 1) 30 #[.slice B1 m.secs.length d1, .slice B2 m.cache.length d2, .bool mf, .slice B3 m.bad.length d3] (0, 0) _ rfl (HE.get 4 rfl) Try.underlying30 rfl (by kernel_rfl)) rfl ?_
    rw [Hval.out]
    have h9 := (HE.sel [1, 2, 3] (by decide) (by simp)).toMem (m := m)
    rw [Hmf.out] at h9
    first | exact ⟨_, _, rfl, h9.toNew 0 rfl⟩ | exact ⟨_, rfl, _, h9.toNew 0 rfl⟩
end Go.Proofs.Ytlmnmcfieagmbaa.MFlushS
