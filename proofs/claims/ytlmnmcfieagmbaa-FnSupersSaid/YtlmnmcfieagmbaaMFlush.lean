/- FlushMem and FallMem, of both. -/
import Derived.Test.YtlmnmcfieagmbaaMCopyS
import Derived.Test.YtlmnmcfieagmbaaSepMore
import Derived.Test.YtlmnmcfieagmbaaMVal
import Derived.Laws.BitsLemmas
namespace Go.Proofs.Ytlmnmcfieagmbaa.MFlush
open Go.RowKit Go.Proofs.Ytlmnmcfieagmbaa.RJ Go.Proofs.YtlmnmcfieagmbaaW.PrintWords Go.Proofs.Ytlmnmcfieagmbaa.Fp Go.Proofs.Ytlmnmcfieagmbaa.FpStep Go.Proofs.Ytlmnmcfieagmbaa.MInt Go.Proofs.Ytlmnmcfieagmbaa.MKinds Go.Proofs.Ytlmnmcfieagmbaa.MRead Go.Proofs.Ytlmnmcfieagmbaa.MMake Go.Proofs.Ytlmnmcfieagmbaa.MPut Go.Proofs.Ytlmnmcfieagmbaa.MOk Go.Proofs.Ytlmnmcfieagmbaa.MVal Go.Proofs.Ytlmnmcfieagmbaa.Sep Go.Proofs.Ytlmnmcfieagmbaa.SepStep Go.Proofs.Ytlmnmcfieagmbaa.MCopy Go.Proofs.Ytlmnmcfieagmbaa.MCopyS
set_option linter.unusedVariables false
set_option linter.unusedSimpArgs false
attribute [local go_sem ↓] Go.wp_at_zero Go.wp_at_succ
theorem bit_test (k i : Nat) (h : k ≤ 1048575) : (bits BinOp.and IntKind.i64 ((k : Int) / 2 ^ i) 1 == 1) = k.testBit i := by
  have h1 : ((k : Int) / 2 ^ i) = ((k / 2 ^ i : Nat) : Int) := by simp
  have h2 : k / 2 ^ i ≤ k := Nat.div_le_self _ _
  rw [h1, Nat.testBit_eq_decide_div_mod_eq]
  clear h1
  generalize k / 2 ^ i = d at *
  have h3 : bits BinOp.and IntKind.i64 (d : Int) 1 = (d : Int) % 2 := bits_mask .i64 62 (by decide) (fun n h0 h1 => by rw [IntKind.wrap_i64]; omega) 1 (by decide) _ (by omega) (by omega)
  rw [h3]
  rw [Bool.eq_iff_iff]
  simp only [beq_iff_eq, decide_eq_true_eq]
  omega
theorem kept_lo {k i : Nat} (h : i < 20) : kept (k : Int) (0 + i) = k.testBit i := by simp [kept, h]
theorem kept_hi {k i : Nat} (h : ¬ i < 20) : kept (k : Int) (0 + i) = false := by simp [kept, h]
set_option maxHeartbeats 4000000 in
set_option maxRecDepth 100000 in
theorem c_implFlushMem {w : World} {v : Value} {m : MemV} (h : MemR w v m) (hs : Small m) :
    Calls Try.prog 36 #[v] w fun e w' => ∃ u F, e = .returned u ∧ New w w' (me F u (flushV m)) := by
  have H := Aside0.mk h
  obtain ⟨s, c, b, rfl, r1, r2, r3⟩ := h
  have H2 := Aside0.mk r2
  obtain ⟨A1, c1, rfl, _⟩ := r1
  obtain ⟨A2, c2, rfl, _⟩ := r2
  obtain ⟨A3, c3, rfl, _⟩ := r3
  have hb1 := hs.1
  have hb2 := hs.2.2.1
  have HS := Aside0.mk hs
  clear hs
  generalize hmf : m.failed = mf at H
  have Hmf := Aside0.mk hmf
  clear hmf
  go_enter Try.func36, Try.ntmps36
  go_upto_region 2 with (first
    | (go_at_call 101; refine (c_copyMem (MemR_below H.out (below_alloc (below_alloc (Below.refl _ _) _) _)) HS.out).mono ?_; rintro e w1 ⟨u, F, rfl, hn⟩; obtain ⟨B1, d1, B2, d2, B3, d3, F1, F2, F3, rfl, h1⟩ := ((((Sep.start w []).alloc (g := w.heap.size) rfl #[.slice A1 m.secs.length c1, .slice A2 m.cache.length c2, .bool mf, .slice A3 m.bad.length c3] 30).alloc (g := w.heap.size + 1) (by simp) #[.slice none 0 0, .slice none 0 0, .bool false, .slice none 0 0] 30).new hn).ofMem; rw [Hmf.out]; have HS1 := Aside0.mk (h1.alloc (g := w1.heap.size) rfl #[.slice B1 m.secs.length d1, .slice B2 m.cache.length d2, .bool mf, .slice B3 m.bad.length d3] 30); clear hn h1)
    | fail)
  generalize hg : w1.heap.size = g at *
  generalize hw2 : w1.alloc (.cells #[.slice B1 m.secs.length d1, .slice B2 m.cache.length d2, .bool mf, .slice B3 m.bad.length d3] 30 (0, 0)) = w2 at *
  clear hg hw2
  obtain ⟨k1, k2, k3, k4⟩ := four (HS1.out.get 5 rfl)
  go_cut [14] (fun s14 wx => s14 = .bool (!(memB m && !m.failed)) ∧ Aside0 (Sep w [] wx [bx g 30 #[.slice B1 m.secs.length d1, .slice B2 m.cache.length d2, .bool mf, .slice B3 m.bad.length d3], rw_ oSec 24 F1 (.slice B1 m.secs.length d1) (m.secs), rw_ oWr 66 F2 (.slice B2 m.cache.length d2) m.cache, rw_ oInt 3 F3 (.slice B3 m.bad.length d3) m.bad, bx (w.heap.size + 1) 30 #[.slice none 0 0, .slice none 0 0, .bool false, .slice none 0 0], bx w.heap.size 30 #[.slice A1 m.secs.length c1, .slice A2 m.cache.length c2, .bool mf, .slice A3 m.bad.length c3]]))
  case first =>
    have hk := Hmf.out
    by_cases hA : memB m = true
    · have hcan : (!(memB m && !m.failed)) = mf := by rw [hA, hk]; simp
      have Hcan := Aside0.mk hcan
      clear hcan hk
      cases mf
      · go_wp2_with (first
          | (go_at_call 28; refine (c_implMemOk (MemR_below H.out HS1.out.toBelow)).mono ?_; rintro e w3 ⟨rfl, hb⟩; have HS2 := Aside0.mk (HS1.out.below hb); clear hb k1 k2 k3 k4; obtain ⟨k1, k2, k3, k4⟩ := four (HS2.out.get 5 rfl))
          | fail)
        go_meet
        exact ⟨by rw [Hcan.out], HS2⟩
      · go_wp2_with (first
          | (go_at_call 28; refine (c_implMemOk (MemR_below H.out HS1.out.toBelow)).mono ?_; rintro e w3 ⟨rfl, hb⟩; have HS2 := Aside0.mk (HS1.out.below hb); clear hb k1 k2 k3 k4; obtain ⟨k1, k2, k3, k4⟩ := four (HS2.out.get 5 rfl))
          | fail)
        go_meet
        exact ⟨by rw [Hcan.out], HS2⟩
    · simp only [Bool.not_eq_true] at hA
      have hcan : (!(memB m && !m.failed)) = true := by rw [hA]; rfl
      have Hcan := Aside0.mk hcan
      clear hcan hk
      go_wp2_with (first
        | (go_at_call 28; refine (c_implMemOk (MemR_below H.out HS1.out.toBelow)).mono ?_; rintro e w3 ⟨rfl, hb⟩; have HS2 := Aside0.mk (HS1.out.below hb); clear hb k1 k2 k3 k4; obtain ⟨k1, k2, k3, k4⟩ := four (HS2.out.get 5 rfl))
        | fail)
      go_meet
      exact ⟨by rw [Hcan.out], HS2⟩
  case rest =>
    obtain ⟨rfl, HB⟩ := hcut
    clear k1 k2 k3 k4 HS1
    by_cases hcan : (memB m && !m.failed) = true
    · have hc2 : (!(memB m && !m.failed)) = false := by rw [hcan]; rfl
      rw [hc2]
      have hval : flushV m = ⟨m.cache.foldl putW m.secs, [], m.failed, m.bad⟩ := by unfold flushV; rw [if_pos hcan]
      obtain ⟨hp1, hp2, hp3, hp4, hp5⟩ := memB_parts (m := m) (by simp at hcan; exact hcan.1)
      have Hval := Aside0.mk hval
      have Hp2 := Aside0.mk hp2
      have hl1 := hp4.1
      clear hcan hval hp1 hp2 hp3 hp4 hp5 hc2
      obtain ⟨gs, capS, hB1, _, _⟩ := O_form (show oSec.O 24 wc F1 (.slice B1 m.secs.length d1) m.secs from HB.out.get 1 rfl) (by omega)
      cases hB1
      obtain ⟨k1, k2, k3, k4⟩ := four (HB.out.get 5 rfl)
      go_wp2
      go_loopw [19] (fun v19 wr => ∃ i : Nat, i ≤ m.cache.length ∧ v19 = .int .i64 i ∧ ∃ F : List Nat, Aside0 (Sep w [] wr [bx g 30 #[.slice (some ⟨gs, 0, none⟩) m.secs.length d1, .slice B2 m.cache.length d2, .bool mf, .slice B3 m.bad.length d3], rw_ oSec 24 F (.slice (some ⟨gs, 0, none⟩) m.secs.length d1) ((m.cache.take i).foldl putW m.secs), rw_ oWr 66 F2 (.slice B2 m.cache.length d2) m.cache, rw_ oInt 3 F3 (.slice B3 m.bad.length d3) m.bad, bx (w.heap.size + 1) 30 #[.slice none 0 0, .slice none 0 0, .bool false, .slice none 0 0], bx w.heap.size 30 #[.slice A1 m.secs.length c1, .slice A2 m.cache.length c2, .bool mf, .slice A3 m.bad.length c3]])) (fun v19 _ => m.cache.length - (intOf v19).toNat)
      case atStart => exact ⟨0, by omega, rfl, F1, HB⟩
      case round =>
        obtain ⟨i, hi, rfl, F, HR⟩ := hrel
        clear k1 k2 k3 k4
        by_cases hlt : i < m.cache.length
        · obtain ⟨⟨xn, x⟩, hxi⟩ : ∃ x, m.cache[i]? = some x := ⟨_, List.getElem?_eq_getElem hlt⟩
          obtain ⟨ad, cap, ha, hc⟩ := RK_wrs H2.out (by omega)
          cases ha
          obtain ⟨u, cn0, cu0, ru⟩ := hc i _ hxi
          obtain ⟨A6, c6, rfl, _⟩ := id ru
          obtain ⟨q, hq, hql, _⟩ := wrB_at (Hp2.out _ (List.mem_of_getElem? hxi))
          simp only at hq
          subst hq
          have Ru := Aside0.mk ru
          have cn := HR.out.old cn0
          have cu := HR.out.old cu0
          have hxl := HS.out.2.2.2.1 _ (List.mem_of_getElem? hxi)
          have Hxi := Aside0.mk hxi
          clear hc ru hxi cn0 cu0
          go_wp2
          have hB := HR.out.alloc rfl #[.int .i64 (q : Int), .slice A6 x.length c6] 66
          generalize hgb : wr.heap.size = gb at *
          generalize hwb : wr.alloc (.cells #[.int .i64 (q : Int), .slice A6 x.length c6] 66 (0, 0)) = wb at *
          have HB2 := Aside0.mk hB
          clear hB hgb hwb cn cu
          have p1 := (four (HB2.out.get 1 rfl)).1
          obtain ⟨q1, q2⟩ := two (HB2.out.get 0 rfl)
          have q0 : (0 : Int) ≤ (q : Int) := by omega
          have ql : (q : Int) < (m.secs.length : Int) := by omega
          refine wp_region_seq (fun w' => w'.cell? ⟨g, 0, none⟩ = some (.slice (some ⟨gs, 0, none⟩) m.secs.length d1) ∧ w'.cell? ⟨gb, 0, none⟩ = some (.int .i64 (q : Int)) ∧ w'.cell? ⟨gb, 1, none⟩ = some (.slice A6 x.length c6)) [8] [(0, true), (1, true), (2, true), (3, true), (4, true), (5, true), (6, false), (7, true), (8, false)] (by kernel_rfl) (by kernel_rfl) ?_
          have hS : (fun w' : World => w'.cell? ⟨g, 0, none⟩ = some (.slice (some ⟨gs, 0, none⟩) m.secs.length d1) ∧ w'.cell? ⟨gb, 0, none⟩ = some (.int .i64 (q : Int)) ∧ w'.cell? ⟨gb, 1, none⟩ = some (.slice A6 x.length c6)) wb.drew := ⟨p1, q1, q2⟩
          iterate 6 (refine seq_take hS rfl (fun _ _ _ h => h) (by rfl) (fun w_ hSw => by (try dsimp only at hSw); go_simp; first | done | with_reducible rfl) ?_; (try simp only [Act.put, List.getElem_toArray, List.getElem_cons_succ, List.getElem_cons_zero, List.setIfInBounds_toArray, List.set_cons_zero, List.set_cons_succ]))
          refine seq_step rfl (fun K hK => ?_)
          go_simp
          go_at_call 118; refine (c_copyInts (HB2.out.drew.rk Ru.out) hxl).mono ?_; rintro e w3 ⟨u1, K_, rfl, hu, hG, hb⟩
          have HS1 := Aside0.mk (HB2.out.drew.new (new_row hu hG hb)); obtain ⟨A5, c5, rfl, hzz⟩ := O_RK hu; have HU := Aside0.mk hu; clear hzz hu hG hb p1 q1 q2 hS
          have p1 := (four (HS1.out.get 2 rfl)).1
          obtain ⟨q1, q2⟩ := two (HS1.out.get 1 rfl)
          have hS : (fun w' : World => w'.cell? ⟨g, 0, none⟩ = some (.slice (some ⟨gs, 0, none⟩) m.secs.length d1) ∧ w'.cell? ⟨gb, 0, none⟩ = some (.int .i64 (q : Int)) ∧ w'.cell? ⟨gb, 1, none⟩ = some (.slice A6 x.length c6)) w3 := ⟨p1, q1, q2⟩
          refine hK.out _ _ ⟨fun _ => hS, ?_⟩; clear hK K; (try simp only [Act.put, List.getElem_toArray, List.getElem_cons_succ, List.getElem_cons_zero, List.setIfInBounds_toArray, List.set_cons_zero, List.set_cons_succ])
          iterate 1 (refine seq_take hS rfl (fun _ _ _ h => h) (by rfl) (fun w_ hSw => by (try dsimp only at hSw); go_simp; first | done | with_reducible rfl) ?_; (try simp only [Act.put, List.getElem_toArray, List.getElem_cons_succ, List.getElem_cons_zero, List.setIfInBounds_toArray, List.set_cons_zero, List.set_cons_succ]))
          have hlen : q < ((m.cache.take i).foldl putW m.secs).length := by rw [foldPut_len]; omega
          obtain ⟨uu, cc1, cc2⟩ := O_cells (d := oSec) (t := 0) (HS1.out.get 3 rfl) hlen (by decide)
          simp only [show oSec.sz = 1 from rfl, Nat.mul_one, Nat.add_zero] at cc1 cc2
          refine seq_step rfl (fun K hK => ?_)
          go_simp
          refine hK.out _ _ ⟨(fun h => (by cases h)), ?_⟩; clear hK K; (try simp only [Act.put, List.getElem_toArray, List.getElem_cons_succ, List.getElem_cons_zero, List.setIfInBounds_toArray, List.set_cons_zero, List.set_cons_succ])
          refine seq_done ?_
          go_wp2
          go_roundw
          case rel =>
            obtain ⟨F', hput⟩ := Sep.put (d := oSec) (i := q) (y := x) (us := [.slice A5 x.length c5]) (HS1.out.sel [3, 0, 1, 2, 4, 5, 6, 7] (by decide) (by simp)) hlen ⟨_, rfl, HU.out⟩
            refine ⟨i + 1, by omega, by go_num, F', ⟨?_⟩⟩
            rw [take_snoc Hxi.out, foldPut_snoc]
            have h8 := hput.sel [2, 0, 3, 4, 5, 6] (by decide) (by simp)
            simp only [show oSec.sz = 1 from rfl, Nat.mul_one] at h8
            exact h8
          case measure => simp [intOf]; omega
        · obtain rfl : i = m.cache.length := by omega
          rw [List.take_length] at HR
          obtain ⟨k1, k2, k3, k4⟩ := four (HR.out.get 0 rfl)
          obtain ⟨z1, z2, z3, z4⟩ := four (HR.out.get 4 rfl)
          have fk := blk_frozen (HR.out.get 0 rfl)
          have fz := blk_frozen (HR.out.get 4 rfl)
          have hgr : g ≠ w.heap.size + 1 := HR.out.neq 0 4 rfl rfl (by decide)
          have hrg : w.heap.size + 1 ≠ g := Ne.symm hgr
          go_wp2
          have HE : Sep w [] _ _ := ((((HR.out.setb 0 rfl 1 (.slice none 0 0) rfl).setb 4 rfl 0 (.slice (some ⟨gs, 0, none⟩) m.secs.length d1) rfl).setb 4 rfl 1 (.slice none 0 0) rfl).setb 4 rfl 2 (.bool mf) rfl).setb 4 rfl 3 (.slice B3 m.bad.length d3) rfl
          refine bodyPost_ret (results_cell_row rfl _ _ (w.heap.size + 1) 30 #[.slice (some ⟨gs, 0, none⟩) m.secs.length d1, .slice none 0 0, .bool mf, .slice B3 m.bad.length d3] (0, 0) _ rfl (HE.get 4 rfl) Try.underlying30 rfl (by kernel_rfl)) rfl ?_
          rw [Hval.out]
          have h9 := (((HE.nil oWr 66).sel [2, 0, 4] (by decide) (by simp))).toMem (m := ⟨m.cache.foldl putW m.secs, [], m.failed, m.bad⟩)
          rw [Hmf.out] at h9 ⊢
          exact ⟨_, _, rfl, h9.toNew 0 rfl⟩
    · simp only [Bool.not_eq_true] at hcan
      have hval : flushV m = m := by unfold flushV; rw [hcan]; rfl
      have Hval := Aside0.mk hval
      rw [hcan]
      obtain ⟨k1, k2, k3, k4⟩ := four (HB.out.get 0 rfl)
      obtain ⟨z1, z2, z3, z4⟩ := four (HB.out.get 4 rfl)
      have fz := blk_frozen (HB.out.get 4 rfl)
      clear hcan hval
      go_wp2
      have HE : Sep w [] _ _ := (((HB.out.setb 4 rfl 0 (.slice B1 m.secs.length d1) rfl).setb 4 rfl 1 (.slice B2 m.cache.length d2) rfl).setb 4 rfl 2 (.bool mf) rfl).setb 4 rfl 3 (.slice B3 m.bad.length d3) rfl
      refine bodyPost_ret (results_cell_row rfl _ _ (w.heap.size + 1) 30 #[.slice B1 m.secs.length d1, .slice B2 m.cache.length d2, .bool mf, .slice B3 m.bad.length d3] (0, 0) _ rfl (HE.get 4 rfl) Try.underlying30 rfl (by kernel_rfl)) rfl ?_
      rw [Hval.out]
      have h9 := (HE.sel [1, 2, 3] (by decide) (by simp)).toMem (m := m)
      rw [Hmf.out] at h9
      exact ⟨_, _, rfl, h9.toNew 0 rfl⟩
set_option maxHeartbeats 4000000 in
set_option maxRecDepth 100000 in
theorem c_implFallMem {w : World} {v : Value} {m : MemV} {n : Int} (h : MemR w v m) (hs : Small m) :
    Calls Try.prog 32 #[v, .int .i64 n] w fun e w' => ∃ u F, e = .returned u ∧ New w w' (me F u (fallV m n)) := by
  have H := Aside0.mk h
  obtain ⟨s, c, b, rfl, r1, r2, r3⟩ := h
  have H2 := Aside0.mk r2
  obtain ⟨A1, c1, rfl, _⟩ := r1
  obtain ⟨A2, c2, rfl, _⟩ := r2
  obtain ⟨A3, c3, rfl, _⟩ := r3
  have hb1 := hs.1
  have hb2 := hs.2.2.1
  have HS := Aside0.mk hs
  clear hs
  generalize hmf : m.failed = mf at H
  have Hmf := Aside0.mk hmf
  clear hmf
  go_enter Try.func32, Try.ntmps32
  go_upto_region 2 with (first
    | (go_at_call 101; refine (c_copyMem (MemR_below H.out (below_alloc (below_alloc (Below.refl _ _) _) _)) HS.out).mono ?_; rintro e w1 ⟨u, F, rfl, hn⟩; obtain ⟨B1, d1, B2, d2, B3, d3, F1, F2, F3, rfl, h1⟩ := ((((Sep.start w []).alloc (g := w.heap.size) rfl #[.slice A1 m.secs.length c1, .slice A2 m.cache.length c2, .bool mf, .slice A3 m.bad.length c3] 30).alloc (g := w.heap.size + 1) (by simp) #[.slice none 0 0, .slice none 0 0, .bool false, .slice none 0 0] 30).new hn).ofMem; rw [Hmf.out]; have HS1 := Aside0.mk (h1.alloc (g := w1.heap.size) rfl #[.slice B1 m.secs.length d1, .slice B2 m.cache.length d2, .bool mf, .slice B3 m.bad.length d3] 30); clear hn h1)
    | fail)
  generalize hg : w1.heap.size = g at *
  generalize hw2 : w1.alloc (.cells #[.slice B1 m.secs.length d1, .slice B2 m.cache.length d2, .bool mf, .slice B3 m.bad.length d3] 30 (0, 0)) = w2 at *
  clear hg hw2
  obtain ⟨k1, k2, k3, k4⟩ := four (HS1.out.get 5 rfl)
  by_cases hcan : memB m = true
  · have hpp := memB_parts hcan
    obtain ⟨hp1, hp2, hp3, hp4, hp5⟩ := hpp
    have Hp2 := Aside0.mk hp2
    have hl1 := hp4.1
    clear hp1 hp2 hp3 hp4 hp5
    go_upto_if 16 with (first
      | (go_at_call 28; refine (c_implMemOk (MemR_below H.out HS1.out.toBelow)).mono ?_; rw [hcan]; rintro e w3 ⟨rfl, hb⟩; have HS2 := Aside0.mk (HS1.out.below hb); clear hb k1 k2 k3 k4)
      | (go_at_call 120; refine (c_within _ _ _ _).mono ?_; rintro e w4 ⟨rfl, hb⟩; have HS3 := Aside0.mk (HS2.out.dr hb); clear hb)
      | fail)
    go_cut [1] (fun s1 wx => ∃ kk : Nat, s1 = .int .i64 (kk : Int) ∧ kk ≤ 1048575 ∧ Aside0 ((if inR n 0 1048575 then n else 0) = (kk : Int)) ∧ Aside0 (Sep w [] wx [bx g 30 #[.slice B1 m.secs.length d1, .slice B2 m.cache.length d2, .bool mf, .slice B3 m.bad.length d3], rw_ oSec 24 F1 (.slice B1 m.secs.length d1) (m.secs), rw_ oWr 66 F2 (.slice B2 m.cache.length d2) m.cache, rw_ oInt 3 F3 (.slice B3 m.bad.length d3) m.bad, bx (w.heap.size + 1) 30 #[.slice none 0 0, .slice none 0 0, .bool false, .slice none 0 0], bx w.heap.size 30 #[.slice A1 m.secs.length c1, .slice A2 m.cache.length c2, .bool mf, .slice A3 m.bad.length c3]]))
    case first =>
      by_cases hin : inR n 0 1048575 = true
      · have hr : (0 : Int) ≤ n ∧ n ≤ 1048575 := by simpa [inR] using hin
        have hc2 : (!inR n 0 1048575) = false := by rw [hin]; rfl
        have hif : (if inR n 0 1048575 then n else 0) = ((n.toNat : Nat) : Int) := by rw [if_pos hin]; omega
        have Hif := Aside0.mk hif
        rw [hc2]
        clear hin hc2 hif
        go_wp2_with fail
        go_meet
        exact ⟨n.toNat, by rw [Int.toNat_of_nonneg hr.1], by omega, Hif, HS3⟩
      · have hc2 : (!inR n 0 1048575) = true := by simpa using hin
        have hif : (if inR n 0 1048575 then n else 0) = ((0 : Nat) : Int) := by rw [if_neg hin]; rfl
        have Hif := Aside0.mk hif
        rw [hc2]
        clear hin hc2 hif
        go_wp2_with fail
        go_meet
        exact ⟨0, rfl, by omega, Hif, HS3⟩
    case rest =>
      obtain ⟨kk, rfl, hkk, Hkk, HB⟩ := hcut
      clear HS1 HS2 HS3
      have hval : fallV m n = ⟨fallW (kk : Int) 0 m.secs m.cache, [], m.failed, m.bad⟩ := by unfold fallV; rw [if_pos hcan, Hkk.out]
      have Hval := Aside0.mk hval
      clear hcan hval
      obtain ⟨gs, capS, hB1, _, _⟩ := O_form (show oSec.O 24 wc F1 (.slice B1 m.secs.length d1) m.secs from HB.out.get 1 rfl) (by omega)
      cases hB1
      obtain ⟨k1, k2, k3, k4⟩ := four (HB.out.get 5 rfl)
      go_wp2
      go_loopw [20] (fun v20 wr => ∃ i : Nat, i ≤ m.cache.length ∧ v20 = .int .i64 i ∧ ∃ F : List Nat, Aside0 (Sep w [] wr [bx g 30 #[.slice (some ⟨gs, 0, none⟩) m.secs.length d1, .slice B2 m.cache.length d2, .bool mf, .slice B3 m.bad.length d3], rw_ oSec 24 F (.slice (some ⟨gs, 0, none⟩) m.secs.length d1) (fallW kk 0 m.secs (m.cache.take i)), rw_ oWr 66 F2 (.slice B2 m.cache.length d2) m.cache, rw_ oInt 3 F3 (.slice B3 m.bad.length d3) m.bad, bx (w.heap.size + 1) 30 #[.slice none 0 0, .slice none 0 0, .bool false, .slice none 0 0], bx w.heap.size 30 #[.slice A1 m.secs.length c1, .slice A2 m.cache.length c2, .bool mf, .slice A3 m.bad.length c3]])) (fun v20 _ => m.cache.length - (intOf v20).toNat)
      case atStart => exact ⟨0, by omega, rfl, F1, HB⟩
      case round =>
        obtain ⟨i, hi, rfl, F, HR⟩ := hrel
        clear k1 k2 k3 k4
        by_cases hlt : i < m.cache.length
        · obtain ⟨⟨xn, x⟩, hxi⟩ : ∃ x, m.cache[i]? = some x := ⟨_, List.getElem?_eq_getElem hlt⟩
          obtain ⟨ad, cap, ha, hc⟩ := RK_wrs H2.out (by omega)
          cases ha
          obtain ⟨u, cn0, cu0, ru⟩ := hc i _ hxi
          obtain ⟨A6, c6, rfl, _⟩ := id ru
          obtain ⟨q, hq, hql, _⟩ := wrB_at (Hp2.out _ (List.mem_of_getElem? hxi))
          simp only at hq
          subst hq
          have Ru := Aside0.mk ru
          have cn := HR.out.old cn0
          have cu := HR.out.old cu0
          have hxl := HS.out.2.2.2.1 _ (List.mem_of_getElem? hxi)
          have Hxi := Aside0.mk hxi
          clear hc ru hxi cn0 cu0
          by_cases h20 : i < 20
          · by_cases hbit : kk.testBit i = true
            · have Hbit := Aside0.mk hbit
              have hT : (bits BinOp.and IntKind.i64 ((kk : Int) / 2 ^ i) 1 == 1) = true := by rw [bit_test kk i hkk]; exact hbit
              go_wp2
              have hB := HR.out.alloc rfl #[.int .i64 (q : Int), .slice A6 x.length c6] 66
              generalize hgb : wr.heap.size = gb at *
              generalize hwb : wr.alloc (.cells #[.int .i64 (q : Int), .slice A6 x.length c6] 66 (0, 0)) = wb at *
              have HB2 := Aside0.mk hB
              clear hB hgb hwb cn cu
              have p1 := (four (HB2.out.get 1 rfl)).1
              obtain ⟨q1, q2⟩ := two (HB2.out.get 0 rfl)
              have q0 : (0 : Int) ≤ (q : Int) := by omega
              have ql : (q : Int) < (m.secs.length : Int) := by omega
              refine wp_region_seq (fun w' => w'.cell? ⟨g, 0, none⟩ = some (.slice (some ⟨gs, 0, none⟩) m.secs.length d1) ∧ w'.cell? ⟨gb, 0, none⟩ = some (.int .i64 (q : Int)) ∧ w'.cell? ⟨gb, 1, none⟩ = some (.slice A6 x.length c6)) [8] [(0, true), (1, true), (2, true), (3, true), (4, true), (5, true), (6, false), (7, true), (8, false)] (by kernel_rfl) (by kernel_rfl) ?_
              have hS : (fun w' : World => w'.cell? ⟨g, 0, none⟩ = some (.slice (some ⟨gs, 0, none⟩) m.secs.length d1) ∧ w'.cell? ⟨gb, 0, none⟩ = some (.int .i64 (q : Int)) ∧ w'.cell? ⟨gb, 1, none⟩ = some (.slice A6 x.length c6)) wb.drew := ⟨p1, q1, q2⟩
              iterate 6 (refine seq_take hS rfl (fun _ _ _ h => h) (by rfl) (fun w_ hSw => by (try dsimp only at hSw); go_simp; first | done | with_reducible rfl) ?_; (try simp only [Act.put, List.getElem_toArray, List.getElem_cons_succ, List.getElem_cons_zero, List.setIfInBounds_toArray, List.set_cons_zero, List.set_cons_succ]))
              refine seq_step rfl (fun K hK => ?_)
              go_simp
              go_at_call 118; refine (c_copyInts (HB2.out.drew.rk Ru.out) hxl).mono ?_; rintro e w3 ⟨u1, K_, rfl, hu, hG, hb⟩
              have HS1 := Aside0.mk (HB2.out.drew.new (new_row hu hG hb)); obtain ⟨A5, c5, rfl, hzz⟩ := O_RK hu; have HU := Aside0.mk hu; clear hzz hu hG hb p1 q1 q2 hS
              have p1 := (four (HS1.out.get 2 rfl)).1
              obtain ⟨q1, q2⟩ := two (HS1.out.get 1 rfl)
              have hS : (fun w' : World => w'.cell? ⟨g, 0, none⟩ = some (.slice (some ⟨gs, 0, none⟩) m.secs.length d1) ∧ w'.cell? ⟨gb, 0, none⟩ = some (.int .i64 (q : Int)) ∧ w'.cell? ⟨gb, 1, none⟩ = some (.slice A6 x.length c6)) w3 := ⟨p1, q1, q2⟩
              refine hK.out _ _ ⟨fun _ => hS, ?_⟩; clear hK K; (try simp only [Act.put, List.getElem_toArray, List.getElem_cons_succ, List.getElem_cons_zero, List.setIfInBounds_toArray, List.set_cons_zero, List.set_cons_succ])
              iterate 1 (refine seq_take hS rfl (fun _ _ _ h => h) (by rfl) (fun w_ hSw => by (try dsimp only at hSw); go_simp; first | done | with_reducible rfl) ?_; (try simp only [Act.put, List.getElem_toArray, List.getElem_cons_succ, List.getElem_cons_zero, List.setIfInBounds_toArray, List.set_cons_zero, List.set_cons_succ]))
              have hlen : q < (fallW kk 0 m.secs (m.cache.take i)).length := by rw [fallW_len]; omega
              obtain ⟨uu, cc1, cc2⟩ := O_cells (d := oSec) (t := 0) (HS1.out.get 3 rfl) hlen (by decide)
              simp only [show oSec.sz = 1 from rfl, Nat.mul_one, Nat.add_zero] at cc1 cc2
              refine seq_step rfl (fun K hK => ?_)
              go_simp
              refine hK.out _ _ ⟨(fun h => (by cases h)), ?_⟩; clear hK K; (try simp only [Act.put, List.getElem_toArray, List.getElem_cons_succ, List.getElem_cons_zero, List.setIfInBounds_toArray, List.set_cons_zero, List.set_cons_succ])
              refine seq_done ?_
              go_wp2
              go_roundw
              case rel =>
                obtain ⟨F', hput⟩ := Sep.put (d := oSec) (i := q) (y := x) (us := [.slice A5 x.length c5]) (HS1.out.sel [3, 0, 1, 2, 4, 5, 6, 7] (by decide) (by simp)) hlen ⟨_, rfl, HU.out⟩
                refine ⟨i + 1, by omega, by go_num, F', ⟨?_⟩⟩
                rw [take_snoc Hxi.out, fallW_snoc, List.length_take, Nat.min_eq_left hi, kept_lo h20, hbit, if_pos rfl]
                have h8 := hput.sel [2, 0, 3, 4, 5, 6] (by decide) (by simp)
                simp only [show oSec.sz = 1 from rfl, Nat.mul_one] at h8
                exact h8
              case measure => simp [intOf]; omega
            · simp only [Bool.not_eq_true] at hbit
              have hT : (bits BinOp.and IntKind.i64 ((kk : Int) / 2 ^ i) 1 == 1) = false := by rw [bit_test kk i hkk]; exact hbit
              have hB := HR.out.alloc rfl #[.int .i64 (q : Int), .slice A6 x.length c6] 66
              have HB2 := Aside0.mk hB
              clear hB
              go_wp2
              go_roundw
              case rel =>
                refine ⟨i + 1, by omega, by go_num, F, ⟨?_⟩⟩
                rw [take_snoc Hxi.out, fallW_snoc, List.length_take, Nat.min_eq_left hi, kept_lo h20, hbit, if_neg (by decide)]
                exact HB2.out.sel [1, 2, 3, 4, 5, 6] (by decide) (by simp)
              case measure => simp [intOf]; omega
          · have hd : decide ((i : Int) < 20) = false := by simp; omega
            have hB := HR.out.alloc rfl #[.int .i64 (q : Int), .slice A6 x.length c6] 66
            have HB2 := Aside0.mk hB
            clear hB
            go_wp2
            go_roundw
            case rel =>
              refine ⟨i + 1, by omega, by go_num, F, ⟨?_⟩⟩
              rw [take_snoc Hxi.out, fallW_snoc, List.length_take, Nat.min_eq_left hi, kept_hi h20, if_neg (by decide)]
              exact HB2.out.sel [1, 2, 3, 4, 5, 6] (by decide) (by simp)
            case measure => simp [intOf]; omega
        · obtain rfl : i = m.cache.length := by omega
          rw [List.take_length] at HR
          obtain ⟨k1, k2, k3, k4⟩ := four (HR.out.get 0 rfl)
          obtain ⟨z1, z2, z3, z4⟩ := four (HR.out.get 4 rfl)
          have fk := blk_frozen (HR.out.get 0 rfl)
          have fz := blk_frozen (HR.out.get 4 rfl)
          have hgr : g ≠ w.heap.size + 1 := HR.out.neq 0 4 rfl rfl (by decide)
          have hrg : w.heap.size + 1 ≠ g := Ne.symm hgr
          go_wp2
          have HE : Sep w [] _ _ := ((((HR.out.setb 0 rfl 1 (.slice none 0 0) rfl).setb 4 rfl 0 (.slice (some ⟨gs, 0, none⟩) m.secs.length d1) rfl).setb 4 rfl 1 (.slice none 0 0) rfl).setb 4 rfl 2 (.bool mf) rfl).setb 4 rfl 3 (.slice B3 m.bad.length d3) rfl
          refine bodyPost_ret (results_cell_row rfl _ _ (w.heap.size + 1) 30 #[.slice (some ⟨gs, 0, none⟩) m.secs.length d1, .slice none 0 0, .bool mf, .slice B3 m.bad.length d3] (0, 0) _ rfl (HE.get 4 rfl) Try.underlying30 rfl (by kernel_rfl)) rfl ?_
          rw [Hval.out]
          have h9 := (((HE.nil oWr 66).sel [2, 0, 4] (by decide) (by simp))).toMem (m := ⟨fallW (kk : Int) 0 m.secs m.cache, [], m.failed, m.bad⟩)
          rw [Hmf.out] at h9 ⊢
          exact ⟨_, _, rfl, h9.toNew 0 rfl⟩
  · simp only [Bool.not_eq_true] at hcan
    have hval : fallV m n = m := by unfold fallV; rw [hcan]; rfl
    have Hval := Aside0.mk hval
    go_upto_region 3 with (first
      | (go_at_call 28; refine (c_implMemOk (MemR_below H.out HS1.out.toBelow)).mono ?_; rw [hcan]; rintro e w3 ⟨rfl, hb⟩; have HB := Aside0.mk (HS1.out.below hb); clear hb k1 k2 k3 k4)
      | fail)
    clear hcan hval
    obtain ⟨k1, k2, k3, k4⟩ := four (HB.out.get 0 rfl)
    obtain ⟨z1, z2, z3, z4⟩ := four (HB.out.get 4 rfl)
    have fz := blk_frozen (HB.out.get 4 rfl)
    go_wp2
    have HE : Sep w [] _ _ := (((HB.out.setb 4 rfl 0 (.slice B1 m.secs.length d1) rfl).setb 4 rfl 1 (.slice B2 m.cache.length d2) rfl).setb 4 rfl 2 (.bool mf) rfl).setb 4 rfl 3 (.slice B3 m.bad.length d3) rfl
    refine bodyPost_ret (results_cell_row rfl _ _ (w.heap.size + 1) 30 #[.slice B1 m.secs.length d1, .slice B2 m.cache.length d2, .bool mf, .slice B3 m.bad.length d3] (0, 0) _ rfl (HE.get 4 rfl) Try.underlying30 rfl (by kernel_rfl)) rfl ?_
    rw [Hval.out]
    have h9 := (HE.sel [1, 2, 3] (by decide) (by simp)).toMem (m := m)
    rw [Hmf.out] at h9
    exact ⟨_, _, rfl, h9.toNew 0 rfl⟩
end Go.Proofs.Ytlmnmcfieagmbaa.MFlush
