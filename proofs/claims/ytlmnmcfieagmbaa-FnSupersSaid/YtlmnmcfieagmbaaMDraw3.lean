/- Disks that are drawn: l2Draw. -/
import Derived.Test.YtlmnmcfieagmbaaMDraw2
import Derived.Test.YtlmnmcfieagmbaaSepT
import Derived.Test.YtlmnmcfieagmbaaRP
import Derived.Test.YtlmnmcfieagmbaaMValB
import Derived.Test.YtlmnmcfieagmbaaMSpoilS
import Derived.Test.YtlmnmcfieagmbaaMWrite
import Derived.Test.YtlmnmcfieagmbaaMFlushS
import Derived.Test.YtlmnmcfieagmbaaMFail
namespace Go.Proofs.Ytlmnmcfieagmbaa.MDraw3
open Go.RowKit Go.Proofs.Ytlmnmcfieagmbaa.RJ Go.Proofs.Ytlmnmcfieagmbaa.RP Go.Proofs.YtlmnmcfieagmbaaW.PrintWords Go.Proofs.Ytlmnmcfieagmbaa.Fp Go.Proofs.Ytlmnmcfieagmbaa.FpStep Go.Proofs.Ytlmnmcfieagmbaa.MInt Go.Proofs.Ytlmnmcfieagmbaa.MKinds Go.Proofs.Ytlmnmcfieagmbaa.MRead Go.Proofs.Ytlmnmcfieagmbaa.MMake Go.Proofs.Ytlmnmcfieagmbaa.MPut Go.Proofs.Ytlmnmcfieagmbaa.MOk Go.Proofs.Ytlmnmcfieagmbaa.MVal Go.Proofs.Ytlmnmcfieagmbaa.MValB Go.Proofs.Ytlmnmcfieagmbaa.Sep Go.Proofs.Ytlmnmcfieagmbaa.SepStep Go.Proofs.Ytlmnmcfieagmbaa.MSuper Go.Proofs.Ytlmnmcfieagmbaa.MReadS Go.Proofs.Ytlmnmcfieagmbaa.MDraw Go.Proofs.Ytlmnmcfieagmbaa.MDraw2 Go.Proofs.Ytlmnmcfieagmbaa.MSpoilS Go.Proofs.Ytlmnmcfieagmbaa.MWrite Go.Proofs.Ytlmnmcfieagmbaa.MFlushS Go.Proofs.Ytlmnmcfieagmbaa.MFail
set_option linter.unusedVariables false
set_option linter.unusedSimpArgs false
attribute [local go_sem ↓] Go.wp_at_zero Go.wp_at_succ
set_option maxHeartbeats 4000000 in
set_option maxRecDepth 100000 in
theorem c_l2Draw {w0 w : World} {L : List Res} {g : Nat} {B : Value} {bs : List Int} {i h : Int} (hs : Sep w0 [] w (cur g B i h :: L)) (hB : RK (Kd.int .u8) w0 B bs) (hi : 0 ≤ i ∧ i ≤ bs.length) :
    Calls Try.prog 132 #[.pointer (some ⟨g, 0, none⟩)] w fun e w' => ∃ (u : Value) (F : List Nat) (m : MemV) (i' h' : Int), e = .returned u ∧ (memB m = true ∧ (m.failed = false ∧ m.cache.length ≤ 7)) ∧ (0 ≤ i' ∧ i' ≤ bs.length) ∧ Sep w0 [] w' (me F u m :: cur g B i' h' :: L) := by
  have HS := Aside0.mk hs
  clear hs
  go_enter Try.func132, Try.ntmps132
  go_upto_region 2 with (first
    | (go_at_call 35; refine (c_specMemNew _ _).mono ?_; rintro e w2 ⟨u, F, rfl, hn⟩; have hs2 := HS1.out.new hn; have hmB : memB (newV (3 + x)) = true := memB_new (by omega); have hmf : (newV (3 + x)).failed = false := (by unfold newV; split <;> rfl); have hmc : (newV (3 + x)).cache.length = 0 := (by unfold newV; split <;> rfl); generalize newV (3 + x) = m at hs2 hmB hmf hmc; have HM := Aside0.mk (And.intro hmB (And.intro hmf hmc)); clear hmB hmf hmc; obtain ⟨A1, d1, A2, d2, A3, d3, rfl⟩ := me_form hs2; have HS2 := Aside0.mk hs2; clear hs2 hn)
    | (go_at_call 129; refine (c_l1Below ((HS.out.alloc (g := w.heap.size) rfl #[.slice none 0 0, .slice none 0 0, .bool false, .slice none 0 0] 30).perm (List.Perm.swap _ _ _)) hB hi (by omega)).mono ?_; rintro e w1 ⟨x, i1, h1, rfl, hx0, hx1, hi1, hs1⟩; have hx2 := hx1 (by omega); have HS1 := Aside0.mk hs1; clear hs1 hx1)
    | fail)
  have hB2 := HS2.out.alloc (g := w2.heap.size) rfl #[.slice A1 m.secs.length d1, .slice A2 m.cache.length d2, .bool m.failed, .slice A3 m.bad.length d3] 30
  generalize hg : w2.heap.size = gm at *
  generalize hw : w2.alloc (.cells #[.slice A1 m.secs.length d1, .slice A2 m.cache.length d2, .bool m.failed, .slice A3 m.bad.length d3] 30 (0, 0)) = w3 at *
  have HB := Aside0.mk hB2
  clear hB2 hg hw HS2 HS1
  have hinr := HB.out.selT 4 [2, 0, 1, 3] (by decide) (by simp <;> omega)
  simp only [List.map_cons, List.map_nil, pick, List.getD_cons_succ, List.getD_cons_zero, List.set_cons_zero, List.set_cons_succ, List.eraseIdx_cons_zero, List.eraseIdx_cons_succ, List.drop_succ_cons, List.drop_zero, List.append_eq, List.cons_append, List.nil_append, List.setIfInBounds_toArray] at hinr
  have HB2 := Aside0.mk hinr
  clear hinr
  go_wp2_with (first
    | (go_at_call 129; refine (c_l1Below HB2.out hB hi1 (by omega)).mono ?_; rintro e w4 ⟨k0, i2, h2, rfl, hk0, hk1, hi2, hs3⟩; have hk2 := hk1 (by omega); have hq := hs3.selT 4 [1, 2, 0, 3] (by decide) (by simp <;> omega); simp only [List.map_cons, List.map_nil, pick, List.getD_cons_succ, List.getD_cons_zero, List.set_cons_zero, List.set_cons_succ, List.eraseIdx_cons_zero, List.eraseIdx_cons_succ, List.drop_succ_cons, List.drop_zero, List.append_eq, List.cons_append, List.nil_append, List.setIfInBounds_toArray] at hq; have HS3 := Aside0.mk hq; clear hs3 hq hk1)
    | fail)
  go_loopw [4] (fun v4 wr => ∃ (k : Int) (m : MemV) (F : List Nat) (A1 : Option Addr) (d1 : Nat) (A2 : Option Addr) (d2 : Nat) (A3 : Option Addr) (d3 : Nat) (i' h' : Int), v4 = .int .i64 k ∧ (0 ≤ k ∧ k ≤ 7) ∧ Aside0 ((memB m = true ∧ (m.failed = false ∧ (m.cache.length : Int) + k ≤ 7)) ∧ (0 ≤ i' ∧ i' ≤ bs.length)) ∧ Aside0 (Sep w0 [] wr (bx gm 30 #[.slice A1 m.secs.length d1, .slice A2 m.cache.length d2, .bool m.failed, .slice A3 m.bad.length d3] :: me F (.agg #[.slice A1 m.secs.length d1, .slice A2 m.cache.length d2, .bool m.failed, .slice A3 m.bad.length d3]) m :: cur g B i' h' :: bx w.heap.size 30 #[.slice none 0 0, .slice none 0 0, .bool false, .slice none 0 0] :: L))) (fun v4 _ => (intOf v4).toNat)
  case atStart => exact ⟨k0, m, F, A1, d1, A2, d2, A3, d3, i2, h2, rfl, ⟨hk0, by omega⟩, ⟨⟨HM.out.1, HM.out.2.1, by have := HM.out.2.2; omega⟩, hi2⟩, HS3⟩
  case round =>
    clear HB HB2 HS3 HM
    obtain ⟨k, m, F, A1, d1, A2, d2, A3, d3, i', h', rfl, hk, HM, HR⟩ := hrel
    obtain ⟨k1, k2, k3, k4⟩ := four (HR.out.get 0 rfl)
    by_cases h0 : 0 < k
    · have hq := HR.out.selT 4 [2, 0, 1, 3] (by decide) (by simp <;> omega)
      simp only [List.map_cons, List.map_nil, pick, List.getD_cons_succ, List.getD_cons_zero, List.set_cons_zero, List.set_cons_succ, List.eraseIdx_cons_zero, List.eraseIdx_cons_succ, List.drop_succ_cons, List.drop_zero, List.append_eq, List.cons_append, List.nil_append, List.setIfInBounds_toArray] at hq
      have HR2 := Aside0.mk hq
      clear hq
      go_upto_region 7 with (first
        | (go_at_call 129; refine (c_l1Below HR2.out hB HM.out.2 (by omega)).mono ?_; rintro e w5 ⟨y, i3, h3, rfl, hy0, hy1, hi3, hs4⟩; have hy2 := hy1 (by omega); have hq := hs4.selT 4 [1, 2, 0, 3] (by decide) (by simp <;> omega); simp only [List.map_cons, List.map_nil, pick, List.getD_cons_succ, List.getD_cons_zero, List.set_cons_zero, List.set_cons_succ, List.eraseIdx_cons_zero, List.eraseIdx_cons_succ, List.drop_succ_cons, List.drop_zero, List.append_eq, List.cons_append, List.nil_append, List.setIfInBounds_toArray] at hq; have HS4 := Aside0.mk hq; clear hs4 hq hy1 k1 k2 k3 k4; obtain ⟨k1, k2, k3, k4⟩ := four (HS4.out.get 0 rfl); have gz := blk_frozen (HS4.out.get 0 rfl))
        | fail)
      by_cases y0 : y = 0
      · subst y0
        go_wp2_with (first
          | (go_at_call 37; refine (c_specFlushMem (MemO_R (HS4.out.get 1 rfl)) (memB_small HM.out.1.1)).mono ?_; rintro e w6 ⟨u, F6, rfl, hn⟩; have hs6 := HS4.out.new hn; obtain ⟨B1, e1, B2, e2, B3, e3, rfl⟩ := me_form hs6; have HS6 := Aside0.mk hs6; clear hs6 hn k1 k2 k3 k4 gz; obtain ⟨k1, k2, k3, k4⟩ := four (HS6.out.get 1 rfl); have gz := blk_frozen (HS6.out.get 1 rfl))
          | fail)
        go_roundw
        case rel =>
          have hs7 := (HS6.out.box4 1 rfl (.slice B1 (flushV m).secs.length e1) (.slice B2 (flushV m).cache.length e2) (.bool (flushV m).failed) (.slice B3 (flushV m).bad.length e3)).selT 5 [1, 0, 3, 4] (by decide) (by simp <;> omega)
          simp only [List.map_cons, List.map_nil, pick, List.getD_cons_succ, List.getD_cons_zero, List.set_cons_zero, List.set_cons_succ, List.eraseIdx_cons_zero, List.eraseIdx_cons_succ, List.drop_succ_cons, List.drop_zero, List.append_eq, List.cons_append, List.nil_append, List.setIfInBounds_toArray] at hs7
          exact ⟨k - 1, flushV m, F6, B1, e1, B2, e2, B3, e3, i3, h3, by go_num, ⟨by omega, by omega⟩, ⟨⟨memB_flush HM.out.1.1, (flushV_failed m).trans HM.out.1.2.1, by have h1 := flushV_cache HM.out.1.1 HM.out.1.2.1; have h2 := HM.out.1.2.2; omega⟩, hi3⟩, ⟨hs7⟩⟩
        case measure => first | (simp [intOf]; done) | (simp [intOf]; omega)
      · by_cases y1 : y = 1
        · subst y1
          go_upto_region 10 with fail
          refine wp_region_seq (fun w' => w'.cell? ⟨gm, 0, none⟩ = some (.slice A1 m.secs.length d1) ∧ w'.cell? ⟨gm, 1, none⟩ = some (.slice A2 m.cache.length d2) ∧ w'.cell? ⟨gm, 2, none⟩ = some (.bool m.failed) ∧ w'.cell? ⟨gm, 3, none⟩ = some (.slice A3 m.bad.length d3)) [7] [(0, true), (1, true), (2, true), (3, true), (4, true), (5, false), (6, false), (7, false)] (by kernel_rfl) (by kernel_rfl) ?_
          have hS : (fun w' : World => w'.cell? ⟨gm, 0, none⟩ = some (.slice A1 m.secs.length d1) ∧ w'.cell? ⟨gm, 1, none⟩ = some (.slice A2 m.cache.length d2) ∧ w'.cell? ⟨gm, 2, none⟩ = some (.bool m.failed) ∧ w'.cell? ⟨gm, 3, none⟩ = some (.slice A3 m.bad.length d3)) w5.drew := ⟨k1, k2, k3, k4⟩
          iterate 5 (refine seq_take hS rfl (fun _ _ _ h => h) (by rfl) (fun w_ hSw => by (try dsimp only at hSw); go_simp; first | done | with_reducible rfl) ?_; (try simp only [Act.put, List.getElem_toArray, List.getElem_cons_succ, List.getElem_cons_zero, List.setIfInBounds_toArray, List.set_cons_zero, List.set_cons_succ]))
          refine seq_step rfl (fun K hK => ?_)
          go_simp
          have hq := HS4.out.drew.selT 4 [2, 0, 1, 3] (by decide) (by simp <;> omega)
          simp only [List.map_cons, List.map_nil, pick, List.getD_cons_succ, List.getD_cons_zero, List.set_cons_zero, List.set_cons_succ, List.eraseIdx_cons_zero, List.eraseIdx_cons_succ, List.drop_succ_cons, List.drop_zero, List.append_eq, List.cons_append, List.nil_append, List.setIfInBounds_toArray] at hq
          have hsl := (memB_small HM.out.1.1).1
          have hml := (memB_parts HM.out.1.1).2.2.2.1
          go_at_call 129; refine (c_l1Below hq hB hi3 (by omega)).mono ?_; rintro e w6 ⟨z, i4, h4, rfl, hz0, hz1, hi4, hs6⟩
          have HS6 := Aside0.mk hs6
          clear hs6 hS k1 k2 k3 k4 hq hz1
          obtain ⟨k1, k2, k3, k4⟩ := four (HS6.out.get 1 rfl)
          have hS : (fun w' : World => w'.cell? ⟨gm, 0, none⟩ = some (.slice A1 m.secs.length d1) ∧ w'.cell? ⟨gm, 1, none⟩ = some (.slice A2 m.cache.length d2) ∧ w'.cell? ⟨gm, 2, none⟩ = some (.bool m.failed) ∧ w'.cell? ⟨gm, 3, none⟩ = some (.slice A3 m.bad.length d3)) w6 := ⟨k1, k2, k3, k4⟩
          refine hK.out _ _ ⟨fun _ => hS, ?_⟩; clear hK K; (try simp only [Act.put, List.getElem_toArray, List.getElem_cons_succ, List.getElem_cons_zero, List.setIfInBounds_toArray, List.set_cons_zero, List.set_cons_succ])
          refine seq_step rfl (fun K hK => ?_)
          go_simp
          go_at_call 12; refine (c_specSpoilSec (MemO_R (HS6.out.get 2 rfl)) (memB_small HM.out.1.1)).mono ?_; rintro e w7 ⟨u, F7, rfl, hn⟩
          have hs7 := HS6.out.new hn
          obtain ⟨B1, e1, B2, e2, B3, e3, rfl⟩ := me_form hs7
          have HS7 := Aside0.mk hs7
          clear hs7 hn hS k1 k2 k3 k4 gz
          obtain ⟨k1, k2, k3, k4⟩ := four (HS7.out.get 2 rfl)
          have gz := blk_frozen (HS7.out.get 2 rfl)
          have hS : (fun w' : World => w'.cell? ⟨gm, 0, none⟩ = some (.slice A1 m.secs.length d1) ∧ w'.cell? ⟨gm, 1, none⟩ = some (.slice A2 m.cache.length d2) ∧ w'.cell? ⟨gm, 2, none⟩ = some (.bool m.failed) ∧ w'.cell? ⟨gm, 3, none⟩ = some (.slice A3 m.bad.length d3)) w7 := ⟨k1, k2, k3, k4⟩
          refine hK.out _ _ ⟨fun _ => hS, ?_⟩; clear hK K; (try simp only [Act.put, List.getElem_toArray, List.getElem_cons_succ, List.getElem_cons_zero, List.setIfInBounds_toArray, List.set_cons_zero, List.set_cons_succ])
          clear hS
          refine seq_step rfl (fun K hK => ?_)
          go_simp
          refine hK.out _ _ ⟨(fun h => (by cases h)), ?_⟩; clear hK K; (try simp only [Act.put, List.getElem_toArray, List.getElem_cons_succ, List.getElem_cons_zero, List.setIfInBounds_toArray, List.set_cons_zero, List.set_cons_succ])
          refine seq_done ?_
          go_wp2
          go_roundw
          case rel =>
            have hs8 := (HS7.out.box4 2 rfl (.slice B1 (spoilV m z).secs.length e1) (.slice B2 (spoilV m z).cache.length e2) (.bool (spoilV m z).failed) (.slice B3 (spoilV m z).bad.length e3)).selT 5 [2, 0, 1, 4] (by decide) (by simp <;> omega)
            simp only [List.map_cons, List.map_nil, pick, List.getD_cons_succ, List.getD_cons_zero, List.set_cons_zero, List.set_cons_succ, List.eraseIdx_cons_zero, List.eraseIdx_cons_succ, List.drop_succ_cons, List.drop_zero, List.append_eq, List.cons_append, List.nil_append, List.setIfInBounds_toArray] at hs8
            exact ⟨k - 1, spoilV m z, F7, B1, e1, B2, e2, B3, e3, i4, h4, by go_num, ⟨by omega, by omega⟩, ⟨⟨memB_spoil HM.out.1.1 z, (spoilV_failed m z).trans HM.out.1.2.1, by have h1 := spoilV_cache m z; have h2 := HM.out.1.2.2; rw [h1]; omega⟩, hi4⟩, ⟨hs8⟩⟩
          case measure => first | (simp [intOf]; done) | (simp [intOf]; omega)
        · go_upto_region 6 with fail
          refine wp_region_seqp (fun w' => w'.cell? ⟨gm, 0, none⟩ = some (.slice A1 m.secs.length d1) ∧ w'.cell? ⟨gm, 1, none⟩ = some (.slice A2 m.cache.length d2) ∧ w'.cell? ⟨gm, 2, none⟩ = some (.bool m.failed) ∧ w'.cell? ⟨gm, 3, none⟩ = some (.slice A3 m.bad.length d3)) [12] [(0, 1), (1, 1), (2, 1), (3, 1), (4, 1), (6, 1), (5, 0), (7, 0), (8, 0), (9, 2), (10, 2), (11, 2), (12, 0)] (by kernel_rfl) (by kernel_rfl) ?_
          have hS : (fun w' : World => w'.cell? ⟨gm, 0, none⟩ = some (.slice A1 m.secs.length d1) ∧ w'.cell? ⟨gm, 1, none⟩ = some (.slice A2 m.cache.length d2) ∧ w'.cell? ⟨gm, 2, none⟩ = some (.bool m.failed) ∧ w'.cell? ⟨gm, 3, none⟩ = some (.slice A3 m.bad.length d3)) w5.drew := ⟨k1, k2, k3, k4⟩
          iterate 6 (refine seqp_take hS rfl (fun _ _ _ h => h) (by rfl) (fun w_ hSw => by (try dsimp only at hSw); go_simp; first | done | with_reducible rfl) ?_; (try simp only [Act.put, List.getElem_toArray, List.getElem_cons_succ, List.getElem_cons_zero, List.setIfInBounds_toArray, List.set_cons_zero, List.set_cons_succ]))
          refine seqp_step rfl (fun K hK => ?_)
          go_simp
          have hq := HS4.out.drew.selT 4 [2, 0, 1, 3] (by decide) (by simp <;> omega)
          simp only [List.map_cons, List.map_nil, pick, List.getD_cons_succ, List.getD_cons_zero, List.set_cons_zero, List.set_cons_succ, List.eraseIdx_cons_zero, List.eraseIdx_cons_succ, List.drop_succ_cons, List.drop_zero, List.append_eq, List.cons_append, List.nil_append, List.setIfInBounds_toArray] at hq
          have hsl := (memB_small HM.out.1.1).1
          have hml := (memB_parts HM.out.1.1).2.2.2.1
          go_at_call 129; refine (c_l1Below hq hB hi3 (by omega)).mono ?_; rintro e w6 ⟨z, i4, h4, rfl, hz0, hz1, hi4, hs6⟩
          have HS6 := Aside0.mk hs6
          clear hs6 hS k1 k2 k3 k4 hq hz1
          obtain ⟨k1, k2, k3, k4⟩ := four (HS6.out.get 1 rfl)
          have hS : (fun w' : World => w'.cell? ⟨gm, 0, none⟩ = some (.slice A1 m.secs.length d1) ∧ w'.cell? ⟨gm, 1, none⟩ = some (.slice A2 m.cache.length d2) ∧ w'.cell? ⟨gm, 2, none⟩ = some (.bool m.failed) ∧ w'.cell? ⟨gm, 3, none⟩ = some (.slice A3 m.bad.length d3)) w6 := ⟨k1, k2, k3, k4⟩
          refine hK.out _ _ ⟨fun _ _ => hS, ?_⟩; clear hK K; (try simp only [Act.put, List.getElem_toArray, List.getElem_cons_succ, List.getElem_cons_zero, List.setIfInBounds_toArray, List.set_cons_zero, List.set_cons_succ])
          refine seqp_step rfl (fun K hK => ?_)
          go_simp
          go_at_call 150; refine (c_l1Sec HS6.out hB hi4).mono ?_; rintro e w7 ⟨A6, c6, F6, xs, i5, h5, rfl, hx6, hi5, hs7⟩
          have HS7 := Aside0.mk hs7
          clear hs7 hS k1 k2 k3 k4
          obtain ⟨k1, k2, k3, k4⟩ := four (HS7.out.get 2 rfl)
          have hS : (fun w' : World => w'.cell? ⟨gm, 0, none⟩ = some (.slice A1 m.secs.length d1) ∧ w'.cell? ⟨gm, 1, none⟩ = some (.slice A2 m.cache.length d2) ∧ w'.cell? ⟨gm, 2, none⟩ = some (.bool m.failed) ∧ w'.cell? ⟨gm, 3, none⟩ = some (.slice A3 m.bad.length d3)) w7 := ⟨k1, k2, k3, k4⟩
          refine hK.out _ _ ⟨fun _ _ => hS, ?_⟩; clear hK K; (try simp only [Act.put, List.getElem_toArray, List.getElem_cons_succ, List.getElem_cons_zero, List.setIfInBounds_toArray, List.set_cons_zero, List.set_cons_succ])
          refine seqp_step rfl (fun K hK => ?_)
          go_simp
          go_at_call 40; refine (c_specWriteSec (MemO_R (HS7.out.get 3 rfl)) (memB_small HM.out.1.1) (O_RK (HS7.out.get 0 rfl)) (by omega)).mono ?_; rintro e w8 ⟨u, F7, rfl, hn⟩
          have hs8 := HS7.out.new hn
          obtain ⟨B1, e1, B2, e2, B3, e3, rfl⟩ := me_form hs8
          have HS8 := Aside0.mk hs8
          clear hs8 hn hS k1 k2 k3 k4 gz
          obtain ⟨k1, k2, k3, k4⟩ := four (HS8.out.get 3 rfl)
          have gz := blk_frozen (HS8.out.get 3 rfl)
          have hS : (fun w' : World => w'.cell? ⟨gm, 0, none⟩ = some (.slice A1 m.secs.length d1) ∧ w'.cell? ⟨gm, 1, none⟩ = some (.slice A2 m.cache.length d2) ∧ w'.cell? ⟨gm, 2, none⟩ = some (.bool m.failed) ∧ w'.cell? ⟨gm, 3, none⟩ = some (.slice A3 m.bad.length d3)) w8 := ⟨k1, k2, k3, k4⟩
          refine hK.out _ _ ⟨fun _ _ => hS, ?_⟩; clear hK K; (try simp only [Act.put, List.getElem_toArray, List.getElem_cons_succ, List.getElem_cons_zero, List.setIfInBounds_toArray, List.set_cons_zero, List.set_cons_succ])
          clear hS
          iterate 3 (refine seqp_pure rfl (fun _ _ _ h => h) (by rfl) (fun w_ => by go_simp; first | done | with_reducible rfl) ?_; (try simp only [Act.put, List.getElem_toArray, List.getElem_cons_succ, List.getElem_cons_zero, List.setIfInBounds_toArray, List.set_cons_zero, List.set_cons_succ]))
          refine seqp_step rfl (fun K hK => ?_)
          go_simp
          refine hK.out _ _ ⟨(fun h => (by cases h)), ?_⟩; clear hK K; (try simp only [Act.put, List.getElem_toArray, List.getElem_cons_succ, List.getElem_cons_zero, List.setIfInBounds_toArray, List.set_cons_zero, List.set_cons_succ])
          refine seqp_done ?_
          go_wp2
          go_roundw
          case rel =>
            have hs9 := (HS8.out.box4 3 rfl (.slice B1 (writeV m z xs).secs.length e1) (.slice B2 (writeV m z xs).cache.length e2) (.bool (writeV m z xs).failed) (.slice B3 (writeV m z xs).bad.length e3)).selT 6 [3, 0, 2, 5] (by decide) (by simp <;> omega)
            simp only [List.map_cons, List.map_nil, pick, List.getD_cons_succ, List.getD_cons_zero, List.set_cons_zero, List.set_cons_succ, List.eraseIdx_cons_zero, List.eraseIdx_cons_succ, List.drop_succ_cons, List.drop_zero, List.append_eq, List.cons_append, List.nil_append, List.setIfInBounds_toArray] at hs9
            exact ⟨k - 1, writeV m z xs, F7, B1, e1, B2, e2, B3, e3, i5, h5, by go_num, ⟨by omega, by omega⟩, ⟨⟨memB_write HM.out.1.1 z xs, (writeV_failed m z xs).trans HM.out.1.2.1, by have h1 := writeV_cache m z xs; have h2 := HM.out.1.2.2; omega⟩, hi5⟩, ⟨hs9⟩⟩
          case measure => first | (simp [intOf]; done) | (simp [intOf]; omega)
    · have gz := blk_frozen (HR.out.get 3 rfl)
      obtain ⟨z1, z2, z3, z4⟩ := four (HR.out.get 3 rfl)
      go_wp2
      have HE : Sep w0 [] _ _ := HR.out.box4 3 rfl (.slice A1 m.secs.length d1) (.slice A2 m.cache.length d2) (.bool m.failed) (.slice A3 m.bad.length d3)
      refine bodyPost_ret (results_cell_row rfl _ _ w.heap.size 30 #[.slice A1 m.secs.length d1, .slice A2 m.cache.length d2, .bool m.failed, .slice A3 m.bad.length d3] (0, 0) _ rfl (HE.get 3 rfl) Try.underlying30 rfl (by kernel_rfl)) rfl ?_
      have h9 := HE.selT 4 [1, 2] (by decide) (by simp <;> omega)
      simp only [List.map_cons, List.map_nil, pick, List.getD_cons_succ, List.getD_cons_zero, List.set_cons_zero, List.set_cons_succ, List.eraseIdx_cons_zero, List.eraseIdx_cons_succ, List.drop_succ_cons, List.drop_zero, List.append_eq, List.cons_append, List.nil_append, List.setIfInBounds_toArray] at h9
      have hfin : memB m = true ∧ (m.failed = false ∧ m.cache.length ≤ 7) := ⟨HM.out.1.1, HM.out.1.2.1, by have h1 := HM.out.1.2.2; omega⟩
      first | exact ⟨_, F, m, i', h', rfl, hfin, HM.out.2, h9⟩ | exact ⟨_, rfl, F, m, hfin, i', HM.out.2, h', h9⟩ | exact ⟨_, rfl, m, hfin, i', HM.out.2, F, h', h9⟩
end Go.Proofs.Ytlmnmcfieagmbaa.MDraw3
