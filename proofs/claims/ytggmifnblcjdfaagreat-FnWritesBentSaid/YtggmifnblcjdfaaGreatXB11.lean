/- Own text: MDraw3 MDraw4. -/
import Derived.Test.YtggmifnblcjdfaaGreatXB9
import Derived.Test.YtggmifnblcjdfaaGreatXB3
import Derived.Test.YtggmifnblcjdfaaGreatXB1
import Derived.Test.YtggmifnblcjdfaaGreatXB7
import Derived.Test.YtggmifnblcjdfaaGreatXABun4
import Derived.Test.YtggmifnblcjdfaaGreatXB8
set_option linter.unusedVariables false
set_option linter.unusedSimpArgs false
namespace Go.Proofs.YtggmifnblcjdfaaGreat
namespace MDraw3
open Go.RowKit RJ RP Go.Proofs.YtggmifnblcjdfaaGreatW.PrintWords Fp FpStep MInt MKinds MRead MMake MPut MOk MVal MValB Go.Proofs.YtggmifnblcjdfaaGreat.Sep SepStep MSuper MReadS MDraw MDraw2 MSpoilS MWrite MFlushS MFail
attribute [local go_sem ↓] Go.wp_at_zero Go.wp_at_succ
set_option maxHeartbeats 4000000 in
set_option maxRecDepth 100000 in
theorem c_l2Draw {w0 w : World} {L : List Res} {g : Nat} {B : Value} {bs : List Int} {i h : Int} (hs : Sep w0 [] w (cur g B i h :: L)) (hB : RK (Kd.int .u8) w0 B bs) (hi : 0 ≤ i ∧ i ≤ bs.length) :
  Calls Tryz.prog 142 #[.pointer (some ⟨g, 0, none⟩)] w fun e w' => ∃ (u : Value) (F : List Nat) (m : MemV) (i' h' : Int), e = .returned u ∧ (memB m = true ∧ (m.failed = false ∧ m.cache.length ≤ 7)) ∧ (0 ≤ i' ∧ i' ≤ bs.length) ∧ Sep w0 [] w' (me F u m :: cur g B i' h' :: L) := by
 have HS := Aside0.mk hs
 clear hs
 go_enter Tryz.func142, Tryz.ntmps142
 go_upto_region 2 with (first
  | (go_at_call 159; refine (c_specMemNew _ _).mono ?_; rintro e w2 ⟨u, F, rfl, hn⟩; have hs2 := HS1.out.new hn; have hmB : memB (newV (3 + x)) = true := memB_new (by omega); have hmf : (newV (3 + x)).failed = false := (by unfold newV; split <;> rfl); have hmc : (newV (3 + x)).cache.length = 0 := (by unfold newV; split <;> rfl); generalize newV (3 + x) = m at hs2 hmB hmf hmc; have HM := Aside0.mk (And.intro hmB (And.intro hmf hmc)); clear hmB hmf hmc; obtain ⟨A1, d1, A2, d2, A3, d3, rfl⟩ := me_form hs2; have HS2 := Aside0.mk hs2; clear hs2 hn)
  | (go_at_call 94; refine (c_l1Below ((HS.out.alloc (g := w.heap.size) rfl #[.slice none 0 0, .slice none 0 0, .bool false, .slice none 0 0] 89).perm (List.Perm.swap _ _ _)) hB hi (by omega)).mono ?_; rintro e w1 ⟨x, i1, h1, rfl, hx0, hx1, hi1, hs1⟩; have hx2 := hx1 (by omega); have HS1 := Aside0.mk hs1; clear hs1 hx1)
  | fail)
 have hB2 := HS2.out.alloc (g := w2.heap.size) rfl #[.slice A1 m.secs.length d1, .slice A2 m.cache.length d2, .bool m.failed, .slice A3 m.bad.length d3] 89
 generalize hg : w2.heap.size = gm at *
 generalize hw : w2.alloc (.cells #[.slice A1 m.secs.length d1, .slice A2 m.cache.length d2, .bool m.failed, .slice A3 m.bad.length d3] 89 (0, 0)) = w3 at *
 have HB := Aside0.mk hB2
 clear hB2 hg hw HS2 HS1
 have hinr := HB.out.selT 4 [2, 0, 1, 3] (by decide) (by simp <;> omega)
 simp only [qqN, qqT] at hinr
 have HB2 := Aside0.mk hinr
 clear hinr
 go_wp2_with (first
  | (go_at_call 94; refine (c_l1Below HB2.out hB hi1 (by omega)).mono ?_; rintro e w4 ⟨k0, i2, h2, rfl, hk0, hk1, hi2, hs3⟩; have hk2 := hk1 (by omega); have hq := hs3.selT 4 [1, 2, 0, 3] (by decide) (by simp <;> omega); simp only [qqN, qqT] at hq; have HS3 := Aside0.mk hq; clear hs3 hq hk1)
  | fail)
 go_loopw [4] (fun v4 wr => ∃ (k : Int) (m : MemV) (F : List Nat) (A1 : Option Addr) (d1 : Nat) (A2 : Option Addr) (d2 : Nat) (A3 : Option Addr) (d3 : Nat) (i' h' : Int), v4 = .int .i64 k ∧ (0 ≤ k ∧ k ≤ 7) ∧ Aside0 ((memB m = true ∧ (m.failed = false ∧ (m.cache.length : Int) + k ≤ 7)) ∧ (0 ≤ i' ∧ i' ≤ bs.length)) ∧ Aside0 (Sep w0 [] wr (bx gm 89 #[.slice A1 m.secs.length d1, .slice A2 m.cache.length d2, .bool m.failed, .slice A3 m.bad.length d3] :: me F (.agg #[.slice A1 m.secs.length d1, .slice A2 m.cache.length d2, .bool m.failed, .slice A3 m.bad.length d3]) m :: cur g B i' h' :: bx w.heap.size 89 #[.slice none 0 0, .slice none 0 0, .bool false, .slice none 0 0] :: L))) (fun v4 _ => (intOf v4).toNat)
 case atStart => exact ⟨k0, m, F, A1, d1, A2, d2, A3, d3, i2, h2, rfl, ⟨hk0, by omega⟩, ⟨⟨HM.out.1, HM.out.2.1, by have := HM.out.2.2; omega⟩, hi2⟩, HS3⟩
 case round =>
  clear HB HB2 HS3 HM
  obtain ⟨k, m, F, A1, d1, A2, d2, A3, d3, i', h', rfl, hk, HM, HR⟩ := hrel
  obtain ⟨k1, k2, k3, k4⟩ := four (HR.out.get 0 rfl)
  by_cases h0 : 0 < k
  ·have hq := HR.out.selT 4 [2, 0, 1, 3] (by decide) (by simp <;> omega)
   simp only [qqN, qqT] at hq
   have HR2 := Aside0.mk hq
   clear hq
   go_upto_region 7 with (first
    | (go_at_call 94; refine (c_l1Below HR2.out hB HM.out.2 (by omega)).mono ?_; rintro e w5 ⟨y, i3, h3, rfl, hy0, hy1, hi3, hs4⟩; have hy2 := hy1 (by omega); have hq := hs4.selT 4 [1, 2, 0, 3] (by decide) (by simp <;> omega); simp only [qqN, qqT] at hq; have HS4 := Aside0.mk hq; clear hs4 hq hy1 k1 k2 k3 k4; obtain ⟨k1, k2, k3, k4⟩ := four (HS4.out.get 0 rfl); have gz := blk_frozen (HS4.out.get 0 rfl))
    | fail)
   by_cases y0 : y = 0
   ·subst y0
    go_wp2_with (first
     | (go_at_call 108; refine (c_specFlushMem (MemO_R (HS4.out.get 1 rfl)) (memB_small HM.out.1.1)).mono ?_; rintro e w6 ⟨u, F6, rfl, hn⟩; have hs6 := HS4.out.new hn; obtain ⟨B1, e1, B2, e2, B3, e3, rfl⟩ := me_form hs6; have HS6 := Aside0.mk hs6; clear hs6 hn k1 k2 k3 k4 gz; obtain ⟨k1, k2, k3, k4⟩ := four (HS6.out.get 1 rfl); have gz := blk_frozen (HS6.out.get 1 rfl))
     | fail)
    go_roundw
    case rel =>
     have hs7 := (HS6.out.box4 1 rfl (.slice B1 (flushV m).secs.length e1) (.slice B2 (flushV m).cache.length e2) (.bool (flushV m).failed) (.slice B3 (flushV m).bad.length e3)).selT 5 [1, 0, 3, 4] (by decide) (by simp <;> omega)
     simp only [qqN, qqT] at hs7
     exact ⟨k - 1, flushV m, F6, B1, e1, B2, e2, B3, e3, i3, h3, by go_num, ⟨by omega, by omega⟩, ⟨⟨memB_flush HM.out.1.1, (flushV_failed m).trans HM.out.1.2.1, by have h1 := flushV_cache HM.out.1.1 HM.out.1.2.1; have h2 := HM.out.1.2.2; omega⟩, hi3⟩, ⟨hs7⟩⟩
    case measure => first | (simp [intOf]; done) | (simp [intOf]; omega)
   ·by_cases y1 : y = 1
    ·subst y1
     go_upto_region 10 with fail
     refine wp_region_seq (fun w' => w'.cell? ⟨gm, 0, none⟩ = some (.slice A1 m.secs.length d1) ∧ w'.cell? ⟨gm, 1, none⟩ = some (.slice A2 m.cache.length d2) ∧ w'.cell? ⟨gm, 2, none⟩ = some (.bool m.failed) ∧ w'.cell? ⟨gm, 3, none⟩ = some (.slice A3 m.bad.length d3)) [7] [(0, true), (1, true), (2, true), (3, true), (4, true), (5, false), (6, false), (7, false)] (by kernel_rfl) (by kernel_rfl) ?_
     have hS : (fun w' : World => w'.cell? ⟨gm, 0, none⟩ = some (.slice A1 m.secs.length d1) ∧ w'.cell? ⟨gm, 1, none⟩ = some (.slice A2 m.cache.length d2) ∧ w'.cell? ⟨gm, 2, none⟩ = some (.bool m.failed) ∧ w'.cell? ⟨gm, 3, none⟩ = some (.slice A3 m.bad.length d3)) w5.drew := ⟨k1, k2, k3, k4⟩
     iterate 5 (refine seq_take hS rfl (fun _ _ _ h => h) (by rfl) (fun w_ hSw => by (try dsimp only at hSw); go_simp; first | done | with_reducible rfl) ?_; (try simp only [Act.put, qqP]))
     refine seq_step rfl (fun K hK => ?_)
     go_simp
     have hq := HS4.out.drew.selT 4 [2, 0, 1, 3] (by decide) (by simp <;> omega)
     simp only [qqN, qqT] at hq
     have hsl := (memB_small HM.out.1.1).1
     have hml := (memB_parts HM.out.1.1).2.2.2.1
     go_at_call 94; refine (c_l1Below hq hB hi3 (by omega)).mono ?_; rintro e w6 ⟨z, i4, h4, rfl, hz0, hz1, hi4, hs6⟩
     have HS6 := Aside0.mk hs6
     clear hs6 hS k1 k2 k3 k4 hq hz1
     obtain ⟨k1, k2, k3, k4⟩ := four (HS6.out.get 1 rfl)
     have hS : (fun w' : World => w'.cell? ⟨gm, 0, none⟩ = some (.slice A1 m.secs.length d1) ∧ w'.cell? ⟨gm, 1, none⟩ = some (.slice A2 m.cache.length d2) ∧ w'.cell? ⟨gm, 2, none⟩ = some (.bool m.failed) ∧ w'.cell? ⟨gm, 3, none⟩ = some (.slice A3 m.bad.length d3)) w6 := ⟨k1, k2, k3, k4⟩
     refine hK.out _ _ ⟨fun _ => hS, ?_⟩; clear hK K; (try simp only [Act.put, qqP])
     refine seq_step rfl (fun K hK => ?_)
     go_simp
     go_at_call 167; refine (c_specSpoilSec (MemO_R (HS6.out.get 2 rfl)) (memB_small HM.out.1.1)).mono ?_; rintro e w7 ⟨u, F7, rfl, hn⟩
     have hs7 := HS6.out.new hn
     obtain ⟨B1, e1, B2, e2, B3, e3, rfl⟩ := me_form hs7
     have HS7 := Aside0.mk hs7
     clear hs7 hn hS k1 k2 k3 k4 gz
     obtain ⟨k1, k2, k3, k4⟩ := four (HS7.out.get 2 rfl)
     have gz := blk_frozen (HS7.out.get 2 rfl)
     have hS : (fun w' : World => w'.cell? ⟨gm, 0, none⟩ = some (.slice A1 m.secs.length d1) ∧ w'.cell? ⟨gm, 1, none⟩ = some (.slice A2 m.cache.length d2) ∧ w'.cell? ⟨gm, 2, none⟩ = some (.bool m.failed) ∧ w'.cell? ⟨gm, 3, none⟩ = some (.slice A3 m.bad.length d3)) w7 := ⟨k1, k2, k3, k4⟩
     refine hK.out _ _ ⟨fun _ => hS, ?_⟩; clear hK K; (try simp only [Act.put, qqP])
     clear hS
     refine seq_step rfl (fun K hK => ?_)
     go_simp
     refine hK.out _ _ ⟨(fun h => (by cases h)), ?_⟩; clear hK K; (try simp only [Act.put, qqP])
     refine seq_done ?_
     go_wp2
     go_roundw
     case rel =>
      have hs8 := (HS7.out.box4 2 rfl (.slice B1 (spoilV m z).secs.length e1) (.slice B2 (spoilV m z).cache.length e2) (.bool (spoilV m z).failed) (.slice B3 (spoilV m z).bad.length e3)).selT 5 [2, 0, 1, 4] (by decide) (by simp <;> omega)
      simp only [qqN, qqT] at hs8
      exact ⟨k - 1, spoilV m z, F7, B1, e1, B2, e2, B3, e3, i4, h4, by go_num, ⟨by omega, by omega⟩, ⟨⟨memB_spoil HM.out.1.1 z, (spoilV_failed m z).trans HM.out.1.2.1, by have h1 := spoilV_cache m z; have h2 := HM.out.1.2.2; rw [h1]; omega⟩, hi4⟩, ⟨hs8⟩⟩
     case measure => first | (simp [intOf]; done) | (simp [intOf]; omega)
    ·go_upto_region 6 with fail
     refine wp_region_seqp (fun w' => w'.cell? ⟨gm, 0, none⟩ = some (.slice A1 m.secs.length d1) ∧ w'.cell? ⟨gm, 1, none⟩ = some (.slice A2 m.cache.length d2) ∧ w'.cell? ⟨gm, 2, none⟩ = some (.bool m.failed) ∧ w'.cell? ⟨gm, 3, none⟩ = some (.slice A3 m.bad.length d3)) [12] [(0, 1), (1, 1), (2, 1), (3, 1), (4, 1), (6, 1), (5, 0), (7, 0), (8, 0), (9, 2), (10, 2), (11, 2), (12, 0)] (by kernel_rfl) (by kernel_rfl) ?_
     have hS : (fun w' : World => w'.cell? ⟨gm, 0, none⟩ = some (.slice A1 m.secs.length d1) ∧ w'.cell? ⟨gm, 1, none⟩ = some (.slice A2 m.cache.length d2) ∧ w'.cell? ⟨gm, 2, none⟩ = some (.bool m.failed) ∧ w'.cell? ⟨gm, 3, none⟩ = some (.slice A3 m.bad.length d3)) w5.drew := ⟨k1, k2, k3, k4⟩
     iterate 6 (refine seqp_take hS rfl (fun _ _ _ h => h) (by rfl) (fun w_ hSw => by (try dsimp only at hSw); go_simp; first | done | with_reducible rfl) ?_; (try simp only [Act.put, qqP]))
     refine seqp_step rfl (fun K hK => ?_)
     go_simp
     have hq := HS4.out.drew.selT 4 [2, 0, 1, 3] (by decide) (by simp <;> omega)
     simp only [qqN, qqT] at hq
     have hsl := (memB_small HM.out.1.1).1
     have hml := (memB_parts HM.out.1.1).2.2.2.1
     go_at_call 94; refine (c_l1Below hq hB hi3 (by omega)).mono ?_; rintro e w6 ⟨z, i4, h4, rfl, hz0, hz1, hi4, hs6⟩
     have HS6 := Aside0.mk hs6
     clear hs6 hS k1 k2 k3 k4 hq hz1
     obtain ⟨k1, k2, k3, k4⟩ := four (HS6.out.get 1 rfl)
     have hS : (fun w' : World => w'.cell? ⟨gm, 0, none⟩ = some (.slice A1 m.secs.length d1) ∧ w'.cell? ⟨gm, 1, none⟩ = some (.slice A2 m.cache.length d2) ∧ w'.cell? ⟨gm, 2, none⟩ = some (.bool m.failed) ∧ w'.cell? ⟨gm, 3, none⟩ = some (.slice A3 m.bad.length d3)) w6 := ⟨k1, k2, k3, k4⟩
     refine hK.out _ _ ⟨fun _ _ => hS, ?_⟩; clear hK K; (try simp only [Act.put, qqP])
     refine seqp_step rfl (fun K hK => ?_)
     go_simp
     go_at_call 96; refine (c_l1Sec HS6.out hB hi4).mono ?_; rintro e w7 ⟨A6, c6, F6, xs, i5, h5, rfl, hx6, hi5, hs7⟩
     have HS7 := Aside0.mk hs7
     clear hs7 hS k1 k2 k3 k4
     obtain ⟨k1, k2, k3, k4⟩ := four (HS7.out.get 2 rfl)
     have hS : (fun w' : World => w'.cell? ⟨gm, 0, none⟩ = some (.slice A1 m.secs.length d1) ∧ w'.cell? ⟨gm, 1, none⟩ = some (.slice A2 m.cache.length d2) ∧ w'.cell? ⟨gm, 2, none⟩ = some (.bool m.failed) ∧ w'.cell? ⟨gm, 3, none⟩ = some (.slice A3 m.bad.length d3)) w7 := ⟨k1, k2, k3, k4⟩
     refine hK.out _ _ ⟨fun _ _ => hS, ?_⟩; clear hK K; (try simp only [Act.put, qqP])
     refine seqp_step rfl (fun K hK => ?_)
     go_simp
     go_at_call 149; refine (c_specWriteSec (MemO_R (HS7.out.get 3 rfl)) (memB_small HM.out.1.1) (O_RK (HS7.out.get 0 rfl)) (by omega)).mono ?_; rintro e w8 ⟨u, F7, rfl, hn⟩
     have hs8 := HS7.out.new hn
     obtain ⟨B1, e1, B2, e2, B3, e3, rfl⟩ := me_form hs8
     have HS8 := Aside0.mk hs8
     clear hs8 hn hS k1 k2 k3 k4 gz
     obtain ⟨k1, k2, k3, k4⟩ := four (HS8.out.get 3 rfl)
     have gz := blk_frozen (HS8.out.get 3 rfl)
     have hS : (fun w' : World => w'.cell? ⟨gm, 0, none⟩ = some (.slice A1 m.secs.length d1) ∧ w'.cell? ⟨gm, 1, none⟩ = some (.slice A2 m.cache.length d2) ∧ w'.cell? ⟨gm, 2, none⟩ = some (.bool m.failed) ∧ w'.cell? ⟨gm, 3, none⟩ = some (.slice A3 m.bad.length d3)) w8 := ⟨k1, k2, k3, k4⟩
     refine hK.out _ _ ⟨fun _ _ => hS, ?_⟩; clear hK K; (try simp only [Act.put, qqP])
     clear hS
     iterate 3 (refine seqp_pure rfl (fun _ _ _ h => h) (by rfl) (fun w_ => by go_simp; first | done | with_reducible rfl) ?_; (try simp only [Act.put, qqP]))
     refine seqp_step rfl (fun K hK => ?_)
     go_simp
     refine hK.out _ _ ⟨(fun h => (by cases h)), ?_⟩; clear hK K; (try simp only [Act.put, qqP])
     refine seqp_done ?_
     go_wp2
     go_roundw
     case rel =>
      have hs9 := (HS8.out.box4 3 rfl (.slice B1 (writeV m z xs).secs.length e1) (.slice B2 (writeV m z xs).cache.length e2) (.bool (writeV m z xs).failed) (.slice B3 (writeV m z xs).bad.length e3)).selT 6 [3, 0, 2, 5] (by decide) (by simp <;> omega)
      simp only [qqN, qqT] at hs9
      exact ⟨k - 1, writeV m z xs, F7, B1, e1, B2, e2, B3, e3, i5, h5, by go_num, ⟨by omega, by omega⟩, ⟨⟨memB_write HM.out.1.1 z xs, (writeV_failed m z xs).trans HM.out.1.2.1, by have h1 := writeV_cache m z xs; have h2 := HM.out.1.2.2; omega⟩, hi5⟩, ⟨hs9⟩⟩
     case measure => first | (simp [intOf]; done) | (simp [intOf]; omega)
  ·have gz := blk_frozen (HR.out.get 3 rfl)
   obtain ⟨z1, z2, z3, z4⟩ := four (HR.out.get 3 rfl)
   go_wp2
   have HE : Sep w0 [] _ _ := HR.out.box4 3 rfl (.slice A1 m.secs.length d1) (.slice A2 m.cache.length d2) (.bool m.failed) (.slice A3 m.bad.length d3)
   refine bodyPost_ret (results_cell_row rfl _ _ w.heap.size 89 #[.slice A1 m.secs.length d1, .slice A2 m.cache.length d2, .bool m.failed, .slice A3 m.bad.length d3] (0, 0) _ rfl (HE.get 3 rfl) Tryz.underlying89 rfl (by kernel_rfl)) rfl ?_
   have h9 := HE.selT 4 [1, 2] (by decide) (by simp <;> omega)
   simp only [qqN, qqT] at h9
   have hfin : memB m = true ∧ (m.failed = false ∧ m.cache.length ≤ 7) := ⟨HM.out.1.1, HM.out.1.2.1, by have h1 := HM.out.1.2.2; omega⟩
   first | exact ⟨_, F, m, i', h', rfl, hfin, HM.out.2, h9⟩ | exact ⟨_, rfl, F, m, hfin, i', HM.out.2, h', h9⟩ | exact ⟨_, rfl, m, hfin, i', HM.out.2, F, h', h9⟩
end MDraw3
namespace MDraw4
open Go.RowKit RJ RP Go.Proofs.YtggmifnblcjdfaaGreatW.PrintWords Fp FpStep MInt MKinds MRead MMake MPut MOk MVal MValB Go.Proofs.YtggmifnblcjdfaaGreat.Sep SepStep MSuper MReadS MDraw MDraw2 MDraw3 MFail
attribute [local go_sem ↓] Go.wp_at_zero Go.wp_at_succ
def DrewMem (w0 : World) (L : List Res) (g : Nat) (B : Value) (n : Nat) (e : Ending) (w' : World) : Prop := ∃ (u : Value) (F : List Nat) (m : MemV) (i' h' : Int), e = .returned u ∧ Tiny m ∧ (0 ≤ i' ∧ i' ≤ n) ∧ Sep w0 [] w' (me F u m :: cur g B i' h' :: L)
theorem d2Any_end {w0 w' : World} {L : List Res} {g : Nat} {B : Value} {n : Nat} {e : Ending} {u : Value} {F : List Nat} {m : MemV} {i' h' : Int} (he : e = .returned u) (ht : Tiny m) (hi : 0 ≤ i' ∧ i' ≤ n) (hs : Sep w0 [] w' (me F u m :: cur g B i' h' :: L)) : DrewMem w0 L g B n e w' := ⟨u, F, m, i', h', he, ht, hi, hs⟩
theorem tiny_set0 {m : MemV} {xs : List Int} (h : Tiny m) (hx : xs.length ≤ 13) : Tiny ⟨m.secs.set 0 xs, m.cache, m.failed, m.bad⟩ := by
 refine ⟨by simpa using h.1, fun x hq => ?_, h.2.2⟩
 rcases List.mem_or_eq_of_mem_set hq with h1 | h1
 ·exact h.2.1 x h1
 ·rw [h1]; exact hx
theorem tiny_cache {m : MemV} {xs : List Int} {n : Int} (h : Tiny m) (hc : m.cache.length ≤ 60) (hx : xs.length ≤ 13) : Tiny ⟨m.secs, m.cache ++ [(n, xs)], m.failed, m.bad⟩ := by
 refine ⟨h.1, h.2.1, by simp; omega, fun e he => ?_, h.2.2.2.2⟩
 rcases List.mem_append.1 he with he | he
 ·exact h.2.2.2.1 e he
 ·simp only [List.mem_singleton] at he; subst he; exact hx
theorem tiny_bad {m : MemV} {n : Int} (h : Tiny m) (hc : m.bad.length ≤ 60) : Tiny ⟨m.secs, m.cache, m.failed, m.bad ++ [n]⟩ := ⟨h.1, h.2.1, h.2.2.1, h.2.2.2.1, by simp; omega⟩
theorem tiny_fail {m : MemV} (h : Tiny m) : Tiny (failV m) := ⟨h.1, h.2.1, by simp [failV], by simp [failV], h.2.2.2.2⟩
theorem tiny_none {m : MemV} (h : Tiny m) : Tiny ⟨[], m.cache, m.failed, m.bad⟩ := ⟨by simp, by simp, h.2.2⟩
def slLen : Option Value → Nat
 | some (.slice _ n _) => n
 | _ => 0
set_option maxHeartbeats 8000000 in
set_option maxRecDepth 100000 in
theorem c_l2Any {w0 w : World} {L : List Res} {g : Nat} {B : Value} {bs : List Int} {i h : Int} (hs : Sep w0 [] w (cur g B i h :: L)) (hB : RK (Kd.int .u8) w0 B bs) (hi : 0 ≤ i ∧ i ≤ bs.length) :
  Calls Tryz.prog 95 #[.pointer (some ⟨g, 0, none⟩)] w (DrewMem w0 L g B bs.length) := by
 have HS := Aside0.mk hs
 clear hs
 go_enter Tryz.func95, Tryz.ntmps95
 go_upto_region 2 with (first
  | (go_at_call 142; refine (c_l2Draw ((HS.out.alloc (g := w.heap.size) rfl #[.slice none 0 0, .slice none 0 0, .bool false, .slice none 0 0] 89).perm (List.Perm.swap _ _ _)) hB hi).mono ?_; rintro e w1 ⟨u, F, m, i1, h1, rfl, hm, hi1, hs1⟩; have HM := Aside0.mk hm; obtain ⟨A1, d1, A2, d2, A3, d3, rfl⟩ := me_form hs1; have HS1 := Aside0.mk hs1; clear hs1 hm)
  | fail)
 have hB2 := HS1.out.alloc (g := w1.heap.size) rfl #[.slice A1 m.secs.length d1, .slice A2 m.cache.length d2, .bool m.failed, .slice A3 m.bad.length d3] 89
 generalize hg : w1.heap.size = gm at *
 generalize hw : w1.alloc (.cells #[.slice A1 m.secs.length d1, .slice A2 m.cache.length d2, .bool m.failed, .slice A3 m.bad.length d3] 89 (0, 0)) = w3 at *
 have hinr := hB2.selT 4 [2, 0, 1, 3] (by decide) (by simp <;> omega)
 simp only [qqN, qqT] at hinr
 have HB := Aside0.mk hinr
 clear hinr hB2 hg hw HS1
 go_upto_region 3 with (first
  | (go_at_call 94; refine (c_l1Below HB.out hB hi1 (by omega)).mono ?_; rintro e w4 ⟨y, i2, h2, rfl, hy0, hy1, hi2, hs3⟩; have hy2 := hy1 (by omega); have hq := hs3.selT 4 [1, 2, 0, 3] (by decide) (by simp <;> omega); simp only [qqN, qqT] at hq; have HS3 := Aside0.mk hq; clear hs3 hq hy1)
  | fail)
 obtain ⟨k1, k2, k3, k4⟩ := four (HS3.out.get 0 rfl)
 have hT := memB_tiny HM.out.1
 have HT := Aside0.mk hT
 have hml := (memB_parts HM.out.1).2.2.2.1
 have hcl := hT.2.2.1
 have hbl := hT.2.2.2.2
 have hcl6 : m.cache.length ≤ 60 := (memB_parts HM.out.1).2.2.2.2
 have hbl2 : m.bad.length ≤ 60 := by have h1 := bads_len (memB_parts HM.out.1).2.2.1; omega
 clear hT
 have hrw := (HS3.out.front 1 rfl).ofMemL
 obtain ⟨F1, F2, F3, hrw⟩ := hrw
 simp only [qqN, qqT] at hrw
 have hq := hrw.selT 6 [4, 3, 0, 1, 2, 5] (by decide) (by simp <;> omega)
 simp only [qqN, qqT] at hq
 have HR := Aside0.mk hq
 clear hrw hq
 by_cases y0 : y = 0
 ·subst y0
  obtain ⟨gs, capS, hB1, _, _⟩ := O_form (show oSec.O 28 w4 F1 (.slice A1 m.secs.length d1) m.secs from HR.out.get 2 rfl) (by omega)
  obtain rfl := (Value.slice.inj hB1).1
  clear hB1
  go_upto_region 4 with fail
  refine wp_region_seqp (fun w' => w'.cell? ⟨gm, 0, none⟩ = some (.slice (some ⟨gs, 0, none⟩) m.secs.length d1)) [5] [(0, 2), (2, 2), (1, 1), (3, 0), (4, 2), (5, 0)] (by kernel_rfl) (by kernel_rfl) ?_
  have hS : (fun w' : World => w'.cell? ⟨gm, 0, none⟩ = some (.slice (some ⟨gs, 0, none⟩) m.secs.length d1)) w4.drew := k1
  iterate 2 (refine seqp_pure rfl (fun _ _ _ h => h) (by rfl) (fun w_ => by go_simp; first | done | with_reducible rfl) ?_; (try simp only [Act.put, qqP]))
  iterate 1 (refine seqp_take hS rfl (fun _ _ _ h => h) (by rfl) (fun w_ hSw => by (try dsimp only at hSw); go_simp; first | done | with_reducible rfl) ?_; (try simp only [Act.put, qqP]))
  refine seqp_step rfl (fun K hK => ?_)
  go_simp
  go_at_call 54; refine (c_l1Any HR.out.drew hB hi2).mono ?_; rintro e w5 ⟨A6, c6, F6, xs, i5, h5, rfl, hx6, hi5, hs7⟩
  have HS7 := Aside0.mk hs7
  clear hs7 hS k1 k2 k3 k4
  obtain ⟨k1, k2, k3, k4⟩ := four (HS7.out.get 2 rfl)
  have hS : (fun w' : World => w'.cell? ⟨gm, 0, none⟩ = some (.slice (some ⟨gs, 0, none⟩) m.secs.length d1)) w5 := k1
  refine hK.out _ _ ⟨fun _ _ => hS, ?_⟩; clear hK K; (try simp only [Act.put, qqP])
  clear hS
  have hml0 : 0 < m.secs.length := by omega
  iterate 1 (refine seqp_pure rfl (fun _ _ _ h => h) (by rfl) (fun w_ => by go_simp; first | done | with_reducible rfl) ?_; (try simp only [Act.put, qqP]))
  obtain ⟨uu, cc1, cc2⟩ := O_cells (d := oSec) (i := 0) (t := 0) (HS7.out.get 3 rfl) (by omega) (by decide)
  simp only [show oSec.sz = 1 from rfl, Nat.mul_one, Nat.add_zero] at cc1 cc2
  have HU := Aside0.mk (show oInt.O 3 w5 F6 (.slice A6 xs.length c6) xs from HS7.out.get 0 rfl)
  refine seqp_step rfl (fun K hK => ?_)
  go_simp
  refine hK.out _ _ ⟨(fun h => (by cases h)), ?_⟩; clear hK K; (try simp only [Act.put, qqP])
  refine seqp_done ?_
  obtain ⟨F', hput⟩ := Sep.put (d := oSec) (i := 0) (y := xs) (us := [.slice A6 xs.length c6]) (HS7.out.selT 7 [3, 0, 1, 2, 4, 5, 6] (by decide) (by simp <;> omega)) (by omega) ⟨_, rfl, HU.out⟩
  simp only [qqN, qqT] at hput
  simp only [show oSec.sz = 1 from rfl, Nat.mul_one] at hput
  have hmm := (hput.selT 6 [0, 3, 4, 1, 2, 5] (by decide) (by simp <;> omega))
  simp only [qqN, qqT] at hmm
  have HX := Aside0.mk (hmm.toMem (m := ⟨m.secs.set 0 xs, m.cache, m.failed, m.bad⟩))
  clear hput hmm HS7 HR HS3
  have HY := Aside0.mk (show Sep w0 [] (w5.setCell ⟨gs, 0, none⟩ (.slice A6 xs.length c6)) _ from HX.out)
  generalize w5.setCell ⟨gs, 0, none⟩ (.slice A6 xs.length c6) = w6 at *
  clear HX
  have gz := blk_frozen (HY.out.get 3 rfl)
  clear k1 k2 k3 k4
  obtain ⟨k1, k2, k3, k4⟩ := four (HY.out.get 2 rfl)
  obtain ⟨z1, z2, z3, z4⟩ := four (HY.out.get 3 rfl)
  go_wp2
  have HE : Sep w0 [] _ _ := HY.out.box4 3 rfl (.slice (some ⟨gs, 0, none⟩) m.secs.length d1) (.slice A2 m.cache.length d2) (.bool m.failed) (.slice A3 m.bad.length d3)
  refine bodyPost_ret (results_cell_row rfl _ _ w.heap.size 89 #[.slice (some ⟨gs, 0, none⟩) m.secs.length d1, .slice A2 m.cache.length d2, .bool m.failed, .slice A3 m.bad.length d3] (0, 0) _ rfl (HE.get 3 rfl) Tryz.underlying89 rfl (by kernel_rfl)) rfl ?_
  have h9 := HE.selT 4 [0, 1] (by decide) (by simp <;> omega)
  simp only [qqN, qqT] at h9
  exact d2Any_end rfl (tiny_set0 HT.out hx6) hi5 (h9)
 by_cases y1 : y = 1
 ·subst y1
  go_upto_region 6 with fail
  refine wp_region_seqp (fun w' => w'.cell? ⟨gm, 1, none⟩ = some (.slice A2 m.cache.length d2)) [11] [(0, 2), (2, 2), (5, 2), (1, 1), (3, 0), (4, 0), (6, 0), (7, 2), (8, 0), (9, 0), (10, 2), (11, 0)] (by kernel_rfl) (by kernel_rfl) ?_
  have hS : (fun w' : World => w'.cell? ⟨gm, 1, none⟩ = some (.slice A2 m.cache.length d2)) w4.drew := k2
  iterate 3 (refine seqp_pure rfl (fun _ _ _ h => h) (by rfl) (fun w_ => by go_simp; first | done | with_reducible rfl) ?_; (try simp only [Act.put, qqP]))
  iterate 1 (refine seqp_take hS rfl (fun _ _ _ h => h) (by rfl) (fun w_ hSw => by (try dsimp only at hSw); go_simp; first | done | with_reducible rfl) ?_; (try simp only [Act.put, qqP]))
  refine seqp_step rfl (fun K hK => ?_)
  go_simp
  have hnl := (new_lit HR.out (g := w4.heap.size) rfl 3 (#[.int .i64 (-1), .int .i64 0, .int .i64 9]) (l := [-1, 0, 9]) (n := 3) rfl rfl (by decide)).drew.selT 2 [1, 0] (by decide) (by simp <;> omega)
  simp only [qqN, qqT] at hnl
  refine hK.out _ _ ⟨fun _ _ => cell_alloc k2 _, ?_⟩; clear hK K; (try simp only [Act.put, qqP])
  refine seqp_step rfl (fun K hK => ?_)
  go_simp
  go_at_call 55; refine (c_l1Int hnl hB hi2 (fun w' hw => O_RK (hw.get 0 rfl)) (by decide)).mono ?_; rintro e w5 ⟨x, i3, h3, rfl, hx3, hi3, hs3⟩
  have hq := hs3.selT 2 [0] (by decide) (by simp <;> omega)
  simp only [qqN, qqT] at hq
  have HS5 := Aside0.mk hq
  clear hs3 hq hS hx3 hnl k1 k2 k3 k4
  obtain ⟨k1, k2, k3, k4⟩ := four (HS5.out.get 1 rfl)
  have hS : (fun w' : World => w'.cell? ⟨gm, 1, none⟩ = some (.slice A2 m.cache.length d2)) w5 := k2
  refine hK.out _ _ ⟨fun _ _ => hS, ?_⟩; clear hK K; (try simp only [Act.put, qqP])
  clear hS
  refine seqp_step rfl (fun K hK => ?_)
  go_simp
  go_at_call 54; refine (c_l1Any HS5.out hB hi3).mono ?_; rintro e w6 ⟨A6, c6, F6, xs, i5, h5, rfl, hx6, hi5, hs7⟩
  have HS7 := Aside0.mk hs7
  clear hs7 k1 k2 k3 k4
  obtain ⟨k1, k2, k3, k4⟩ := four (HS7.out.get 2 rfl)
  have hS : (fun w' : World => w'.cell? ⟨gm, 1, none⟩ = some (.slice A2 m.cache.length d2)) w6 := k2
  refine hK.out _ _ ⟨fun _ _ => hS, ?_⟩; clear hK K; (try simp only [Act.put, qqP])
  clear hS
  iterate 1 (refine seqp_pure rfl (fun _ _ _ h => h) (by rfl) (fun w_ => by go_simp; first | done | with_reducible rfl) ?_; (try simp only [Act.put, qqP]))
  refine seqp_step rfl (fun K hK => ?_)
  go_simp
  refine hK.out _ _ ⟨fun _ _ => cell_alloc k2 _, ?_⟩; clear hK K; (try simp only [Act.put, qqP])
  have HU := Aside0.mk (show oInt.O 3 w6 F6 (.slice A6 xs.length c6) xs from HS7.out.get 0 rfl)
  refine seqp_step rfl (fun K hK => ?_)
  have hq := HS7.out.selT 7 [4, 0, 1, 2, 3, 5, 6] (by decide) (by simp <;> omega)
  simp only [qqN, qqT] at hq
  refine step_app (d := oWr) (y := (x, xs)) hq 0 rfl _ _ 87 (.agg #[.int .i64 0, .slice none 0 0]) 32 (by rfl) Tryz.underlying87 (by kernel_rfl) rfl (by decide) (by decide) [.int .i64 x, .slice A6 xs.length c6] ⟨[], F6, [.int .i64 x], [.slice A6 xs.length c6], rfl, rfl, ⟨rfl, rfl⟩, _, rfl, HU.out⟩ (by rfl) (by rfl) (by rfl) (n := m.cache.length) rfl (by omega) ?_
  intro g7 cap7 w7 F7 hs8
  have HS8 := Aside0.mk hs8
  clear hs8 hq k1 k2 k3 k4
  obtain ⟨k1, k2, k3, k4⟩ := four (HS8.out.get 2 rfl)
  have gz := blk_frozen (HS8.out.get 2 rfl)
  have hS : (fun w' : World => w'.cell? ⟨gm, 1, none⟩ = some (.slice A2 m.cache.length d2)) w7 := k2
  refine hK.out _ _ ⟨fun _ _ => hS, ?_⟩; clear hK K; (try simp only [Act.put, qqP])
  clear hS
  iterate 1 (refine seqp_pure rfl (fun _ _ _ h => h) (by rfl) (fun w_ => by go_simp; first | done | with_reducible rfl) ?_; (try simp only [Act.put, qqP]))
  refine seqp_step rfl (fun K hK => ?_)
  go_simp
  refine hK.out _ _ ⟨(fun h => (by cases h)), ?_⟩; clear hK K; (try simp only [Act.put, qqP])
  refine seqp_done ?_
  have hq := HS8.out.setb 2 rfl 1 (.slice (some ⟨g7, 0, none⟩) (m.cache.length + 1) cap7) rfl
  simp only [qqN, qqT] at hq
  have hmm := (hq.selT 6 [3, 0, 4, 1, 2, 5] (by decide) (by simp <;> omega))
  simp only [qqN, qqT] at hmm
  have HY := Aside0.mk (hmm.toMem (m := ⟨m.secs, m.cache ++ [(x, xs)], m.failed, m.bad⟩))
  generalize w7.setCell ⟨gm, 1, none⟩ (.slice (some ⟨g7, 0, none⟩) (m.cache.length + 1) cap7) = w8 at *
  clear hmm hq HS8 HS7 HR HS3 gz
  have gz := blk_frozen (HY.out.get 3 rfl)
  clear k1 k2 k3 k4
  obtain ⟨k1, k2, k3, k4⟩ := four (HY.out.get 2 rfl)
  obtain ⟨z1, z2, z3, z4⟩ := four (HY.out.get 3 rfl)
  go_wp2
  have HE : Sep w0 [] _ _ := HY.out.box4 3 rfl (.slice A1 m.secs.length d1) (.slice (some ⟨g7, 0, none⟩) (m.cache.length + 1) cap7) (.bool m.failed) (.slice A3 m.bad.length d3)
  refine bodyPost_ret (results_cell_row rfl _ _ w.heap.size 89 #[.slice A1 m.secs.length d1, .slice (some ⟨g7, 0, none⟩) (m.cache.length + 1) cap7, .bool m.failed, .slice A3 m.bad.length d3] (0, 0) _ rfl (HE.get 3 rfl) Tryz.underlying89 rfl (by kernel_rfl)) rfl ?_
  have h9 := HE.selT 4 [0, 1] (by decide) (by simp <;> omega)
  simp only [qqN, qqT] at h9
  rw [show (m.cache.length + 1 : Nat) = (m.cache ++ [(x, xs)]).length from (by simp)] at h9 ⊢
  exact d2Any_end rfl (tiny_cache HT.out hcl6 hx6) hi5 (h9)
 by_cases y2 : y = 2
 ·subst y2
  go_upto_region 8 with fail
  refine wp_region_seqp (fun w' => w'.cell? ⟨gm, 3, none⟩ = some (.slice A3 m.bad.length d3)) [8] [(0, 2), (2, 2), (1, 1), (3, 0), (4, 0), (5, 0), (6, 0), (7, 2), (8, 0)] (by kernel_rfl) (by kernel_rfl) ?_
  have hS : (fun w' : World => w'.cell? ⟨gm, 3, none⟩ = some (.slice A3 m.bad.length d3)) w4.drew := k4
  iterate 2 (refine seqp_pure rfl (fun _ _ _ h => h) (by rfl) (fun w_ => by go_simp; first | done | with_reducible rfl) ?_; (try simp only [Act.put, qqP]))
  iterate 1 (refine seqp_take hS rfl (fun _ _ _ h => h) (by rfl) (fun w_ hSw => by (try dsimp only at hSw); go_simp; first | done | with_reducible rfl) ?_; (try simp only [Act.put, qqP]))
  refine seqp_step rfl (fun K hK => ?_)
  go_simp
  have hnl := (new_lit HR.out (g := w4.heap.size) rfl 3 (#[.int .i64 (-1), .int .i64 0, .int .i64 9]) (l := [-1, 0, 9]) (n := 3) rfl rfl (by decide)).drew.selT 2 [1, 0] (by decide) (by simp <;> omega)
  simp only [qqN, qqT] at hnl
  refine hK.out _ _ ⟨fun _ _ => cell_alloc k4 _, ?_⟩; clear hK K; (try simp only [Act.put, qqP])
  refine seqp_step rfl (fun K hK => ?_)
  go_simp
  go_at_call 55; refine (c_l1Int hnl hB hi2 (fun w' hw => O_RK (hw.get 0 rfl)) (by decide)).mono ?_; rintro e w5 ⟨x, i3, h3, rfl, hx3, hi3, hs3⟩
  have hq := hs3.selT 2 [0] (by decide) (by simp <;> omega)
  simp only [qqN, qqT] at hq
  have HS5 := Aside0.mk hq
  clear hs3 hq hS hx3 hnl k1 k2 k3 k4
  obtain ⟨k1, k2, k3, k4⟩ := four (HS5.out.get 1 rfl)
  have hS : (fun w' : World => w'.cell? ⟨gm, 3, none⟩ = some (.slice A3 m.bad.length d3)) w5 := k4
  refine hK.out _ _ ⟨fun _ _ => hS, ?_⟩; clear hK K; (try simp only [Act.put, qqP])
  clear hS
  refine seqp_step rfl (fun K hK => ?_)
  go_simp
  refine hK.out _ _ ⟨fun _ _ => cell_alloc k4 _, ?_⟩; clear hK K; (try simp only [Act.put, qqP])
  refine seqp_step rfl (fun K hK => ?_)
  have hq := HS5.out.selT 6 [4, 0, 1, 2, 3, 5] (by decide) (by simp <;> omega)
  simp only [qqN, qqT] at hq
  refine step_app0 (d := oInt) (y := x) hq 0 rfl _ _ 28 (.int .i64 0) 8 (by rfl) Tryz.underlying28 (by kernel_rfl) rfl (by decide) (by decide) [.int .i64 x] ⟨rfl, rfl⟩ (by rfl) (by rfl) (by rfl) (n := m.bad.length) rfl (by omega) ?_
  intro g7 cap7 w7 F7 hs8
  have HS8 := Aside0.mk hs8
  clear hs8 hq k1 k2 k3 k4
  obtain ⟨k1, k2, k3, k4⟩ := four (HS8.out.get 2 rfl)
  have gz := blk_frozen (HS8.out.get 2 rfl)
  have hS : (fun w' : World => w'.cell? ⟨gm, 3, none⟩ = some (.slice A3 m.bad.length d3)) w7 := k4
  refine hK.out _ _ ⟨fun _ _ => hS, ?_⟩; clear hK K; (try simp only [Act.put, qqP])
  clear hS
  iterate 1 (refine seqp_pure rfl (fun _ _ _ h => h) (by rfl) (fun w_ => by go_simp; first | done | with_reducible rfl) ?_; (try simp only [Act.put, qqP]))
  refine seqp_step rfl (fun K hK => ?_)
  go_simp
  refine hK.out _ _ ⟨(fun h => (by cases h)), ?_⟩; clear hK K; (try simp only [Act.put, qqP])
  refine seqp_done ?_
  have hq := HS8.out.setb 2 rfl 3 (.slice (some ⟨g7, 0, none⟩) (m.bad.length + 1) cap7) rfl
  simp only [qqN, qqT] at hq
  have hmm := (hq.selT 6 [3, 4, 0, 1, 2, 5] (by decide) (by simp <;> omega))
  simp only [qqN, qqT] at hmm
  have HY := Aside0.mk (hmm.toMem (m := ⟨m.secs, m.cache, m.failed, m.bad ++ [x]⟩))
  generalize w7.setCell ⟨gm, 3, none⟩ (.slice (some ⟨g7, 0, none⟩) (m.bad.length + 1) cap7) = w8 at *
  clear hmm hq HS8 HS5 HR HS3 gz
  have gz := blk_frozen (HY.out.get 3 rfl)
  clear k1 k2 k3 k4
  obtain ⟨k1, k2, k3, k4⟩ := four (HY.out.get 2 rfl)
  obtain ⟨z1, z2, z3, z4⟩ := four (HY.out.get 3 rfl)
  go_wp2
  have HE : Sep w0 [] _ _ := HY.out.box4 3 rfl (.slice A1 m.secs.length d1) (.slice A2 m.cache.length d2) (.bool m.failed) (.slice (some ⟨g7, 0, none⟩) (m.bad.length + 1) cap7)
  refine bodyPost_ret (results_cell_row rfl _ _ w.heap.size 89 #[.slice A1 m.secs.length d1, .slice A2 m.cache.length d2, .bool m.failed, .slice (some ⟨g7, 0, none⟩) (m.bad.length + 1) cap7] (0, 0) _ rfl (HE.get 3 rfl) Tryz.underlying89 rfl (by kernel_rfl)) rfl ?_
  have h9 := HE.selT 4 [0, 1] (by decide) (by simp <;> omega)
  simp only [qqN, qqT] at h9
  rw [show (m.bad.length + 1 : Nat) = (m.bad ++ [x]).length from (by simp)] at h9 ⊢
  exact d2Any_end rfl (tiny_bad HT.out hbl2) hi3 (h9)
 by_cases y3 : y = 3
 ·subst y3
  have gz := blk_frozen (HS3.out.get 0 rfl)
  go_upto_region 16 with (first
   | (go_at_call 143; refine (c_specFailMem (MemO_R (HS3.out.get 1 rfl)) (tiny_small HT.out)).mono ?_; rintro e w6 ⟨u, F6, rfl, hn⟩; have hs6 := HS3.out.new hn; obtain ⟨B1, e1, B2, e2, B3, e3, rfl⟩ := me_form hs6; have HS6 := Aside0.mk hs6; clear hs6 hn k1 k2 k3 k4 gz; obtain ⟨k1, k2, k3, k4⟩ := four (HS6.out.get 1 rfl); have gz := blk_frozen (HS6.out.get 1 rfl))
   | fail)
  have hq := (HS6.out.box4 1 rfl (.slice B1 (failV m).secs.length e1) (.slice B2 (failV m).cache.length e2) (.bool (failV m).failed) (.slice B3 (failV m).bad.length e3)).selT 5 [0, 3, 1, 4] (by decide) (by simp <;> omega)
  simp only [qqN, qqT] at hq
  generalize ((((w6.setCell ⟨gm, 0, none⟩ (.slice B1 (failV m).secs.length e1)).setCell ⟨gm, 1, none⟩ (.slice B2 (failV m).cache.length e2)).setCell ⟨gm, 2, none⟩ (.bool (failV m).failed)).setCell ⟨gm, 3, none⟩ (.slice B3 (failV m).bad.length e3)) = w8 at *
  have HY := Aside0.mk hq
  clear hq HS6 HR HS3 gz
  have gz := blk_frozen (HY.out.get 3 rfl)
  clear k1 k2 k3 k4
  obtain ⟨k1, k2, k3, k4⟩ := four (HY.out.get 2 rfl)
  obtain ⟨z1, z2, z3, z4⟩ := four (HY.out.get 3 rfl)
  go_wp2
  have HE : Sep w0 [] _ _ := HY.out.box4 3 rfl (.slice B1 (failV m).secs.length e1) (.slice B2 (failV m).cache.length e2) (.bool (failV m).failed) (.slice B3 (failV m).bad.length e3)
  refine bodyPost_ret (results_cell_row rfl _ _ w.heap.size 89 #[.slice B1 (failV m).secs.length e1, .slice B2 (failV m).cache.length e2, .bool (failV m).failed, .slice B3 (failV m).bad.length e3] (0, 0) _ rfl (HE.get 3 rfl) Tryz.underlying89 rfl (by kernel_rfl)) rfl ?_
  have h9 := HE.selT 4 [0, 1] (by decide) (by simp <;> omega)
  simp only [qqN, qqT] at h9
  exact d2Any_end rfl (tiny_fail HT.out) hi2 (h9)
 by_cases y4 : y = 4
 ·subst y4
  go_wp2
  go_loopw [44] (fun _ wr => ∃ (cache : List (Int × List Int)) (F2 : List Nat) (A2 : Option Addr) (d2 : Nat) (i' h' : Int), Aside0 ((cache.length ≤ 61 ∧ ∀ e ∈ cache, e.2.length ≤ 13) ∧ (0 ≤ i' ∧ i' ≤ bs.length)) ∧ Aside0 (Sep w0 [] wr (bx gm 89 #[.slice A1 m.secs.length d1, .slice A2 cache.length d2, .bool m.failed, .slice A3 m.bad.length d3] :: rw_ oWr 126 F2 (.slice A2 cache.length d2) cache :: cur g B i' h' :: rw_ oSec 28 F1 (.slice A1 m.secs.length d1) m.secs :: rw_ oInt 3 F3 (.slice A3 m.bad.length d3) m.bad :: bx w.heap.size 89 #[.slice none 0 0, .slice none 0 0, .bool false, .slice none 0 0] :: L))) (fun _ wr => 62 - slLen (wr.cell? ⟨gm, 1, none⟩))
  case atStart => exact ⟨m.cache, F2, A2, d2, i2, h2, ⟨⟨by omega, HT.out.2.2.2.1⟩, hi2⟩, ⟨by have h9 := HR.out.selT 6 [1, 3, 0, 2, 4, 5] (by decide) (by simp <;> omega); simp only [qqN, qqT] at h9; exact h9⟩⟩
  case round =>
   clear k1 k2 k3 k4 HR HS3
   obtain ⟨cache, F2, A2, d2, i', h', hc, HR⟩ := hrel
   obtain ⟨k1, k2, k3, k4⟩ := four (HR.out.get 0 rfl)
   have hcl1 := hc.out.1.1
   have hmeas : slLen (wr.cell? ⟨gm, 1, none⟩) = cache.length := by rw [k2]; rfl
   have Hmeas := Aside0.mk hmeas
   clear hmeas
   go_upto_region 12 with fail
   refine wp_region_seqp (fun w' => w'.cell? ⟨gm, 1, none⟩ = some (.slice A2 cache.length d2)) [] [(0, 2), (3, 2), (1, 1), (2, 2), (4, 0), (5, 2), (6, 2)] (by kernel_rfl) (by kernel_rfl) ?_
   have hS : (fun w' : World => w'.cell? ⟨gm, 1, none⟩ = some (.slice A2 cache.length d2)) wr.drew := k2
   iterate 2 (refine seqp_pure rfl (fun _ _ _ h => h) (by rfl) (fun w_ => by go_simp; first | done | with_reducible rfl) ?_; (try simp only [Act.put, qqP]))
   iterate 1 (refine seqp_take hS rfl (fun _ _ _ h => h) (by rfl) (fun w_ hSw => by (try dsimp only at hSw); go_simp; first | done | with_reducible rfl) ?_; (try simp only [Act.put, qqP]))
   iterate 1 (refine seqp_pure rfl (fun _ _ _ h => h) (by rfl) (fun w_ => by go_simp; first | done | with_reducible rfl) ?_; (try simp only [Act.put, qqP]))
   refine seqp_step rfl (fun K hK => ?_)
   go_simp
   have hq := HR.out.drew.selT 3 [2, 0, 1] (by decide) (by simp <;> omega)
   simp only [qqN, qqT] at hq
   go_at_call 94; refine (c_l1Below hq hB hc.out.2 (by omega)).mono ?_; rintro e w5 ⟨z, i4, h4, rfl, hz0, hz1, hi4, hs6⟩
   have hz2 := hz1 (by omega)
   have hwz : IntKind.i64.wrap (59 + z) = 59 + z := by rw [IntKind.wrap_i64]; omega
   have hq6 := hs6.selT 3 [1, 2, 0] (by decide) (by simp <;> omega)
   simp only [qqN, qqT] at hq6
   have HS6 := Aside0.mk hq6
   clear hs6 hS k1 k2 k3 k4 hq hz1 hq6
   obtain ⟨k1, k2, k3, k4⟩ := four (HS6.out.get 0 rfl)
   have hS : (fun w' : World => w'.cell? ⟨gm, 1, none⟩ = some (.slice A2 cache.length d2)) w5 := k2
   refine hK.out _ _ ⟨fun _ _ => hS, ?_⟩; clear hK K; (try simp only [Act.put, qqP])
   clear hS
   iterate 2 (refine seqp_pure rfl (fun _ _ _ h => h) (by rfl) (fun w_ => by go_simp; first | done | with_reducible rfl) ?_; (try simp only [Act.put, qqP]))
   refine seqp_done ?_
   go_simp
   by_cases hlt : (cache.length : Int) < 59 + z
   ·have gz := blk_frozen (HS6.out.get 0 rfl)
    go_wp2_with (first
     | (at_builtin; (refine app_one0 (d := oWr) (y := (0, [])) (HS6.out.front 1 rfl) rfl _ _ 87 (.agg #[.int .i64 0, .slice none 0 0]) 32 (by rfl) Tryz.underlying87 (by kernel_rfl) rfl (by decide) (by decide) [.int .i64 0, .slice none 0 0] ⟨[], [], [.int .i64 0], [.slice none 0 0], rfl, rfl, ⟨rfl, rfl⟩, .slice none 0 0, rfl, O_nil _ _ _⟩ (by rfl) (by rfl) rfl (n := cache.length) rfl (by omega) ?_); intro A7 c7 w7 F7 hs7; have hq := hs7.selT 3 [1, 0, 2] (by decide) (by simp <;> omega); simp only [qqN, qqT] at hq; have HS7 := Aside0.mk hq; clear hs7 hq k1 k2 k3 k4 gz; obtain ⟨k1, k2, k3, k4⟩ := four (HS7.out.get 0 rfl); have gz := blk_frozen (HS7.out.get 0 rfl))
     | fail)
    go_roundw
    case rel =>
     have hq := HS7.out.setb 0 rfl 1 (.slice A7 (cache.length + 1) c7) rfl
     simp only [qqN, qqT] at hq
     refine ⟨cache ++ [(0, [])], F7, A7, c7, i4, h4, ⟨⟨by simp; omega, fun e he => ?_⟩, hi4⟩, ⟨by rw [show (cache ++ [((0 : Int), ([] : List Int))]).length = cache.length + 1 from (by simp)]; exact hq⟩⟩
     rcases List.mem_append.1 he with he | he
     ·exact hc.out.1.2 e he
     ·simp only [List.mem_singleton] at he; subst he; simp
    case measure =>
     have hq := HS7.out.setb 0 rfl 1 (.slice A7 (cache.length + 1) c7) rfl
     have h9 := (four (hq.get 0 rfl)).2.1
     rw [Hmeas.out, h9]
     simp only [slLen]; omega
   ·have hlt' : decide ((cache.length : Int) < 59 + z) = false := by simpa using hlt
    go_upto_region 16 with fail
    have hmm := (HS6.out.selT 6 [3, 1, 4, 0, 2, 5] (by decide) (by simp <;> omega))
    simp only [qqN, qqT] at hmm
    have HY := Aside0.mk (hmm.toMem (m := ⟨m.secs, cache, m.failed, m.bad⟩))
    clear hmm HS6 HR
    have gz := blk_frozen (HY.out.get 3 rfl)
    clear k1 k2 k3 k4
    obtain ⟨k1, k2, k3, k4⟩ := four (HY.out.get 1 rfl)
    obtain ⟨z1, z2, z3, z4⟩ := four (HY.out.get 3 rfl)
    go_wp2
    have HE : Sep w0 [] _ _ := HY.out.box4 3 rfl (.slice A1 m.secs.length d1) (.slice A2 cache.length d2) (.bool m.failed) (.slice A3 m.bad.length d3)
    refine bodyPost_ret (results_cell_row rfl _ _ w.heap.size 89 #[.slice A1 m.secs.length d1, .slice A2 cache.length d2, .bool m.failed, .slice A3 m.bad.length d3] (0, 0) _ rfl (HE.get 3 rfl) Tryz.underlying89 rfl (by kernel_rfl)) rfl ?_
    have h9 := HE.selT 4 [0, 2] (by decide) (by simp <;> omega)
    simp only [qqN, qqT] at h9
    exact d2Any_end rfl (show Tiny ⟨m.secs, cache, m.failed, m.bad⟩ from ⟨HT.out.1, HT.out.2.1, (by show cache.length ≤ 100; omega), hc.out.1.2, HT.out.2.2.2.2⟩) hi4 (h9)
 by_cases y5 : y = 5
 ·subst y5
  have gz := frozen_alloc (HS3.out.get 0 rfl)
  replace k1 := cell_alloc k1; replace k2 := cell_alloc k2; replace k3 := cell_alloc k3; replace k4 := cell_alloc k4
  go_upto_region 16 with fail
  have hq := (HR.out.lit (g := w4.heap.size) rfl oSec 28).setb 2 rfl 0 (.slice (some ⟨w4.heap.size, 0, none⟩) 0 0) rfl
  simp only [qqN, qqT] at hq
  have hmm := (hq.selT 7 [0, 4, 5, 1, 2, 6] (by decide) (by simp <;> omega))
  simp only [qqN, qqT] at hmm
  have hq0 : Sep w0 [] ((w4.alloc (.cells #[] 28 (0, 0))).setCell ⟨gm, 0, none⟩ (.slice (some ⟨w4.heap.size, 0, none⟩) 0 0)) _ := hmm.toMem (m := ⟨[], m.cache, m.failed, m.bad⟩)
  have HY := Aside0.mk hq0
  generalize (w4.alloc (.cells #[] 28 (0, 0))).setCell ⟨gm, 0, none⟩ (.slice (some ⟨w4.heap.size, 0, none⟩) 0 0) = w8 at *
  clear hmm hq hq0 HR HS3 gz
  have gz := blk_frozen (HY.out.get 3 rfl)
  clear k1 k2 k3 k4
  obtain ⟨k1, k2, k3, k4⟩ := four (HY.out.get 2 rfl)
  obtain ⟨z1, z2, z3, z4⟩ := four (HY.out.get 3 rfl)
  go_wp2
  have HE : Sep w0 [] _ _ := HY.out.box4 3 rfl (.slice (some ⟨w4.heap.size, 0, none⟩) 0 0) (.slice A2 m.cache.length d2) (.bool m.failed) (.slice A3 m.bad.length d3)
  refine bodyPost_ret (results_cell_row rfl _ _ w.heap.size 89 #[.slice (some ⟨w4.heap.size, 0, none⟩) 0 0, .slice A2 m.cache.length d2, .bool m.failed, .slice A3 m.bad.length d3] (0, 0) _ rfl (HE.get 3 rfl) Tryz.underlying89 rfl (by kernel_rfl)) rfl ?_
  have h9 := HE.selT 4 [0, 1] (by decide) (by simp <;> omega)
  simp only [qqN, qqT] at h9
  exact d2Any_end rfl (tiny_none HT.out) hi2 (h9)
 have hY := (HR.out.selT 6 [2, 3, 4, 0, 1, 5] (by decide) (by simp <;> omega))
 simp only [qqN, qqT] at hY
 have HY := Aside0.mk (hY.toMem (m := m))
 clear hY HR HS3
 have gz := blk_frozen (HY.out.get 3 rfl)
 clear k1 k2 k3 k4
 obtain ⟨k1, k2, k3, k4⟩ := four (HY.out.get 2 rfl)
 obtain ⟨z1, z2, z3, z4⟩ := four (HY.out.get 3 rfl)
 go_wp2
 have HE : Sep w0 [] _ _ := HY.out.box4 3 rfl (.slice A1 m.secs.length d1) (.slice A2 m.cache.length d2) (.bool m.failed) (.slice A3 m.bad.length d3)
 refine bodyPost_ret (results_cell_row rfl _ _ w.heap.size 89 #[.slice A1 m.secs.length d1, .slice A2 m.cache.length d2, .bool m.failed, .slice A3 m.bad.length d3] (0, 0) _ rfl (HE.get 3 rfl) Tryz.underlying89 rfl (by kernel_rfl)) rfl ?_
 have h9 := HE.selT 4 [0, 1] (by decide) (by simp <;> omega)
 simp only [qqN, qqT] at h9
 exact d2Any_end rfl HT.out hi2 (h9)
end MDraw4
end Go.Proofs.YtggmifnblcjdfaaGreat
