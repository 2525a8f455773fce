/- The law FnMemsBent: it returns true. -/
import Derived.Test.YtlmnmcfieagmbaaMDraw5
import Derived.Test.YtlmnmcfieagmbaaMSame
import Derived.Test.YtlmnmcfieagmbaaMSpoil
import Derived.Test.YtlmnmcfieagmbaaMFlush
import Derived.Test.YtlmnmcfieagmbaaMFlushS
namespace Go.Proofs.Ytlmnmcfieagmbaa.LawFnMemsBent
open Go.RowKit Go.Proofs.Ytlmnmcfieagmbaa.RJ Go.Proofs.Ytlmnmcfieagmbaa.RP Go.Proofs.YtlmnmcfieagmbaaW.PrintWords Go.Proofs.Ytlmnmcfieagmbaa.Fp Go.Proofs.Ytlmnmcfieagmbaa.FpStep Go.Proofs.Ytlmnmcfieagmbaa.MInt Go.Proofs.Ytlmnmcfieagmbaa.MKinds Go.Proofs.Ytlmnmcfieagmbaa.MRead Go.Proofs.Ytlmnmcfieagmbaa.MMake Go.Proofs.Ytlmnmcfieagmbaa.MPut Go.Proofs.Ytlmnmcfieagmbaa.MOk Go.Proofs.Ytlmnmcfieagmbaa.MVal Go.Proofs.Ytlmnmcfieagmbaa.MValB Go.Proofs.Ytlmnmcfieagmbaa.Sep Go.Proofs.Ytlmnmcfieagmbaa.SepStep Go.Proofs.Ytlmnmcfieagmbaa.MSuper Go.Proofs.Ytlmnmcfieagmbaa.MReadS Go.Proofs.Ytlmnmcfieagmbaa.MDraw Go.Proofs.Ytlmnmcfieagmbaa.MDraw5 Go.Proofs.Ytlmnmcfieagmbaa.MSame Go.Proofs.Ytlmnmcfieagmbaa.MSpoil Go.Proofs.Ytlmnmcfieagmbaa.MSpoilS Go.Proofs.Ytlmnmcfieagmbaa.MFail Go.Proofs.Ytlmnmcfieagmbaa.MFlush Go.Proofs.Ytlmnmcfieagmbaa.MFlushS
set_option linter.unusedVariables false
set_option linter.unusedSimpArgs false
attribute [local go_sem ↓] Go.wp_at_zero Go.wp_at_succ
theorem c_big {w : World} {B : Value} {bs : List Int} (hB : RK (Kd.int .u8) w B bs) : Calls Try.prog 18 #[B] w fun e w' => e = .returned (.bool (decide ((1048576 : Int) < bs.length))) ∧ ∃ n, w' = w.drewN n := by
  obtain ⟨A, c, rfl, _, _⟩ := hB
  go_enter Try.func18, Try.ntmps18
  go_wp2
  go_ret
  exact ⟨rfl, 0, rfl⟩
set_option maxHeartbeats 2000000 in
theorem c_DrawMemNew {w : World} {B : Value} {bs : List Int} (hB : RK (Kd.int .u8) w B bs) (hl : bs.length ≤ 16777216) :
    Calls Try.prog 25 #[B] w fun e w' => ∃ (n : Int), e = .returned (.int .i64 n) ∧ Sep w [] w' [] := by
  have HB := Aside0.mk hB
  obtain ⟨BA, Bc, rfl, _, _⟩ := hB
  go_enter Try.func25, Try.ntmps25
  go_wp2_with (first
    | (go_at_call 119; have hn := new_lit HS1.out (g := w1.heap.size) rfl 3 (#[.int .i64 1, .int .i64 7, .int .i64 20, .int .i64 0, .int .i64 21, .int .i64 (-1)]) (l := [1, 7, 20, 0, 21, -1]) (n := 6) rfl rfl (by decide); have hn2 := hn.perm (List.Perm.swap _ _ _); refine (c_l1Int hn2 HB.out hi1 (fun w' hw => O_RK (hw.get 0 rfl)) (by decide)).mono ?_; rintro e w2 ⟨n, i2, h2, rfl, hx, hi2, hs3⟩; have HS3 := Aside0.mk (hs3.sel [] (by decide) (by simp)); clear hs3 hn hn2 hx)
    | (go_at_call 114; refine (c_l1New HB.out hl).mono ?_; rintro e w1 ⟨g, h1, rfl, hs1⟩; have HS1 := Aside0.mk hs1; have hi1 : (0 : Int) ≤ 0 ∧ (0 : Int) ≤ (bs.length : Int) := ⟨Int.le_refl _, by omega⟩; clear hs1)
    | fail)
  go_ret
  exact ⟨n, rfl, HS3.out⟩
set_option maxHeartbeats 8000000 in
set_option maxRecDepth 100000 in
theorem law_FnMemsBent {w : World} {B : Value} {bs : List Int} (hB : RK (Kd.int .u8) w B bs) : Calls Try.prog 4 #[B] w fun e w' => e = .returned (.bool true) ∧ Below w.heap.size w w' := by
  have HC := Aside0.mk hB
  have lx := RK_len hB
  obtain ⟨BA, Bc, rfl, _, _⟩ := hB
  by_cases hl0 : (1048576 : Int) < (bs.length : Int)
  · go_enter Try.func4, Try.ntmps4
    go_wp2_with (first | (go_at_call 18; refine (c_big HC.out).mono ?_; rw [decide_eq_true hl0]; rintro e w1 ⟨rfl, hb⟩; have HS1 := Aside0.mk ((Sep.start w []).dr hb); clear hb) | fail)
    go_ret
    exact ⟨rfl, HS1.out.toBelow⟩
  have hl : bs.length ≤ 16777216 := by omega
  go_enter Try.func4, Try.ntmps4
  go_upto_region 3 with (first | (go_at_call 18; refine (c_big HC.out).mono ?_; rw [decide_eq_false hl0]; rintro e w1 ⟨rfl, hb⟩; have HS1 := Aside0.mk ((Sep.start w []).dr hb); clear hb) | fail)
  clear hl0
  go_upto_region 4 with (first
    | (go_at_call 19; refine (c_DrawMemOk (HS1.out.rk HC.out) hl).mono ?_; rintro e w2 ⟨um, Fm, m, rfl, hm, hs⟩; obtain ⟨A1, Ad1, A2, Ad2, A3, Ad3, rfl⟩ := me_form hs; have hq := Sep.comp HS1.out hs; simp only [List.cons_append, List.nil_append] at hq; have HTm := Aside0.mk (tiny_small hm); clear hs hm; have HS2 := Aside0.mk (hq); clear hq)
    | fail)
  have hB := HS2.out.alloc (g := w2.heap.size) rfl #[.slice A1 m.secs.length Ad1, .slice A2 m.cache.length Ad2, .bool m.failed, .slice A3 m.bad.length Ad3] 30
  generalize hgg : w2.heap.size = g3 at *
  generalize hww : w2.alloc (.cells #[.slice A1 m.secs.length Ad1, .slice A2 m.cache.length Ad2, .bool m.failed, .slice A3 m.bad.length Ad3] 30 (0, 0)) = w3 at *
  have HS3 := Aside0.mk (hB)
  clear hB hgg hww
  go_upto_region 5 with (first
    | (go_at_call 20; refine (c_DrawReadSec (HS3.out.rk HC.out) hl).mono ?_; rintro e w4 ⟨ur, Fr, r, nr, rfl, hm, hs⟩; obtain ⟨B1, Bd1, B2, Bd2, B3, Bd3, rfl⟩ := me_form hs; have hq := Sep.comp HS3.out hs; simp only [List.cons_append, List.nil_append] at hq; have HTr := Aside0.mk (tiny_small hm); clear hs hm; have HS4 := Aside0.mk (hq); clear hq)
    | fail)
  have hB := HS4.out.alloc (g := w4.heap.size) rfl #[.slice B1 r.secs.length Bd1, .slice B2 r.cache.length Bd2, .bool r.failed, .slice B3 r.bad.length Bd3] 30
  generalize hgg : w4.heap.size = g5 at *
  generalize hww : w4.alloc (.cells #[.slice B1 r.secs.length Bd1, .slice B2 r.cache.length Bd2, .bool r.failed, .slice B3 r.bad.length Bd3] 30 (0, 0)) = w5 at *
  have HS5 := Aside0.mk (hB)
  clear hB hgg hww
  obtain ⟨br_0, br_1, br_2, br_3⟩ := four (HS5.out.get 0 rfl)
  go_upto_region 6 with (first
    | (go_at_call 21; refine (c_implReadSec (MemO_R (HS5.out.get 1 rfl)) HTr.out).mono ?_; rintro e w6 ⟨ura, Fra, rfl, hn⟩; have hq := HS5.out.new hn; obtain ⟨X, Xc, rfl, hzz⟩ := O_RK (show oInt.O 3 w6 Fra ura (readV r nr) from hq.get 0 rfl); have HS6 := Aside0.mk (hq); clear hq hn hzz; clear br_0 br_1 br_2 br_3; obtain ⟨br_0, br_1, br_2, br_3⟩ := four (HS6.out.get 1 rfl))
    | fail)
  go_upto_region 7 with (first
    | (go_at_call 22; refine (c_specReadSec (MemO_R (HS6.out.get 2 rfl)) HTr.out).mono ?_; rintro e w7 ⟨urb, Frb, rfl, hn⟩; have hq := HS6.out.new hn; obtain ⟨Y, Yc, rfl, hzz⟩ := O_RK (show oInt.O 3 w7 Frb urb (readV r nr) from hq.get 0 rfl); have HS7 := Aside0.mk (hq); clear hq hn hzz; skip)
    | fail)
  generalize hread : canRead r nr = rd at *
  clear hread
  clear br_0 br_1 br_2 br_3
  go_upto_region 8 with (first
    | (go_at_call 23; refine (c_DrawFallMem (HS7.out.rk HC.out) hl).mono ?_; rintro e w8 ⟨uf, Ff, f, nf, rfl, hm, hs⟩; obtain ⟨C1, Cd1, C2, Cd2, C3, Cd3, rfl⟩ := me_form hs; have hq := Sep.comp HS7.out hs; simp only [List.cons_append, List.nil_append] at hq; have HTf := Aside0.mk (tiny_small hm); clear hs hm; have HS8 := Aside0.mk (hq); clear hq)
    | fail)
  have hB := HS8.out.alloc (g := w8.heap.size) rfl #[.slice C1 f.secs.length Cd1, .slice C2 f.cache.length Cd2, .bool f.failed, .slice C3 f.bad.length Cd3] 30
  generalize hgg : w8.heap.size = g9 at *
  generalize hww : w8.alloc (.cells #[.slice C1 f.secs.length Cd1, .slice C2 f.cache.length Cd2, .bool f.failed, .slice C3 f.bad.length Cd3] 30 (0, 0)) = w9 at *
  have HS9 := Aside0.mk (hB)
  clear hB hgg hww
  go_upto_region 9 with (first
    | (go_at_call 24; refine (c_DrawSpoilSec (HS9.out.rk HC.out) hl).mono ?_; rintro e w10 ⟨us, Fs, s, ns, rfl, hm, hs⟩; obtain ⟨D1, Dd1, D2, Dd2, D3, Dd3, rfl⟩ := me_form hs; have hq := Sep.comp HS9.out hs; simp only [List.cons_append, List.nil_append] at hq; have HTs := Aside0.mk (tiny_small hm); clear hs hm; have HS10 := Aside0.mk (hq); clear hq)
    | fail)
  have hB := HS10.out.alloc (g := w10.heap.size) rfl #[.slice D1 s.secs.length Dd1, .slice D2 s.cache.length Dd2, .bool s.failed, .slice D3 s.bad.length Dd3] 30
  generalize hgg : w10.heap.size = g11 at *
  generalize hww : w10.alloc (.cells #[.slice D1 s.secs.length Dd1, .slice D2 s.cache.length Dd2, .bool s.failed, .slice D3 s.bad.length Dd3] 30 (0, 0)) = w11 at *
  have HS11 := Aside0.mk (hB)
  clear hB hgg hww
  go_upto_region 10 with (first
    | (go_at_call 25; refine (c_DrawMemNew (HS11.out.rk HC.out) hl).mono ?_; rintro e w12 ⟨nd, rfl, hs⟩; have hq := Sep.comp HS11.out hs; simp only [List.nil_append] at hq; have HS12 := Aside0.mk (hq); clear hs hq)
    | fail)
  go_upto_region 11 with (first
    | (go_at_call 26; refine (c_DrawFailMem (HS12.out.rk HC.out) hl).mono ?_; rintro e w13 ⟨ux, Fx, x, rfl, hm, hs⟩; obtain ⟨E1, Ed1, E2, Ed2, E3, Ed3, rfl⟩ := me_form hs; have hq := Sep.comp HS12.out hs; simp only [List.cons_append, List.nil_append] at hq; have HTx := Aside0.mk (tiny_small hm); clear hs hm; have HS13 := Aside0.mk (hq); clear hq)
    | fail)
  have hB := HS13.out.alloc (g := w13.heap.size) rfl #[.slice E1 x.secs.length Ed1, .slice E2 x.cache.length Ed2, .bool x.failed, .slice E3 x.bad.length Ed3] 30
  generalize hgg : w13.heap.size = g14 at *
  generalize hww : w13.alloc (.cells #[.slice E1 x.secs.length Ed1, .slice E2 x.cache.length Ed2, .bool x.failed, .slice E3 x.bad.length Ed3] 30 (0, 0)) = w14 at *
  have HS14 := Aside0.mk (hB)
  clear hB hgg hww
  obtain ⟨bx_0, bx_1, bx_2, bx_3⟩ := four (HS14.out.get 0 rfl)
  go_upto_region 12 with (first
    | (go_at_call 27; refine (c_implFailMem (MemO_R (HS14.out.get 1 rfl)) HTx.out).mono ?_; rintro e w15 ⟨uy, Fy, rfl, hn⟩; have hq := HS14.out.new hn; obtain ⟨G1, Gd1, G2, Gd2, G3, Gd3, rfl⟩ := me_form hq; have HS15 := Aside0.mk (hq); clear hn hq)
    | fail)
  have hB := HS15.out.alloc (g := w15.heap.size) rfl #[.slice G1 (failV x).secs.length Gd1, .slice G2 (failV x).cache.length Gd2, .bool (failV x).failed, .slice G3 (failV x).bad.length Gd3] 30
  generalize hgg : w15.heap.size = g16 at *
  generalize hww : w15.alloc (.cells #[.slice G1 (failV x).secs.length Gd1, .slice G2 (failV x).cache.length Gd2, .bool (failV x).failed, .slice G3 (failV x).bad.length Gd3] 30 (0, 0)) = w16 at *
  have HS16 := Aside0.mk (hB)
  clear hB hgg hww
  have hfy : (failV x).failed = true := rfl
  have hq := HS16.out.sel [12, 13, 6, 7, 4, 5, 0, 9, 8] (by decide) (by simp)
  simp only [List.map_cons, List.map_nil, pick, List.getD_cons_succ, List.getD_cons_zero, List.set_cons_zero, List.set_cons_succ, List.eraseIdx_cons_zero, List.eraseIdx_cons_succ, List.setIfInBounds_toArray] at hq
  have hqq := hq.drew
  have HS17 := Aside0.mk (hqq)
  clear hq hqq HS16
  refine wp_region_seqp (fun w' => w'.cell? ⟨g3, 0, none⟩ = some (.slice A1 m.secs.length Ad1) ∧ w'.cell? ⟨g3, 1, none⟩ = some (.slice A2 m.cache.length Ad2) ∧ w'.cell? ⟨g3, 2, none⟩ = some (.bool m.failed) ∧ w'.cell? ⟨g3, 3, none⟩ = some (.slice A3 m.bad.length Ad3) ∧ w'.cell? ⟨g9, 0, none⟩ = some (.slice C1 f.secs.length Cd1) ∧ w'.cell? ⟨g9, 1, none⟩ = some (.slice C2 f.cache.length Cd2) ∧ w'.cell? ⟨g9, 2, none⟩ = some (.bool f.failed) ∧ w'.cell? ⟨g9, 3, none⟩ = some (.slice C3 f.bad.length Cd3) ∧ w'.cell? ⟨g11, 0, none⟩ = some (.slice D1 s.secs.length Dd1) ∧ w'.cell? ⟨g11, 1, none⟩ = some (.slice D2 s.cache.length Dd2) ∧ w'.cell? ⟨g11, 2, none⟩ = some (.bool s.failed) ∧ w'.cell? ⟨g11, 3, none⟩ = some (.slice D3 s.bad.length Dd3) ∧ w'.cell? ⟨g16, 0, none⟩ = some (.slice G1 (failV x).secs.length Gd1) ∧ w'.cell? ⟨g16, 1, none⟩ = some (.slice G2 (failV x).cache.length Gd2) ∧ w'.cell? ⟨g16, 2, none⟩ = some (.bool (failV x).failed) ∧ w'.cell? ⟨g16, 3, none⟩ = some (.slice G3 (failV x).bad.length Gd3)) [] [(0, 1), (2, 1), (1, 0), (3, 0), (4, 2), (5, 2), (6, 2), (7, 2), (8, 2), (9, 2), (10, 2), (11, 2), (12, 2), (13, 0), (14, 2), (15, 2), (17, 2), (20, 2), (16, 1), (19, 1), (18, 0), (21, 0), (22, 0), (23, 2), (24, 2), (26, 2), (29, 2), (25, 1), (28, 1), (27, 0), (30, 0), (31, 0), (32, 2), (33, 2), (34, 2), (36, 2), (35, 0), (37, 0), (38, 0), (39, 2), (40, 2), (41, 2), (42, 1), (43, 2), (44, 2), (45, 1), (47, 1), (46, 0), (48, 0), (49, 0), (50, 2), (51, 0)] (by kernel_rfl) (by kernel_rfl) ?_
  clear bx_0 bx_1 bx_2 bx_3; obtain ⟨bm_0, bm_1, bm_2, bm_3⟩ := four (HS17.out.get 0 rfl); obtain ⟨bf_0, bf_1, bf_2, bf_3⟩ := four (HS17.out.get 2 rfl); obtain ⟨bs_0, bs_1, bs_2, bs_3⟩ := four (HS17.out.get 4 rfl); obtain ⟨by_0, by_1, by_2, by_3⟩ := four (HS17.out.get 6 rfl)
  have hS : (fun w' : World => w'.cell? ⟨g3, 0, none⟩ = some (.slice A1 m.secs.length Ad1) ∧ w'.cell? ⟨g3, 1, none⟩ = some (.slice A2 m.cache.length Ad2) ∧ w'.cell? ⟨g3, 2, none⟩ = some (.bool m.failed) ∧ w'.cell? ⟨g3, 3, none⟩ = some (.slice A3 m.bad.length Ad3) ∧ w'.cell? ⟨g9, 0, none⟩ = some (.slice C1 f.secs.length Cd1) ∧ w'.cell? ⟨g9, 1, none⟩ = some (.slice C2 f.cache.length Cd2) ∧ w'.cell? ⟨g9, 2, none⟩ = some (.bool f.failed) ∧ w'.cell? ⟨g9, 3, none⟩ = some (.slice C3 f.bad.length Cd3) ∧ w'.cell? ⟨g11, 0, none⟩ = some (.slice D1 s.secs.length Dd1) ∧ w'.cell? ⟨g11, 1, none⟩ = some (.slice D2 s.cache.length Dd2) ∧ w'.cell? ⟨g11, 2, none⟩ = some (.bool s.failed) ∧ w'.cell? ⟨g11, 3, none⟩ = some (.slice D3 s.bad.length Dd3) ∧ w'.cell? ⟨g16, 0, none⟩ = some (.slice G1 (failV x).secs.length Gd1) ∧ w'.cell? ⟨g16, 1, none⟩ = some (.slice G2 (failV x).cache.length Gd2) ∧ w'.cell? ⟨g16, 2, none⟩ = some (.bool (failV x).failed) ∧ w'.cell? ⟨g16, 3, none⟩ = some (.slice G3 (failV x).bad.length Gd3)) w16.drew := ⟨bm_0, bm_1, bm_2, bm_3, bf_0, bf_1, bf_2, bf_3, bs_0, bs_1, bs_2, bs_3, by_0, by_1, by_2, by_3⟩
  iterate 2 (refine seqp_take hS rfl (fun _ _ _ h => h) (by rfl) (fun w_ hSw => by (try dsimp only at hSw); go_simp; first | done | with_reducible rfl) ?_; (try simp only [Act.put, List.getElem_toArray, List.getElem_cons_succ, List.getElem_cons_zero, List.setIfInBounds_toArray, List.set_cons_zero, List.set_cons_succ]))
  refine seqp_step rfl (fun K hK => ?_)
  go_simp
  go_at_call 28; refine (c_implMemOk (MemO_R (HS17.out.get 1 rfl))).mono ?_; rintro e w18 ⟨rfl, hb⟩; have hq := HS17.out.below hb; clear hb
  have HS18 := Aside0.mk (hq)
  clear hq hS
  clear bm_0 bm_1 bm_2 bm_3 bf_0 bf_1 bf_2 bf_3 bs_0 bs_1 bs_2 bs_3 by_0 by_1 by_2 by_3; obtain ⟨bm_0, bm_1, bm_2, bm_3⟩ := four (HS18.out.get 0 rfl); obtain ⟨bf_0, bf_1, bf_2, bf_3⟩ := four (HS18.out.get 2 rfl); obtain ⟨bs_0, bs_1, bs_2, bs_3⟩ := four (HS18.out.get 4 rfl); obtain ⟨by_0, by_1, by_2, by_3⟩ := four (HS18.out.get 6 rfl)
  have hS : (fun w' : World => w'.cell? ⟨g3, 0, none⟩ = some (.slice A1 m.secs.length Ad1) ∧ w'.cell? ⟨g3, 1, none⟩ = some (.slice A2 m.cache.length Ad2) ∧ w'.cell? ⟨g3, 2, none⟩ = some (.bool m.failed) ∧ w'.cell? ⟨g3, 3, none⟩ = some (.slice A3 m.bad.length Ad3) ∧ w'.cell? ⟨g9, 0, none⟩ = some (.slice C1 f.secs.length Cd1) ∧ w'.cell? ⟨g9, 1, none⟩ = some (.slice C2 f.cache.length Cd2) ∧ w'.cell? ⟨g9, 2, none⟩ = some (.bool f.failed) ∧ w'.cell? ⟨g9, 3, none⟩ = some (.slice C3 f.bad.length Cd3) ∧ w'.cell? ⟨g11, 0, none⟩ = some (.slice D1 s.secs.length Dd1) ∧ w'.cell? ⟨g11, 1, none⟩ = some (.slice D2 s.cache.length Dd2) ∧ w'.cell? ⟨g11, 2, none⟩ = some (.bool s.failed) ∧ w'.cell? ⟨g11, 3, none⟩ = some (.slice D3 s.bad.length Dd3) ∧ w'.cell? ⟨g16, 0, none⟩ = some (.slice G1 (failV x).secs.length Gd1) ∧ w'.cell? ⟨g16, 1, none⟩ = some (.slice G2 (failV x).cache.length Gd2) ∧ w'.cell? ⟨g16, 2, none⟩ = some (.bool (failV x).failed) ∧ w'.cell? ⟨g16, 3, none⟩ = some (.slice G3 (failV x).bad.length Gd3)) w18 := ⟨bm_0, bm_1, bm_2, bm_3, bf_0, bf_1, bf_2, bf_3, bs_0, bs_1, bs_2, bs_3, by_0, by_1, by_2, by_3⟩
  refine hK.out _ _ ⟨fun _ _ => hS, ?_⟩; clear hK K; (try simp only [Act.put, List.getElem_toArray, List.getElem_cons_succ, List.getElem_cons_zero, List.setIfInBounds_toArray, List.set_cons_zero, List.set_cons_succ])
  refine seqp_step rfl (fun K hK => ?_)
  go_simp
  go_at_call 29; refine (c_specMemOk (MemO_R (HS18.out.get 1 rfl))).mono ?_; rintro e w19 ⟨rfl, hb⟩; have hq := HS18.out.below hb; clear hb
  have HS19 := Aside0.mk (hq)
  clear hq hS
  clear bm_0 bm_1 bm_2 bm_3 bf_0 bf_1 bf_2 bf_3 bs_0 bs_1 bs_2 bs_3 by_0 by_1 by_2 by_3; obtain ⟨bm_0, bm_1, bm_2, bm_3⟩ := four (HS19.out.get 0 rfl); obtain ⟨bf_0, bf_1, bf_2, bf_3⟩ := four (HS19.out.get 2 rfl); obtain ⟨bs_0, bs_1, bs_2, bs_3⟩ := four (HS19.out.get 4 rfl); obtain ⟨by_0, by_1, by_2, by_3⟩ := four (HS19.out.get 6 rfl)
  have hS : (fun w' : World => w'.cell? ⟨g3, 0, none⟩ = some (.slice A1 m.secs.length Ad1) ∧ w'.cell? ⟨g3, 1, none⟩ = some (.slice A2 m.cache.length Ad2) ∧ w'.cell? ⟨g3, 2, none⟩ = some (.bool m.failed) ∧ w'.cell? ⟨g3, 3, none⟩ = some (.slice A3 m.bad.length Ad3) ∧ w'.cell? ⟨g9, 0, none⟩ = some (.slice C1 f.secs.length Cd1) ∧ w'.cell? ⟨g9, 1, none⟩ = some (.slice C2 f.cache.length Cd2) ∧ w'.cell? ⟨g9, 2, none⟩ = some (.bool f.failed) ∧ w'.cell? ⟨g9, 3, none⟩ = some (.slice C3 f.bad.length Cd3) ∧ w'.cell? ⟨g11, 0, none⟩ = some (.slice D1 s.secs.length Dd1) ∧ w'.cell? ⟨g11, 1, none⟩ = some (.slice D2 s.cache.length Dd2) ∧ w'.cell? ⟨g11, 2, none⟩ = some (.bool s.failed) ∧ w'.cell? ⟨g11, 3, none⟩ = some (.slice D3 s.bad.length Dd3) ∧ w'.cell? ⟨g16, 0, none⟩ = some (.slice G1 (failV x).secs.length Gd1) ∧ w'.cell? ⟨g16, 1, none⟩ = some (.slice G2 (failV x).cache.length Gd2) ∧ w'.cell? ⟨g16, 2, none⟩ = some (.bool (failV x).failed) ∧ w'.cell? ⟨g16, 3, none⟩ = some (.slice G3 (failV x).bad.length Gd3)) w19 := ⟨bm_0, bm_1, bm_2, bm_3, bf_0, bf_1, bf_2, bf_3, bs_0, bs_1, bs_2, bs_3, by_0, by_1, by_2, by_3⟩
  refine hK.out _ _ ⟨fun _ _ => hS, ?_⟩; clear hK K; (try simp only [Act.put, List.getElem_toArray, List.getElem_cons_succ, List.getElem_cons_zero, List.setIfInBounds_toArray, List.set_cons_zero, List.set_cons_succ])
  refine seqp_pure (v := .bool true) rfl (fun _ _ _ h => h) (by rfl) (fun w_ => by go_simp; first | done | with_reducible rfl | simp) ?_; (try simp only [Act.put, List.getElem_toArray, List.getElem_cons_succ, List.getElem_cons_zero, List.setIfInBounds_toArray, List.set_cons_zero, List.set_cons_succ])
  iterate 3 (refine seqp_pure rfl (fun _ _ _ h => h) (by rfl) (fun w_ => by go_simp; first | done | with_reducible rfl) ?_; (try simp only [Act.put, List.getElem_toArray, List.getElem_cons_succ, List.getElem_cons_zero, List.setIfInBounds_toArray, List.set_cons_zero, List.set_cons_succ]))
  refine seqp_pure (v := .bool true) rfl (fun _ _ _ h => h) (by rfl) (fun w_ => by go_simp; first | done | with_reducible rfl | simp) ?_; (try simp only [Act.put, List.getElem_toArray, List.getElem_cons_succ, List.getElem_cons_zero, List.setIfInBounds_toArray, List.set_cons_zero, List.set_cons_succ])
  iterate 4 (refine seqp_pure rfl (fun _ _ _ h => h) (by rfl) (fun w_ => by go_simp; first | done | with_reducible rfl) ?_; (try simp only [Act.put, List.getElem_toArray, List.getElem_cons_succ, List.getElem_cons_zero, List.setIfInBounds_toArray, List.set_cons_zero, List.set_cons_succ]))
  refine seqp_step rfl (fun K hK => ?_)
  go_simp
  go_at_call 30; refine (c_sameInts (O_RK (HS19.out.get 7 rfl)) (O_RK (HS19.out.get 8 rfl))).mono ?_; rw [decide_eq_true rfl]; rintro e w20 ⟨rfl, hb⟩; have hq := HS19.out.dr hb; clear hb
  have HS20 := Aside0.mk (hq)
  clear hq hS
  clear bm_0 bm_1 bm_2 bm_3 bf_0 bf_1 bf_2 bf_3 bs_0 bs_1 bs_2 bs_3 by_0 by_1 by_2 by_3; obtain ⟨bm_0, bm_1, bm_2, bm_3⟩ := four (HS20.out.get 0 rfl); obtain ⟨bf_0, bf_1, bf_2, bf_3⟩ := four (HS20.out.get 2 rfl); obtain ⟨bs_0, bs_1, bs_2, bs_3⟩ := four (HS20.out.get 4 rfl); obtain ⟨by_0, by_1, by_2, by_3⟩ := four (HS20.out.get 6 rfl)
  have hS : (fun w' : World => w'.cell? ⟨g3, 0, none⟩ = some (.slice A1 m.secs.length Ad1) ∧ w'.cell? ⟨g3, 1, none⟩ = some (.slice A2 m.cache.length Ad2) ∧ w'.cell? ⟨g3, 2, none⟩ = some (.bool m.failed) ∧ w'.cell? ⟨g3, 3, none⟩ = some (.slice A3 m.bad.length Ad3) ∧ w'.cell? ⟨g9, 0, none⟩ = some (.slice C1 f.secs.length Cd1) ∧ w'.cell? ⟨g9, 1, none⟩ = some (.slice C2 f.cache.length Cd2) ∧ w'.cell? ⟨g9, 2, none⟩ = some (.bool f.failed) ∧ w'.cell? ⟨g9, 3, none⟩ = some (.slice C3 f.bad.length Cd3) ∧ w'.cell? ⟨g11, 0, none⟩ = some (.slice D1 s.secs.length Dd1) ∧ w'.cell? ⟨g11, 1, none⟩ = some (.slice D2 s.cache.length Dd2) ∧ w'.cell? ⟨g11, 2, none⟩ = some (.bool s.failed) ∧ w'.cell? ⟨g11, 3, none⟩ = some (.slice D3 s.bad.length Dd3) ∧ w'.cell? ⟨g16, 0, none⟩ = some (.slice G1 (failV x).secs.length Gd1) ∧ w'.cell? ⟨g16, 1, none⟩ = some (.slice G2 (failV x).cache.length Gd2) ∧ w'.cell? ⟨g16, 2, none⟩ = some (.bool (failV x).failed) ∧ w'.cell? ⟨g16, 3, none⟩ = some (.slice G3 (failV x).bad.length Gd3)) w20 := ⟨bm_0, bm_1, bm_2, bm_3, bf_0, bf_1, bf_2, bf_3, bs_0, bs_1, bs_2, bs_3, by_0, by_1, by_2, by_3⟩
  refine hK.out _ _ ⟨fun _ _ => hS, ?_⟩; clear hK K; (try simp only [Act.put, List.getElem_toArray, List.getElem_cons_succ, List.getElem_cons_zero, List.setIfInBounds_toArray, List.set_cons_zero, List.set_cons_succ])
  iterate 4 (refine seqp_pure rfl (fun _ _ _ h => h) (by rfl) (fun w_ => by go_simp; first | done | with_reducible rfl) ?_; (try simp only [Act.put, List.getElem_toArray, List.getElem_cons_succ, List.getElem_cons_zero, List.setIfInBounds_toArray, List.set_cons_zero, List.set_cons_succ]))
  iterate 2 (refine seqp_take hS rfl (fun _ _ _ h => h) (by rfl) (fun w_ hSw => by (try dsimp only at hSw); go_simp; first | done | with_reducible rfl) ?_; (try simp only [Act.put, List.getElem_toArray, List.getElem_cons_succ, List.getElem_cons_zero, List.setIfInBounds_toArray, List.set_cons_zero, List.set_cons_succ]))
  refine seqp_step rfl (fun K hK => ?_)
  go_simp
  go_at_call 32; refine (c_implFallMem (MemO_R (HS20.out.get 3 rfl)) HTf.out).mono ?_; rintro e w21 ⟨u_, F_, rfl, hn⟩; have hq := HS20.out.new hn; clear hn
  have HS21 := Aside0.mk (hq)
  clear hq hS
  clear bm_0 bm_1 bm_2 bm_3 bf_0 bf_1 bf_2 bf_3 bs_0 bs_1 bs_2 bs_3 by_0 by_1 by_2 by_3; obtain ⟨bm_0, bm_1, bm_2, bm_3⟩ := four (HS21.out.get 1 rfl); obtain ⟨bf_0, bf_1, bf_2, bf_3⟩ := four (HS21.out.get 3 rfl); obtain ⟨bs_0, bs_1, bs_2, bs_3⟩ := four (HS21.out.get 5 rfl); obtain ⟨by_0, by_1, by_2, by_3⟩ := four (HS21.out.get 7 rfl)
  have hS : (fun w' : World => w'.cell? ⟨g3, 0, none⟩ = some (.slice A1 m.secs.length Ad1) ∧ w'.cell? ⟨g3, 1, none⟩ = some (.slice A2 m.cache.length Ad2) ∧ w'.cell? ⟨g3, 2, none⟩ = some (.bool m.failed) ∧ w'.cell? ⟨g3, 3, none⟩ = some (.slice A3 m.bad.length Ad3) ∧ w'.cell? ⟨g9, 0, none⟩ = some (.slice C1 f.secs.length Cd1) ∧ w'.cell? ⟨g9, 1, none⟩ = some (.slice C2 f.cache.length Cd2) ∧ w'.cell? ⟨g9, 2, none⟩ = some (.bool f.failed) ∧ w'.cell? ⟨g9, 3, none⟩ = some (.slice C3 f.bad.length Cd3) ∧ w'.cell? ⟨g11, 0, none⟩ = some (.slice D1 s.secs.length Dd1) ∧ w'.cell? ⟨g11, 1, none⟩ = some (.slice D2 s.cache.length Dd2) ∧ w'.cell? ⟨g11, 2, none⟩ = some (.bool s.failed) ∧ w'.cell? ⟨g11, 3, none⟩ = some (.slice D3 s.bad.length Dd3) ∧ w'.cell? ⟨g16, 0, none⟩ = some (.slice G1 (failV x).secs.length Gd1) ∧ w'.cell? ⟨g16, 1, none⟩ = some (.slice G2 (failV x).cache.length Gd2) ∧ w'.cell? ⟨g16, 2, none⟩ = some (.bool (failV x).failed) ∧ w'.cell? ⟨g16, 3, none⟩ = some (.slice G3 (failV x).bad.length Gd3)) w21 := ⟨bm_0, bm_1, bm_2, bm_3, bf_0, bf_1, bf_2, bf_3, bs_0, bs_1, bs_2, bs_3, by_0, by_1, by_2, by_3⟩
  refine hK.out _ _ ⟨fun _ _ => hS, ?_⟩; clear hK K; (try simp only [Act.put, List.getElem_toArray, List.getElem_cons_succ, List.getElem_cons_zero, List.setIfInBounds_toArray, List.set_cons_zero, List.set_cons_succ])
  refine seqp_step rfl (fun K hK => ?_)
  go_simp
  go_at_call 33; refine (c_specFallMem (MemO_R (HS21.out.get 4 rfl)) HTf.out).mono ?_; rintro e w22 ⟨u_, F_, rfl, hn⟩; have hq := HS21.out.new hn; clear hn
  have HS22 := Aside0.mk (hq)
  clear hq hS
  clear bm_0 bm_1 bm_2 bm_3 bf_0 bf_1 bf_2 bf_3 bs_0 bs_1 bs_2 bs_3 by_0 by_1 by_2 by_3; obtain ⟨bm_0, bm_1, bm_2, bm_3⟩ := four (HS22.out.get 2 rfl); obtain ⟨bf_0, bf_1, bf_2, bf_3⟩ := four (HS22.out.get 4 rfl); obtain ⟨bs_0, bs_1, bs_2, bs_3⟩ := four (HS22.out.get 6 rfl); obtain ⟨by_0, by_1, by_2, by_3⟩ := four (HS22.out.get 8 rfl)
  have hS : (fun w' : World => w'.cell? ⟨g3, 0, none⟩ = some (.slice A1 m.secs.length Ad1) ∧ w'.cell? ⟨g3, 1, none⟩ = some (.slice A2 m.cache.length Ad2) ∧ w'.cell? ⟨g3, 2, none⟩ = some (.bool m.failed) ∧ w'.cell? ⟨g3, 3, none⟩ = some (.slice A3 m.bad.length Ad3) ∧ w'.cell? ⟨g9, 0, none⟩ = some (.slice C1 f.secs.length Cd1) ∧ w'.cell? ⟨g9, 1, none⟩ = some (.slice C2 f.cache.length Cd2) ∧ w'.cell? ⟨g9, 2, none⟩ = some (.bool f.failed) ∧ w'.cell? ⟨g9, 3, none⟩ = some (.slice C3 f.bad.length Cd3) ∧ w'.cell? ⟨g11, 0, none⟩ = some (.slice D1 s.secs.length Dd1) ∧ w'.cell? ⟨g11, 1, none⟩ = some (.slice D2 s.cache.length Dd2) ∧ w'.cell? ⟨g11, 2, none⟩ = some (.bool s.failed) ∧ w'.cell? ⟨g11, 3, none⟩ = some (.slice D3 s.bad.length Dd3) ∧ w'.cell? ⟨g16, 0, none⟩ = some (.slice G1 (failV x).secs.length Gd1) ∧ w'.cell? ⟨g16, 1, none⟩ = some (.slice G2 (failV x).cache.length Gd2) ∧ w'.cell? ⟨g16, 2, none⟩ = some (.bool (failV x).failed) ∧ w'.cell? ⟨g16, 3, none⟩ = some (.slice G3 (failV x).bad.length Gd3)) w22 := ⟨bm_0, bm_1, bm_2, bm_3, bf_0, bf_1, bf_2, bf_3, bs_0, bs_1, bs_2, bs_3, by_0, by_1, by_2, by_3⟩
  refine hK.out _ _ ⟨fun _ _ => hS, ?_⟩; clear hK K; (try simp only [Act.put, List.getElem_toArray, List.getElem_cons_succ, List.getElem_cons_zero, List.setIfInBounds_toArray, List.set_cons_zero, List.set_cons_succ])
  refine seqp_step rfl (fun K hK => ?_)
  go_simp
  go_at_call 31; refine (c_sameMem (MemO_R (HS22.out.get 1 rfl)) (MemO_R (HS22.out.get 0 rfl))).mono ?_; rw [decide_eq_true rfl]; rintro e w23 ⟨rfl, hb⟩; have hq := HS22.out.below hb; clear hb
  have HS23 := Aside0.mk (hq)
  clear hq hS
  clear bm_0 bm_1 bm_2 bm_3 bf_0 bf_1 bf_2 bf_3 bs_0 bs_1 bs_2 bs_3 by_0 by_1 by_2 by_3; obtain ⟨bm_0, bm_1, bm_2, bm_3⟩ := four (HS23.out.get 2 rfl); obtain ⟨bf_0, bf_1, bf_2, bf_3⟩ := four (HS23.out.get 4 rfl); obtain ⟨bs_0, bs_1, bs_2, bs_3⟩ := four (HS23.out.get 6 rfl); obtain ⟨by_0, by_1, by_2, by_3⟩ := four (HS23.out.get 8 rfl)
  have hS : (fun w' : World => w'.cell? ⟨g3, 0, none⟩ = some (.slice A1 m.secs.length Ad1) ∧ w'.cell? ⟨g3, 1, none⟩ = some (.slice A2 m.cache.length Ad2) ∧ w'.cell? ⟨g3, 2, none⟩ = some (.bool m.failed) ∧ w'.cell? ⟨g3, 3, none⟩ = some (.slice A3 m.bad.length Ad3) ∧ w'.cell? ⟨g9, 0, none⟩ = some (.slice C1 f.secs.length Cd1) ∧ w'.cell? ⟨g9, 1, none⟩ = some (.slice C2 f.cache.length Cd2) ∧ w'.cell? ⟨g9, 2, none⟩ = some (.bool f.failed) ∧ w'.cell? ⟨g9, 3, none⟩ = some (.slice C3 f.bad.length Cd3) ∧ w'.cell? ⟨g11, 0, none⟩ = some (.slice D1 s.secs.length Dd1) ∧ w'.cell? ⟨g11, 1, none⟩ = some (.slice D2 s.cache.length Dd2) ∧ w'.cell? ⟨g11, 2, none⟩ = some (.bool s.failed) ∧ w'.cell? ⟨g11, 3, none⟩ = some (.slice D3 s.bad.length Dd3) ∧ w'.cell? ⟨g16, 0, none⟩ = some (.slice G1 (failV x).secs.length Gd1) ∧ w'.cell? ⟨g16, 1, none⟩ = some (.slice G2 (failV x).cache.length Gd2) ∧ w'.cell? ⟨g16, 2, none⟩ = some (.bool (failV x).failed) ∧ w'.cell? ⟨g16, 3, none⟩ = some (.slice G3 (failV x).bad.length Gd3)) w23 := ⟨bm_0, bm_1, bm_2, bm_3, bf_0, bf_1, bf_2, bf_3, bs_0, bs_1, bs_2, bs_3, by_0, by_1, by_2, by_3⟩
  refine hK.out _ _ ⟨fun _ _ => hS, ?_⟩; clear hK K; (try simp only [Act.put, List.getElem_toArray, List.getElem_cons_succ, List.getElem_cons_zero, List.setIfInBounds_toArray, List.set_cons_zero, List.set_cons_succ])
  have hq := HS23.out.sel [2, 3, 4, 5, 6, 7, 8, 9, 10] (by decide) (by simp)
  simp only [List.map_cons, List.map_nil, pick, List.getD_cons_succ, List.getD_cons_zero, List.set_cons_zero, List.set_cons_succ, List.eraseIdx_cons_zero, List.eraseIdx_cons_succ, List.setIfInBounds_toArray] at hq
  have HS24 := Aside0.mk (hq)
  clear hq hS
  clear bm_0 bm_1 bm_2 bm_3 bf_0 bf_1 bf_2 bf_3 bs_0 bs_1 bs_2 bs_3 by_0 by_1 by_2 by_3; obtain ⟨bm_0, bm_1, bm_2, bm_3⟩ := four (HS24.out.get 0 rfl); obtain ⟨bf_0, bf_1, bf_2, bf_3⟩ := four (HS24.out.get 2 rfl); obtain ⟨bs_0, bs_1, bs_2, bs_3⟩ := four (HS24.out.get 4 rfl); obtain ⟨by_0, by_1, by_2, by_3⟩ := four (HS24.out.get 6 rfl)
  have hS : (fun w' : World => w'.cell? ⟨g3, 0, none⟩ = some (.slice A1 m.secs.length Ad1) ∧ w'.cell? ⟨g3, 1, none⟩ = some (.slice A2 m.cache.length Ad2) ∧ w'.cell? ⟨g3, 2, none⟩ = some (.bool m.failed) ∧ w'.cell? ⟨g3, 3, none⟩ = some (.slice A3 m.bad.length Ad3) ∧ w'.cell? ⟨g9, 0, none⟩ = some (.slice C1 f.secs.length Cd1) ∧ w'.cell? ⟨g9, 1, none⟩ = some (.slice C2 f.cache.length Cd2) ∧ w'.cell? ⟨g9, 2, none⟩ = some (.bool f.failed) ∧ w'.cell? ⟨g9, 3, none⟩ = some (.slice C3 f.bad.length Cd3) ∧ w'.cell? ⟨g11, 0, none⟩ = some (.slice D1 s.secs.length Dd1) ∧ w'.cell? ⟨g11, 1, none⟩ = some (.slice D2 s.cache.length Dd2) ∧ w'.cell? ⟨g11, 2, none⟩ = some (.bool s.failed) ∧ w'.cell? ⟨g11, 3, none⟩ = some (.slice D3 s.bad.length Dd3) ∧ w'.cell? ⟨g16, 0, none⟩ = some (.slice G1 (failV x).secs.length Gd1) ∧ w'.cell? ⟨g16, 1, none⟩ = some (.slice G2 (failV x).cache.length Gd2) ∧ w'.cell? ⟨g16, 2, none⟩ = some (.bool (failV x).failed) ∧ w'.cell? ⟨g16, 3, none⟩ = some (.slice G3 (failV x).bad.length Gd3)) w23 := ⟨bm_0, bm_1, bm_2, bm_3, bf_0, bf_1, bf_2, bf_3, bs_0, bs_1, bs_2, bs_3, by_0, by_1, by_2, by_3⟩
  iterate 4 (refine seqp_pure rfl (fun _ _ _ h => h) (by rfl) (fun w_ => by go_simp; first | done | with_reducible rfl) ?_; (try simp only [Act.put, List.getElem_toArray, List.getElem_cons_succ, List.getElem_cons_zero, List.setIfInBounds_toArray, List.set_cons_zero, List.set_cons_succ]))
  iterate 2 (refine seqp_take hS rfl (fun _ _ _ h => h) (by rfl) (fun w_ hSw => by (try dsimp only at hSw); go_simp; first | done | with_reducible rfl) ?_; (try simp only [Act.put, List.getElem_toArray, List.getElem_cons_succ, List.getElem_cons_zero, List.setIfInBounds_toArray, List.set_cons_zero, List.set_cons_succ]))
  refine seqp_step rfl (fun K hK => ?_)
  go_simp
  go_at_call 14; refine (c_implSpoilSec (MemO_R (HS24.out.get 5 rfl)) HTs.out).mono ?_; rintro e w25 ⟨u_, F_, rfl, hn⟩; have hq := HS24.out.new hn; clear hn
  have HS25 := Aside0.mk (hq)
  clear hq hS
  clear bm_0 bm_1 bm_2 bm_3 bf_0 bf_1 bf_2 bf_3 bs_0 bs_1 bs_2 bs_3 by_0 by_1 by_2 by_3; obtain ⟨bm_0, bm_1, bm_2, bm_3⟩ := four (HS25.out.get 1 rfl); obtain ⟨bf_0, bf_1, bf_2, bf_3⟩ := four (HS25.out.get 3 rfl); obtain ⟨bs_0, bs_1, bs_2, bs_3⟩ := four (HS25.out.get 5 rfl); obtain ⟨by_0, by_1, by_2, by_3⟩ := four (HS25.out.get 7 rfl)
  have hS : (fun w' : World => w'.cell? ⟨g3, 0, none⟩ = some (.slice A1 m.secs.length Ad1) ∧ w'.cell? ⟨g3, 1, none⟩ = some (.slice A2 m.cache.length Ad2) ∧ w'.cell? ⟨g3, 2, none⟩ = some (.bool m.failed) ∧ w'.cell? ⟨g3, 3, none⟩ = some (.slice A3 m.bad.length Ad3) ∧ w'.cell? ⟨g9, 0, none⟩ = some (.slice C1 f.secs.length Cd1) ∧ w'.cell? ⟨g9, 1, none⟩ = some (.slice C2 f.cache.length Cd2) ∧ w'.cell? ⟨g9, 2, none⟩ = some (.bool f.failed) ∧ w'.cell? ⟨g9, 3, none⟩ = some (.slice C3 f.bad.length Cd3) ∧ w'.cell? ⟨g11, 0, none⟩ = some (.slice D1 s.secs.length Dd1) ∧ w'.cell? ⟨g11, 1, none⟩ = some (.slice D2 s.cache.length Dd2) ∧ w'.cell? ⟨g11, 2, none⟩ = some (.bool s.failed) ∧ w'.cell? ⟨g11, 3, none⟩ = some (.slice D3 s.bad.length Dd3) ∧ w'.cell? ⟨g16, 0, none⟩ = some (.slice G1 (failV x).secs.length Gd1) ∧ w'.cell? ⟨g16, 1, none⟩ = some (.slice G2 (failV x).cache.length Gd2) ∧ w'.cell? ⟨g16, 2, none⟩ = some (.bool (failV x).failed) ∧ w'.cell? ⟨g16, 3, none⟩ = some (.slice G3 (failV x).bad.length Gd3)) w25 := ⟨bm_0, bm_1, bm_2, bm_3, bf_0, bf_1, bf_2, bf_3, bs_0, bs_1, bs_2, bs_3, by_0, by_1, by_2, by_3⟩
  refine hK.out _ _ ⟨fun _ _ => hS, ?_⟩; clear hK K; (try simp only [Act.put, List.getElem_toArray, List.getElem_cons_succ, List.getElem_cons_zero, List.setIfInBounds_toArray, List.set_cons_zero, List.set_cons_succ])
  refine seqp_step rfl (fun K hK => ?_)
  go_simp
  go_at_call 12; refine (c_specSpoilSec (MemO_R (HS25.out.get 6 rfl)) HTs.out).mono ?_; rintro e w26 ⟨u_, F_, rfl, hn⟩; have hq := HS25.out.new hn; clear hn
  have HS26 := Aside0.mk (hq)
  clear hq hS
  clear bm_0 bm_1 bm_2 bm_3 bf_0 bf_1 bf_2 bf_3 bs_0 bs_1 bs_2 bs_3 by_0 by_1 by_2 by_3; obtain ⟨bm_0, bm_1, bm_2, bm_3⟩ := four (HS26.out.get 2 rfl); obtain ⟨bf_0, bf_1, bf_2, bf_3⟩ := four (HS26.out.get 4 rfl); obtain ⟨bs_0, bs_1, bs_2, bs_3⟩ := four (HS26.out.get 6 rfl); obtain ⟨by_0, by_1, by_2, by_3⟩ := four (HS26.out.get 8 rfl)
  have hS : (fun w' : World => w'.cell? ⟨g3, 0, none⟩ = some (.slice A1 m.secs.length Ad1) ∧ w'.cell? ⟨g3, 1, none⟩ = some (.slice A2 m.cache.length Ad2) ∧ w'.cell? ⟨g3, 2, none⟩ = some (.bool m.failed) ∧ w'.cell? ⟨g3, 3, none⟩ = some (.slice A3 m.bad.length Ad3) ∧ w'.cell? ⟨g9, 0, none⟩ = some (.slice C1 f.secs.length Cd1) ∧ w'.cell? ⟨g9, 1, none⟩ = some (.slice C2 f.cache.length Cd2) ∧ w'.cell? ⟨g9, 2, none⟩ = some (.bool f.failed) ∧ w'.cell? ⟨g9, 3, none⟩ = some (.slice C3 f.bad.length Cd3) ∧ w'.cell? ⟨g11, 0, none⟩ = some (.slice D1 s.secs.length Dd1) ∧ w'.cell? ⟨g11, 1, none⟩ = some (.slice D2 s.cache.length Dd2) ∧ w'.cell? ⟨g11, 2, none⟩ = some (.bool s.failed) ∧ w'.cell? ⟨g11, 3, none⟩ = some (.slice D3 s.bad.length Dd3) ∧ w'.cell? ⟨g16, 0, none⟩ = some (.slice G1 (failV x).secs.length Gd1) ∧ w'.cell? ⟨g16, 1, none⟩ = some (.slice G2 (failV x).cache.length Gd2) ∧ w'.cell? ⟨g16, 2, none⟩ = some (.bool (failV x).failed) ∧ w'.cell? ⟨g16, 3, none⟩ = some (.slice G3 (failV x).bad.length Gd3)) w26 := ⟨bm_0, bm_1, bm_2, bm_3, bf_0, bf_1, bf_2, bf_3, bs_0, bs_1, bs_2, bs_3, by_0, by_1, by_2, by_3⟩
  refine hK.out _ _ ⟨fun _ _ => hS, ?_⟩; clear hK K; (try simp only [Act.put, List.getElem_toArray, List.getElem_cons_succ, List.getElem_cons_zero, List.setIfInBounds_toArray, List.set_cons_zero, List.set_cons_succ])
  refine seqp_step rfl (fun K hK => ?_)
  go_simp
  go_at_call 31; refine (c_sameMem (MemO_R (HS26.out.get 1 rfl)) (MemO_R (HS26.out.get 0 rfl))).mono ?_; rw [decide_eq_true rfl]; rintro e w27 ⟨rfl, hb⟩; have hq := HS26.out.below hb; clear hb
  have HS27 := Aside0.mk (hq)
  clear hq hS
  clear bm_0 bm_1 bm_2 bm_3 bf_0 bf_1 bf_2 bf_3 bs_0 bs_1 bs_2 bs_3 by_0 by_1 by_2 by_3; obtain ⟨bm_0, bm_1, bm_2, bm_3⟩ := four (HS27.out.get 2 rfl); obtain ⟨bf_0, bf_1, bf_2, bf_3⟩ := four (HS27.out.get 4 rfl); obtain ⟨bs_0, bs_1, bs_2, bs_3⟩ := four (HS27.out.get 6 rfl); obtain ⟨by_0, by_1, by_2, by_3⟩ := four (HS27.out.get 8 rfl)
  have hS : (fun w' : World => w'.cell? ⟨g3, 0, none⟩ = some (.slice A1 m.secs.length Ad1) ∧ w'.cell? ⟨g3, 1, none⟩ = some (.slice A2 m.cache.length Ad2) ∧ w'.cell? ⟨g3, 2, none⟩ = some (.bool m.failed) ∧ w'.cell? ⟨g3, 3, none⟩ = some (.slice A3 m.bad.length Ad3) ∧ w'.cell? ⟨g9, 0, none⟩ = some (.slice C1 f.secs.length Cd1) ∧ w'.cell? ⟨g9, 1, none⟩ = some (.slice C2 f.cache.length Cd2) ∧ w'.cell? ⟨g9, 2, none⟩ = some (.bool f.failed) ∧ w'.cell? ⟨g9, 3, none⟩ = some (.slice C3 f.bad.length Cd3) ∧ w'.cell? ⟨g11, 0, none⟩ = some (.slice D1 s.secs.length Dd1) ∧ w'.cell? ⟨g11, 1, none⟩ = some (.slice D2 s.cache.length Dd2) ∧ w'.cell? ⟨g11, 2, none⟩ = some (.bool s.failed) ∧ w'.cell? ⟨g11, 3, none⟩ = some (.slice D3 s.bad.length Dd3) ∧ w'.cell? ⟨g16, 0, none⟩ = some (.slice G1 (failV x).secs.length Gd1) ∧ w'.cell? ⟨g16, 1, none⟩ = some (.slice G2 (failV x).cache.length Gd2) ∧ w'.cell? ⟨g16, 2, none⟩ = some (.bool (failV x).failed) ∧ w'.cell? ⟨g16, 3, none⟩ = some (.slice G3 (failV x).bad.length Gd3)) w27 := ⟨bm_0, bm_1, bm_2, bm_3, bf_0, bf_1, bf_2, bf_3, bs_0, bs_1, bs_2, bs_3, by_0, by_1, by_2, by_3⟩
  refine hK.out _ _ ⟨fun _ _ => hS, ?_⟩; clear hK K; (try simp only [Act.put, List.getElem_toArray, List.getElem_cons_succ, List.getElem_cons_zero, List.setIfInBounds_toArray, List.set_cons_zero, List.set_cons_succ])
  have hq := HS27.out.sel [2, 3, 4, 5, 6, 7, 8, 9, 10] (by decide) (by simp)
  simp only [List.map_cons, List.map_nil, pick, List.getD_cons_succ, List.getD_cons_zero, List.set_cons_zero, List.set_cons_succ, List.eraseIdx_cons_zero, List.eraseIdx_cons_succ, List.setIfInBounds_toArray] at hq
  have HS28 := Aside0.mk (hq)
  clear hq hS
  clear bm_0 bm_1 bm_2 bm_3 bf_0 bf_1 bf_2 bf_3 bs_0 bs_1 bs_2 bs_3 by_0 by_1 by_2 by_3; obtain ⟨bm_0, bm_1, bm_2, bm_3⟩ := four (HS28.out.get 0 rfl); obtain ⟨bf_0, bf_1, bf_2, bf_3⟩ := four (HS28.out.get 2 rfl); obtain ⟨bs_0, bs_1, bs_2, bs_3⟩ := four (HS28.out.get 4 rfl); obtain ⟨by_0, by_1, by_2, by_3⟩ := four (HS28.out.get 6 rfl)
  have hS : (fun w' : World => w'.cell? ⟨g3, 0, none⟩ = some (.slice A1 m.secs.length Ad1) ∧ w'.cell? ⟨g3, 1, none⟩ = some (.slice A2 m.cache.length Ad2) ∧ w'.cell? ⟨g3, 2, none⟩ = some (.bool m.failed) ∧ w'.cell? ⟨g3, 3, none⟩ = some (.slice A3 m.bad.length Ad3) ∧ w'.cell? ⟨g9, 0, none⟩ = some (.slice C1 f.secs.length Cd1) ∧ w'.cell? ⟨g9, 1, none⟩ = some (.slice C2 f.cache.length Cd2) ∧ w'.cell? ⟨g9, 2, none⟩ = some (.bool f.failed) ∧ w'.cell? ⟨g9, 3, none⟩ = some (.slice C3 f.bad.length Cd3) ∧ w'.cell? ⟨g11, 0, none⟩ = some (.slice D1 s.secs.length Dd1) ∧ w'.cell? ⟨g11, 1, none⟩ = some (.slice D2 s.cache.length Dd2) ∧ w'.cell? ⟨g11, 2, none⟩ = some (.bool s.failed) ∧ w'.cell? ⟨g11, 3, none⟩ = some (.slice D3 s.bad.length Dd3) ∧ w'.cell? ⟨g16, 0, none⟩ = some (.slice G1 (failV x).secs.length Gd1) ∧ w'.cell? ⟨g16, 1, none⟩ = some (.slice G2 (failV x).cache.length Gd2) ∧ w'.cell? ⟨g16, 2, none⟩ = some (.bool (failV x).failed) ∧ w'.cell? ⟨g16, 3, none⟩ = some (.slice G3 (failV x).bad.length Gd3)) w27 := ⟨bm_0, bm_1, bm_2, bm_3, bf_0, bf_1, bf_2, bf_3, bs_0, bs_1, bs_2, bs_3, by_0, by_1, by_2, by_3⟩
  iterate 4 (refine seqp_pure rfl (fun _ _ _ h => h) (by rfl) (fun w_ => by go_simp; first | done | with_reducible rfl) ?_; (try simp only [Act.put, List.getElem_toArray, List.getElem_cons_succ, List.getElem_cons_zero, List.setIfInBounds_toArray, List.set_cons_zero, List.set_cons_succ]))
  refine seqp_step rfl (fun K hK => ?_)
  go_simp
  go_at_call 34; refine (c_implMemNew _ _).mono ?_; rintro e w29 ⟨u_, F_, rfl, hn⟩; have hq := HS28.out.new hn; clear hn
  have HS29 := Aside0.mk (hq)
  clear hq hS
  clear bm_0 bm_1 bm_2 bm_3 bf_0 bf_1 bf_2 bf_3 bs_0 bs_1 bs_2 bs_3 by_0 by_1 by_2 by_3; obtain ⟨bm_0, bm_1, bm_2, bm_3⟩ := four (HS29.out.get 1 rfl); obtain ⟨bf_0, bf_1, bf_2, bf_3⟩ := four (HS29.out.get 3 rfl); obtain ⟨bs_0, bs_1, bs_2, bs_3⟩ := four (HS29.out.get 5 rfl); obtain ⟨by_0, by_1, by_2, by_3⟩ := four (HS29.out.get 7 rfl)
  have hS : (fun w' : World => w'.cell? ⟨g3, 0, none⟩ = some (.slice A1 m.secs.length Ad1) ∧ w'.cell? ⟨g3, 1, none⟩ = some (.slice A2 m.cache.length Ad2) ∧ w'.cell? ⟨g3, 2, none⟩ = some (.bool m.failed) ∧ w'.cell? ⟨g3, 3, none⟩ = some (.slice A3 m.bad.length Ad3) ∧ w'.cell? ⟨g9, 0, none⟩ = some (.slice C1 f.secs.length Cd1) ∧ w'.cell? ⟨g9, 1, none⟩ = some (.slice C2 f.cache.length Cd2) ∧ w'.cell? ⟨g9, 2, none⟩ = some (.bool f.failed) ∧ w'.cell? ⟨g9, 3, none⟩ = some (.slice C3 f.bad.length Cd3) ∧ w'.cell? ⟨g11, 0, none⟩ = some (.slice D1 s.secs.length Dd1) ∧ w'.cell? ⟨g11, 1, none⟩ = some (.slice D2 s.cache.length Dd2) ∧ w'.cell? ⟨g11, 2, none⟩ = some (.bool s.failed) ∧ w'.cell? ⟨g11, 3, none⟩ = some (.slice D3 s.bad.length Dd3) ∧ w'.cell? ⟨g16, 0, none⟩ = some (.slice G1 (failV x).secs.length Gd1) ∧ w'.cell? ⟨g16, 1, none⟩ = some (.slice G2 (failV x).cache.length Gd2) ∧ w'.cell? ⟨g16, 2, none⟩ = some (.bool (failV x).failed) ∧ w'.cell? ⟨g16, 3, none⟩ = some (.slice G3 (failV x).bad.length Gd3)) w29 := ⟨bm_0, bm_1, bm_2, bm_3, bf_0, bf_1, bf_2, bf_3, bs_0, bs_1, bs_2, bs_3, by_0, by_1, by_2, by_3⟩
  refine hK.out _ _ ⟨fun _ _ => hS, ?_⟩; clear hK K; (try simp only [Act.put, List.getElem_toArray, List.getElem_cons_succ, List.getElem_cons_zero, List.setIfInBounds_toArray, List.set_cons_zero, List.set_cons_succ])
  refine seqp_step rfl (fun K hK => ?_)
  go_simp
  go_at_call 35; refine (c_specMemNew _ _).mono ?_; rintro e w30 ⟨u_, F_, rfl, hn⟩; have hq := HS29.out.new hn; clear hn
  have HS30 := Aside0.mk (hq)
  clear hq hS
  clear bm_0 bm_1 bm_2 bm_3 bf_0 bf_1 bf_2 bf_3 bs_0 bs_1 bs_2 bs_3 by_0 by_1 by_2 by_3; obtain ⟨bm_0, bm_1, bm_2, bm_3⟩ := four (HS30.out.get 2 rfl); obtain ⟨bf_0, bf_1, bf_2, bf_3⟩ := four (HS30.out.get 4 rfl); obtain ⟨bs_0, bs_1, bs_2, bs_3⟩ := four (HS30.out.get 6 rfl); obtain ⟨by_0, by_1, by_2, by_3⟩ := four (HS30.out.get 8 rfl)
  have hS : (fun w' : World => w'.cell? ⟨g3, 0, none⟩ = some (.slice A1 m.secs.length Ad1) ∧ w'.cell? ⟨g3, 1, none⟩ = some (.slice A2 m.cache.length Ad2) ∧ w'.cell? ⟨g3, 2, none⟩ = some (.bool m.failed) ∧ w'.cell? ⟨g3, 3, none⟩ = some (.slice A3 m.bad.length Ad3) ∧ w'.cell? ⟨g9, 0, none⟩ = some (.slice C1 f.secs.length Cd1) ∧ w'.cell? ⟨g9, 1, none⟩ = some (.slice C2 f.cache.length Cd2) ∧ w'.cell? ⟨g9, 2, none⟩ = some (.bool f.failed) ∧ w'.cell? ⟨g9, 3, none⟩ = some (.slice C3 f.bad.length Cd3) ∧ w'.cell? ⟨g11, 0, none⟩ = some (.slice D1 s.secs.length Dd1) ∧ w'.cell? ⟨g11, 1, none⟩ = some (.slice D2 s.cache.length Dd2) ∧ w'.cell? ⟨g11, 2, none⟩ = some (.bool s.failed) ∧ w'.cell? ⟨g11, 3, none⟩ = some (.slice D3 s.bad.length Dd3) ∧ w'.cell? ⟨g16, 0, none⟩ = some (.slice G1 (failV x).secs.length Gd1) ∧ w'.cell? ⟨g16, 1, none⟩ = some (.slice G2 (failV x).cache.length Gd2) ∧ w'.cell? ⟨g16, 2, none⟩ = some (.bool (failV x).failed) ∧ w'.cell? ⟨g16, 3, none⟩ = some (.slice G3 (failV x).bad.length Gd3)) w30 := ⟨bm_0, bm_1, bm_2, bm_3, bf_0, bf_1, bf_2, bf_3, bs_0, bs_1, bs_2, bs_3, by_0, by_1, by_2, by_3⟩
  refine hK.out _ _ ⟨fun _ _ => hS, ?_⟩; clear hK K; (try simp only [Act.put, List.getElem_toArray, List.getElem_cons_succ, List.getElem_cons_zero, List.setIfInBounds_toArray, List.set_cons_zero, List.set_cons_succ])
  refine seqp_step rfl (fun K hK => ?_)
  go_simp
  go_at_call 31; refine (c_sameMem (MemO_R (HS30.out.get 1 rfl)) (MemO_R (HS30.out.get 0 rfl))).mono ?_; rw [decide_eq_true rfl]; rintro e w31 ⟨rfl, hb⟩; have hq := HS30.out.below hb; clear hb
  have HS31 := Aside0.mk (hq)
  clear hq hS
  clear bm_0 bm_1 bm_2 bm_3 bf_0 bf_1 bf_2 bf_3 bs_0 bs_1 bs_2 bs_3 by_0 by_1 by_2 by_3; obtain ⟨bm_0, bm_1, bm_2, bm_3⟩ := four (HS31.out.get 2 rfl); obtain ⟨bf_0, bf_1, bf_2, bf_3⟩ := four (HS31.out.get 4 rfl); obtain ⟨bs_0, bs_1, bs_2, bs_3⟩ := four (HS31.out.get 6 rfl); obtain ⟨by_0, by_1, by_2, by_3⟩ := four (HS31.out.get 8 rfl)
  have hS : (fun w' : World => w'.cell? ⟨g3, 0, none⟩ = some (.slice A1 m.secs.length Ad1) ∧ w'.cell? ⟨g3, 1, none⟩ = some (.slice A2 m.cache.length Ad2) ∧ w'.cell? ⟨g3, 2, none⟩ = some (.bool m.failed) ∧ w'.cell? ⟨g3, 3, none⟩ = some (.slice A3 m.bad.length Ad3) ∧ w'.cell? ⟨g9, 0, none⟩ = some (.slice C1 f.secs.length Cd1) ∧ w'.cell? ⟨g9, 1, none⟩ = some (.slice C2 f.cache.length Cd2) ∧ w'.cell? ⟨g9, 2, none⟩ = some (.bool f.failed) ∧ w'.cell? ⟨g9, 3, none⟩ = some (.slice C3 f.bad.length Cd3) ∧ w'.cell? ⟨g11, 0, none⟩ = some (.slice D1 s.secs.length Dd1) ∧ w'.cell? ⟨g11, 1, none⟩ = some (.slice D2 s.cache.length Dd2) ∧ w'.cell? ⟨g11, 2, none⟩ = some (.bool s.failed) ∧ w'.cell? ⟨g11, 3, none⟩ = some (.slice D3 s.bad.length Dd3) ∧ w'.cell? ⟨g16, 0, none⟩ = some (.slice G1 (failV x).secs.length Gd1) ∧ w'.cell? ⟨g16, 1, none⟩ = some (.slice G2 (failV x).cache.length Gd2) ∧ w'.cell? ⟨g16, 2, none⟩ = some (.bool (failV x).failed) ∧ w'.cell? ⟨g16, 3, none⟩ = some (.slice G3 (failV x).bad.length Gd3)) w31 := ⟨bm_0, bm_1, bm_2, bm_3, bf_0, bf_1, bf_2, bf_3, bs_0, bs_1, bs_2, bs_3, by_0, by_1, by_2, by_3⟩
  refine hK.out _ _ ⟨fun _ _ => hS, ?_⟩; clear hK K; (try simp only [Act.put, List.getElem_toArray, List.getElem_cons_succ, List.getElem_cons_zero, List.setIfInBounds_toArray, List.set_cons_zero, List.set_cons_succ])
  have hq := HS31.out.sel [2, 3, 4, 5, 6, 7, 8, 9, 10] (by decide) (by simp)
  simp only [List.map_cons, List.map_nil, pick, List.getD_cons_succ, List.getD_cons_zero, List.set_cons_zero, List.set_cons_succ, List.eraseIdx_cons_zero, List.eraseIdx_cons_succ, List.setIfInBounds_toArray] at hq
  have HS32 := Aside0.mk (hq)
  clear hq hS
  clear bm_0 bm_1 bm_2 bm_3 bf_0 bf_1 bf_2 bf_3 bs_0 bs_1 bs_2 bs_3 by_0 by_1 by_2 by_3; obtain ⟨bm_0, bm_1, bm_2, bm_3⟩ := four (HS32.out.get 0 rfl); obtain ⟨bf_0, bf_1, bf_2, bf_3⟩ := four (HS32.out.get 2 rfl); obtain ⟨bs_0, bs_1, bs_2, bs_3⟩ := four (HS32.out.get 4 rfl); obtain ⟨by_0, by_1, by_2, by_3⟩ := four (HS32.out.get 6 rfl)
  have hS : (fun w' : World => w'.cell? ⟨g3, 0, none⟩ = some (.slice A1 m.secs.length Ad1) ∧ w'.cell? ⟨g3, 1, none⟩ = some (.slice A2 m.cache.length Ad2) ∧ w'.cell? ⟨g3, 2, none⟩ = some (.bool m.failed) ∧ w'.cell? ⟨g3, 3, none⟩ = some (.slice A3 m.bad.length Ad3) ∧ w'.cell? ⟨g9, 0, none⟩ = some (.slice C1 f.secs.length Cd1) ∧ w'.cell? ⟨g9, 1, none⟩ = some (.slice C2 f.cache.length Cd2) ∧ w'.cell? ⟨g9, 2, none⟩ = some (.bool f.failed) ∧ w'.cell? ⟨g9, 3, none⟩ = some (.slice C3 f.bad.length Cd3) ∧ w'.cell? ⟨g11, 0, none⟩ = some (.slice D1 s.secs.length Dd1) ∧ w'.cell? ⟨g11, 1, none⟩ = some (.slice D2 s.cache.length Dd2) ∧ w'.cell? ⟨g11, 2, none⟩ = some (.bool s.failed) ∧ w'.cell? ⟨g11, 3, none⟩ = some (.slice D3 s.bad.length Dd3) ∧ w'.cell? ⟨g16, 0, none⟩ = some (.slice G1 (failV x).secs.length Gd1) ∧ w'.cell? ⟨g16, 1, none⟩ = some (.slice G2 (failV x).cache.length Gd2) ∧ w'.cell? ⟨g16, 2, none⟩ = some (.bool (failV x).failed) ∧ w'.cell? ⟨g16, 3, none⟩ = some (.slice G3 (failV x).bad.length Gd3)) w31 := ⟨bm_0, bm_1, bm_2, bm_3, bf_0, bf_1, bf_2, bf_3, bs_0, bs_1, bs_2, bs_3, by_0, by_1, by_2, by_3⟩
  iterate 3 (refine seqp_pure rfl (fun _ _ _ h => h) (by rfl) (fun w_ => by go_simp; first | done | with_reducible rfl) ?_; (try simp only [Act.put, List.getElem_toArray, List.getElem_cons_succ, List.getElem_cons_zero, List.setIfInBounds_toArray, List.set_cons_zero, List.set_cons_succ]))
  iterate 1 (refine seqp_take hS rfl (fun _ _ _ h => h) (by rfl) (fun w_ hSw => by (try dsimp only at hSw); go_simp; first | done | with_reducible rfl) ?_; (try simp only [Act.put, List.getElem_toArray, List.getElem_cons_succ, List.getElem_cons_zero, List.setIfInBounds_toArray, List.set_cons_zero, List.set_cons_succ]))
  iterate 2 (refine seqp_pure rfl (fun _ _ _ h => h) (by rfl) (fun w_ => by go_simp; first | done | with_reducible rfl) ?_; (try simp only [Act.put, List.getElem_toArray, List.getElem_cons_succ, List.getElem_cons_zero, List.setIfInBounds_toArray, List.set_cons_zero, List.set_cons_succ]))
  iterate 2 (refine seqp_take hS rfl (fun _ _ _ h => h) (by rfl) (fun w_ hSw => by (try dsimp only at hSw); go_simp; first | done | with_reducible rfl) ?_; (try simp only [Act.put, List.getElem_toArray, List.getElem_cons_succ, List.getElem_cons_zero, List.setIfInBounds_toArray, List.set_cons_zero, List.set_cons_succ]))
  refine seqp_step rfl (fun K hK => ?_)
  go_simp
  go_at_call 36; refine (c_implFlushMem (MemO_R (HS32.out.get 1 rfl)) HTm.out).mono ?_; rintro e w33 ⟨u_, F_, rfl, hn⟩; have hq := HS32.out.new hn; clear hn
  have HS33 := Aside0.mk (hq)
  clear hq hS
  clear bm_0 bm_1 bm_2 bm_3 bf_0 bf_1 bf_2 bf_3 bs_0 bs_1 bs_2 bs_3 by_0 by_1 by_2 by_3; obtain ⟨bm_0, bm_1, bm_2, bm_3⟩ := four (HS33.out.get 1 rfl); obtain ⟨bf_0, bf_1, bf_2, bf_3⟩ := four (HS33.out.get 3 rfl); obtain ⟨bs_0, bs_1, bs_2, bs_3⟩ := four (HS33.out.get 5 rfl); obtain ⟨by_0, by_1, by_2, by_3⟩ := four (HS33.out.get 7 rfl)
  have hS : (fun w' : World => w'.cell? ⟨g3, 0, none⟩ = some (.slice A1 m.secs.length Ad1) ∧ w'.cell? ⟨g3, 1, none⟩ = some (.slice A2 m.cache.length Ad2) ∧ w'.cell? ⟨g3, 2, none⟩ = some (.bool m.failed) ∧ w'.cell? ⟨g3, 3, none⟩ = some (.slice A3 m.bad.length Ad3) ∧ w'.cell? ⟨g9, 0, none⟩ = some (.slice C1 f.secs.length Cd1) ∧ w'.cell? ⟨g9, 1, none⟩ = some (.slice C2 f.cache.length Cd2) ∧ w'.cell? ⟨g9, 2, none⟩ = some (.bool f.failed) ∧ w'.cell? ⟨g9, 3, none⟩ = some (.slice C3 f.bad.length Cd3) ∧ w'.cell? ⟨g11, 0, none⟩ = some (.slice D1 s.secs.length Dd1) ∧ w'.cell? ⟨g11, 1, none⟩ = some (.slice D2 s.cache.length Dd2) ∧ w'.cell? ⟨g11, 2, none⟩ = some (.bool s.failed) ∧ w'.cell? ⟨g11, 3, none⟩ = some (.slice D3 s.bad.length Dd3) ∧ w'.cell? ⟨g16, 0, none⟩ = some (.slice G1 (failV x).secs.length Gd1) ∧ w'.cell? ⟨g16, 1, none⟩ = some (.slice G2 (failV x).cache.length Gd2) ∧ w'.cell? ⟨g16, 2, none⟩ = some (.bool (failV x).failed) ∧ w'.cell? ⟨g16, 3, none⟩ = some (.slice G3 (failV x).bad.length Gd3)) w33 := ⟨bm_0, bm_1, bm_2, bm_3, bf_0, bf_1, bf_2, bf_3, bs_0, bs_1, bs_2, bs_3, by_0, by_1, by_2, by_3⟩
  refine hK.out _ _ ⟨fun _ _ => hS, ?_⟩; clear hK K; (try simp only [Act.put, List.getElem_toArray, List.getElem_cons_succ, List.getElem_cons_zero, List.setIfInBounds_toArray, List.set_cons_zero, List.set_cons_succ])
  refine seqp_step rfl (fun K hK => ?_)
  go_simp
  go_at_call 37; refine (c_specFlushMem (MemO_R (HS33.out.get 2 rfl)) HTm.out).mono ?_; rintro e w34 ⟨u_, F_, rfl, hn⟩; have hq := HS33.out.new hn; clear hn
  have HS34 := Aside0.mk (hq)
  clear hq hS
  clear bm_0 bm_1 bm_2 bm_3 bf_0 bf_1 bf_2 bf_3 bs_0 bs_1 bs_2 bs_3 by_0 by_1 by_2 by_3; obtain ⟨bm_0, bm_1, bm_2, bm_3⟩ := four (HS34.out.get 2 rfl); obtain ⟨bf_0, bf_1, bf_2, bf_3⟩ := four (HS34.out.get 4 rfl); obtain ⟨bs_0, bs_1, bs_2, bs_3⟩ := four (HS34.out.get 6 rfl); obtain ⟨by_0, by_1, by_2, by_3⟩ := four (HS34.out.get 8 rfl)
  have hS : (fun w' : World => w'.cell? ⟨g3, 0, none⟩ = some (.slice A1 m.secs.length Ad1) ∧ w'.cell? ⟨g3, 1, none⟩ = some (.slice A2 m.cache.length Ad2) ∧ w'.cell? ⟨g3, 2, none⟩ = some (.bool m.failed) ∧ w'.cell? ⟨g3, 3, none⟩ = some (.slice A3 m.bad.length Ad3) ∧ w'.cell? ⟨g9, 0, none⟩ = some (.slice C1 f.secs.length Cd1) ∧ w'.cell? ⟨g9, 1, none⟩ = some (.slice C2 f.cache.length Cd2) ∧ w'.cell? ⟨g9, 2, none⟩ = some (.bool f.failed) ∧ w'.cell? ⟨g9, 3, none⟩ = some (.slice C3 f.bad.length Cd3) ∧ w'.cell? ⟨g11, 0, none⟩ = some (.slice D1 s.secs.length Dd1) ∧ w'.cell? ⟨g11, 1, none⟩ = some (.slice D2 s.cache.length Dd2) ∧ w'.cell? ⟨g11, 2, none⟩ = some (.bool s.failed) ∧ w'.cell? ⟨g11, 3, none⟩ = some (.slice D3 s.bad.length Dd3) ∧ w'.cell? ⟨g16, 0, none⟩ = some (.slice G1 (failV x).secs.length Gd1) ∧ w'.cell? ⟨g16, 1, none⟩ = some (.slice G2 (failV x).cache.length Gd2) ∧ w'.cell? ⟨g16, 2, none⟩ = some (.bool (failV x).failed) ∧ w'.cell? ⟨g16, 3, none⟩ = some (.slice G3 (failV x).bad.length Gd3)) w34 := ⟨bm_0, bm_1, bm_2, bm_3, bf_0, bf_1, bf_2, bf_3, bs_0, bs_1, bs_2, bs_3, by_0, by_1, by_2, by_3⟩
  refine hK.out _ _ ⟨fun _ _ => hS, ?_⟩; clear hK K; (try simp only [Act.put, List.getElem_toArray, List.getElem_cons_succ, List.getElem_cons_zero, List.setIfInBounds_toArray, List.set_cons_zero, List.set_cons_succ])
  refine seqp_step rfl (fun K hK => ?_)
  go_simp
  go_at_call 31; refine (c_sameMem (MemO_R (HS34.out.get 1 rfl)) (MemO_R (HS34.out.get 0 rfl))).mono ?_; rw [decide_eq_true rfl]; rintro e w35 ⟨rfl, hb⟩; have hq := HS34.out.below hb; clear hb
  have HS35 := Aside0.mk (hq)
  clear hq hS
  clear bm_0 bm_1 bm_2 bm_3 bf_0 bf_1 bf_2 bf_3 bs_0 bs_1 bs_2 bs_3 by_0 by_1 by_2 by_3; obtain ⟨bm_0, bm_1, bm_2, bm_3⟩ := four (HS35.out.get 2 rfl); obtain ⟨bf_0, bf_1, bf_2, bf_3⟩ := four (HS35.out.get 4 rfl); obtain ⟨bs_0, bs_1, bs_2, bs_3⟩ := four (HS35.out.get 6 rfl); obtain ⟨by_0, by_1, by_2, by_3⟩ := four (HS35.out.get 8 rfl)
  have hS : (fun w' : World => w'.cell? ⟨g3, 0, none⟩ = some (.slice A1 m.secs.length Ad1) ∧ w'.cell? ⟨g3, 1, none⟩ = some (.slice A2 m.cache.length Ad2) ∧ w'.cell? ⟨g3, 2, none⟩ = some (.bool m.failed) ∧ w'.cell? ⟨g3, 3, none⟩ = some (.slice A3 m.bad.length Ad3) ∧ w'.cell? ⟨g9, 0, none⟩ = some (.slice C1 f.secs.length Cd1) ∧ w'.cell? ⟨g9, 1, none⟩ = some (.slice C2 f.cache.length Cd2) ∧ w'.cell? ⟨g9, 2, none⟩ = some (.bool f.failed) ∧ w'.cell? ⟨g9, 3, none⟩ = some (.slice C3 f.bad.length Cd3) ∧ w'.cell? ⟨g11, 0, none⟩ = some (.slice D1 s.secs.length Dd1) ∧ w'.cell? ⟨g11, 1, none⟩ = some (.slice D2 s.cache.length Dd2) ∧ w'.cell? ⟨g11, 2, none⟩ = some (.bool s.failed) ∧ w'.cell? ⟨g11, 3, none⟩ = some (.slice D3 s.bad.length Dd3) ∧ w'.cell? ⟨g16, 0, none⟩ = some (.slice G1 (failV x).secs.length Gd1) ∧ w'.cell? ⟨g16, 1, none⟩ = some (.slice G2 (failV x).cache.length Gd2) ∧ w'.cell? ⟨g16, 2, none⟩ = some (.bool (failV x).failed) ∧ w'.cell? ⟨g16, 3, none⟩ = some (.slice G3 (failV x).bad.length Gd3)) w35 := ⟨bm_0, bm_1, bm_2, bm_3, bf_0, bf_1, bf_2, bf_3, bs_0, bs_1, bs_2, bs_3, by_0, by_1, by_2, by_3⟩
  refine hK.out _ _ ⟨fun _ _ => hS, ?_⟩; clear hK K; (try simp only [Act.put, List.getElem_toArray, List.getElem_cons_succ, List.getElem_cons_zero, List.setIfInBounds_toArray, List.set_cons_zero, List.set_cons_succ])
  have hq := HS35.out.sel [2, 3, 4, 5, 6, 7, 8, 9, 10] (by decide) (by simp)
  simp only [List.map_cons, List.map_nil, pick, List.getD_cons_succ, List.getD_cons_zero, List.set_cons_zero, List.set_cons_succ, List.eraseIdx_cons_zero, List.eraseIdx_cons_succ, List.setIfInBounds_toArray] at hq
  have HS36 := Aside0.mk (hq)
  clear hq hS
  clear bm_0 bm_1 bm_2 bm_3 bf_0 bf_1 bf_2 bf_3 bs_0 bs_1 bs_2 bs_3 by_0 by_1 by_2 by_3; obtain ⟨bm_0, bm_1, bm_2, bm_3⟩ := four (HS36.out.get 0 rfl); obtain ⟨bf_0, bf_1, bf_2, bf_3⟩ := four (HS36.out.get 2 rfl); obtain ⟨bs_0, bs_1, bs_2, bs_3⟩ := four (HS36.out.get 4 rfl); obtain ⟨by_0, by_1, by_2, by_3⟩ := four (HS36.out.get 6 rfl)
  have hS : (fun w' : World => w'.cell? ⟨g3, 0, none⟩ = some (.slice A1 m.secs.length Ad1) ∧ w'.cell? ⟨g3, 1, none⟩ = some (.slice A2 m.cache.length Ad2) ∧ w'.cell? ⟨g3, 2, none⟩ = some (.bool m.failed) ∧ w'.cell? ⟨g3, 3, none⟩ = some (.slice A3 m.bad.length Ad3) ∧ w'.cell? ⟨g9, 0, none⟩ = some (.slice C1 f.secs.length Cd1) ∧ w'.cell? ⟨g9, 1, none⟩ = some (.slice C2 f.cache.length Cd2) ∧ w'.cell? ⟨g9, 2, none⟩ = some (.bool f.failed) ∧ w'.cell? ⟨g9, 3, none⟩ = some (.slice C3 f.bad.length Cd3) ∧ w'.cell? ⟨g11, 0, none⟩ = some (.slice D1 s.secs.length Dd1) ∧ w'.cell? ⟨g11, 1, none⟩ = some (.slice D2 s.cache.length Dd2) ∧ w'.cell? ⟨g11, 2, none⟩ = some (.bool s.failed) ∧ w'.cell? ⟨g11, 3, none⟩ = some (.slice D3 s.bad.length Dd3) ∧ w'.cell? ⟨g16, 0, none⟩ = some (.slice G1 (failV x).secs.length Gd1) ∧ w'.cell? ⟨g16, 1, none⟩ = some (.slice G2 (failV x).cache.length Gd2) ∧ w'.cell? ⟨g16, 2, none⟩ = some (.bool (failV x).failed) ∧ w'.cell? ⟨g16, 3, none⟩ = some (.slice G3 (failV x).bad.length Gd3)) w35 := ⟨bm_0, bm_1, bm_2, bm_3, bf_0, bf_1, bf_2, bf_3, bs_0, bs_1, bs_2, bs_3, by_0, by_1, by_2, by_3⟩
  iterate 1 (refine seqp_pure rfl (fun _ _ _ h => h) (by rfl) (fun w_ => by go_simp; first | done | with_reducible rfl) ?_; (try simp only [Act.put, List.getElem_toArray, List.getElem_cons_succ, List.getElem_cons_zero, List.setIfInBounds_toArray, List.set_cons_zero, List.set_cons_succ]))
  refine seqp_step rfl (fun K hK => ?_)
  go_simp
  refine hK.out _ _ ⟨fun _ _ => hS, ?_⟩; clear hK K; (try simp only [Act.put, List.getElem_toArray, List.getElem_cons_succ, List.getElem_cons_zero, List.setIfInBounds_toArray, List.set_cons_zero, List.set_cons_succ])
  clear hS
  refine seqp_done ?_
  go_wp2
  go_ret
  exact ⟨rfl, HS36.out.toBelow⟩
end Go.Proofs.Ytlmnmcfieagmbaa.LawFnMemsBent
