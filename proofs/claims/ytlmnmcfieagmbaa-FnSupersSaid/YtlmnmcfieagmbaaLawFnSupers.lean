/- The law FnSupers: it returns true. -/
import Derived.Test.YtlmnmcfieagmbaaMDraw9
import Derived.Test.YtlmnmcfieagmbaaMSame
import Derived.Test.YtlmnmcfieagmbaaPSupers
import Derived.Test.YtlmnmcfieagmbaaMDrawA
import Derived.Test.YtlmnmcfieagmbaaMLaw
import Derived.Test.YtlmnmcfieagmbaaRQ
namespace Go.Proofs.Ytlmnmcfieagmbaa.LawFnSupers
open Go.RowKit Go.Proofs.Ytlmnmcfieagmbaa.RJ Go.Proofs.Ytlmnmcfieagmbaa.RP Go.Proofs.Ytlmnmcfieagmbaa.RQ Go.Proofs.YtlmnmcfieagmbaaW.PrintWords Go.Proofs.Ytlmnmcfieagmbaa.Fp Go.Proofs.Ytlmnmcfieagmbaa.FpStep Go.Proofs.Ytlmnmcfieagmbaa.MInt Go.Proofs.Ytlmnmcfieagmbaa.MKinds Go.Proofs.Ytlmnmcfieagmbaa.MRead Go.Proofs.Ytlmnmcfieagmbaa.MMake Go.Proofs.Ytlmnmcfieagmbaa.MPut Go.Proofs.Ytlmnmcfieagmbaa.MOk Go.Proofs.Ytlmnmcfieagmbaa.MVal Go.Proofs.Ytlmnmcfieagmbaa.MValB Go.Proofs.Ytlmnmcfieagmbaa.Sep Go.Proofs.Ytlmnmcfieagmbaa.SepStep Go.Proofs.Ytlmnmcfieagmbaa.MSuper Go.Proofs.Ytlmnmcfieagmbaa.MReadS Go.Proofs.Ytlmnmcfieagmbaa.MDraw Go.Proofs.Ytlmnmcfieagmbaa.MSame Go.Proofs.Ytlmnmcfieagmbaa.MLaw Go.Proofs.Ytlmnmcfieagmbaa.MSuper Go.Proofs.Ytlmnmcfieagmbaa.MBest Go.Proofs.Ytlmnmcfieagmbaa.MWSuper Go.Proofs.Ytlmnmcfieagmbaa.MDraw7 Go.Proofs.Ytlmnmcfieagmbaa.MDraw8 Go.Proofs.Ytlmnmcfieagmbaa.MDraw9 Go.Proofs.Ytlmnmcfieagmbaa.PNewer Go.Proofs.Ytlmnmcfieagmbaa.PSupers Go.Proofs.Ytlmnmcfieagmbaa.MDrawA
set_option linter.unusedVariables false
set_option linter.unusedSimpArgs false
attribute [local go_sem ↓] Go.wp_at_zero Go.wp_at_succ
set_option maxHeartbeats 8000000 in
set_option maxRecDepth 100000 in
theorem law_FnSupers {w : World} {B : Value} {bs : List Int} (hB : RK (Kd.int .u8) w B bs) : Calls Try.prog 6 #[B] w fun e w' => e = .returned (.bool true) ∧ Below w.heap.size w w' := by
  have HC := Aside0.mk hB
  have lx := RK_len hB
  obtain ⟨BA, Bc, rfl, _, _⟩ := hB
  by_cases hl0 : (1048576 : Int) < (bs.length : Int)
  · go_enter Try.func6, Try.ntmps6
    go_wp2_with (first | (go_at_call 18; refine (c_big HC.out).mono ?_; rw [decide_eq_true hl0]; rintro e w1 ⟨rfl, hb⟩; have HS1 := Aside0.mk ((Sep.start w []).dr hb); clear hb) | fail)
    go_ret
    exact ⟨rfl, HS1.out.toBelow⟩
  have hl : bs.length ≤ 16777216 := by omega
  go_enter Try.func6, Try.ntmps6
  go_upto_region 3 with (first | (go_at_call 18; refine (c_big HC.out).mono ?_; rw [decide_eq_false hl0]; rintro e w1 ⟨rfl, hb⟩; have HS1 := Aside0.mk ((Sep.start w []).dr hb); clear hb) | fail)
  clear hl0
  go_upto_region 4 with (first
    | (go_at_call 41; refine (c_DrawPutSuper (HS1.out.rk HC.out) hl).mono ?_; rintro e w2 ⟨s, he, hs⟩; simp only [supA] at he; subst he; have hq := Sep.comp HS1.out hs; simp only [List.cons_append, List.nil_append] at hq; have HS2 := Aside0.mk hq; clear hs hq HS1)
    | fail)
  have hB := HS2.out.alloc (g := w2.heap.size) rfl #[.int .i64 s.id, .int .i64 s.gen, .int .i64 s.role, .int .i64 s.n, .int .i64 s.st, .int .i64 s.tail, .int .i64 s.lost, .int .i64 s.built] 53
  generalize hgg : w2.heap.size = g3 at *
  generalize hww : w2.alloc (.cells #[.int .i64 s.id, .int .i64 s.gen, .int .i64 s.role, .int .i64 s.n, .int .i64 s.st, .int .i64 s.tail, .int .i64 s.lost, .int .i64 s.built] 53 (0, 0)) = w3 at *
  have HS3 := Aside0.mk hB
  clear hB hgg hww HS2
  obtain ⟨s_0, s_1, s_2, s_3, s_4, s_5, s_6, s_7⟩ := eight (HS3.out.get 0 rfl)
  obtain ⟨ps, hps⟩ : ∃ ps, putSup ⟨s.id, s.gen, s.role, s.n, s.st, s.tail, s.lost, s.built⟩ = ps := ⟨_, rfl⟩
  have HP := Aside0.mk hps
  clear hps
  go_upto_region 5 with (first
    | (go_at_call 42; refine (c_implPutSuper _ _ _ _ _ _ _ _ _).mono ?_; rw [HP.out]; rintro e w4 ⟨u4, F4, rfl, hn⟩; obtain ⟨P4, p4, rfl, hz⟩ := O_reads (show oInt.O 3 w4 F4 u4 _ from hn.lies.now); clear hz; have HS4 := Aside0.mk (HS3.out.new hn); clear hn HS3 s_0 s_1 s_2 s_3 s_4 s_5 s_6 s_7)
    | fail)
  go_upto_region 6 with (first
    | (go_at_call 43; refine (c_DrawGetSuper (HS4.out.rk HC.out) hl).mono ?_; rintro e w5 ⟨A, n, c, F5, ys, rfl, hn9, hy9, hyb, hs⟩; have hq := Sep.comp HS4.out hs; simp only [List.cons_append, List.nil_append] at hq; have HN9 := Aside0.mk hn9; have HYB := Aside0.mk (show ∀ z ∈ ys.take n, -1 ≤ z ∧ z ≤ 60001 from fun z hz => hyb z (List.mem_of_mem_take hz)); have HS5 := Aside0.mk hq; clear hn9 hy9 hyb hs hq HS4)
    | fail)
  obtain ⟨l, hll⟩ : ∃ l, ys.take n = l := ⟨_, rfl⟩
  have HL := Aside0.mk hll
  rw [hll] at HYB
  clear hll
  obtain ⟨y, hy⟩ : ∃ y, getS l = y := ⟨_, rfl⟩
  have HY := Aside0.mk hy
  clear hy
  obtain ⟨is, his⟩ : ∃ is, getB l = is := ⟨_, rfl⟩
  have HIS := Aside0.mk his
  clear his
  go_upto_region 7 with (first
    | (go_at_call 44; refine (c_implGetSuper (show RK kInt _ _ l by rw [← HL.out]; exact RK_take (O_RK (show oInt.O 3 _ F5 (.slice A 9 c) ys from HS5.out.get 0 rfl)) HN9.out)).mono ?_; rw [HY.out, HIS.out]; rintro e w6 ⟨he, hb⟩; simp only [supA] at he; subst he; have HS6 := Aside0.mk (HS5.out.below hb); clear hb)
    | fail)
  clear HS5
  have hB := HS6.out.alloc (g := w6.heap.size) rfl #[.int .i64 y.id, .int .i64 y.gen, .int .i64 y.role, .int .i64 y.n, .int .i64 y.st, .int .i64 y.tail, .int .i64 y.lost, .int .i64 y.built] 53
  generalize hgg : w6.heap.size = g7 at *
  generalize hww : w6.alloc (.cells #[.int .i64 y.id, .int .i64 y.gen, .int .i64 y.role, .int .i64 y.n, .int .i64 y.st, .int .i64 y.tail, .int .i64 y.lost, .int .i64 y.built] 53 (0, 0)) = w7 at *
  have HS7 := Aside0.mk hB
  clear hB hgg hww HS6
  go_upto_region 8 with (first
    | (go_at_call 45; refine (c_specGetSuper (show RK kInt _ _ l by rw [← HL.out]; exact RK_take (O_RK (show oInt.O 3 _ F5 (.slice A 9 c) ys from HS7.out.get 1 rfl)) HN9.out)).mono ?_; rw [HY.out, HIS.out]; rintro e w8 ⟨he, hb⟩; simp only [supA] at he; subst he; have HS8 := Aside0.mk (HS7.out.below hb); clear hb)
    | fail)
  clear HS7
  have hB := HS8.out.alloc (g := w8.heap.size) rfl #[.int .i64 y.id, .int .i64 y.gen, .int .i64 y.role, .int .i64 y.n, .int .i64 y.st, .int .i64 y.tail, .int .i64 y.lost, .int .i64 y.built] 53
  generalize hgg : w8.heap.size = g9 at *
  generalize hww : w8.alloc (.cells #[.int .i64 y.id, .int .i64 y.gen, .int .i64 y.role, .int .i64 y.n, .int .i64 y.st, .int .i64 y.tail, .int .i64 y.lost, .int .i64 y.built] 53 (0, 0)) = w9 at *
  have HS9 := Aside0.mk hB
  clear hB hgg hww HS8
  go_upto_region 9 with (first
    | (go_at_call 46; refine (c_DrawBestSuper (HS9.out.rk HC.out) hl).mono ?_; rintro e w10 ⟨um, Fm, m, bi, rfl, hm, hs⟩; obtain ⟨A1, d1, A2, d2, A3, d3, rfl⟩ := me_form hs; have hq := Sep.comp HS9.out hs; simp only [List.cons_append, List.nil_append] at hq; have HM := Aside0.mk hm; have HS10 := Aside0.mk hq; clear hm hs hq HS9)
    | fail)
  have hB := HS10.out.alloc (g := w10.heap.size) rfl #[.slice A1 m.secs.length d1, .slice A2 m.cache.length d2, .bool m.failed, .slice A3 m.bad.length d3] 30
  generalize hgg : w10.heap.size = g11 at *
  generalize hww : w10.alloc (.cells #[.slice A1 m.secs.length d1, .slice A2 m.cache.length d2, .bool m.failed, .slice A3 m.bad.length d3] 30 (0, 0)) = w11 at *
  have HS11 := Aside0.mk hB
  clear hB hgg hww HS10
  obtain ⟨⟨b, fo⟩, hbb⟩ : ∃ r, bestN m bi 2 = r := ⟨_, rfl⟩
  have HBB := Aside0.mk hbb
  clear hbb
  obtain ⟨m_0, m_1, m_2, m_3⟩ := four (HS11.out.get 0 rfl)
  go_upto_region 10 with (first
    | (go_at_call 47; refine (c_implBestSuper (MemO_R (HS11.out.get 1 rfl)) (tiny_small HM.out)).mono ?_; rw [HBB.out]; rintro e w12 ⟨he, hb⟩; simp only [supA] at he; subst he; have HS12 := Aside0.mk (HS11.out.below hb); clear hb m_0 m_1 m_2 m_3)
    | fail)
  clear HS11
  have hB := HS12.out.alloc (g := w12.heap.size) rfl #[.int .i64 b.id, .int .i64 b.gen, .int .i64 b.role, .int .i64 b.n, .int .i64 b.st, .int .i64 b.tail, .int .i64 b.lost, .int .i64 b.built] 53
  generalize hgg : w12.heap.size = g13 at *
  generalize hww : w12.alloc (.cells #[.int .i64 b.id, .int .i64 b.gen, .int .i64 b.role, .int .i64 b.n, .int .i64 b.st, .int .i64 b.tail, .int .i64 b.lost, .int .i64 b.built] 53 (0, 0)) = w13 at *
  have HS13 := Aside0.mk hB
  clear hB hgg hww HS12
  obtain ⟨m_0, m_1, m_2, m_3⟩ := four (HS13.out.get 1 rfl)
  go_upto_region 11 with (first
    | (go_at_call 48; refine (c_specBestSuper (MemO_R (HS13.out.get 2 rfl)) (tiny_small HM.out)).mono ?_; rw [HBB.out]; rintro e w14 ⟨he, hb⟩; simp only [supA] at he; subst he; have HS14 := Aside0.mk (HS13.out.below hb); clear hb m_0 m_1 m_2 m_3)
    | fail)
  clear HS13
  have hB := HS14.out.alloc (g := w14.heap.size) rfl #[.int .i64 b.id, .int .i64 b.gen, .int .i64 b.role, .int .i64 b.n, .int .i64 b.st, .int .i64 b.tail, .int .i64 b.lost, .int .i64 b.built] 53
  generalize hgg : w14.heap.size = g15 at *
  generalize hww : w14.alloc (.cells #[.int .i64 b.id, .int .i64 b.gen, .int .i64 b.role, .int .i64 b.n, .int .i64 b.st, .int .i64 b.tail, .int .i64 b.lost, .int .i64 b.built] 53 (0, 0)) = w15 at *
  have HS15 := Aside0.mk hB
  clear hB hgg hww HS14
  obtain ⟨b_0, b_1, b_2, b_3, b_4, b_5, b_6, b_7⟩ := eight (HS15.out.get 0 rfl)
  obtain ⟨c_0, c_1, c_2, c_3, c_4, c_5, c_6, c_7⟩ := eight (HS15.out.get 1 rfl)
  obtain ⟨y_0, y_1, y_2, y_3, y_4, y_5, y_6, y_7⟩ := eight (HS15.out.get 5 rfl)
  obtain ⟨s_0, s_1, s_2, s_3, s_4, s_5, s_6, s_7⟩ := eight (HS15.out.get 8 rfl)
  obtain ⟨sb, hsb⟩ : ∃ sb, supB ⟨s.id, s.gen, s.role, s.n, s.st, s.tail, s.lost, s.built⟩ = sb := ⟨_, rfl⟩
  have HSB := Aside0.mk hsb
  clear hsb
  cases is
  · cases sb
    · have HLZ := Aside0.mk (show ps = [] by rw [← HP.out]; unfold putSup; rw [HSB.out]; rfl)
      obtain rfl := HLZ.out
      go_upto_region 13 with (first
        | (fail)
        | fail)
      go_upto_region 14 with (first
        | (go_at_call 50; refine (c_specSuperOk _ _ _ _ _ _ _ _ _).mono ?_; rw [HSB.out]; rintro e w20 ⟨rfl, hb⟩; have HS20 := Aside0.mk (HS15.out.below hb); clear hb b_0 b_1 b_2 b_3 b_4 b_5 b_6 b_7 c_0 c_1 c_2 c_3 c_4 c_5 c_6 c_7 y_0 y_1 y_2 y_3 y_4 y_5 y_6 y_7 s_0 s_1 s_2 s_3 s_4 s_5 s_6 s_7; obtain ⟨b_0, b_1, b_2, b_3, b_4, b_5, b_6, b_7⟩ := eight (HS20.out.get 0 rfl); obtain ⟨c_0, c_1, c_2, c_3, c_4, c_5, c_6, c_7⟩ := eight (HS20.out.get 1 rfl); obtain ⟨y_0, y_1, y_2, y_3, y_4, y_5, y_6, y_7⟩ := eight (HS20.out.get 5 rfl); obtain ⟨s_0, s_1, s_2, s_3, s_4, s_5, s_6, s_7⟩ := eight (HS20.out.get 8 rfl))
        | fail)
      go_wp2_with (first
        | (go_at_call 49; refine (c_implSuperOk _ _ _ _ _ _ _ _ _).mono ?_; rw [HSB.out]; rintro e w21 ⟨rfl, hb⟩; have HS21 := Aside0.mk (HS20.out.below hb); clear hb)
        | fail)
      go_ret
      exact ⟨by first | rfl | simp, HS21.out.toBelow⟩
    · have HG := Aside0.mk (show getS ps = s ∧ getB ps = true by rw [← HP.out]; exact ⟨(put_back HSB.out).2, (put_back HSB.out).1⟩)
      go_upto_region 13 with (first
        | (fail)
        | fail)
      go_upto_region 15 with (first
        | (go_at_call 50; refine (c_specSuperOk _ _ _ _ _ _ _ _ _).mono ?_; rw [HSB.out]; rintro e w20 ⟨rfl, hb⟩; have HS20 := Aside0.mk (HS15.out.below hb); clear hb b_0 b_1 b_2 b_3 b_4 b_5 b_6 b_7 c_0 c_1 c_2 c_3 c_4 c_5 c_6 c_7 y_0 y_1 y_2 y_3 y_4 y_5 y_6 y_7 s_0 s_1 s_2 s_3 s_4 s_5 s_6 s_7; obtain ⟨b_0, b_1, b_2, b_3, b_4, b_5, b_6, b_7⟩ := eight (HS20.out.get 0 rfl); obtain ⟨c_0, c_1, c_2, c_3, c_4, c_5, c_6, c_7⟩ := eight (HS20.out.get 1 rfl); obtain ⟨y_0, y_1, y_2, y_3, y_4, y_5, y_6, y_7⟩ := eight (HS20.out.get 5 rfl); obtain ⟨s_0, s_1, s_2, s_3, s_4, s_5, s_6, s_7⟩ := eight (HS20.out.get 8 rfl))
        | fail)
      go_upto_region 16 with (first
        | (go_at_call 44; refine (c_implGetSuper (O_RK (show oInt.O 3 _ F4 _ ps from HS20.out.get 7 rfl))).mono ?_; rw [HG.out.1, HG.out.2]; rintro e w21 ⟨he, hb⟩; simp only [supA] at he; subst he; have HS21 := Aside0.mk (HS20.out.below hb); clear hb b_0 b_1 b_2 b_3 b_4 b_5 b_6 b_7 c_0 c_1 c_2 c_3 c_4 c_5 c_6 c_7 y_0 y_1 y_2 y_3 y_4 y_5 y_6 y_7 s_0 s_1 s_2 s_3 s_4 s_5 s_6 s_7; obtain ⟨b_0, b_1, b_2, b_3, b_4, b_5, b_6, b_7⟩ := eight (HS21.out.get 0 rfl); obtain ⟨c_0, c_1, c_2, c_3, c_4, c_5, c_6, c_7⟩ := eight (HS21.out.get 1 rfl); obtain ⟨y_0, y_1, y_2, y_3, y_4, y_5, y_6, y_7⟩ := eight (HS21.out.get 5 rfl); obtain ⟨s_0, s_1, s_2, s_3, s_4, s_5, s_6, s_7⟩ := eight (HS21.out.get 8 rfl))
        | fail)
      have hB := HS21.out.alloc (g := w21.heap.size) rfl #[.int .i64 s.id, .int .i64 s.gen, .int .i64 s.role, .int .i64 s.n, .int .i64 s.st, .int .i64 s.tail, .int .i64 s.lost, .int .i64 s.built] 53
      generalize hgg : w21.heap.size = g22 at *
      generalize hww : w21.alloc (.cells #[.int .i64 s.id, .int .i64 s.gen, .int .i64 s.role, .int .i64 s.n, .int .i64 s.st, .int .i64 s.tail, .int .i64 s.lost, .int .i64 s.built] 53 (0, 0)) = w22 at *
      have HS22 := Aside0.mk hB
      clear hB hgg hww HS21 b_0 b_1 b_2 b_3 b_4 b_5 b_6 b_7 c_0 c_1 c_2 c_3 c_4 c_5 c_6 c_7 y_0 y_1 y_2 y_3 y_4 y_5 y_6 y_7 s_0 s_1 s_2 s_3 s_4 s_5 s_6 s_7
      obtain ⟨t_0, t_1, t_2, t_3, t_4, t_5, t_6, t_7⟩ := eight (HS22.out.get 0 rfl)
      obtain ⟨s_0, s_1, s_2, s_3, s_4, s_5, s_6, s_7⟩ := eight (HS22.out.get 9 rfl)
      go_wp2_with (first
        | (go_at_call 49; refine (c_implSuperOk _ _ _ _ _ _ _ _ _).mono ?_; rw [HSB.out]; rintro e w23 ⟨rfl, hb⟩; have HS23 := Aside0.mk (HS22.out.below hb); clear hb)
        | fail)
      go_ret
      exact ⟨by first | rfl | simp, HS23.out.toBelow⟩
  · have HYS := Aside0.mk (show supB y = true ∧ putSup y = l by rw [← HY.out]; exact get_put HYB.out HIS.out)
    cases sb
    · have HLZ := Aside0.mk (show ps = [] by rw [← HP.out]; unfold putSup; rw [HSB.out]; rfl)
      obtain rfl := HLZ.out
      go_upto_region 13 with (first
        | (go_at_call 30; refine (c_sameInts (O_RK (show oInt.O 3 _ F17 _ l from HS17.out.get 0 rfl)) (show RK kInt _ _ l by rw [← HL.out]; exact RK_take (O_RK (show oInt.O 3 _ F5 (.slice A 9 c) ys from HS17.out.get 7 rfl)) HN9.out)).mono ?_; rw [decide_eq_true rfl]; rintro e w18 ⟨rfl, hb⟩; have HS18 := Aside0.mk ((HS17.out.drop 0 rfl).dr hb); simp only [List.eraseIdx_cons_zero] at HS18; clear hb b_0 b_1 b_2 b_3 b_4 b_5 b_6 b_7 c_0 c_1 c_2 c_3 c_4 c_5 c_6 c_7 y_0 y_1 y_2 y_3 y_4 y_5 y_6 y_7 s_0 s_1 s_2 s_3 s_4 s_5 s_6 s_7; obtain ⟨b_0, b_1, b_2, b_3, b_4, b_5, b_6, b_7⟩ := eight (HS18.out.get 0 rfl); obtain ⟨c_0, c_1, c_2, c_3, c_4, c_5, c_6, c_7⟩ := eight (HS18.out.get 1 rfl); obtain ⟨y_0, y_1, y_2, y_3, y_4, y_5, y_6, y_7⟩ := eight (HS18.out.get 5 rfl); obtain ⟨s_0, s_1, s_2, s_3, s_4, s_5, s_6, s_7⟩ := eight (HS18.out.get 8 rfl))
        | (go_at_call 42; refine (c_implPutSuper _ _ _ _ _ _ _ _ _).mono ?_; rw [show putSup ⟨y.id, y.gen, y.role, y.n, y.st, y.tail, y.lost, y.built⟩ = l from HYS.out.2]; rintro e w17 ⟨u17, F17, rfl, hn⟩; have HS17 := Aside0.mk (HS16.out.new hn); clear hn b_0 b_1 b_2 b_3 b_4 b_5 b_6 b_7 c_0 c_1 c_2 c_3 c_4 c_5 c_6 c_7 y_0 y_1 y_2 y_3 y_4 y_5 y_6 y_7 s_0 s_1 s_2 s_3 s_4 s_5 s_6 s_7; obtain ⟨b_0, b_1, b_2, b_3, b_4, b_5, b_6, b_7⟩ := eight (HS17.out.get 1 rfl); obtain ⟨c_0, c_1, c_2, c_3, c_4, c_5, c_6, c_7⟩ := eight (HS17.out.get 2 rfl); obtain ⟨y_0, y_1, y_2, y_3, y_4, y_5, y_6, y_7⟩ := eight (HS17.out.get 6 rfl); obtain ⟨s_0, s_1, s_2, s_3, s_4, s_5, s_6, s_7⟩ := eight (HS17.out.get 9 rfl))
        | (go_at_call 49; refine (c_implSuperOk _ _ _ _ _ _ _ _ _).mono ?_; rw [show supB ⟨y.id, y.gen, y.role, y.n, y.st, y.tail, y.lost, y.built⟩ = true from HYS.out.1]; rintro e w16 ⟨rfl, hb⟩; have HS16 := Aside0.mk (HS15.out.below hb); clear hb b_0 b_1 b_2 b_3 b_4 b_5 b_6 b_7 c_0 c_1 c_2 c_3 c_4 c_5 c_6 c_7 y_0 y_1 y_2 y_3 y_4 y_5 y_6 y_7 s_0 s_1 s_2 s_3 s_4 s_5 s_6 s_7; obtain ⟨b_0, b_1, b_2, b_3, b_4, b_5, b_6, b_7⟩ := eight (HS16.out.get 0 rfl); obtain ⟨c_0, c_1, c_2, c_3, c_4, c_5, c_6, c_7⟩ := eight (HS16.out.get 1 rfl); obtain ⟨y_0, y_1, y_2, y_3, y_4, y_5, y_6, y_7⟩ := eight (HS16.out.get 5 rfl); obtain ⟨s_0, s_1, s_2, s_3, s_4, s_5, s_6, s_7⟩ := eight (HS16.out.get 8 rfl))
        | fail)
      go_upto_region 14 with (first
        | (go_at_call 50; refine (c_specSuperOk _ _ _ _ _ _ _ _ _).mono ?_; rw [HSB.out]; rintro e w20 ⟨rfl, hb⟩; have HS20 := Aside0.mk (HS18.out.below hb); clear hb b_0 b_1 b_2 b_3 b_4 b_5 b_6 b_7 c_0 c_1 c_2 c_3 c_4 c_5 c_6 c_7 y_0 y_1 y_2 y_3 y_4 y_5 y_6 y_7 s_0 s_1 s_2 s_3 s_4 s_5 s_6 s_7; obtain ⟨b_0, b_1, b_2, b_3, b_4, b_5, b_6, b_7⟩ := eight (HS20.out.get 0 rfl); obtain ⟨c_0, c_1, c_2, c_3, c_4, c_5, c_6, c_7⟩ := eight (HS20.out.get 1 rfl); obtain ⟨y_0, y_1, y_2, y_3, y_4, y_5, y_6, y_7⟩ := eight (HS20.out.get 5 rfl); obtain ⟨s_0, s_1, s_2, s_3, s_4, s_5, s_6, s_7⟩ := eight (HS20.out.get 8 rfl))
        | fail)
      go_wp2_with (first
        | (go_at_call 49; refine (c_implSuperOk _ _ _ _ _ _ _ _ _).mono ?_; rw [HSB.out]; rintro e w21 ⟨rfl, hb⟩; have HS21 := Aside0.mk (HS20.out.below hb); clear hb)
        | fail)
      go_ret
      exact ⟨by first | rfl | simp, HS21.out.toBelow⟩
    · have HG := Aside0.mk (show getS ps = s ∧ getB ps = true by rw [← HP.out]; exact ⟨(put_back HSB.out).2, (put_back HSB.out).1⟩)
      go_upto_region 13 with (first
        | (go_at_call 30; refine (c_sameInts (O_RK (show oInt.O 3 _ F17 _ l from HS17.out.get 0 rfl)) (show RK kInt _ _ l by rw [← HL.out]; exact RK_take (O_RK (show oInt.O 3 _ F5 (.slice A 9 c) ys from HS17.out.get 7 rfl)) HN9.out)).mono ?_; rw [decide_eq_true rfl]; rintro e w18 ⟨rfl, hb⟩; have HS18 := Aside0.mk ((HS17.out.drop 0 rfl).dr hb); simp only [List.eraseIdx_cons_zero] at HS18; clear hb b_0 b_1 b_2 b_3 b_4 b_5 b_6 b_7 c_0 c_1 c_2 c_3 c_4 c_5 c_6 c_7 y_0 y_1 y_2 y_3 y_4 y_5 y_6 y_7 s_0 s_1 s_2 s_3 s_4 s_5 s_6 s_7; obtain ⟨b_0, b_1, b_2, b_3, b_4, b_5, b_6, b_7⟩ := eight (HS18.out.get 0 rfl); obtain ⟨c_0, c_1, c_2, c_3, c_4, c_5, c_6, c_7⟩ := eight (HS18.out.get 1 rfl); obtain ⟨y_0, y_1, y_2, y_3, y_4, y_5, y_6, y_7⟩ := eight (HS18.out.get 5 rfl); obtain ⟨s_0, s_1, s_2, s_3, s_4, s_5, s_6, s_7⟩ := eight (HS18.out.get 8 rfl))
        | (go_at_call 42; refine (c_implPutSuper _ _ _ _ _ _ _ _ _).mono ?_; rw [show putSup ⟨y.id, y.gen, y.role, y.n, y.st, y.tail, y.lost, y.built⟩ = l from HYS.out.2]; rintro e w17 ⟨u17, F17, rfl, hn⟩; have HS17 := Aside0.mk (HS16.out.new hn); clear hn b_0 b_1 b_2 b_3 b_4 b_5 b_6 b_7 c_0 c_1 c_2 c_3 c_4 c_5 c_6 c_7 y_0 y_1 y_2 y_3 y_4 y_5 y_6 y_7 s_0 s_1 s_2 s_3 s_4 s_5 s_6 s_7; obtain ⟨b_0, b_1, b_2, b_3, b_4, b_5, b_6, b_7⟩ := eight (HS17.out.get 1 rfl); obtain ⟨c_0, c_1, c_2, c_3, c_4, c_5, c_6, c_7⟩ := eight (HS17.out.get 2 rfl); obtain ⟨y_0, y_1, y_2, y_3, y_4, y_5, y_6, y_7⟩ := eight (HS17.out.get 6 rfl); obtain ⟨s_0, s_1, s_2, s_3, s_4, s_5, s_6, s_7⟩ := eight (HS17.out.get 9 rfl))
        | (go_at_call 49; refine (c_implSuperOk _ _ _ _ _ _ _ _ _).mono ?_; rw [show supB ⟨y.id, y.gen, y.role, y.n, y.st, y.tail, y.lost, y.built⟩ = true from HYS.out.1]; rintro e w16 ⟨rfl, hb⟩; have HS16 := Aside0.mk (HS15.out.below hb); clear hb b_0 b_1 b_2 b_3 b_4 b_5 b_6 b_7 c_0 c_1 c_2 c_3 c_4 c_5 c_6 c_7 y_0 y_1 y_2 y_3 y_4 y_5 y_6 y_7 s_0 s_1 s_2 s_3 s_4 s_5 s_6 s_7; obtain ⟨b_0, b_1, b_2, b_3, b_4, b_5, b_6, b_7⟩ := eight (HS16.out.get 0 rfl); obtain ⟨c_0, c_1, c_2, c_3, c_4, c_5, c_6, c_7⟩ := eight (HS16.out.get 1 rfl); obtain ⟨y_0, y_1, y_2, y_3, y_4, y_5, y_6, y_7⟩ := eight (HS16.out.get 5 rfl); obtain ⟨s_0, s_1, s_2, s_3, s_4, s_5, s_6, s_7⟩ := eight (HS16.out.get 8 rfl))
        | fail)
      go_upto_region 15 with (first
        | (go_at_call 50; refine (c_specSuperOk _ _ _ _ _ _ _ _ _).mono ?_; rw [HSB.out]; rintro e w20 ⟨rfl, hb⟩; have HS20 := Aside0.mk (HS18.out.below hb); clear hb b_0 b_1 b_2 b_3 b_4 b_5 b_6 b_7 c_0 c_1 c_2 c_3 c_4 c_5 c_6 c_7 y_0 y_1 y_2 y_3 y_4 y_5 y_6 y_7 s_0 s_1 s_2 s_3 s_4 s_5 s_6 s_7; obtain ⟨b_0, b_1, b_2, b_3, b_4, b_5, b_6, b_7⟩ := eight (HS20.out.get 0 rfl); obtain ⟨c_0, c_1, c_2, c_3, c_4, c_5, c_6, c_7⟩ := eight (HS20.out.get 1 rfl); obtain ⟨y_0, y_1, y_2, y_3, y_4, y_5, y_6, y_7⟩ := eight (HS20.out.get 5 rfl); obtain ⟨s_0, s_1, s_2, s_3, s_4, s_5, s_6, s_7⟩ := eight (HS20.out.get 8 rfl))
        | fail)
      go_upto_region 16 with (first
        | (go_at_call 44; refine (c_implGetSuper (O_RK (show oInt.O 3 _ F4 _ ps from HS20.out.get 7 rfl))).mono ?_; rw [HG.out.1, HG.out.2]; rintro e w21 ⟨he, hb⟩; simp only [supA] at he; subst he; have HS21 := Aside0.mk (HS20.out.below hb); clear hb b_0 b_1 b_2 b_3 b_4 b_5 b_6 b_7 c_0 c_1 c_2 c_3 c_4 c_5 c_6 c_7 y_0 y_1 y_2 y_3 y_4 y_5 y_6 y_7 s_0 s_1 s_2 s_3 s_4 s_5 s_6 s_7; obtain ⟨b_0, b_1, b_2, b_3, b_4, b_5, b_6, b_7⟩ := eight (HS21.out.get 0 rfl); obtain ⟨c_0, c_1, c_2, c_3, c_4, c_5, c_6, c_7⟩ := eight (HS21.out.get 1 rfl); obtain ⟨y_0, y_1, y_2, y_3, y_4, y_5, y_6, y_7⟩ := eight (HS21.out.get 5 rfl); obtain ⟨s_0, s_1, s_2, s_3, s_4, s_5, s_6, s_7⟩ := eight (HS21.out.get 8 rfl))
        | fail)
      have hB := HS21.out.alloc (g := w21.heap.size) rfl #[.int .i64 s.id, .int .i64 s.gen, .int .i64 s.role, .int .i64 s.n, .int .i64 s.st, .int .i64 s.tail, .int .i64 s.lost, .int .i64 s.built] 53
      generalize hgg : w21.heap.size = g22 at *
      generalize hww : w21.alloc (.cells #[.int .i64 s.id, .int .i64 s.gen, .int .i64 s.role, .int .i64 s.n, .int .i64 s.st, .int .i64 s.tail, .int .i64 s.lost, .int .i64 s.built] 53 (0, 0)) = w22 at *
      have HS22 := Aside0.mk hB
      clear hB hgg hww HS21 b_0 b_1 b_2 b_3 b_4 b_5 b_6 b_7 c_0 c_1 c_2 c_3 c_4 c_5 c_6 c_7 y_0 y_1 y_2 y_3 y_4 y_5 y_6 y_7 s_0 s_1 s_2 s_3 s_4 s_5 s_6 s_7
      obtain ⟨t_0, t_1, t_2, t_3, t_4, t_5, t_6, t_7⟩ := eight (HS22.out.get 0 rfl)
      obtain ⟨s_0, s_1, s_2, s_3, s_4, s_5, s_6, s_7⟩ := eight (HS22.out.get 9 rfl)
      go_wp2_with (first
        | (go_at_call 49; refine (c_implSuperOk _ _ _ _ _ _ _ _ _).mono ?_; rw [HSB.out]; rintro e w23 ⟨rfl, hb⟩; have HS23 := Aside0.mk (HS22.out.below hb); clear hb)
        | fail)
      go_ret
      exact ⟨by first | rfl | simp, HS23.out.toBelow⟩
end Go.Proofs.Ytlmnmcfieagmbaa.LawFnSupers
