/- The law FnMems: it returns true. -/
import Derived.Test.YtlmnmcfieagmbaaMDraw5
import Derived.Test.YtlmnmcfieagmbaaMSame
import Derived.Test.YtlmnmcfieagmbaaMWrite
import Derived.Test.YtlmnmcfieagmbaaMReadS
import Derived.Test.YtlmnmcfieagmbaaMFlush
import Derived.Test.YtlmnmcfieagmbaaPMems
import Derived.Test.YtlmnmcfieagmbaaMLaw
namespace Go.Proofs.Ytlmnmcfieagmbaa.LawFnMems
open Go.RowKit Go.Proofs.YtlmnmcfieagmbaaW.PrintWords Go.Proofs.Ytlmnmcfieagmbaa.RJ Go.Proofs.Ytlmnmcfieagmbaa.RP Go.Proofs.Ytlmnmcfieagmbaa.Fp Go.Proofs.Ytlmnmcfieagmbaa.FpStep Go.Proofs.Ytlmnmcfieagmbaa.MInt Go.Proofs.Ytlmnmcfieagmbaa.MKinds Go.Proofs.Ytlmnmcfieagmbaa.MRead Go.Proofs.Ytlmnmcfieagmbaa.MMake Go.Proofs.Ytlmnmcfieagmbaa.MPut Go.Proofs.Ytlmnmcfieagmbaa.MOk Go.Proofs.Ytlmnmcfieagmbaa.MVal Go.Proofs.Ytlmnmcfieagmbaa.MValB Go.Proofs.Ytlmnmcfieagmbaa.Sep Go.Proofs.Ytlmnmcfieagmbaa.SepStep Go.Proofs.Ytlmnmcfieagmbaa.MSuper Go.Proofs.Ytlmnmcfieagmbaa.MReadS Go.Proofs.Ytlmnmcfieagmbaa.MDraw Go.Proofs.Ytlmnmcfieagmbaa.MDraw5 Go.Proofs.Ytlmnmcfieagmbaa.MSame Go.Proofs.Ytlmnmcfieagmbaa.MWrite Go.Proofs.Ytlmnmcfieagmbaa.MFlush Go.Proofs.Ytlmnmcfieagmbaa.PFalls Go.Proofs.Ytlmnmcfieagmbaa.PMems Go.Proofs.Ytlmnmcfieagmbaa.MLaw
set_option linter.unusedVariables false
set_option linter.unusedSimpArgs false
attribute [local go_sem ↓] Go.wp_at_zero Go.wp_at_succ
set_option maxHeartbeats 8000000 in
set_option maxRecDepth 100000 in
theorem law_FnMems {w : World} {B : Value} {bs : List Int} (hB : RK (Kd.int .u8) w B bs) : Calls Try.prog 5 #[B] w fun e w' => e = .returned (.bool true) ∧ Below w.heap.size w w' := by
  have HC := Aside0.mk hB
  have lx := RK_len hB
  obtain ⟨BA, Bc, rfl, _, _⟩ := hB
  by_cases hl0 : (1048576 : Int) < (bs.length : Int)
  · go_enter Try.func5, Try.ntmps5
    go_wp2_with (first | (go_at_call 18; refine (c_big HC.out).mono ?_; rw [decide_eq_true hl0]; rintro e w1 ⟨rfl, hb⟩; have HS1 := Aside0.mk ((Sep.start w []).dr hb); clear hb) | fail)
    go_ret
    exact ⟨rfl, HS1.out.toBelow⟩
  have hl : bs.length ≤ 16777216 := by omega
  go_enter Try.func5, Try.ntmps5
  go_upto_region 3 with (first | (go_at_call 18; refine (c_big HC.out).mono ?_; rw [decide_eq_false hl0]; rintro e w1 ⟨rfl, hb⟩; have HS1 := Aside0.mk ((Sep.start w []).dr hb); clear hb) | fail)
  clear hl0
  go_upto_region 4 with (first
    | (go_at_call 38; refine (c_DrawWriteSec (HS1.out.rk HC.out) hl).mono ?_; rintro e w2 ⟨um, Fm, m, n, AS, cS, GS, xs, rfl, hm, hxs, hs⟩; obtain ⟨A1, Ad1, A2, Ad2, A3, Ad3, rfl⟩ := me_form hs; have hq := Sep.comp HS1.out hs; simp only [List.cons_append, List.nil_append] at hq; have HT := Aside0.mk hm; have HS2 := Aside0.mk hq; clear hs hm hq)
    | fail)
  have hB := HS2.out.alloc (g := w2.heap.size) rfl #[.slice A1 m.secs.length Ad1, .slice A2 m.cache.length Ad2, .bool m.failed, .slice A3 m.bad.length Ad3] 30
  generalize hgg : w2.heap.size = g3 at *
  generalize hww : w2.alloc (.cells #[.slice A1 m.secs.length Ad1, .slice A2 m.cache.length Ad2, .bool m.failed, .slice A3 m.bad.length Ad3] 30 (0, 0)) = w3 at *
  have HS3 := Aside0.mk (hB)
  clear hB hgg hww
  clear HS2 HS1
  obtain ⟨X, hX⟩ : ∃ X, writeV m n xs = X := ⟨_, rfl⟩
  obtain ⟨ok, hok⟩ : ∃ b, canWrite m n xs = b := ⟨_, rfl⟩
  have HX := Aside0.mk hX
  have HK := Aside0.mk hok
  clear hX hok
  obtain ⟨bm_0, bm_1, bm_2, bm_3⟩ := four (HS3.out.get 0 rfl)
  go_upto_region 5 with (first
    | (go_at_call 39; refine (c_implWriteSec (MemO_R (HS3.out.get 1 rfl)) (tiny_small HT.out) (O_RK (HS3.out.get 2 rfl)) (by omega)).mono ?_; rw [HX.out, HK.out]; rintro e w4 ⟨u, Fx, rfl, hn⟩; have hq := HS3.out.new hn; clear hn; obtain ⟨X1, Xd1, X2, Xd2, X3, Xd3, rfl⟩ := me_form hq; have HS4 := Aside0.mk (hq); clear hq)
    | fail)
  have hB := HS4.out.alloc (g := w4.heap.size) rfl #[.slice X1 X.secs.length Xd1, .slice X2 X.cache.length Xd2, .bool X.failed, .slice X3 X.bad.length Xd3] 30
  generalize hgg : w4.heap.size = g5 at *
  generalize hww : w4.alloc (.cells #[.slice X1 X.secs.length Xd1, .slice X2 X.cache.length Xd2, .bool X.failed, .slice X3 X.bad.length Xd3] 30 (0, 0)) = w5 at *
  have HS5 := Aside0.mk (hB)
  clear hB hgg hww
  clear bm_0 bm_1 bm_2 bm_3; obtain ⟨bm_0, bm_1, bm_2, bm_3⟩ := four (HS5.out.get 2 rfl)
  go_upto_region 6 with (first
    | (go_at_call 40; refine (c_specWriteSec (MemO_R (HS5.out.get 3 rfl)) (tiny_small HT.out) (O_RK (HS5.out.get 4 rfl)) (by omega)).mono ?_; rw [HX.out, HK.out]; rintro e w6 ⟨u, Fy, rfl, hn⟩; have hq := HS5.out.new hn; clear hn; obtain ⟨Y1, Yd1, Y2, Yd2, Y3, Yd3, rfl⟩ := me_form hq; have HS6 := Aside0.mk (hq); clear hq)
    | fail)
  have hB := HS6.out.alloc (g := w6.heap.size) rfl #[.slice Y1 X.secs.length Yd1, .slice Y2 X.cache.length Yd2, .bool X.failed, .slice Y3 X.bad.length Yd3] 30
  generalize hgg : w6.heap.size = g7 at *
  generalize hww : w6.alloc (.cells #[.slice Y1 X.secs.length Yd1, .slice Y2 X.cache.length Yd2, .bool X.failed, .slice Y3 X.bad.length Yd3] 30 (0, 0)) = w7 at *
  have HS7 := Aside0.mk (hB)
  clear hB hgg hww
  cases ok
  · have hXm : X = m := by rw [← HX.out]; exact writeV_no HK.out
    subst hXm
    clear bm_0 bm_1 bm_2 bm_3; obtain ⟨bx_0, bx_1, bx_2, bx_3⟩ := four (HS7.out.get 2 rfl); obtain ⟨by_0, by_1, by_2, by_3⟩ := four (HS7.out.get 0 rfl); obtain ⟨bm_0, bm_1, bm_2, bm_3⟩ := four (HS7.out.get 4 rfl)
    go_wp2_with (first
      | (go_at_call 31; refine (c_sameMem (MemO_R (HS8.out.get 3 rfl)) (MemO_R (HS8.out.get 5 rfl))).mono ?_; rw [decide_eq_true rfl]; rintro e w98 ⟨rfl, hb⟩; have HS9 := Aside0.mk (HS8.out.below hb); clear hb; clear bx_0 bx_1 bx_2 bx_3 bm_0 bm_1 bm_2 bm_3)
      | (go_at_call 31; refine (c_sameMem (MemO_R (HS7.out.get 3 rfl)) (MemO_R (HS7.out.get 1 rfl))).mono ?_; rw [decide_eq_true rfl]; rintro e w97 ⟨rfl, hb⟩; have HS8 := Aside0.mk (HS7.out.below hb); clear hb; clear bx_0 bx_1 bx_2 bx_3 by_0 by_1 by_2 by_3 bm_0 bm_1 bm_2 bm_3; obtain ⟨bx_0, bx_1, bx_2, bx_3⟩ := four (HS8.out.get 2 rfl); obtain ⟨bm_0, bm_1, bm_2, bm_3⟩ := four (HS8.out.get 4 rfl))
      | fail)
    go_ret
    exact ⟨rfl, HS9.out.toBelow⟩
  · have hcp := canWrite_parts HK.out
    obtain ⟨hmB, hmF, hmn, hsB, hmc⟩ := hcp
    have hXB : memB X = true := by rw [← HX.out]; exact memB_write hmB _ _
    have hXF : X.failed = false := by rw [← HX.out, writeV_failed]; exact hmF
    have hXs : X.secs = m.secs := by rw [← HX.out, writeV_ok HK.out]
    have hrw := read_written HK.out
    rw [HX.out] at hrw
    have HP := Aside0.mk (And.intro hmB (And.intro hmF (And.intro hXB (And.intro hXF (And.intro hXs hrw)))))
    have hml := (memB_parts hmB).2.2.2.1
    clear hmB hmF hXB hXF hXs hrw hsB
    obtain ⟨bx_0, bx_1, bx_2, bx_3⟩ := four (HS7.out.get 2 rfl); obtain ⟨by_0, by_1, by_2, by_3⟩ := four (HS7.out.get 0 rfl)
    go_upto_region 8 with (first
      | (go_at_call 31; refine (c_sameMem (MemO_R (HS7.out.get 3 rfl)) (MemO_R (HS7.out.get 1 rfl))).mono ?_; rw [decide_eq_true rfl]; rintro e w97 ⟨rfl, hb⟩; have HS8 := Aside0.mk (HS7.out.below hb); clear hb; clear bx_0 bx_1 bx_2 bx_3 by_0 by_1 by_2 by_3; obtain ⟨bx_0, bx_1, bx_2, bx_3⟩ := four (HS8.out.get 2 rfl))
      | fail)
    go_upto_region 9 with (first
      | (go_at_call 21; refine (c_implReadSec (MemO_R (HS8.out.get 3 rfl)) (memB_small HP.out.2.2.1)).mono ?_; rw [HP.out.2.2.2.2.2.1, HP.out.2.2.2.2.2.2]; rintro e w9 ⟨u, Fr, rfl, hn⟩; have hq := HS8.out.new hn; obtain ⟨R1, Rc, rfl, hzz⟩ := O_RK (show oInt.O 3 w9 Fr u xs from hq.get 0 rfl); have HS9 := Aside0.mk (hq); clear hq hn hzz; clear bx_0 bx_1 bx_2 bx_3; obtain ⟨bx_0, bx_1, bx_2, bx_3⟩ := four (HS9.out.get 3 rfl))
      | fail)
    go_upto_region 10 with (first
      | (go_at_call 36; refine (c_implFlushMem (MemO_R (HS9.out.get 4 rfl)) (memB_small HP.out.2.2.1)).mono ?_; rintro e w10 ⟨u, Ff, rfl, hn⟩; have hq := HS9.out.new hn; clear hn; obtain ⟨G1, Gd1, G2, Gd2, G3, Gd3, rfl⟩ := me_form hq; have HS10 := Aside0.mk (hq); clear hq)
      | fail)
    have hB := HS10.out.alloc (g := w10.heap.size) rfl #[.slice G1 (flushV X).secs.length Gd1, .slice G2 (flushV X).cache.length Gd2, .bool (flushV X).failed, .slice G3 (flushV X).bad.length Gd3] 30
    generalize hgg : w10.heap.size = g11 at *
    generalize hww : w10.alloc (.cells #[.slice G1 (flushV X).secs.length Gd1, .slice G2 (flushV X).cache.length Gd2, .bool (flushV X).failed, .slice G3 (flushV X).bad.length Gd3] 30 (0, 0)) = w11 at *
    have HS11 := Aside0.mk (hB)
    clear hB hgg hww
    obtain ⟨f, hf⟩ : ∃ x, flushV X = x := ⟨_, rfl⟩
    rw [hf] at HS11 ⊢
    have Hf := Aside0.mk hf
    clear hf
    have hq := HS11.out.sel [7, 5, 0, 8, 6, 1, 2, 9] (by decide) (by simp)
    simp only [List.map_cons, List.map_nil, pick, List.getD_cons_succ, List.getD_cons_zero, List.set_cons_zero, List.set_cons_succ, List.eraseIdx_cons_zero, List.eraseIdx_cons_succ, List.setIfInBounds_toArray] at hq
    clear bx_0 bx_1 bx_2 bx_3
    have HS12 := Aside0.mk (hq)
    clear hq HS11
    have hfB : memB f = true := by rw [← Hf.out]; exact memB_flush HP.out.2.2.1
    have HfB := Aside0.mk hfB
    clear hfB
    go_wp2
    go_loopw [13] (fun v13 wr => ∃ i : Nat, i ≤ m.secs.length ∧ v13 = .int .i64 i ∧ Aside0 (Sep w [] wr [bx g3 30 #[.slice A1 m.secs.length Ad1, .slice A2 m.cache.length Ad2, .bool m.failed, .slice A3 m.bad.length Ad3], bx g5 30 #[.slice X1 X.secs.length Xd1, .slice X2 X.cache.length Xd2, .bool X.failed, .slice X3 X.bad.length Xd3], bx g11 30 #[.slice G1 f.secs.length Gd1, .slice G2 f.cache.length Gd2, .bool f.failed, .slice G3 f.bad.length Gd3], me Fm (.agg #[.slice A1 m.secs.length Ad1, .slice A2 m.cache.length Ad2, .bool m.failed, .slice A3 m.bad.length Ad3]) m, me Fx (.agg #[.slice X1 X.secs.length Xd1, .slice X2 X.cache.length Xd2, .bool X.failed, .slice X3 X.bad.length Xd3]) X, me Ff (.agg #[.slice G1 f.secs.length Gd1, .slice G2 f.cache.length Gd2, .bool f.failed, .slice G3 f.bad.length Gd3]) f, rw_ oInt 3 Fr (.slice R1 xs.length Rc) xs, rw_ oInt 3 GS (.slice AS xs.length cS) xs])) (fun v13 _ => m.secs.length - (intOf v13).toNat)
    case atStart => exact ⟨0, by omega, rfl, HS12⟩
    case round =>
      clear HS12
      obtain ⟨i, hi, rfl, HR⟩ := hrel
      obtain ⟨k0, k1, k2, k3⟩ := four (HR.out.get 0 rfl)
      by_cases hlt : i < m.secs.length
      · have hxf := read_flushed (m := X) (k := i) HP.out.2.2.1 HP.out.2.2.2.1 (by rw [HP.out.2.2.2.2.1]; exact hlt)
        rw [Hf.out] at hxf
        obtain ⟨b, hbb⟩ : ∃ b, canRead X (i : Int) = b := ⟨_, rfl⟩
        obtain ⟨W, hW⟩ : ∃ x, readV X (i : Int) = x := ⟨_, rfl⟩
        rw [hbb, hW] at hxf
        have HF := Aside0.mk hxf
        have HW := Aside0.mk (And.intro hbb hW)
        clear hxf hbb hW
        by_cases hin : (i : Int) = n
        · subst hin
          obtain ⟨a, ha⟩ : ∃ b, canRead m (i : Int) = b := ⟨_, rfl⟩
          obtain ⟨U, hU⟩ : ∃ x, readV m (i : Int) = x := ⟨_, rfl⟩
          have HA := Aside0.mk (And.intro ha hU)
          clear ha hU
          go_upto_region 14 with (first
            | (go_at_call 21; refine (c_implReadSec (MemO_R (HR.out.get 3 rfl)) (tiny_small HT.out)).mono ?_; rw [show canRead m (i : Int) = a from HA.out.1, show readV m (i : Int) = U from HA.out.2]; rintro e w50 ⟨u, Fu, rfl, hn⟩; have hq := HR.out.new hn; obtain ⟨U1, Uc, rfl, hzz⟩ := O_RK (show oInt.O 3 w50 Fu u _ from hq.get 0 rfl); have HS50 := Aside0.mk hq; clear hq hn hzz; clear k0 k1 k2 k3; obtain ⟨bx_0, bx_1, bx_2, bx_3⟩ := four (HS50.out.get 2 rfl))
            | fail)
          go_upto_region 15 with (first
            | (go_at_call 21; refine (c_implReadSec (MemO_R (HS50.out.get 5 rfl)) (memB_small HP.out.2.2.1)).mono ?_; rw [HW.out.1, HW.out.2]; rintro e w51 ⟨u, Fw, rfl, hn⟩; have hq := HS50.out.new hn; obtain ⟨V1, Vc, rfl, hzz⟩ := O_RK (show oInt.O 3 w51 Fw u _ from hq.get 0 rfl); have HS51 := Aside0.mk hq; clear hq hn hzz; clear bx_0 bx_1 bx_2 bx_3; obtain ⟨bf_0, bf_1, bf_2, bf_3⟩ := four (HS51.out.get 4 rfl))
            | fail)
          go_upto_region 16 with (first
            | (go_at_call 21; refine (c_implReadSec (MemO_R (HS51.out.get 7 rfl)) (memB_small HfB.out)).mono ?_; rw [HF.out.1, HF.out.2]; rintro e w52 ⟨u, Fv, rfl, hn⟩; have hq := HS51.out.new hn; obtain ⟨Q1, Qc, rfl, hzz⟩ := O_RK (show oInt.O 3 w52 Fv u _ from hq.get 0 rfl); have HS52 := Aside0.mk hq; clear hq hn hzz; clear bf_0 bf_1 bf_2 bf_3)
            | fail)
          cases b
          · skip
            go_wp2_with (first
              | (go_at_call 30; refine (c_sameInts (O_RK (HS52.out.get 1 rfl)) (O_RK (HS52.out.get 0 rfl))).mono ?_; rw [decide_eq_true rfl]; rintro e w53 ⟨rfl, hb⟩; have HS53 := Aside0.mk (HS52.out.dr hb); clear hb)
              | fail)
            go_roundw
            case rel => exact ⟨i + 1, by omega, by go_num, ⟨HS53.out.sel [3, 4, 5, 6, 7, 8, 9, 10] (by decide) (by simp)⟩⟩
            case measure => simp [intOf]; omega
          · skip
            go_wp2_with (first
              | (go_at_call 30; refine (c_sameInts (O_RK (HS52.out.get 1 rfl)) (O_RK (HS52.out.get 0 rfl))).mono ?_; rw [decide_eq_true rfl]; rintro e w53 ⟨rfl, hb⟩; have HS53 := Aside0.mk (HS52.out.dr hb); clear hb)
              | fail)
            go_roundw
            case rel => exact ⟨i + 1, by omega, by go_num, ⟨HS53.out.sel [3, 4, 5, 6, 7, 8, 9, 10] (by decide) (by simp)⟩⟩
            case measure => simp [intOf]; omega
        · have hinn : ((i : Int) == n) = false := by simpa using hin
          have hro := read_other HK.out hin
          rw [HX.out] at hro
          have HA := Aside0.mk (And.intro (hro.1.symm.trans HW.out.1) (hro.2.symm.trans HW.out.2))
          have hin3 : ((i : Int) != n) = true := by simpa using hin
          have hin4 : decide ((i : Int) = n) = false := by simpa using hin
          clear hro
          go_upto_region 14 with (first
            | (go_at_call 21; refine (c_implReadSec (MemO_R (HR.out.get 3 rfl)) (tiny_small HT.out)).mono ?_; rw [show canRead m (i : Int) = b from HA.out.1, show readV m (i : Int) = W from HA.out.2]; rintro e w50 ⟨u, Fu, rfl, hn⟩; have hq := HR.out.new hn; obtain ⟨U1, Uc, rfl, hzz⟩ := O_RK (show oInt.O 3 w50 Fu u _ from hq.get 0 rfl); have HS50 := Aside0.mk hq; clear hq hn hzz; clear k0 k1 k2 k3; obtain ⟨bx_0, bx_1, bx_2, bx_3⟩ := four (HS50.out.get 2 rfl))
            | fail)
          go_upto_region 15 with (first
            | (go_at_call 21; refine (c_implReadSec (MemO_R (HS50.out.get 5 rfl)) (memB_small HP.out.2.2.1)).mono ?_; rw [HW.out.1, HW.out.2]; rintro e w51 ⟨u, Fw, rfl, hn⟩; have hq := HS50.out.new hn; obtain ⟨V1, Vc, rfl, hzz⟩ := O_RK (show oInt.O 3 w51 Fw u _ from hq.get 0 rfl); have HS51 := Aside0.mk hq; clear hq hn hzz; clear bx_0 bx_1 bx_2 bx_3; obtain ⟨bf_0, bf_1, bf_2, bf_3⟩ := four (HS51.out.get 4 rfl))
            | fail)
          go_upto_region 16 with (first
            | (go_at_call 21; refine (c_implReadSec (MemO_R (HS51.out.get 7 rfl)) (memB_small HfB.out)).mono ?_; rw [HF.out.1, HF.out.2]; rintro e w52 ⟨u, Fv, rfl, hn⟩; have hq := HS51.out.new hn; obtain ⟨Q1, Qc, rfl, hzz⟩ := O_RK (show oInt.O 3 w52 Fv u _ from hq.get 0 rfl); have HS52 := Aside0.mk hq; clear hq hn hzz; clear bf_0 bf_1 bf_2 bf_3)
            | fail)
          cases b
          · skip
            go_wp2_with (first
              | (go_at_call 30; refine (c_sameInts (O_RK (HS53.out.get 1 rfl)) (O_RK (HS53.out.get 0 rfl))).mono ?_; rw [decide_eq_true rfl]; rintro e w54 ⟨rfl, hb⟩; have HS54 := Aside0.mk (HS53.out.dr hb); clear hb)
              | (go_at_call 30; refine (c_sameInts (O_RK (HS52.out.get 2 rfl)) (O_RK (HS52.out.get 1 rfl))).mono ?_; rw [decide_eq_true rfl]; rintro e w53 ⟨rfl, hb⟩; have HS53 := Aside0.mk (HS52.out.dr hb); clear hb)
              | fail)
            go_roundw
            case rel => exact ⟨i + 1, by omega, by go_num, ⟨HS54.out.sel [3, 4, 5, 6, 7, 8, 9, 10] (by decide) (by simp)⟩⟩
            case measure => simp [intOf]; omega
          · skip
            go_wp2_with (first
              | (go_at_call 30; refine (c_sameInts (O_RK (HS53.out.get 1 rfl)) (O_RK (HS53.out.get 0 rfl))).mono ?_; rw [decide_eq_true rfl]; rintro e w54 ⟨rfl, hb⟩; have HS54 := Aside0.mk (HS53.out.dr hb); clear hb)
              | (go_at_call 30; refine (c_sameInts (O_RK (HS52.out.get 2 rfl)) (O_RK (HS52.out.get 1 rfl))).mono ?_; rw [decide_eq_true rfl]; rintro e w53 ⟨rfl, hb⟩; have HS53 := Aside0.mk (HS52.out.dr hb); clear hb)
              | fail)
            go_roundw
            case rel => exact ⟨i + 1, by omega, by go_num, ⟨HS54.out.sel [3, 4, 5, 6, 7, 8, 9, 10] (by decide) (by simp)⟩⟩
            case measure => simp [intOf]; omega
      · obtain rfl : i = m.secs.length := by omega
        obtain ⟨x0, x1, x2, x3⟩ := four (HR.out.get 1 rfl)
        obtain ⟨f0, f1, f2, f3⟩ := four (HR.out.get 2 rfl)
        have hfc : f.cache.length = 0 := by rw [← Hf.out]; exact flushV_cache HP.out.2.2.1 HP.out.2.2.2.1
        have HFC := Aside0.mk hfc
        obtain ⟨q, rfl⟩ : ∃ q : Nat, n = (q : Int) := ⟨n.toNat, by omega⟩
        have hfw := flushed_written HK.out
        rw [HX.out, Hf.out] at hfw
        simp only [Int.toNat_natCast] at hfw
        have hql : q < f.secs.length := (List.getElem?_eq_some_iff.1 hfw).1
        obtain ⟨s', c', b', hv, r1, r2, r3⟩ := MemO_R (show MemO wr Ff _ f from HR.out.get 5 rfl)
        have h1 := congrArg Array.toList (Value.agg.inj hv)
        simp only [List.cons.injEq, and_true] at h1
        obtain ⟨e1, _⟩ := h1
        subst e1
        obtain ⟨af, cf, ef, hcc⟩ := RK_slices r1 (by omega)
        obtain rfl := (Value.slice.inj ef).1
        obtain ⟨uf, cuf, ruf⟩ := hcc q _ hfw
        have Ruf := Aside0.mk ruf
        have q0 : (0 : Int) ≤ (q : Int) := by omega
        have ql : (q : Int) < (f.secs.length : Int) := by omega
        rw [hfc] at f1
        clear hfc hv r1 r2 r3 ef hcc ruf hfw
        have CUF := Aside0.mk cuf
        clear cuf
        go_wp2_with (first
          | (go_at_call 30; (first
              | (refine (c_sameInts (RK_below Ruf.out (HS54.out.1.out)) (O_RK (HS54.out.2.out.get 7 rfl))).mono ?_; rw [decide_eq_true rfl]; rintro e w55 ⟨rfl, hb⟩; have HS55 := Aside0.mk (HS54.out.2.out.dr hb); clear hb)
              | (refine (c_sameInts (O_RK (HR.out.get 6 rfl)) (O_RK (HR.out.get 7 rfl))).mono ?_; rw [decide_eq_true rfl]; rintro e w53 ⟨rfl, hb⟩; have HS53 := Aside0.mk (And.intro (Aside0.mk (below_drawn hb)) (Aside0.mk (HR.out.dr hb))); clear hb x0 x1 x2 x3; obtain ⟨x0, x1, x2, x3⟩ := four (HS53.out.2.out.get 1 rfl))))
          | (go_at_call 28; refine (c_implMemOk (MemO_R (HS53.out.2.out.get 4 rfl))).mono ?_; rw [HP.out.2.2.1]; rintro e w54 ⟨rfl, hb⟩; have HS54 := Aside0.mk (And.intro (Aside0.mk (below_next HS53.out.1.out hb)) (Aside0.mk (HS53.out.2.out.below hb))); clear hb f0 f1 f2 f3 x0 x1 x2 x3; obtain ⟨f0, f1, f2, f3⟩ := four (HS54.out.2.out.get 2 rfl); rw [HFC.out] at f1; have cuf := ((HS54.out.1.out).cell (lt_of_cell CUF.out)).trans CUF.out)
          | fail)
        go_ret
        exact ⟨rfl, HS55.out.toBelow⟩
end Go.Proofs.Ytlmnmcfieagmbaa.LawFnMems
