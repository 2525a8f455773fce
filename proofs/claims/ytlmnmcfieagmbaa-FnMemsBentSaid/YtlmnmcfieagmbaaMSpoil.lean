/- SpoilSec, of both. -/
import Derived.Test.YtlmnmcfieagmbaaMSpoilS
import Derived.Test.YtlmnmcfieagmbaaMSort
import Derived.Test.YtlmnmcfieagmbaaMCopy
namespace Go.Proofs.Ytlmnmcfieagmbaa.MSpoil
open Go.RowKit Go.Proofs.Ytlmnmcfieagmbaa.RJ Go.Proofs.YtlmnmcfieagmbaaW.PrintWords Go.Proofs.Ytlmnmcfieagmbaa.Fp Go.Proofs.Ytlmnmcfieagmbaa.FpStep Go.Proofs.Ytlmnmcfieagmbaa.MInt Go.Proofs.Ytlmnmcfieagmbaa.MKinds Go.Proofs.Ytlmnmcfieagmbaa.MRead Go.Proofs.Ytlmnmcfieagmbaa.MMake Go.Proofs.Ytlmnmcfieagmbaa.MPut Go.Proofs.Ytlmnmcfieagmbaa.MOk Go.Proofs.Ytlmnmcfieagmbaa.MVal Go.Proofs.Ytlmnmcfieagmbaa.Sep Go.Proofs.Ytlmnmcfieagmbaa.SepStep Go.Proofs.Ytlmnmcfieagmbaa.MCopy Go.Proofs.Ytlmnmcfieagmbaa.MSpoilV Go.Proofs.Ytlmnmcfieagmbaa.MSpoilW Go.Proofs.Ytlmnmcfieagmbaa.MSort
set_option linter.unusedVariables false
set_option linter.unusedSimpArgs false
attribute [local go_sem ↓] Go.wp_at_zero Go.wp_at_succ
def mayOk (m : MemV) (n : Int) : Bool := memB m && inR n 0 ((m.secs.length : Int) - 1)
theorem spoil_val {m : MemV} {n : Int} (h : mayOk m n = true) : spoilV m n = ⟨m.secs, m.cache, m.failed, Lib.compact (sortI (m.bad ++ [n]))⟩ := by
  simp only [mayOk, Bool.and_eq_true] at h
  rw [spoil_bads (memB_parts h.1).2.2.1]
  unfold spoilV
  rw [h.1, h.2]
  cases hasN m.bad n <;> rfl
theorem spoil_not {m : MemV} {n : Int} (h : mayOk m n = false) : spoilV m n = m := by
  unfold spoilV
  have h2 : (memB m && (inR n 0 ((m.secs.length : Int) - 1) && !hasN m.bad n)) = false := by
    rw [← Bool.and_assoc]
    unfold mayOk at h
    rw [h]; rfl
  rw [h2]; rfl
set_option maxHeartbeats 4000000 in
set_option maxRecDepth 100000 in
theorem c_implSpoilSec {w : World} {v : Value} {m : MemV} {n : Int} (h : MemR w v m) (hs : Small m) :
    Calls Try.prog 14 #[v, .int .i64 n] w fun e w' => ∃ u F, e = .returned u ∧ New w w' (me F u (spoilV m n)) := by
  have H := Aside0.mk h
  obtain ⟨s, c, b, rfl, r1, r2, r3⟩ := h
  obtain ⟨A01, c01, rfl, _⟩ := r1
  clear r2 r3
  have hb1 := hs.1
  have hb3 := hs.2.2.2.2
  have HS := Aside0.mk hs
  clear hs
  generalize hmf : m.failed = mf at H
  go_enter Try.func14, Try.ntmps14
  go_upto_region 2 with (first
    | (go_at_call 101; refine (c_copyMem (MemR_below H.out (below_alloc (below_alloc (Below.refl _ _) _) _)) HS.out).mono ?_; rintro e w1 ⟨u, F, rfl, hn⟩; obtain ⟨A1, c1, A2, c2, A3, c3, F1, F2, F3, rfl, h1⟩ := ((((Sep.start w []).alloc (g := w.heap.size) rfl _ _).alloc (g := w.heap.size + 1) (by simp) _ _).new hn).ofMem; have HS1 := Aside0.mk h1; clear hn h1)
    | fail)
  have hB := HS1.out.alloc (g := w1.heap.size) rfl #[.slice A1 m.secs.length c1, .slice A2 m.cache.length c2, .bool mf, .slice A3 m.bad.length c3] 30
  try rw [hmf]
  generalize hg : w1.heap.size = g at *
  generalize hw : w1.alloc (.cells #[.slice A1 m.secs.length c1, .slice A2 m.cache.length c2, .bool mf, .slice A3 m.bad.length c3] 30 (0, 0)) = w2 at *
  have HB := Aside0.mk hB
  clear hB hg hw
  obtain ⟨k1, k2, k3, k4⟩ := four (HB.out.get 5 rfl)
  go_cut [16] (fun s16 wx => s16 = .bool (!mayOk m n) ∧ Aside0 (Sep w [] wx [bx g 30 #[.slice A1 m.secs.length c1, .slice A2 m.cache.length c2, .bool mf, .slice A3 m.bad.length c3], rw_ oSec 24 F1 (.slice A1 m.secs.length c1) m.secs, rw_ oWr 66 F2 (.slice A2 m.cache.length c2) m.cache, rw_ oInt 3 F3 (.slice A3 m.bad.length c3) m.bad, bx (w.heap.size + 1) 30 #[.slice none 0 0, .slice none 0 0, .bool false, .slice none 0 0], bx w.heap.size 30 #[.slice A01 m.secs.length c01, c, .bool mf, b]]))
  case first =>
    by_cases hA : memB m = true
    · have hcan : mayOk m n = inR n 0 ((m.secs.length : Int) - 1) := by simp [mayOk, hA]
      have Hcan := Aside0.mk hcan
      clear hcan
      go_wp2_with (first
        | (go_at_call 102; refine (c_hasSec (MemR_below H.out HC.out.toBelow)).mono ?_; rintro e w4 ⟨rfl, hb⟩; have HE := Aside0.mk (HC.out.below hb); clear hb)
        | (go_at_call 28; refine (c_implMemOk (MemR_below H.out HB.out.toBelow)).mono ?_; rintro e w3 ⟨rfl, hb⟩; have HC := Aside0.mk (HB.out.below hb); clear hb k1 k2 k3 k4; obtain ⟨k1, k2, k3, k4⟩ := four (HC.out.get 5 rfl))
        | fail)
      go_meet
      exact ⟨by rw [Hcan.out], HE⟩
    · simp only [Bool.not_eq_true] at hA
      have hcan : mayOk m n = false := by simp [mayOk, hA]
      have Hcan := Aside0.mk hcan
      clear hcan
      go_wp2_with (first
        | (go_at_call 28; refine (c_implMemOk (MemR_below H.out HB.out.toBelow)).mono ?_; rintro e w3 ⟨rfl, hb⟩; have HC := Aside0.mk (HB.out.below hb); clear hb k1 k2 k3 k4; obtain ⟨k1, k2, k3, k4⟩ := four (HC.out.get 5 rfl))
        | fail)
      go_meet
      exact ⟨by rw [Hcan.out]; rfl, HC⟩
  case rest =>
    obtain ⟨rfl, HC⟩ := hcut
    clear HB HS1 k1 k2 k3 k4
    by_cases hcan : mayOk m n = true
    · have Hval := Aside0.mk (spoil_val hcan)
      rw [hcan]
      clear hcan
      obtain ⟨k1, k2, k3, k4⟩ := four (HC.out.get 0 rfl)
      go_upto_region 5 with (first
        | (at_builtin; (refine app_one0 (d := oInt) (y := n) (HC.out.front 3 rfl) rfl _ _ 24 (.int .i64 0) 8 (by rfl) Try.underlying24 (by kernel_rfl) rfl (by decide) (by decide) [.int .i64 n] (by first | exact ⟨rfl, rfl⟩ | rfl | simp [oInt, Od.int]) (by rfl) (by rfl) rfl (n := m.bad.length) rfl (by omega) ?_); intro A4 c4 w4 F4 hs4; obtain ⟨g4, cap4, hA4, hg4, _⟩ := O_form (show oInt.O 3 w4 F4 (.slice A4 (m.bad.length + 1) c4) (m.bad ++ [n]) from hs4.get 0 rfl) (by simp); obtain rfl := (Value.slice.inj hA4).1; clear hA4; have HS4 := Aside0.mk hs4; have gz := blk_frozen (HS4.out.get 1 rfl); clear hs4 hg4 k1 k2 k3 k4; obtain ⟨k1, k2, k3, k4⟩ := four (HS4.out.get 1 rfl))
        | fail)
      have hE := (HS4.out.setb 1 rfl 3 (.slice (some ⟨g4, 0, none⟩) (m.bad.length + 1) c4) rfl).sel [1, 0, 2, 3, 4, 5] (by decide) (by simp)
      simp only [List.map_cons, List.map_nil, pick, List.getD_cons_succ, List.getD_cons_zero, List.set_cons_zero, List.set_cons_succ, List.eraseIdx_cons_zero, List.eraseIdx_cons_succ, List.setIfInBounds_toArray] at hE
      generalize w4.setCell ⟨g, 3, none⟩ (.slice (some ⟨g4, 0, none⟩) (m.bad.length + 1) c4) = w5 at *
      have HE := Aside0.mk hE
      clear hE HS4 HC gz k1 k2 k3 k4
      obtain ⟨k1, k2, k3, k4⟩ := four (HE.out.get 0 rfl)
      have hlen : (m.bad ++ [n]).length ≤ 16777217 := by simp; omega
      go_wp2_with (first
        | (go_at_call 103; refine (c_Sort (HE.out.get 1 rfl) hlen).mono ?_; rintro e w6 ⟨rfl, hu⟩; have h6 := HE.out.upd 1 rfl hu; simp only [List.map_cons, List.map_nil, pick, List.getD_cons_succ, List.getD_cons_zero, List.set_cons_zero, List.set_cons_succ, List.eraseIdx_cons_zero, List.eraseIdx_cons_succ, List.setIfInBounds_toArray] at h6; have HG := Aside0.mk h6; clear h6 hu k1 k2 k3 k4; obtain ⟨k1, k2, k3, k4⟩ := four (HG.out.get 0 rfl))
        | (go_at_call 104; refine (c_Compact (HG.out.get 1 rfl) (by rw [sortI_len]; exact hlen)).mono ?_; rintro e w7 ⟨rfl, hu⟩; have h7 := HG.out.upd 1 rfl hu; simp only [List.map_cons, List.map_nil, pick, List.getD_cons_succ, List.getD_cons_zero, List.set_cons_zero, List.set_cons_succ, List.eraseIdx_cons_zero, List.eraseIdx_cons_succ, List.setIfInBounds_toArray] at h7; have HK := Aside0.mk h7; clear h7 hu k1 k2 k3 k4; obtain ⟨k1, k2, k3, k4⟩ := four (HK.out.get 0 rfl); have gz := blk_frozen (HK.out.get 0 rfl); obtain ⟨z1, z2, z3, z4⟩ := four (HK.out.get 4 rfl); have fz := blk_frozen (HK.out.get 4 rfl); have hgr : g ≠ w.heap.size + 1 := HK.out.neq 0 4 rfl rfl (by decide); have hrg : w.heap.size + 1 ≠ g := Ne.symm hgr)
        | fail)
      have HE : Sep w [] _ _ := (HK.out.setb 0 rfl 3 (.slice (some ⟨g4, 0, none⟩) (Lib.compact (sortI (m.bad ++ [n]))).length c4) rfl).box4 4 rfl (.slice A1 m.secs.length c1) (.slice A2 m.cache.length c2) (.bool mf) (.slice (some ⟨g4, 0, none⟩) (Lib.compact (sortI (m.bad ++ [n]))).length c4)
      refine bodyPost_ret (results_cell_row rfl _ _ (w.heap.size + 1) 30 #[.slice A1 m.secs.length c1, .slice A2 m.cache.length c2, .bool mf, .slice (some ⟨g4, 0, none⟩) (Lib.compact (sortI (m.bad ++ [n]))).length c4] (0, 0) _ rfl (HE.get 4 rfl) Try.underlying30 rfl (by kernel_rfl)) rfl ?_
      rw [Hval.out]
      have h9 := (HE.sel [2, 3, 1] (by decide) (by simp)).toMem (m := ⟨m.secs, m.cache, mf, Lib.compact (sortI (m.bad ++ [n]))⟩)
      rw [hmf]
      first | exact ⟨_, _, rfl, h9.toNew 0 rfl⟩ | exact ⟨_, rfl, _, h9.toNew 0 rfl⟩
    · simp only [Bool.not_eq_true] at hcan
      have Hval := Aside0.mk (spoil_not hcan)
      rw [hcan]
      obtain ⟨k1, k2, k3, k4⟩ := four (HC.out.get 0 rfl)
      obtain ⟨z1, z2, z3, z4⟩ := four (HC.out.get 4 rfl)
      have fz := blk_frozen (HC.out.get 4 rfl)
      clear hcan
      go_wp2
      have HE : Sep w [] _ _ := HC.out.box4 4 rfl (.slice A1 m.secs.length c1) (.slice A2 m.cache.length c2) (.bool mf) (.slice A3 m.bad.length c3)
      refine bodyPost_ret (results_cell_row rfl _ _ (w.heap.size + 1) 30 #[.slice A1 m.secs.length c1, .slice A2 m.cache.length c2, .bool mf, .slice A3 m.bad.length c3] (0, 0) _ rfl (HE.get 4 rfl) Try.underlying30 rfl (by kernel_rfl)) rfl ?_
      rw [Hval.out]
      subst hmf
      have h9 := (HE.sel [1, 2, 3] (by decide) (by simp)).toMem (m := m)
      first | exact ⟨_, _, rfl, h9.toNew 0 rfl⟩ | exact ⟨_, rfl, _, h9.toNew 0 rfl⟩
end Go.Proofs.Ytlmnmcfieagmbaa.MSpoil
