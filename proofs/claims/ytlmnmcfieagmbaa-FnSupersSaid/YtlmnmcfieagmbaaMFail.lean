/- FailMem, MemNew. -/
import Derived.Test.YtlmnmcfieagmbaaMCopyS
import Derived.Test.YtlmnmcfieagmbaaMVal
import Derived.Test.YtlmnmcfieagmbaaSepMore
import Derived.Deep.DrawnRows
namespace Go.Proofs.Ytlmnmcfieagmbaa.MFail
open Go.RowKit Go.Proofs.Ytlmnmcfieagmbaa.RJ Go.Proofs.YtlmnmcfieagmbaaW.PrintWords Go.Proofs.Ytlmnmcfieagmbaa.Fp Go.Proofs.Ytlmnmcfieagmbaa.FpStep Go.Proofs.Ytlmnmcfieagmbaa.MInt Go.Proofs.Ytlmnmcfieagmbaa.MKinds Go.Proofs.Ytlmnmcfieagmbaa.MRead Go.Proofs.Ytlmnmcfieagmbaa.MMake Go.Proofs.Ytlmnmcfieagmbaa.MPut Go.Proofs.Ytlmnmcfieagmbaa.MOk Go.Proofs.Ytlmnmcfieagmbaa.MVal Go.Proofs.Ytlmnmcfieagmbaa.Sep Go.Proofs.Ytlmnmcfieagmbaa.SepStep Go.Proofs.Ytlmnmcfieagmbaa.MCopy Go.Proofs.Ytlmnmcfieagmbaa.MCopyS
set_option linter.unusedVariables false
set_option linter.unusedSimpArgs false
attribute [local go_sem ↓] Go.wp_at_zero Go.wp_at_succ
set_option maxHeartbeats 2000000 in
theorem c_implFailMem {w : World} {v : Value} {m : MemV} (h : MemR w v m) (hs : Small m) :
    Calls Try.prog 27 #[v] w fun e w' => ∃ u F, e = .returned u ∧ New w w' (me F u (failV m)) := by
  have H := Aside0.mk h
  obtain ⟨s, c, b, rfl, r1, r2, r3⟩ := h
  clear r1 r2 r3
  have HS := Aside0.mk hs
  clear hs
  go_enter Try.func27, Try.ntmps27
  go_wp2_with (first
    | (go_at_call 101; refine (c_copyMem (MemR_below H.out (below_alloc (below_alloc (Below.refl _ _) _) _)) HS.out).mono ?_; rintro e w1 ⟨u, F, rfl, hn⟩; obtain ⟨A1, c1, A2, c2, A3, c3, F1, F2, F3, rfl, h1⟩ := ((((Sep.start w []).alloc (g := w.heap.size) rfl _ _).alloc (g := w.heap.size + 1) (by simp) _ _).new hn).ofMem; obtain ⟨z1, z2, z3, z4⟩ := four (h1.get 3 rfl); replace z1 := cell_alloc z1; replace z2 := cell_alloc z2; replace z3 := cell_alloc z3; replace z4 := cell_alloc z4; have fz := frozen_alloc (h1.get 3 rfl); have HS1 := Aside0.mk h1; clear hn h1)
    | fail)
  have HE : Sep w [] _ _ := ((((HS1.out.alloc (g := w1.heap.size) rfl #[.slice A1 m.secs.length c1, .slice none 0 0, .bool true, .slice A3 m.bad.length c3] 30).setb 4 rfl 0 (.slice A1 m.secs.length c1) rfl).setb 4 rfl 1 (.slice none 0 0) rfl).setb 4 rfl 2 (.bool true) rfl).setb 4 rfl 3 (.slice A3 m.bad.length c3) rfl
  refine bodyPost_ret (results_cell_row rfl _ _ (w.heap.size + 1) 30 #[.slice A1 m.secs.length c1, .slice none 0 0, .bool true, .slice A3 m.bad.length c3] (0, 0) _ rfl (HE.get 4 rfl) Try.underlying30 rfl (by kernel_rfl)) rfl ?_
  have h9 := (((HE.nil oWr 66).sel [2, 0, 4] (by decide) (by simp)).toMem (m := failV m))
  exact ⟨_, _, rfl, h9.toNew 0 rfl⟩
set_option maxHeartbeats 2000000 in
theorem c_specFailMem {w : World} {v : Value} {m : MemV} (h : MemR w v m) (hs : Small m) :
    Calls Try.prog 148 #[v] w fun e w' => ∃ u F, e = .returned u ∧ New w w' (me F u (failV m)) := by
  have H := Aside0.mk h
  obtain ⟨s, c, b, rfl, r1, r2, r3⟩ := h
  clear r1 r2 r3
  have HS := Aside0.mk hs
  clear hs
  go_enter Try.func148, Try.ntmps148
  go_upto_region 3 with (first
    | (go_at_call 95; refine (c_l2Copy (MemR_below H.out (below_alloc (below_alloc (Below.refl _ _) _) _)) HS.out).mono ?_; rintro e w1 ⟨u, F, rfl, hn⟩; obtain ⟨A1, c1, A2, c2, A3, c3, F1, F2, F3, rfl, h1⟩ := ((((Sep.start w []).alloc (g := w.heap.size) rfl _ _).alloc (g := w.heap.size + 1) (by simp) _ _).new hn).ofMem; have HS1 := Aside0.mk h1; clear hn h1)
    | fail)
  have hB := HS1.out.alloc (g := w1.heap.size) rfl #[.slice A1 m.secs.length c1, .slice A2 m.cache.length c2, .bool true, .slice A3 m.bad.length c3] 30
  generalize hg : w1.heap.size = g at *
  generalize hw : w1.alloc (.cells #[.slice A1 m.secs.length c1, .slice A2 m.cache.length c2, .bool true, .slice A3 m.bad.length c3] 30 (0, 0)) = w2 at *
  have HB := Aside0.mk hB
  obtain ⟨k1, k2, k3, k4⟩ := four (HB.out.get 0 rfl)
  obtain ⟨z1, z2, z3, z4⟩ := four (HB.out.get 4 rfl)
  have fk := frozen_alloc (HB.out.get 0 rfl)
  have fz := frozen_alloc (HB.out.get 4 rfl)
  replace z1 := cell_alloc z1; replace z2 := cell_alloc z2; replace z3 := cell_alloc z3; replace z4 := cell_alloc z4
  replace k1 := cell_alloc k1; replace k2 := cell_alloc k2; replace k3 := cell_alloc k3; replace k4 := cell_alloc k4
  have hne : w.heap.size + 1 ≠ g := HB.out.neq 4 0 rfl rfl (by decide)
  have hne2 : g ≠ w.heap.size + 1 := Ne.symm hne
  clear hB hg hw
  go_wp2
  have HE : Sep w [] _ _ := (((((HB.out.lit (g := w2.heap.size) rfl oWr 66).setb 1 rfl 1 (.slice (some ⟨w2.heap.size, 0, none⟩) 0 0) rfl).setb 5 rfl 0 (.slice A1 m.secs.length c1) rfl).setb 5 rfl 1 (.slice (some ⟨w2.heap.size, 0, none⟩) 0 0) rfl).setb 5 rfl 2 (.bool true) rfl).setb 5 rfl 3 (.slice A3 m.bad.length c3) rfl
  refine bodyPost_ret (results_cell_row rfl _ _ (w.heap.size + 1) 30 #[.slice A1 m.secs.length c1, .slice (some ⟨w2.heap.size, 0, none⟩) 0 0, .bool true, .slice A3 m.bad.length c3] (0, 0) _ rfl (HE.get 5 rfl) Try.underlying30 rfl (by kernel_rfl)) rfl ?_
  have h9 := (HE.sel [2, 0, 4] (by decide) (by simp)).toMem (m := failV m)
  exact ⟨_, _, rfl, h9.toNew 0 rfl⟩
set_option maxHeartbeats 2000000 in
theorem c_implMemNew (n : Int) (w : World) :
    Calls Try.prog 34 #[.int .i64 n] w fun e w' => ∃ u F, e = .returned u ∧ New w w' (me F u (newV n)) := by
  by_cases hn : inR n 1 20 = true
  · have hr : (1 : Int) ≤ n ∧ n ≤ 20 := by simpa [inR] using hn
    obtain ⟨k, rfl⟩ : ∃ k : Nat, n = (k : Int) := ⟨n.toNat, by omega⟩
    have hv : newV (k : Int) = ⟨List.replicate k [], [], false, []⟩ := by unfold newV; rw [if_pos hn]; rfl
    have Hv := Aside0.mk hv
    clear hv
    go_enter Try.func34, Try.ntmps34
    go_wp2_with (first
      | (go_at_call 120; refine (c_within _ _ _ _).mono ?_; rw [hn]; rintro e w1 ⟨rfl, hb⟩; have HS1 := Aside0.mk (((Sep.start w []).alloc (g := w.heap.size) rfl #[.slice none 0 0, .slice none 0 0, .bool false, .slice none 0 0] 30).dr hb); clear hb)
      | (at_make; refine make_O oSec rfl rfl 22 24 _ _ rfl k rfl rfl Try.underlying22 (.slice none 0 0) 24 (by kernel_rfl) rfl (by decide) (by decide) [] (fun w' => ⟨_, rfl, O_nil oInt 3 w'⟩) (by omega) ?_; intro w2 ho hb; have HS2 := Aside0.mk (HS1.out.new (new_row ho ⟨by simp, by simp⟩ hb)); clear ho hb; obtain ⟨z1, z2, z3, z4⟩ := four (HS2.out.get 1 rfl); have fz := blk_frozen (HS2.out.get 1 rfl))
      | fail)
    have HE : Sep w [] _ _ := (((HS2.out.setb 1 rfl 0 (.slice (some ⟨w1.heap.size, 0, none⟩) k k) rfl).setb 1 rfl 1 (.slice none 0 0) rfl).setb 1 rfl 2 (.bool false) rfl).setb 1 rfl 3 (.slice none 0 0) rfl
    refine bodyPost_ret (results_cell_row rfl _ _ w.heap.size 30 #[.slice (some ⟨w1.heap.size, 0, none⟩) k k, .slice none 0 0, .bool false, .slice none 0 0] (0, 0) _ rfl (HE.get 1 rfl) Try.underlying30 rfl (by kernel_rfl)) rfl ?_
    rw [Hv.out]
    have h9 := (((HE.nil oInt 3).nil oWr 66).sel [2, 0, 1] (by decide) (by simp)).toMem (m := ⟨List.replicate k [], [], false, []⟩)
    exact ⟨_, _, rfl, h9.toNew 0 rfl⟩
  · simp only [Bool.not_eq_true] at hn
    go_enter Try.func34, Try.ntmps34
    go_wp2_with (first
      | (go_at_call 120; refine (c_within _ _ _ _).mono ?_; rw [hn]; rintro e w1 ⟨rfl, hb⟩; have HS1 := Aside0.mk (((Sep.start w []).alloc (g := w.heap.size) rfl #[.slice none 0 0, .slice none 0 0, .bool false, .slice none 0 0] 30).dr hb); clear hb; obtain ⟨z1, z2, z3, z4⟩ := four (HS1.out.get 0 rfl); have fz := blk_frozen (HS1.out.get 0 rfl))
      | fail)
    have HE : Sep w [] _ _ := (((HS1.out.setb 0 rfl 0 (.slice none 0 0) rfl).setb 0 rfl 1 (.slice none 0 0) rfl).setb 0 rfl 2 (.bool false) rfl).setb 0 rfl 3 (.slice none 0 0) rfl
    refine bodyPost_ret (results_cell_row rfl _ _ w.heap.size 30 #[.slice none 0 0, .slice none 0 0, .bool false, .slice none 0 0] (0, 0) _ rfl (HE.get 0 rfl) Try.underlying30 rfl (by kernel_rfl)) rfl ?_
    have hv : newV n = ⟨[], [], false, []⟩ := by unfold newV; rw [hn]; rfl
    rw [hv]
    have h9 := ((((HE.nil oInt 3).nil oWr 66).nil oSec 24).sel [0, 1, 2] (by decide) (by simp)).toMem (m := ⟨[], [], false, []⟩)
    exact ⟨_, _, rfl, h9.toNew 0 rfl⟩
set_option maxHeartbeats 2000000 in
theorem c_specMemNew (n : Int) (w : World) :
    Calls Try.prog 35 #[.int .i64 n] w fun e w' => ∃ u F, e = .returned u ∧ New w w' (me F u (newV n)) := by
  by_cases hn : inR n 1 20 = true
  · have hr : (1 : Int) ≤ n ∧ n ≤ 20 := by simpa [inR] using hn
    obtain ⟨k, rfl⟩ : ∃ k : Nat, n = (k : Int) := ⟨n.toNat, by omega⟩
    have hv : newV (k : Int) = ⟨List.replicate k [], [], false, []⟩ := by unfold newV; rw [if_pos hn]; rfl
    have Hv := Aside0.mk hv
    have hk : k ≤ 20 := by omega
    clear hv hr
    go_enter Try.func35, Try.ntmps35
    go_wp2_with (first
      | (go_at_call 96; refine (c_l1In _ _ _ _).mono ?_; rw [hn]; rintro e w1 ⟨rfl, hb⟩; have HS1 := Aside0.mk (((Sep.start w []).alloc (g := w.heap.size) rfl #[.slice none 0 0, .slice none 0 0, .bool false, .slice none 0 0] 30).dr hb); clear hb)
      | fail)
    have HB := Aside0.mk ((((HS1.out.alloc (g := w1.heap.size) rfl #[.slice none 0 0, .slice none 0 0, .bool false, .slice none 0 0] 30).nil oInt 3).nil oWr 66).nil oSec 24)
    generalize hg : w1.heap.size = g at *
    go_loopw [4] (fun v4 wr => ∃ i : Nat, i ≤ k ∧ v4 = .int .i64 i ∧ ∃ (A : Option Addr) (c : Nat) (F : List Nat), Aside0 (Sep w [] wr [rw_ oSec 24 F (.slice A i c) (List.replicate i []), bx g 30 #[.slice A i c, .slice none 0 0, .bool false, .slice none 0 0], rw_ oWr 66 [] (.slice none 0 0) [], rw_ oInt 3 [] (.slice none 0 0) [], bx w.heap.size 30 #[.slice none 0 0, .slice none 0 0, .bool false, .slice none 0 0]])) (fun v4 _ => k - (intOf v4).toNat)
    case atStart => exact ⟨0, by omega, rfl, none, 0, [], ⟨HB.out.sel [0, 3, 1, 2, 4] (by decide) (by simp)⟩⟩
    case round =>
      obtain ⟨i, hi, rfl, A, c, F, HR⟩ := hrel
      by_cases hlt : i < k
      · obtain ⟨p1, p2, p3, p4⟩ := four (HR.out.get 1 rfl)
        clear p2 p3 p4
        go_wp2_with (first
          | (at_builtin; refine app_one (d := oSec) (y := []) ((HR.out.lit rfl oInt 3).sel [1, 0, 2, 3, 4, 5] (by decide) (by simp)) rfl _ _ 22 (.slice none 0 0) 24 (by rfl) Try.underlying22 (by kernel_rfl) rfl (by decide) (by decide) [.slice (some ⟨_, 0, none⟩) 0 0] ⟨_, rfl, (HR.out.lit rfl oInt 3).get 0 rfl⟩ (by rfl) (by rfl) (by simp) (n := i) (by simp) (by omega) ?_; intro A2 c2 w2 F2 h2; have HS2 := Aside0.mk h2; clear p1; obtain ⟨p1, p2, p3, p4⟩ := four (h2.get 1 rfl); have fz := blk_frozen (h2.get 1 rfl); clear p2 p3 p4 h2)
          | fail)
        go_roundw
        case rel => exact ⟨i + 1, by omega, by go_num, A2, c2, F2, ⟨by rw [List.replicate_succ']; exact HS2.out.setb 1 rfl 0 _ rfl⟩⟩
        case measure => simp [intOf]; omega
      · obtain rfl : i = k := by omega
        obtain ⟨p1, p2, p3, p4⟩ := four (HR.out.get 1 rfl)
        obtain ⟨z1, z2, z3, z4⟩ := four (HR.out.get 4 rfl)
        have fz := blk_frozen (HR.out.get 4 rfl)
        go_wp2
        have HE : Sep w [] _ _ := (((HR.out.setb 4 rfl 0 (.slice A i c) rfl).setb 4 rfl 1 (.slice none 0 0) rfl).setb 4 rfl 2 (.bool false) rfl).setb 4 rfl 3 (.slice none 0 0) rfl
        refine bodyPost_ret (results_cell_row rfl _ _ w.heap.size 30 #[.slice A i c, .slice none 0 0, .bool false, .slice none 0 0] (0, 0) _ rfl (HE.get 4 rfl) Try.underlying30 rfl (by kernel_rfl)) rfl ?_
        rw [Hv.out]
        have h9 := (HE.sel [0, 2, 3] (by decide) (by simp)).toMem (m := ⟨List.replicate i [], [], false, []⟩)
        exact ⟨_, _, rfl, h9.toNew 0 rfl⟩
  · simp only [Bool.not_eq_true] at hn
    go_enter Try.func35, Try.ntmps35
    go_wp2_with (first
      | (go_at_call 96; refine (c_l1In _ _ _ _).mono ?_; rw [hn]; rintro e w1 ⟨rfl, hb⟩; have HS1 := Aside0.mk (((Sep.start w []).alloc (g := w.heap.size) rfl #[.slice none 0 0, .slice none 0 0, .bool false, .slice none 0 0] 30).dr hb); clear hb; obtain ⟨z1, z2, z3, z4⟩ := four (HS1.out.get 0 rfl); have fz := blk_frozen (HS1.out.get 0 rfl))
      | fail)
    have HE : Sep w [] _ _ := (((HS1.out.setb 0 rfl 0 (.slice none 0 0) rfl).setb 0 rfl 1 (.slice none 0 0) rfl).setb 0 rfl 2 (.bool false) rfl).setb 0 rfl 3 (.slice none 0 0) rfl
    refine bodyPost_ret (results_cell_row rfl _ _ w.heap.size 30 #[.slice none 0 0, .slice none 0 0, .bool false, .slice none 0 0] (0, 0) _ rfl (HE.get 0 rfl) Try.underlying30 rfl (by kernel_rfl)) rfl ?_
    have hv : newV n = ⟨[], [], false, []⟩ := by unfold newV; rw [hn]; rfl
    rw [hv]
    have h9 := ((((HE.nil oInt 3).nil oWr 66).nil oSec 24).sel [0, 1, 2] (by decide) (by simp)).toMem (m := ⟨[], [], false, []⟩)
    exact ⟨_, _, rfl, h9.toNew 0 rfl⟩
end Go.Proofs.Ytlmnmcfieagmbaa.MFail
