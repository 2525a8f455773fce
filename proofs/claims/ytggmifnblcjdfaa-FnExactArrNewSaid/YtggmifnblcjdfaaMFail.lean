/- FailMem, MemNew. -/
import Derived.Test.YtggmifnblcjdfaaMCopyS
import Derived.Test.YtggmifnblcjdfaaMVal
import Derived.Test.YtggmifnblcjdfaaSepMore
import Derived.Deep.DrawnRows
namespace Go.Proofs.Ytggmifnblcjdfaa.MFail
open Go.RowKit Go.Proofs.Ytggmifnblcjdfaa.RJ Go.Proofs.YtggmifnblcjdfaaW.PrintWords Go.Proofs.Ytggmifnblcjdfaa.Fp Go.Proofs.Ytggmifnblcjdfaa.FpStep Go.Proofs.Ytggmifnblcjdfaa.MInt Go.Proofs.Ytggmifnblcjdfaa.MKinds Go.Proofs.Ytggmifnblcjdfaa.MRead Go.Proofs.Ytggmifnblcjdfaa.MMake Go.Proofs.Ytggmifnblcjdfaa.MPut Go.Proofs.Ytggmifnblcjdfaa.MOk Go.Proofs.Ytggmifnblcjdfaa.MVal Go.Proofs.Ytggmifnblcjdfaa.Sep Go.Proofs.Ytggmifnblcjdfaa.SepStep Go.Proofs.Ytggmifnblcjdfaa.MCopy Go.Proofs.Ytggmifnblcjdfaa.MCopyS
set_option linter.unusedVariables false
set_option linter.unusedSimpArgs false
attribute [local go_sem ↓] Go.wp_at_zero Go.wp_at_succ
set_option maxHeartbeats 2000000 in
theorem c_implMemNew (n : Int) (w : World) :
    Calls Try.prog 58 #[.int .i64 n] w fun e w' => ∃ u F, e = .returned u ∧ New w w' (me F u (newV n)) := by
  by_cases hn : inR n 1 20 = true
  · have hr : (1 : Int) ≤ n ∧ n ≤ 20 := by simpa [inR] using hn
    obtain ⟨k, rfl⟩ : ∃ k : Nat, n = (k : Int) := ⟨n.toNat, by omega⟩
    have hv : newV (k : Int) = ⟨List.replicate k [], [], false, []⟩ := by unfold newV; rw [if_pos hn]; rfl
    have Hv := Aside0.mk hv
    clear hv
    go_enter Try.func58, Try.ntmps58
    go_wp2_with (first
      | (go_at_call 41; refine (c_within _ _ _ _).mono ?_; rw [hn]; rintro e w1 ⟨rfl, hb⟩; have HS1 := Aside0.mk (((Sep.start w []).alloc (g := w.heap.size) rfl #[.slice none 0 0, .slice none 0 0, .bool false, .slice none 0 0] 57).dr hb); clear hb)
      | (at_make; refine make_O oSec rfl rfl 54 44 _ _ rfl k rfl rfl Try.underlying54 (.slice none 0 0) 24 (by kernel_rfl) rfl (by decide) (by decide) [] (fun w' => ⟨_, rfl, O_nil oInt 3 w'⟩) (by omega) ?_; intro w2 ho hb; have HS2 := Aside0.mk (HS1.out.new (new_row ho ⟨by simp, by simp⟩ hb)); clear ho hb; obtain ⟨z1, z2, z3, z4⟩ := four (HS2.out.get 1 rfl); have fz := blk_frozen (HS2.out.get 1 rfl))
      | fail)
    have HE : Sep w [] _ _ := (((HS2.out.setb 1 rfl 0 (.slice (some ⟨w1.heap.size, 0, none⟩) k k) rfl).setb 1 rfl 1 (.slice none 0 0) rfl).setb 1 rfl 2 (.bool false) rfl).setb 1 rfl 3 (.slice none 0 0) rfl
    refine bodyPost_ret (results_cell_row rfl _ _ w.heap.size 57 #[.slice (some ⟨w1.heap.size, 0, none⟩) k k, .slice none 0 0, .bool false, .slice none 0 0] (0, 0) _ rfl (HE.get 1 rfl) Try.underlying57 rfl (by kernel_rfl)) rfl ?_
    rw [Hv.out]
    have h9 := (((HE.nil oInt 3).nil oWr 101).sel [2, 0, 1] (by decide) (by simp)).toMem (m := ⟨List.replicate k [], [], false, []⟩)
    exact ⟨_, _, rfl, h9.toNew 0 rfl⟩
  · simp only [Bool.not_eq_true] at hn
    go_enter Try.func58, Try.ntmps58
    go_wp2_with (first
      | (go_at_call 41; refine (c_within _ _ _ _).mono ?_; rw [hn]; rintro e w1 ⟨rfl, hb⟩; have HS1 := Aside0.mk (((Sep.start w []).alloc (g := w.heap.size) rfl #[.slice none 0 0, .slice none 0 0, .bool false, .slice none 0 0] 57).dr hb); clear hb; obtain ⟨z1, z2, z3, z4⟩ := four (HS1.out.get 0 rfl); have fz := blk_frozen (HS1.out.get 0 rfl))
      | fail)
    have HE : Sep w [] _ _ := (((HS1.out.setb 0 rfl 0 (.slice none 0 0) rfl).setb 0 rfl 1 (.slice none 0 0) rfl).setb 0 rfl 2 (.bool false) rfl).setb 0 rfl 3 (.slice none 0 0) rfl
    refine bodyPost_ret (results_cell_row rfl _ _ w.heap.size 57 #[.slice none 0 0, .slice none 0 0, .bool false, .slice none 0 0] (0, 0) _ rfl (HE.get 0 rfl) Try.underlying57 rfl (by kernel_rfl)) rfl ?_
    have hv : newV n = ⟨[], [], false, []⟩ := by unfold newV; rw [hn]; rfl
    rw [hv]
    have h9 := ((((HE.nil oInt 3).nil oWr 101).nil oSec 44).sel [0, 1, 2] (by decide) (by simp)).toMem (m := ⟨[], [], false, []⟩)
    exact ⟨_, _, rfl, h9.toNew 0 rfl⟩
set_option maxHeartbeats 2000000 in
theorem c_specMemNew (n : Int) (w : World) :
    Calls Try.prog 53 #[.int .i64 n] w fun e w' => ∃ u F, e = .returned u ∧ New w w' (me F u (newV n)) := by
  by_cases hn : inR n 1 20 = true
  · have hr : (1 : Int) ≤ n ∧ n ≤ 20 := by simpa [inR] using hn
    obtain ⟨k, rfl⟩ : ∃ k : Nat, n = (k : Int) := ⟨n.toNat, by omega⟩
    have hv : newV (k : Int) = ⟨List.replicate k [], [], false, []⟩ := by unfold newV; rw [if_pos hn]; rfl
    have Hv := Aside0.mk hv
    have hk : k ≤ 20 := by omega
    clear hv hr
    go_enter Try.func53, Try.ntmps53
    go_wp2_with (first
      | (go_at_call 38; refine (c_l1In _ _ _ _).mono ?_; rw [hn]; rintro e w1 ⟨rfl, hb⟩; have HS1 := Aside0.mk (((Sep.start w []).alloc (g := w.heap.size) rfl #[.slice none 0 0, .slice none 0 0, .bool false, .slice none 0 0] 57).dr hb); clear hb)
      | fail)
    have HB := Aside0.mk ((((HS1.out.alloc (g := w1.heap.size) rfl #[.slice none 0 0, .slice none 0 0, .bool false, .slice none 0 0] 57).nil oInt 3).nil oWr 101).nil oSec 44)
    generalize hg : w1.heap.size = g at *
    go_loopw [4] (fun v4 wr => ∃ i : Nat, i ≤ k ∧ v4 = .int .i64 i ∧ ∃ (A : Option Addr) (c : Nat) (F : List Nat), Aside0 (Sep w [] wr [rw_ oSec 44 F (.slice A i c) (List.replicate i []), bx g 57 #[.slice A i c, .slice none 0 0, .bool false, .slice none 0 0], rw_ oWr 101 [] (.slice none 0 0) [], rw_ oInt 3 [] (.slice none 0 0) [], bx w.heap.size 57 #[.slice none 0 0, .slice none 0 0, .bool false, .slice none 0 0]])) (fun v4 _ => k - (intOf v4).toNat)
    case atStart => exact ⟨0, by omega, rfl, none, 0, [], ⟨HB.out.sel [0, 3, 1, 2, 4] (by decide) (by simp)⟩⟩
    case round =>
      obtain ⟨i, hi, rfl, A, c, F, HR⟩ := hrel
      by_cases hlt : i < k
      · obtain ⟨p1, p2, p3, p4⟩ := four (HR.out.get 1 rfl)
        clear p2 p3 p4
        go_wp2_with (first
          | (at_builtin; refine app_one (d := oSec) (y := []) ((HR.out.lit rfl oInt 3).sel [1, 0, 2, 3, 4, 5] (by decide) (by simp)) rfl _ _ 54 (.slice none 0 0) 24 (by rfl) Try.underlying54 (by kernel_rfl) rfl (by decide) (by decide) [.slice (some ⟨_, 0, none⟩) 0 0] ⟨_, rfl, (HR.out.lit rfl oInt 3).get 0 rfl⟩ (by rfl) (by rfl) (by simp) (n := i) (by simp) (by omega) ?_; intro A2 c2 w2 F2 h2; have HS2 := Aside0.mk h2; clear p1; obtain ⟨p1, p2, p3, p4⟩ := four (h2.get 1 rfl); have fz := blk_frozen (h2.get 1 rfl); clear p2 p3 p4 h2)
          | fail)
        go_roundw
        case rel => exact ⟨i + 1, by omega, by go_num, A2, c2, F2, ⟨by rw [List.replicate_succ']; exact HS2.out.setb 1 rfl 0 _ rfl⟩⟩
        case measure => simp [intOf]; omega
      · obtain rfl : i = k := by omega
        obtain ⟨p1, p2, p3, p4⟩ := four (HR.out.get 1 rfl)
        obtain ⟨z1, z2, z3, z4⟩ := four (HR.out.get 4 rfl)
        have fz := blk_frozen (HR.out.get 4 rfl)
        go_wp2
        have HE : Sep w [] _ _ := (((HR.out.setb 4 rfl 0 (.slice A i c) rfl).setb 4 rfl 1 (.slice none 0 0) rfl).setb 4 rfl 2 (.bool false) rfl).setb 4 rfl 3 (.slice none 0 0) rfl
        refine bodyPost_ret (results_cell_row rfl _ _ w.heap.size 57 #[.slice A i c, .slice none 0 0, .bool false, .slice none 0 0] (0, 0) _ rfl (HE.get 4 rfl) Try.underlying57 rfl (by kernel_rfl)) rfl ?_
        rw [Hv.out]
        have h9 := (HE.sel [0, 2, 3] (by decide) (by simp)).toMem (m := ⟨List.replicate i [], [], false, []⟩)
        exact ⟨_, _, rfl, h9.toNew 0 rfl⟩
  · simp only [Bool.not_eq_true] at hn
    go_enter Try.func53, Try.ntmps53
    go_wp2_with (first
      | (go_at_call 38; refine (c_l1In _ _ _ _).mono ?_; rw [hn]; rintro e w1 ⟨rfl, hb⟩; have HS1 := Aside0.mk (((Sep.start w []).alloc (g := w.heap.size) rfl #[.slice none 0 0, .slice none 0 0, .bool false, .slice none 0 0] 57).dr hb); clear hb; obtain ⟨z1, z2, z3, z4⟩ := four (HS1.out.get 0 rfl); have fz := blk_frozen (HS1.out.get 0 rfl))
      | fail)
    have HE : Sep w [] _ _ := (((HS1.out.setb 0 rfl 0 (.slice none 0 0) rfl).setb 0 rfl 1 (.slice none 0 0) rfl).setb 0 rfl 2 (.bool false) rfl).setb 0 rfl 3 (.slice none 0 0) rfl
    refine bodyPost_ret (results_cell_row rfl _ _ w.heap.size 57 #[.slice none 0 0, .slice none 0 0, .bool false, .slice none 0 0] (0, 0) _ rfl (HE.get 0 rfl) Try.underlying57 rfl (by kernel_rfl)) rfl ?_
    have hv : newV n = ⟨[], [], false, []⟩ := by unfold newV; rw [hn]; rfl
    rw [hv]
    have h9 := ((((HE.nil oInt 3).nil oWr 101).nil oSec 44).sel [0, 1, 2] (by decide) (by simp)).toMem (m := ⟨[], [], false, []⟩)
    exact ⟨_, _, rfl, h9.toNew 0 rfl⟩
end Go.Proofs.Ytggmifnblcjdfaa.MFail
