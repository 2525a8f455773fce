/- BestSuper, of both. -/
import Derived.Test.YtlmnmcfieagmbaaMSuper2
namespace Go.Proofs.Ytlmnmcfieagmbaa.MBest
open Go.RowKit Go.Proofs.Ytlmnmcfieagmbaa.RJ Go.Proofs.YtlmnmcfieagmbaaW.PrintWords Go.Proofs.Ytlmnmcfieagmbaa.Fp Go.Proofs.Ytlmnmcfieagmbaa.FpStep Go.Proofs.Ytlmnmcfieagmbaa.MInt Go.Proofs.Ytlmnmcfieagmbaa.MKinds Go.Proofs.Ytlmnmcfieagmbaa.MRead Go.Proofs.Ytlmnmcfieagmbaa.MMake Go.Proofs.Ytlmnmcfieagmbaa.MPut Go.Proofs.Ytlmnmcfieagmbaa.MVal Go.Proofs.Ytlmnmcfieagmbaa.Sep Go.Proofs.Ytlmnmcfieagmbaa.SepStep Go.Proofs.Ytlmnmcfieagmbaa.MReadS Go.Proofs.Ytlmnmcfieagmbaa.MSuper
set_option linter.unusedVariables false
set_option linter.unusedSimpArgs false
attribute [local go_sem ↓] Go.wp_at_zero Go.wp_at_succ
def bestC (m : MemV) (id : Int) (p : SupV × Bool) (i : Nat) : Bool := canRead m (i : Int) && (getB (readV m (i : Int)) && ((getS (readV m (i : Int))).id == id && ((getS (readV m (i : Int))).gen % 2 == (i : Int) && (!p.2 || decide (p.1.gen < (getS (readV m (i : Int))).gen)))))
def bestStep (m : MemV) (id : Int) (p : SupV × Bool) (i : Nat) : SupV × Bool := if bestC m id p i then (getS (readV m (i : Int)), true) else p
def bestN (m : MemV) (id : Int) (i : Nat) : SupV × Bool := (List.range i).foldl (bestStep m id) (sup0, false)
theorem bestN_succ (m : MemV) (id : Int) (i : Nat) : bestN m id (i + 1) = bestStep m id (bestN m id i) i := by simp [bestN, List.range_succ]
theorem getS_gen {l : List Int} (h : getB l = true) : 0 ≤ (getS l).gen ∧ (getS l).gen ≤ 60000 := by
  have h1 : supB (ofL l) = true := by simp [getB] at h; exact h.2.2
  have h2 : getS l = ofL l := by unfold getS; rw [if_pos h]
  rw [h2]
  simp [supB, inR] at h1
  omega
set_option maxHeartbeats 4000000 in
set_option maxRecDepth 100000 in
theorem c_implBestSuper {w : World} {v : Value} {m : MemV} {id : Int} (h : MemR w v m) (hs : Small m) :
    Calls Try.prog 47 #[v, .int .i64 id] w fun e w' => e = .returned (.tuple #[.agg (supA (bestN m id 2).1), .bool (bestN m id 2).2]) ∧ Below w.heap.size w w' := by
  have H := Aside0.mk h
  obtain ⟨s, c, b, rfl, r1, r2, r3⟩ := h
  clear r1 r2 r3
  have HSm := Aside0.mk hs
  clear hs
  generalize hmf : m.failed = mf at H
  clear hmf
  go_enter Try.func47, Try.ntmps47
  go_wp2
  have H0 := Aside0.mk ((((Sep.start w []).alloc (g := w.heap.size) rfl #[s, c, .bool mf, b] 30).alloc (g := w.heap.size + 1) (by simp) #[.int .i64 0, .int .i64 0, .int .i64 0, .int .i64 0, .int .i64 0, .int .i64 0, .int .i64 0, .int .i64 0] 53).alloc (g := w.heap.size + 1 + 1) (by simp) #[.int .i64 0, .int .i64 0, .int .i64 0, .int .i64 0, .int .i64 0, .int .i64 0, .int .i64 0, .int .i64 0] 53)
  go_loopw [7, 14] (fun v7 v14 wr => ∃ i : Nat, i ≤ 2 ∧ v14 = .int .i64 i ∧ v7 = .bool (bestN m id i).2 ∧ Aside0 (Sep w [] wr [bx (w.heap.size + 1 + 1) 53 (supA (bestN m id i).1), bx (w.heap.size + 1) 53 #[.int .i64 0, .int .i64 0, .int .i64 0, .int .i64 0, .int .i64 0, .int .i64 0, .int .i64 0, .int .i64 0], bx w.heap.size 30 #[s, c, .bool mf, b]])) (fun _ v14 _ => 2 - (intOf v14).toNat)
  case atStart => exact ⟨0, by omega, rfl, rfl, H0⟩
  case round =>
    obtain ⟨i, hi, rfl, rfl, HR⟩ := hrel
    have hbs := bestN_succ m id i
    generalize hp : bestN m id i = p at *
    by_cases hlt : i < 2
    · have Hbs := Aside0.mk hbs
      clear hbs hp
      obtain ⟨k1, k2, k3, k4⟩ := four (HR.out.get 2 rfl)
      go_upto_region 7 with (first
        | (go_at_call 21; refine (c_implReadSec (MemR_below H.out HR.out.toBelow) HSm.out).mono ?_; rintro e w1 ⟨u1, F1, rfl, hn⟩; have HS1 := Aside0.mk (HR.out.new hn); clear hn k1 k2 k3 k4)
        | (go_at_call 44; refine (c_implGetSuper (O_RK (HS1.out.get 0 rfl))).mono ?_; rintro e w2 ⟨rfl, hb⟩; simp only [supA]; have HS2 := Aside0.mk (HS1.out.below hb); clear hb)
        | fail)
      have hB := HS2.out.alloc (g := w2.heap.size) rfl #[.int .i64 (getS (readV m (i : Int))).id, .int .i64 (getS (readV m (i : Int))).gen, .int .i64 (getS (readV m (i : Int))).role, .int .i64 (getS (readV m (i : Int))).n, .int .i64 (getS (readV m (i : Int))).st, .int .i64 (getS (readV m (i : Int))).tail, .int .i64 (getS (readV m (i : Int))).lost, .int .i64 (getS (readV m (i : Int))).built] 53
      have hgen := fun h => getS_gen (l := readV m (i : Int)) h
      have hC : bestC m id p i = (canRead m (i : Int) && (getB (readV m (i : Int)) && ((getS (readV m (i : Int))).id == id && ((getS (readV m (i : Int))).gen % 2 == (i : Int) && (!p.2 || decide (p.1.gen < (getS (readV m (i : Int))).gen)))))) := rfl
      have hst : bestStep m id p i = if bestC m id p i then (getS (readV m (i : Int)), true) else p := rfl
      generalize getS (readV m (i : Int)) = S at *
      generalize getB (readV m (i : Int)) = gB at *
      generalize canRead m (i : Int) = cR at *
      have Hst := Aside0.mk (And.intro hC hst)
      have HB := Aside0.mk hB
      generalize hg3 : w2.heap.size = g3 at *
      generalize hw3 : w2.alloc _ = w3 at *
      clear hC hst hB hg3 hw3 HS2 HS1 HR
      obtain ⟨sa, f⟩ := p
      obtain ⟨k0, k1, k2, k3, k4, k5, k6, k7⟩ := eight (HB.out.get 0 rfl)
      obtain ⟨l0, l1, l2, l3, l4, l5, l6, l7⟩ := eight (HB.out.get 2 rfl)
      have fl := blk_frozen (HB.out.get 2 rfl)
      have hne : w.heap.size + 1 + 1 ≠ g3 := HB.out.neq 2 0 rfl rfl (by decide)
      have hne2 : g3 ≠ w.heap.size + 1 + 1 := Ne.symm hne

      cases cR
      · skip
        have hcv : bestC m id (sa, f) i = false := by rw [Hst.out.1]; simp [and_false]
        have hnx : bestN m id (i + 1) = (sa, f) := by rw [Hbs.out, Hst.out.2, hcv]; rfl
        have Hnx := Aside0.mk hnx
        clear hcv hnx
        go_wp2
        go_roundw
        case rel =>
          exact ⟨i + 1, by omega, by go_num, by rw [Hnx.out], ⟨by rw [Hnx.out]; exact HB.out.sel [2, 3, 4] (by decide) (by simp)⟩⟩
        case measure => simp [intOf]; omega
      · cases gB
        · skip
          have hcv : bestC m id (sa, f) i = false := by rw [Hst.out.1]; simp [and_false]
          have hnx : bestN m id (i + 1) = (sa, f) := by rw [Hbs.out, Hst.out.2, hcv]; rfl
          have Hnx := Aside0.mk hnx
          clear hcv hnx
          go_wp2
          go_roundw
          case rel =>
            exact ⟨i + 1, by omega, by go_num, by rw [Hnx.out], ⟨by rw [Hnx.out]; exact HB.out.sel [2, 3, 4] (by decide) (by simp)⟩⟩
          case measure => simp [intOf]; omega
        · have hg2 := hgen rfl
          obtain ⟨hg3, hg4⟩ := hg2
          clear hgen
          by_cases h3 : (S.id == id) = true
          · by_cases h4 : (S.gen % 2 == (i : Int)) = true
            · cases f
              · skip
                have hcv : bestC m id (sa, false) i = true := by rw [Hst.out.1]; simp [h3, h4]
                have hnx : bestN m id (i + 1) = (S, true) := by rw [Hbs.out, Hst.out.2, hcv]; rfl
                have Hnx := Aside0.mk hnx
                clear hcv hnx
                go_wp2
                go_roundw
                case rel =>
                  have hE : Sep w [] _ _ := ((((((((HB.out.setb 2 rfl 0 (.int .i64 S.id) rfl).setb 2 rfl 1 (.int .i64 S.gen) rfl).setb 2 rfl 2 (.int .i64 S.role) rfl).setb 2 rfl 3 (.int .i64 S.n) rfl).setb 2 rfl 4 (.int .i64 S.st) rfl).setb 2 rfl 5 (.int .i64 S.tail) rfl).setb 2 rfl 6 (.int .i64 S.lost) rfl).setb 2 rfl 7 (.int .i64 S.built) rfl)
                  simp only [List.map_cons, List.map_nil, pick, List.getD_cons_succ, List.getD_cons_zero, List.set_cons_zero, List.set_cons_succ, List.eraseIdx_cons_zero, List.eraseIdx_cons_succ, List.setIfInBounds_toArray] at hE
                  have hE2 := hE.sel [2, 3, 4] (by decide) (by simp)
                  simp only [List.map_cons, List.map_nil, pick, List.getD_cons_succ, List.getD_cons_zero, List.set_cons_zero, List.set_cons_succ, List.eraseIdx_cons_zero, List.eraseIdx_cons_succ, List.setIfInBounds_toArray] at hE2
                  refine ⟨i + 1, by omega, by go_num, by rw [Hnx.out], ⟨?_⟩⟩
                  rw [Hnx.out]
                  simp only [supA, List.setIfInBounds_toArray, List.set_cons_zero, List.set_cons_succ] at hE2 ⊢
                  exact hE2
                case measure => simp [intOf]; omega
              · by_cases h6 : decide (sa.gen < S.gen) = true
                · skip
                  have hcv : bestC m id (sa, true) i = true := by rw [Hst.out.1]; simp [h3, h4, h6]
                  have hnx : bestN m id (i + 1) = (S, true) := by rw [Hbs.out, Hst.out.2, hcv]; rfl
                  have Hnx := Aside0.mk hnx
                  clear hcv hnx
                  go_wp2
                  go_roundw
                  case rel =>
                    have hE : Sep w [] _ _ := ((((((((HB.out.setb 2 rfl 0 (.int .i64 S.id) rfl).setb 2 rfl 1 (.int .i64 S.gen) rfl).setb 2 rfl 2 (.int .i64 S.role) rfl).setb 2 rfl 3 (.int .i64 S.n) rfl).setb 2 rfl 4 (.int .i64 S.st) rfl).setb 2 rfl 5 (.int .i64 S.tail) rfl).setb 2 rfl 6 (.int .i64 S.lost) rfl).setb 2 rfl 7 (.int .i64 S.built) rfl)
                    simp only [List.map_cons, List.map_nil, pick, List.getD_cons_succ, List.getD_cons_zero, List.set_cons_zero, List.set_cons_succ, List.eraseIdx_cons_zero, List.eraseIdx_cons_succ, List.setIfInBounds_toArray] at hE
                    have hE2 := hE.sel [2, 3, 4] (by decide) (by simp)
                    simp only [List.map_cons, List.map_nil, pick, List.getD_cons_succ, List.getD_cons_zero, List.set_cons_zero, List.set_cons_succ, List.eraseIdx_cons_zero, List.eraseIdx_cons_succ, List.setIfInBounds_toArray] at hE2
                    refine ⟨i + 1, by omega, by go_num, by rw [Hnx.out], ⟨?_⟩⟩
                    rw [Hnx.out]
                    simp only [supA, List.setIfInBounds_toArray, List.set_cons_zero, List.set_cons_succ] at hE2 ⊢
                    exact hE2
                  case measure => simp [intOf]; omega
                · simp only [Bool.not_eq_true] at h6
                  have hcv : bestC m id (sa, true) i = false := by rw [Hst.out.1]; simp [h3, h4, h6]
                  have hnx : bestN m id (i + 1) = (sa, true) := by rw [Hbs.out, Hst.out.2, hcv]; rfl
                  have Hnx := Aside0.mk hnx
                  clear hcv hnx
                  go_wp2
                  go_roundw
                  case rel =>
                    exact ⟨i + 1, by omega, by go_num, by rw [Hnx.out], ⟨by rw [Hnx.out]; exact HB.out.sel [2, 3, 4] (by decide) (by simp)⟩⟩
                  case measure => simp [intOf]; omega
            · simp only [Bool.not_eq_true] at h4
              have hcv : bestC m id (sa, f) i = false := by rw [Hst.out.1]; simp [h3, h4]
              have hnx : bestN m id (i + 1) = (sa, f) := by rw [Hbs.out, Hst.out.2, hcv]; rfl
              have Hnx := Aside0.mk hnx
              clear hcv hnx
              go_wp2
              go_roundw
              case rel =>
                exact ⟨i + 1, by omega, by go_num, by rw [Hnx.out], ⟨by rw [Hnx.out]; exact HB.out.sel [2, 3, 4] (by decide) (by simp)⟩⟩
              case measure => simp [intOf]; omega
          · simp only [Bool.not_eq_true] at h3
            have hcv : bestC m id (sa, f) i = false := by rw [Hst.out.1]; simp [h3]
            have hnx : bestN m id (i + 1) = (sa, f) := by rw [Hbs.out, Hst.out.2, hcv]; rfl
            have Hnx := Aside0.mk hnx
            clear hcv hnx
            go_wp2
            go_roundw
            case rel =>
              exact ⟨i + 1, by omega, by go_num, by rw [Hnx.out], ⟨by rw [Hnx.out]; exact HB.out.sel [2, 3, 4] (by decide) (by simp)⟩⟩
            case measure => simp [intOf]; omega
    · obtain rfl : i = 2 := by omega
      obtain ⟨l0, l1, l2, l3, l4, l5, l6, l7⟩ := eight (HR.out.get 0 rfl)
      obtain ⟨z0, z1, z2, z3, z4, z5, z6, z7⟩ := eight (HR.out.get 1 rfl)
      have fz := blk_frozen (HR.out.get 1 rfl)
      have Hp := Aside0.mk hp
      clear hbs hp
      go_wp2
      have HE : Sep w [] _ _ := ((((((((HR.out.setb 1 rfl 0 (.int .i64 p.1.id) rfl).setb 1 rfl 1 (.int .i64 p.1.gen) rfl).setb 1 rfl 2 (.int .i64 p.1.role) rfl).setb 1 rfl 3 (.int .i64 p.1.n) rfl).setb 1 rfl 4 (.int .i64 p.1.st) rfl).setb 1 rfl 5 (.int .i64 p.1.tail) rfl).setb 1 rfl 6 (.int .i64 p.1.lost) rfl).setb 1 rfl 7 (.int .i64 p.1.built) rfl)
      refine bodyPost_ret (results_ct rfl _ _ (w.heap.size + 1) 53 (supA p.1) (0, 0) _ rfl (HE.get 1 rfl) Try.underlying53 rfl (by kernel_rfl)) rfl ?_
      exact ⟨by rw [Hp.out]; rfl, HE.toBelow⟩
set_option maxHeartbeats 4000000 in
set_option maxRecDepth 100000 in
theorem c_specBestSuper {w : World} {v : Value} {m : MemV} {id : Int} (h : MemR w v m) (hs : Small m) :
    Calls Try.prog 48 #[v, .int .i64 id] w fun e w' => e = .returned (.tuple #[.agg (supA (bestN m id 2).1), .bool (bestN m id 2).2]) ∧ Below w.heap.size w w' := by
  have H := Aside0.mk h
  obtain ⟨s, c, b, rfl, r1, r2, r3⟩ := h
  clear r1 r2 r3
  have HSm := Aside0.mk hs
  clear hs
  generalize hmf : m.failed = mf at H
  clear hmf
  go_enter Try.func48, Try.ntmps48
  go_wp2
  have H0 := Aside0.mk ((((Sep.start w []).alloc (g := w.heap.size) rfl #[s, c, .bool mf, b] 30).alloc (g := w.heap.size + 1) (by simp) #[.int .i64 0, .int .i64 0, .int .i64 0, .int .i64 0, .int .i64 0, .int .i64 0, .int .i64 0, .int .i64 0] 53).alloc (g := w.heap.size + 1 + 1) (by simp) #[.int .i64 0, .int .i64 0, .int .i64 0, .int .i64 0, .int .i64 0, .int .i64 0, .int .i64 0, .int .i64 0] 53)
  go_loopw [7, 8] (fun v7 v8 wr => ∃ i : Nat, i ≤ 2 ∧ v8 = .int .i64 i ∧ v7 = .bool (bestN m id i).2 ∧ Aside0 (Sep w [] wr [bx (w.heap.size + 1 + 1) 53 (supA (bestN m id i).1), bx (w.heap.size + 1) 53 #[.int .i64 0, .int .i64 0, .int .i64 0, .int .i64 0, .int .i64 0, .int .i64 0, .int .i64 0, .int .i64 0], bx w.heap.size 30 #[s, c, .bool mf, b]])) (fun _ v8 _ => 2 - (intOf v8).toNat)
  case atStart => exact ⟨0, by omega, rfl, rfl, H0⟩
  case round =>
    obtain ⟨i, hi, rfl, rfl, HR⟩ := hrel
    have hbs := bestN_succ m id i
    generalize hp : bestN m id i = p at *
    by_cases hlt : i < 2
    · have Hbs := Aside0.mk hbs
      clear hbs hp
      obtain ⟨k1, k2, k3, k4⟩ := four (HR.out.get 2 rfl)
      go_upto_region 8 with (first
        | (go_at_call 22; refine (c_specReadSec (MemR_below H.out HR.out.toBelow) HSm.out).mono ?_; rintro e w1 ⟨u1, F1, rfl, hn⟩; have HS1 := Aside0.mk (HR.out.new hn); clear hn k1 k2 k3 k4)
        | (go_at_call 45; refine (c_specGetSuper (O_RK (HS1.out.get 0 rfl))).mono ?_; rintro e w2 ⟨rfl, hb⟩; simp only [supA]; have HS2 := Aside0.mk (HS1.out.below hb); clear hb)
        | fail)
      have hB := HS2.out.alloc (g := w2.heap.size) rfl #[.int .i64 (getS (readV m (i : Int))).id, .int .i64 (getS (readV m (i : Int))).gen, .int .i64 (getS (readV m (i : Int))).role, .int .i64 (getS (readV m (i : Int))).n, .int .i64 (getS (readV m (i : Int))).st, .int .i64 (getS (readV m (i : Int))).tail, .int .i64 (getS (readV m (i : Int))).lost, .int .i64 (getS (readV m (i : Int))).built] 53
      have hgen := fun h => getS_gen (l := readV m (i : Int)) h
      have hC : bestC m id p i = (canRead m (i : Int) && (getB (readV m (i : Int)) && ((getS (readV m (i : Int))).id == id && ((getS (readV m (i : Int))).gen % 2 == (i : Int) && (!p.2 || decide (p.1.gen < (getS (readV m (i : Int))).gen)))))) := rfl
      have hst : bestStep m id p i = if bestC m id p i then (getS (readV m (i : Int)), true) else p := rfl
      generalize getS (readV m (i : Int)) = S at *
      generalize getB (readV m (i : Int)) = gB at *
      generalize canRead m (i : Int) = cR at *
      have Hst := Aside0.mk (And.intro hC hst)
      have HB := Aside0.mk hB
      generalize hg3 : w2.heap.size = g3 at *
      generalize hw3 : w2.alloc _ = w3 at *
      clear hC hst hB hg3 hw3 HS2 HS1 HR
      obtain ⟨sa, f⟩ := p
      obtain ⟨k0, k1, k2, k3, k4, k5, k6, k7⟩ := eight (HB.out.get 0 rfl)
      obtain ⟨l0, l1, l2, l3, l4, l5, l6, l7⟩ := eight (HB.out.get 2 rfl)
      have fl := blk_frozen (HB.out.get 2 rfl)
      have hne : w.heap.size + 1 + 1 ≠ g3 := HB.out.neq 2 0 rfl rfl (by decide)
      have hne2 : g3 ≠ w.heap.size + 1 + 1 := Ne.symm hne

      cases cR
      · skip
        have hcv : bestC m id (sa, f) i = false := by rw [Hst.out.1]; simp [and_false]
        have hnx : bestN m id (i + 1) = (sa, f) := by rw [Hbs.out, Hst.out.2, hcv]; rfl
        have Hnx := Aside0.mk hnx
        clear hcv hnx
        go_wp2
        go_roundw
        case rel =>
          exact ⟨i + 1, by omega, by go_num, by rw [Hnx.out], ⟨by rw [Hnx.out]; exact HB.out.sel [2, 3, 4] (by decide) (by simp)⟩⟩
        case measure => simp [intOf]; omega
      · cases gB
        · skip
          have hcv : bestC m id (sa, f) i = false := by rw [Hst.out.1]; simp [and_false]
          have hnx : bestN m id (i + 1) = (sa, f) := by rw [Hbs.out, Hst.out.2, hcv]; rfl
          have Hnx := Aside0.mk hnx
          clear hcv hnx
          go_wp2
          go_roundw
          case rel =>
            exact ⟨i + 1, by omega, by go_num, by rw [Hnx.out], ⟨by rw [Hnx.out]; exact HB.out.sel [2, 3, 4] (by decide) (by simp)⟩⟩
          case measure => simp [intOf]; omega
        · have hg2 := hgen rfl
          obtain ⟨hg3, hg4⟩ := hg2
          clear hgen
          by_cases h3 : (S.id == id) = true
          · by_cases h4 : (S.gen % 2 == (i : Int)) = true
            · cases f
              · skip
                have hcv : bestC m id (sa, false) i = true := by rw [Hst.out.1]; simp [h3, h4]
                have hnx : bestN m id (i + 1) = (S, true) := by rw [Hbs.out, Hst.out.2, hcv]; rfl
                have Hnx := Aside0.mk hnx
                clear hcv hnx
                go_wp2
                go_roundw
                case rel =>
                  have hE : Sep w [] _ _ := ((((((((HB.out.setb 2 rfl 0 (.int .i64 S.id) rfl).setb 2 rfl 1 (.int .i64 S.gen) rfl).setb 2 rfl 2 (.int .i64 S.role) rfl).setb 2 rfl 3 (.int .i64 S.n) rfl).setb 2 rfl 4 (.int .i64 S.st) rfl).setb 2 rfl 5 (.int .i64 S.tail) rfl).setb 2 rfl 6 (.int .i64 S.lost) rfl).setb 2 rfl 7 (.int .i64 S.built) rfl)
                  simp only [List.map_cons, List.map_nil, pick, List.getD_cons_succ, List.getD_cons_zero, List.set_cons_zero, List.set_cons_succ, List.eraseIdx_cons_zero, List.eraseIdx_cons_succ, List.setIfInBounds_toArray] at hE
                  have hE2 := hE.sel [2, 3, 4] (by decide) (by simp)
                  simp only [List.map_cons, List.map_nil, pick, List.getD_cons_succ, List.getD_cons_zero, List.set_cons_zero, List.set_cons_succ, List.eraseIdx_cons_zero, List.eraseIdx_cons_succ, List.setIfInBounds_toArray] at hE2
                  refine ⟨i + 1, by omega, by go_num, by rw [Hnx.out], ⟨?_⟩⟩
                  rw [Hnx.out]
                  simp only [supA, List.setIfInBounds_toArray, List.set_cons_zero, List.set_cons_succ] at hE2 ⊢
                  exact hE2
                case measure => simp [intOf]; omega
              · by_cases h6 : decide (sa.gen < S.gen) = true
                · skip
                  have hcv : bestC m id (sa, true) i = true := by rw [Hst.out.1]; simp [h3, h4, h6]
                  have hnx : bestN m id (i + 1) = (S, true) := by rw [Hbs.out, Hst.out.2, hcv]; rfl
                  have Hnx := Aside0.mk hnx
                  clear hcv hnx
                  go_wp2
                  go_roundw
                  case rel =>
                    have hE : Sep w [] _ _ := ((((((((HB.out.setb 2 rfl 0 (.int .i64 S.id) rfl).setb 2 rfl 1 (.int .i64 S.gen) rfl).setb 2 rfl 2 (.int .i64 S.role) rfl).setb 2 rfl 3 (.int .i64 S.n) rfl).setb 2 rfl 4 (.int .i64 S.st) rfl).setb 2 rfl 5 (.int .i64 S.tail) rfl).setb 2 rfl 6 (.int .i64 S.lost) rfl).setb 2 rfl 7 (.int .i64 S.built) rfl)
                    simp only [List.map_cons, List.map_nil, pick, List.getD_cons_succ, List.getD_cons_zero, List.set_cons_zero, List.set_cons_succ, List.eraseIdx_cons_zero, List.eraseIdx_cons_succ, List.setIfInBounds_toArray] at hE
                    have hE2 := hE.sel [2, 3, 4] (by decide) (by simp)
                    simp only [List.map_cons, List.map_nil, pick, List.getD_cons_succ, List.getD_cons_zero, List.set_cons_zero, List.set_cons_succ, List.eraseIdx_cons_zero, List.eraseIdx_cons_succ, List.setIfInBounds_toArray] at hE2
                    refine ⟨i + 1, by omega, by go_num, by rw [Hnx.out], ⟨?_⟩⟩
                    rw [Hnx.out]
                    simp only [supA, List.setIfInBounds_toArray, List.set_cons_zero, List.set_cons_succ] at hE2 ⊢
                    exact hE2
                  case measure => simp [intOf]; omega
                · simp only [Bool.not_eq_true] at h6
                  have hcv : bestC m id (sa, true) i = false := by rw [Hst.out.1]; simp [h3, h4, h6]
                  have hnx : bestN m id (i + 1) = (sa, true) := by rw [Hbs.out, Hst.out.2, hcv]; rfl
                  have Hnx := Aside0.mk hnx
                  clear hcv hnx
                  go_wp2
                  go_roundw
                  case rel =>
                    exact ⟨i + 1, by omega, by go_num, by rw [Hnx.out], ⟨by rw [Hnx.out]; exact HB.out.sel [2, 3, 4] (by decide) (by simp)⟩⟩
                  case measure => simp [intOf]; omega
            · simp only [Bool.not_eq_true] at h4
              have hcv : bestC m id (sa, f) i = false := by rw [Hst.out.1]; simp [h3, h4]
              have hnx : bestN m id (i + 1) = (sa, f) := by rw [Hbs.out, Hst.out.2, hcv]; rfl
              have Hnx := Aside0.mk hnx
              clear hcv hnx
              go_wp2
              go_roundw
              case rel =>
                exact ⟨i + 1, by omega, by go_num, by rw [Hnx.out], ⟨by rw [Hnx.out]; exact HB.out.sel [2, 3, 4] (by decide) (by simp)⟩⟩
              case measure => simp [intOf]; omega
          · simp only [Bool.not_eq_true] at h3
            have hcv : bestC m id (sa, f) i = false := by rw [Hst.out.1]; simp [h3]
            have hnx : bestN m id (i + 1) = (sa, f) := by rw [Hbs.out, Hst.out.2, hcv]; rfl
            have Hnx := Aside0.mk hnx
            clear hcv hnx
            go_wp2
            go_roundw
            case rel =>
              exact ⟨i + 1, by omega, by go_num, by rw [Hnx.out], ⟨by rw [Hnx.out]; exact HB.out.sel [2, 3, 4] (by decide) (by simp)⟩⟩
            case measure => simp [intOf]; omega
    · obtain rfl : i = 2 := by omega
      obtain ⟨l0, l1, l2, l3, l4, l5, l6, l7⟩ := eight (HR.out.get 0 rfl)
      obtain ⟨z0, z1, z2, z3, z4, z5, z6, z7⟩ := eight (HR.out.get 1 rfl)
      have fz := blk_frozen (HR.out.get 1 rfl)
      have Hp := Aside0.mk hp
      clear hbs hp
      go_wp2
      have HE : Sep w [] _ _ := ((((((((HR.out.setb 1 rfl 0 (.int .i64 p.1.id) rfl).setb 1 rfl 1 (.int .i64 p.1.gen) rfl).setb 1 rfl 2 (.int .i64 p.1.role) rfl).setb 1 rfl 3 (.int .i64 p.1.n) rfl).setb 1 rfl 4 (.int .i64 p.1.st) rfl).setb 1 rfl 5 (.int .i64 p.1.tail) rfl).setb 1 rfl 6 (.int .i64 p.1.lost) rfl).setb 1 rfl 7 (.int .i64 p.1.built) rfl)
      refine bodyPost_ret (results_ct rfl _ _ (w.heap.size + 1) 53 (supA p.1) (0, 0) _ rfl (HE.get 1 rfl) Try.underlying53 rfl (by kernel_rfl)) rfl ?_
      exact ⟨by rw [Hp.out]; rfl, HE.toBelow⟩
end Go.Proofs.Ytlmnmcfieagmbaa.MBest
