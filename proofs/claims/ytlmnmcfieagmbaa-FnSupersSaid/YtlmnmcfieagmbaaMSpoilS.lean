/- SpoilSec of the reference. -/
import Derived.Test.YtlmnmcfieagmbaaMCopyS
import Derived.Test.YtlmnmcfieagmbaaMReadS
import Derived.Test.YtlmnmcfieagmbaaMSpoilV
import Derived.Test.YtlmnmcfieagmbaaSepT
import Derived.Deep.DrawnRows
import Derived.Deep.DeepCutAuto
import Derived.Tactics2
namespace Go.Proofs.Ytlmnmcfieagmbaa.MSpoilS
open Go.RowKit Go.Proofs.Ytlmnmcfieagmbaa.RJ Go.Proofs.YtlmnmcfieagmbaaW.PrintWords Go.Proofs.Ytlmnmcfieagmbaa.Fp Go.Proofs.Ytlmnmcfieagmbaa.FpStep Go.Proofs.Ytlmnmcfieagmbaa.MInt Go.Proofs.Ytlmnmcfieagmbaa.MKinds Go.Proofs.Ytlmnmcfieagmbaa.MRead Go.Proofs.Ytlmnmcfieagmbaa.MMake Go.Proofs.Ytlmnmcfieagmbaa.MPut Go.Proofs.Ytlmnmcfieagmbaa.MOk Go.Proofs.Ytlmnmcfieagmbaa.MVal Go.Proofs.Ytlmnmcfieagmbaa.Sep Go.Proofs.Ytlmnmcfieagmbaa.SepStep Go.Proofs.Ytlmnmcfieagmbaa.MCopyS Go.Proofs.Ytlmnmcfieagmbaa.MReadS Go.Proofs.Ytlmnmcfieagmbaa.MSpoilV
set_option linter.unusedVariables false
set_option linter.unusedSimpArgs false
attribute [local go_sem ↓] Go.wp_at_zero Go.wp_at_succ
def canSpoil (m : MemV) (n : Int) : Bool := memB m && (inR n 0 ((m.secs.length : Int) - 1) && !hasN m.bad n)
theorem spoilV_eq (m : MemV) (n : Int) : spoilV m n = if canSpoil m n then ⟨m.secs, m.cache, m.failed, insN n m.bad⟩ else m := rfl
set_option maxHeartbeats 4000000 in
set_option maxRecDepth 100000 in
theorem c_specSpoilSec {w : World} {v : Value} {m : MemV} {n : Int} (h : MemR w v m) (hs : Small m) :
    Calls Try.prog 12 #[v, .int .i64 n] w fun e w' => ∃ u F, e = .returned u ∧ New w w' (me F u (spoilV m n)) := by
  have H := Aside0.mk h
  obtain ⟨s, c, b, rfl, r1, r2, r3⟩ := h
  have H3 := Aside0.mk r3
  obtain ⟨A01, c01, rfl, _⟩ := r1
  clear r2 r3
  have hb1 := hs.1
  have hb3 := hs.2.2.2.2
  have HS := Aside0.mk hs
  clear hs
  generalize hmf : m.failed = mf at H
  go_enter Try.func12, Try.ntmps12
  go_upto_region 2 with (first
    | (go_at_call 95; refine (c_l2Copy (MemR_below H.out (below_alloc (below_alloc (Below.refl _ _) _) _)) HS.out).mono ?_; rintro e w1 ⟨u, F, rfl, hn⟩; obtain ⟨A1, c1, A2, c2, A3, c3, F1, F2, F3, rfl, h1⟩ := ((((Sep.start w []).alloc (g := w.heap.size) rfl _ _).alloc (g := w.heap.size + 1) (by simp) _ _).new hn).ofMem; have HS1 := Aside0.mk h1; clear hn h1)
    | fail)
  have hB := HS1.out.alloc (g := w1.heap.size) rfl #[.slice A1 m.secs.length c1, .slice A2 m.cache.length c2, .bool mf, .slice A3 m.bad.length c3] 30
  try rw [hmf]
  generalize hg : w1.heap.size = g at *
  generalize hw : w1.alloc (.cells #[.slice A1 m.secs.length c1, .slice A2 m.cache.length c2, .bool mf, .slice A3 m.bad.length c3] 30 (0, 0)) = w2 at *
  have HB := Aside0.mk hB
  clear hB hg hw
  obtain ⟨k1, k2, k3, k4⟩ := four (HB.out.get 5 rfl)
  have HD : w1 = w1 := rfl
  go_cut [26] (fun s26 wx => s26 = .bool (!canSpoil m n) ∧ Aside0 (Sep w [] wx [bx g 30 #[.slice A1 m.secs.length c1, .slice A2 m.cache.length c2, .bool mf, .slice A3 m.bad.length c3], rw_ oSec 24 F1 (.slice A1 m.secs.length c1) m.secs, rw_ oWr 66 F2 (.slice A2 m.cache.length c2) m.cache, rw_ oInt 3 F3 (.slice A3 m.bad.length c3) m.bad, bx (w.heap.size + 1) 30 #[.slice none 0 0, .slice none 0 0, .bool false, .slice none 0 0], bx w.heap.size 30 #[.slice A01 m.secs.length c01, c, .bool mf, b]]))
  case first =>
    obtain ⟨A3', c3', hbv, _⟩ := id H3.out
    subst hbv
    by_cases hA : memB m = true
    · by_cases hI : inR n 0 ((m.secs.length : Int) - 1) = true
      · have hcan : canSpoil m n = !hasN m.bad n := by simp [canSpoil, hA, hI]
        have Hcan := Aside0.mk hcan
        clear hcan
        go_wp2_with (first
          | (go_at_call 97; refine (c_l2Has (HE.out.rk H3.out)).mono ?_; rintro e w5 ⟨rfl, hb⟩; have HG := Aside0.mk (HE.out.dr hb); clear hb)
          | (go_at_call 96; refine (c_l1In _ _ _ _).mono ?_; rw [hI]; rintro e w4 ⟨rfl, hb⟩; have HE := Aside0.mk (HC.out.dr hb); clear hb k1 k2 k3 k4; obtain ⟨k1, k2, k3, k4⟩ := four (HE.out.get 5 rfl))
          | (go_at_call 29; refine (c_specMemOk (MemR_below H.out HB.out.toBelow)).mono ?_; rintro e w3 ⟨rfl, hb⟩; have HC := Aside0.mk (HB.out.below hb); clear hb k1 k2 k3 k4; obtain ⟨k1, k2, k3, k4⟩ := four (HC.out.get 5 rfl))
          | fail)
        go_meet
        exact ⟨by rw [Hcan.out]; simp [hasN], HG⟩
      · simp only [Bool.not_eq_true] at hI
        have hcan : canSpoil m n = false := by simp [canSpoil, hA, hI]
        have Hcan := Aside0.mk hcan
        clear hcan
        go_wp2_with (first
          | (go_at_call 96; refine (c_l1In _ _ _ _).mono ?_; rw [hI]; rintro e w4 ⟨rfl, hb⟩; have HE := Aside0.mk (HC.out.dr hb); clear hb k1 k2 k3 k4; obtain ⟨k1, k2, k3, k4⟩ := four (HE.out.get 5 rfl))
          | (go_at_call 29; refine (c_specMemOk (MemR_below H.out HB.out.toBelow)).mono ?_; rintro e w3 ⟨rfl, hb⟩; have HC := Aside0.mk (HB.out.below hb); clear hb k1 k2 k3 k4; obtain ⟨k1, k2, k3, k4⟩ := four (HC.out.get 5 rfl))
          | fail)
        go_meet
        exact ⟨by rw [Hcan.out]; rfl, HE⟩
    · simp only [Bool.not_eq_true] at hA
      have hcan : canSpoil m n = false := by simp [canSpoil, hA]
      have Hcan := Aside0.mk hcan
      clear hcan
      go_wp2_with (first
        | (go_at_call 29; refine (c_specMemOk (MemR_below H.out HB.out.toBelow)).mono ?_; rintro e w3 ⟨rfl, hb⟩; have HC := Aside0.mk (HB.out.below hb); clear hb k1 k2 k3 k4; obtain ⟨k1, k2, k3, k4⟩ := four (HC.out.get 5 rfl))
        | fail)
      go_meet
      exact ⟨by rw [Hcan.out]; rfl, HC⟩
  case rest =>
    obtain ⟨rfl, HC⟩ := hcut
    clear HB HS1 k1 k2 k3 k4
    by_cases hcan : canSpoil m n = true
    · have hval : spoilV m n = ⟨m.secs, m.cache, m.failed, insN n m.bad⟩ := by rw [spoilV_eq, hcan]; rfl
      have Hval := Aside0.mk hval
      have hpp : memB m = true ∧ hasN m.bad n = false := by simpa [canSpoil] using (show memB m = true ∧ _ ∧ _ from by simpa [canSpoil] using hcan).imp_right (fun q => q.2)
      obtain ⟨hmB, hhN⟩ := hpp
      obtain ⟨hp1, hp2, hp3, hp4, hp5⟩ := memB_parts hmB
      have Hp3 := Aside0.mk hp3
      have HhN := Aside0.mk hhN
      rw [hcan]
      clear hp1 hp2 hp3 hp5 hmB hhN hcan hval
      obtain ⟨k1, k2, k3, k4⟩ := four (HC.out.get 0 rfl)
      go_upto_region 5 with (first
        | (at_builtin; (refine app_one0 (d := oInt) (y := n) (HC.out.front 3 rfl) rfl _ _ 24 (.int .i64 0) 8 (by rfl) Try.underlying24 (by kernel_rfl) rfl (by decide) (by decide) [.int .i64 n] (by first | exact ⟨rfl, rfl⟩ | rfl | simp [oInt, Od.int]) (by rfl) (by rfl) rfl (n := m.bad.length) rfl (by omega) ?_); intro A4 c4 w4 F4 hs4; obtain ⟨g4, cap4, hA4, hg4, _⟩ := O_form (show oInt.O 3 w4 F4 (.slice A4 (m.bad.length + 1) c4) (m.bad ++ [n]) from hs4.get 0 rfl) (by simp); obtain rfl := (Value.slice.inj hA4).1; clear hA4; have HS4 := Aside0.mk hs4; have gz := blk_frozen (HS4.out.get 1 rfl); clear hs4 hg4 k1 k2 k3 k4; obtain ⟨k1, k2, k3, k4⟩ := four (HS4.out.get 1 rfl))
        | fail)
      have hE := (HS4.out.setb 1 rfl 3 (.slice (some ⟨g4, 0, none⟩) (m.bad.length + 1) c4) rfl).sel [1, 0, 2, 3, 4, 5] (by decide) (by simp)
      simp only [List.map_cons, List.map_nil, pick, List.getD_cons_succ, List.getD_cons_zero, List.set_cons_zero, List.set_cons_succ, List.eraseIdx_cons_zero, List.eraseIdx_cons_succ, List.setIfInBounds_toArray] at hE
      generalize w4.setCell ⟨g, 3, none⟩ (.slice (some ⟨g4, 0, none⟩) (m.bad.length + 1) c4) = w5 at *
      have HE := Aside0.mk hE
      clear hE HS4 HC gz k1 k2 k3 k4
      obtain ⟨k1, k2, k3, k4⟩ := four (HE.out.get 0 rfl)
      have el : ((m.bad.length + 1 : Nat) : Int) = (m.bad.length : Int) + 1 := by omega
      go_wp2
      go_loopw [6] (fun v6 wr => ∃ k : Nat, k ≤ m.bad.length ∧ v6 = .int .i64 k ∧ ∃ ys : List Int, Aside0 (ys.length = m.bad.length + 1 ∧ ys.take k = m.bad.take k ∧ ys.drop (k + 1) = m.bad.drop k ∧ (∀ x ∈ m.bad.drop k, ¬ x < n)) ∧ Aside0 (Sep w [] wr [bx g 30 #[.slice A1 m.secs.length c1, .slice A2 m.cache.length c2, .bool mf, .slice (some ⟨g4, 0, none⟩) (m.bad.length + 1) c4], rw_ oInt 3 F4 (.slice (some ⟨g4, 0, none⟩) (m.bad.length + 1) c4) ys, rw_ oSec 24 F1 (.slice A1 m.secs.length c1) m.secs, rw_ oWr 66 F2 (.slice A2 m.cache.length c2) m.cache, bx (w.heap.size + 1) 30 #[.slice none 0 0, .slice none 0 0, .bool false, .slice none 0 0], bx w.heap.size 30 #[.slice A01 m.secs.length c01, c, .bool mf, b]])) (fun v6 _ => (intOf v6).toNat)
      case atStart =>
        go_loud (refine ⟨m.bad.length, by omega, by first | rfl | go_num, m.bad ++ [n], ⟨by simp, by simp, by simp, by simp⟩, HE⟩)
      case round =>
        obtain ⟨k, hk, rfl, ys, hy, HR⟩ := hrel
        clear k1 k2 k3 k4
        obtain ⟨k1, k2, k3, k4⟩ := four (HR.out.get 0 rfl)
        have hyl := hy.out.1
        by_cases hgo : 0 < k ∧ n < m.bad.getD (k - 1) 0
        · obtain ⟨h0, hn1⟩ := hgo
          obtain ⟨q, rfl⟩ : ∃ q, k = q + 1 := ⟨k - 1, by omega⟩
          have hq : q < m.bad.length := by omega
          have hyq : ys[q]'(by omega) = m.bad[q] := by
            have h1 : (ys.take (q + 1))[q]'(by simp; omega) = (m.bad.take (q + 1))[q]'(by simp; omega) := by simp only [hy.out.2.1]
            simpa using h1
          have cq := (O_int_cell (HR.out.get 1 rfl) (show q < ys.length by omega)).1
          have fq := O_int_cell (HR.out.get 1 rfl) (show q + 1 < ys.length by omega)
          rw [hyq] at cq
          have hn2 : n < m.bad[q] := by simpa [hq] using hn1
          generalize hx : m.bad[q] = x at *
          obtain ⟨c2q, fq⟩ := fq
          have hx2 := Aside0.mk hx
          clear hn1 hx hyq
          have q0 : (0 : Int) ≤ (q : Int) := by omega
          have q1 : (0 : Int) ≤ (q : Int) + 1 := by omega
          have ql : (q : Int) < (m.bad.length : Int) + 1 := by omega
          have qw : IntKind.i64.wrap (q : Int) = (q : Int) := by rw [IntKind.wrap_i64]; omega
          go_upto_region 7 with fail
          refine wp_region_seq (fun w' => w'.cell? ⟨g, 3, none⟩ = some (.slice (some ⟨g4, 0, none⟩) (m.bad.length + 1) c4) ∧ w'.cell? ⟨g4, q, none⟩ = some (.int .i64 x)) [10] [(0, true), (1, true), (2, true), (3, true), (4, true), (5, true), (6, true), (7, true), (8, true), (9, true), (10, false)] (by kernel_rfl) (by kernel_rfl) ?_
          have hS : (fun w' : World => w'.cell? ⟨g, 3, none⟩ = some (.slice (some ⟨g4, 0, none⟩) (m.bad.length + 1) c4) ∧ w'.cell? ⟨g4, q, none⟩ = some (.int .i64 x)) wr.drew := ⟨k4, cq⟩
          iterate 10 (refine seq_take hS rfl (fun _ _ _ h => h) (by rfl) (fun w_ hSw => by (try dsimp only at hSw); go_simp; first | done | with_reducible rfl) ?_; (try simp only [Act.put, List.getElem_toArray, List.getElem_cons_succ, List.getElem_cons_zero, List.setIfInBounds_toArray, List.set_cons_zero, List.set_cons_succ]))
          refine seq_step rfl (fun K hK => ?_)
          go_simp
          refine hK.out _ _ ⟨(fun h => (by cases h)), ?_⟩; clear hK K; (try simp only [Act.put, List.getElem_toArray, List.getElem_cons_succ, List.getElem_cons_zero, List.setIfInBounds_toArray, List.set_cons_zero, List.set_cons_succ])
          refine seq_done ?_
          go_wp2
          go_roundw
          case rel =>
            have hs6 := (HR.out.seti 1 rfl (show q + 1 < ys.length by omega) x).drew
            simp only [List.map_cons, List.map_nil, pick, List.getD_cons_succ, List.getD_cons_zero, List.set_cons_zero, List.set_cons_succ, List.eraseIdx_cons_zero, List.eraseIdx_cons_succ, List.setIfInBounds_toArray] at hs6
            refine ⟨q, by omega, by go_num, ys.set (q + 1) x, ⟨by simp [hyl], ?_, ?_, ?_⟩, ⟨hs6⟩⟩
            · have h1 := congrArg (List.take q) hy.out.2.1
              rw [List.take_set_of_le (by omega)]
              simpa [List.take_take, Nat.min_eq_left (Nat.le_succ q)] using h1
            · rw [List.drop_eq_getElem_cons (show q + 1 < (ys.set (q + 1) x).length by simp; omega), List.drop_eq_getElem_cons hq, List.getElem_set_self, hx2.out, List.drop_set_of_lt (by omega), hy.out.2.2.1]
            · intro z hz
              rw [List.drop_eq_getElem_cons hq, hx2.out] at hz
              rcases List.mem_cons.1 hz with rfl | hz
              · omega
              · exact hy.out.2.2.2 z hz
          case measure => first | (simp [intOf]; done) | (simp [intOf]; omega)
        · have hend : k = 0 ∨ m.bad.getD (k - 1) 0 ≤ n := by omega
          have hins : insN n m.bad = ys.set k n := by
            have hlt := take_lt Hp3.out HhN.out hk hend
            rw [← List.take_append_drop k m.bad, insN_split n _ _ hlt hy.out.2.2.2, ← hy.out.2.1, ← hy.out.2.2.1]
            rw [List.set_eq_take_append_cons_drop, if_pos (by omega)]
          have Hins := Aside0.mk hins
          have ck := O_int_cell (HR.out.get 1 rfl) (show k < ys.length by omega)
          obtain ⟨ck, fk⟩ := ck
          obtain ⟨z1, z2, z3, z4⟩ := four (HR.out.get 4 rfl)
          have fz := blk_frozen (HR.out.get 4 rfl)
          have hgr : g4 ≠ w.heap.size + 1 := fun e => by
            have := HR.out.apart 1 4 rfl rfl (by decide) g4 (mem_own (show oInt.O 3 wr F4 _ ys from HR.out.get 1 rfl) g4 rfl)
            simp [bx] at this
            exact this e
          have hg4 : g4 ≠ g := fun e => by
            have := HR.out.apart 1 0 rfl rfl (by decide) g4 (mem_own (show oInt.O 3 wr F4 _ ys from HR.out.get 1 rfl) g4 rfl)
            simp [bx] at this
            exact this e
          have hgz : g ≠ w.heap.size + 1 := HR.out.neq 0 4 rfl rfl (by decide)
          have q0 : (0 : Int) ≤ (k : Int) := by omega
          have ql : (k : Int) < (m.bad.length : Int) + 1 := by omega
          have qw : IntKind.i64.wrap (k : Int) = (k : Int) := by rw [IntKind.wrap_i64]; omega
          clear hins
          rcases Nat.eq_zero_or_pos k with h0 | h0
          · subst h0
            go_wp2
            have HE : Sep w [] _ _ := (((((HR.out.seti 1 rfl (show 0 < ys.length by omega) n).setb 4 rfl 0 (.slice A1 m.secs.length c1) rfl).setb 4 rfl 1 (.slice A2 m.cache.length c2) rfl).setb 4 rfl 2 (.bool mf) rfl).setb 4 rfl 3 (.slice (some ⟨g4, 0, none⟩) (m.bad.length + 1) c4) rfl)
            refine bodyPost_ret (results_cell_row rfl _ _ (w.heap.size + 1) 30 #[.slice A1 m.secs.length c1, .slice A2 m.cache.length c2, .bool mf, .slice (some ⟨g4, 0, none⟩) (m.bad.length + 1) c4] (0, 0) _ rfl (HE.get 4 rfl) Try.underlying30 rfl (by kernel_rfl)) rfl ?_
            rw [Hval.out]
            have h9 := (HE.sel [2, 3, 1] (by decide) (by simp)).toMem (m := ⟨m.secs, m.cache, mf, ys.set 0 n⟩)
            rw [Hins.out, hmf]
            first | exact ⟨_, _, rfl, h9.toNew 0 rfl⟩ | exact ⟨_, rfl, _, h9.toNew 0 rfl⟩
          · obtain ⟨q, rfl⟩ : ∃ q, k = q + 1 := ⟨k - 1, by omega⟩
            have hq : q < m.bad.length := by omega
            have hyq : ys[q]'(by omega) = m.bad[q] := by
              have h1 : (ys.take (q + 1))[q]'(by simp; omega) = (m.bad.take (q + 1))[q]'(by simp; omega) := by simp only [hy.out.2.1]
              simpa using h1
            have cq := (O_int_cell (HR.out.get 1 rfl) (show q < ys.length by omega)).1
            rw [hyq] at cq
            have hn2 : ¬ n < m.bad[q] := by
              have h5 : ¬ n < m.bad.getD q 0 := fun h6 => hgo ⟨by omega, by simpa using h6⟩
              simpa [hq] using h5
            generalize hx : m.bad[q] = x at *
            have hq0 : (0 : Int) ≤ (q : Int) := by omega
            have hql : (q : Int) < (m.bad.length : Int) + 1 := by omega
            have hqw : IntKind.i64.wrap (q : Int) = (q : Int) := by rw [IntKind.wrap_i64]; omega
            clear hyq hx hgo hend
            go_wp2
            have HE : Sep w [] _ _ := (((((HR.out.seti 1 rfl (show q + 1 < ys.length by omega) n).setb 4 rfl 0 (.slice A1 m.secs.length c1) rfl).setb 4 rfl 1 (.slice A2 m.cache.length c2) rfl).setb 4 rfl 2 (.bool mf) rfl).setb 4 rfl 3 (.slice (some ⟨g4, 0, none⟩) (m.bad.length + 1) c4) rfl)
            refine bodyPost_ret (results_cell_row rfl _ _ (w.heap.size + 1) 30 #[.slice A1 m.secs.length c1, .slice A2 m.cache.length c2, .bool mf, .slice (some ⟨g4, 0, none⟩) (m.bad.length + 1) c4] (0, 0) _ rfl (HE.get 4 rfl) Try.underlying30 rfl (by kernel_rfl)) rfl ?_
            rw [Hval.out]
            have h9 := (HE.sel [2, 3, 1] (by decide) (by simp)).toMem (m := ⟨m.secs, m.cache, mf, ys.set (q + 1) n⟩)
            rw [Hins.out, hmf]
            first | exact ⟨_, _, rfl, h9.toNew 0 rfl⟩ | exact ⟨_, rfl, _, h9.toNew 0 rfl⟩
    · simp only [Bool.not_eq_true] at hcan
      have hval : spoilV m n = m := by rw [spoilV_eq, hcan]; rfl
      have Hval := Aside0.mk hval
      rw [hcan]
      obtain ⟨k1, k2, k3, k4⟩ := four (HC.out.get 0 rfl)
      obtain ⟨z1, z2, z3, z4⟩ := four (HC.out.get 4 rfl)
      have fz := blk_frozen (HC.out.get 4 rfl)
      clear hcan hval
      go_wp2
      have HE : Sep w [] _ _ := ((((HC.out.setb 4 rfl 0 (.slice A1 m.secs.length c1) rfl).setb 4 rfl 1 (.slice A2 m.cache.length c2) rfl).setb 4 rfl 2 (.bool mf) rfl).setb 4 rfl 3 (.slice A3 m.bad.length c3) rfl)
      refine bodyPost_ret (results_cell_row rfl _ _ (w.heap.size + 1) 30 #[.slice A1 m.secs.length c1, .slice A2 m.cache.length c2, .bool mf, .slice A3 m.bad.length c3] (0, 0) _ rfl (HE.get 4 rfl) Try.underlying30 rfl (by kernel_rfl)) rfl ?_
      rw [Hval.out]
      subst hmf
      have h9 := (HE.sel [1, 2, 3] (by decide) (by simp)).toMem (m := m)
      first | exact ⟨_, _, rfl, h9.toNew 0 rfl⟩ | exact ⟨_, rfl, _, h9.toNew 0 rfl⟩
end Go.Proofs.Ytlmnmcfieagmbaa.MSpoilS
