/- ReadSec, of both. -/
import Derived.Test.YtlmnmcfieagmbaaSepStep
import Derived.Test.YtlmnmcfieagmbaaMVal
import Derived.Deep.DrawnRows
import Derived.Deep.DeepCutAuto
import Derived.Tactics2
namespace Go.Proofs.Ytlmnmcfieagmbaa.MReadS
open Go.RowKit Go.Proofs.Ytlmnmcfieagmbaa.RJ Go.Proofs.YtlmnmcfieagmbaaW.PrintWords Go.Proofs.Ytlmnmcfieagmbaa.Fp Go.Proofs.Ytlmnmcfieagmbaa.FpStep Go.Proofs.Ytlmnmcfieagmbaa.MInt Go.Proofs.Ytlmnmcfieagmbaa.MKinds Go.Proofs.Ytlmnmcfieagmbaa.MRead Go.Proofs.Ytlmnmcfieagmbaa.MMake Go.Proofs.Ytlmnmcfieagmbaa.MPut Go.Proofs.Ytlmnmcfieagmbaa.MOk Go.Proofs.Ytlmnmcfieagmbaa.MVal Go.Proofs.Ytlmnmcfieagmbaa.Sep Go.Proofs.Ytlmnmcfieagmbaa.SepStep
set_option linter.unusedVariables false
set_option linter.unusedSimpArgs false
attribute [local go_sem ↓] Go.wp_at_zero Go.wp_at_succ
theorem lastS_snoc (l : List (Int × List Int)) (n : Int) (s : List Int) (e : Int × List Int) : lastS (l ++ [e]) n s = if e.1 == n then e.2 else lastS l n s := by simp [lastS]
theorem inR_true {n lo hi : Int} (h : inR n lo hi = true) : lo ≤ n ∧ n ≤ hi := by simpa [inR] using h
theorem ret2 {u : Value} {b c : Bool} (h : b = c) : Ending.returned (.tuple #[u, .bool b]) = .returned (.tuple #[u, .bool c]) := by rw [h]
theorem below_box {w w1 : World} {g : Nat} {t : TypeId} {cs : Array Value} (h : w.heap[g]? = some (.cells cs t (0, 0))) (hb : Below w.heap.size w w1) : w1.heap[g]? = some (.cells cs t (0, 0)) := blk_below h hb
/-- What the head of ReadSec finds. -/
def Found (m : MemV) (n : Int) (w : World) (cs : Array Value) (t : TypeId) (s : Value) (wx : World) : Prop := s = .bool (!canRead m n) ∧ Sep w [] wx [bx w.heap.size t cs]
set_option maxHeartbeats 2000000 in
set_option maxRecDepth 100000 in
theorem c_implReadSec {w : World} {v : Value} {m : MemV} {n : Int} (h : MemR w v m) (hs : Small m) :
    Calls Try.prog 21 #[v, .int .i64 n] w fun e w' => ∃ u F, e = .returned (.tuple #[u, .bool (canRead m n)]) ∧ New w w' (rw_ oInt 3 F u (readV m n)) := by
  have H := Aside0.mk h
  obtain ⟨s, c, b, rfl, r1, r2, r3⟩ := h
  have H1 := Aside0.mk r1
  have H2 := Aside0.mk r2
  have H3 := Aside0.mk r3
  obtain ⟨A1, c1, rfl, _⟩ := r1
  obtain ⟨A2, c2, rfl, _⟩ := r2
  obtain ⟨A3, c3, rfl, _⟩ := r3
  have hb1 := hs.1
  have hb2 := hs.2.2.1
  have HS := Aside0.mk hs
  clear hs
  generalize hmf : m.failed = mf at H
  have Hmf := Aside0.mk hmf
  clear hmf
  go_enter Try.func21, Try.ntmps21
  go_upto_region 1 with fail
  go_cut [27] (fun s27 wx => Found m n w #[.slice A1 m.secs.length c1, .slice A2 m.cache.length c2, .bool mf, .slice A3 m.bad.length c3] 30 s27 wx)
  case first =>
    have hk := Hmf.out
    by_cases hA : memB m = true
    · cases mf
      · by_cases hC : inR n 0 ((m.secs.length : Int) - 1) = true
        · have hcan : canRead m n = !hasN m.bad n := by simp [canRead, hA, hk, hC]
          have Hcan := Aside0.mk hcan
          clear hcan hk
          go_wp2_with (first
            | (go_at_call 28; refine (c_implMemOk (MemR_below H.out (below_alloc (Below.refl _ _) _))).mono ?_; rintro e w1 ⟨rfl, hb⟩; have HS1 := Aside0.mk (((Sep.start w []).alloc (g := w.heap.size) rfl #[.slice A1 m.secs.length c1, .slice A2 m.cache.length c2, .bool false, .slice A3 m.bad.length c3] 30).below hb); obtain ⟨k1, k2, k3, k4⟩ := four (HS1.out.get 0 rfl); clear hb)
            | (go_at_call 102; refine (c_hasSec (MemR_below H.out HS1.out.toBelow)).mono ?_; rintro e w2 ⟨rfl, hb⟩; have HS2 := Aside0.mk (HS1.out.below hb); clear hb k1 k2 k3 k4; obtain ⟨k1, k2, k3, k4⟩ := four (HS2.out.get 0 rfl))
            | (go_at_call 117; refine (c_Contains (HS2.out.rk H3.out)).mono ?_; rintro e w3 ⟨rfl, hb⟩; have HS3 := Aside0.mk (HS2.out.dr hb); clear hb)
            | fail)
          go_meet
          exact ⟨by rw [Hcan.out]; simp [hasN], HS3.out⟩
        · simp only [Bool.not_eq_true] at hC
          have hcan : canRead m n = false := by simp [canRead, hA, hk, hC]
          have Hcan := Aside0.mk hcan
          clear hcan hk
          go_wp2_with (first
            | (go_at_call 28; refine (c_implMemOk (MemR_below H.out (below_alloc (Below.refl _ _) _))).mono ?_; rintro e w1 ⟨rfl, hb⟩; have HS1 := Aside0.mk (((Sep.start w []).alloc (g := w.heap.size) rfl #[.slice A1 m.secs.length c1, .slice A2 m.cache.length c2, .bool false, .slice A3 m.bad.length c3] 30).below hb); obtain ⟨k1, k2, k3, k4⟩ := four (HS1.out.get 0 rfl); clear hb)
            | (go_at_call 102; refine (c_hasSec (MemR_below H.out HS1.out.toBelow)).mono ?_; rintro e w2 ⟨rfl, hb⟩; have HS2 := Aside0.mk (HS1.out.below hb); clear hb k1 k2 k3 k4; obtain ⟨k1, k2, k3, k4⟩ := four (HS2.out.get 0 rfl))
            | fail)
          go_meet
          exact ⟨by rw [Hcan.out]; rfl, HS2.out⟩
      · have hcan : canRead m n = false := by simp [canRead, hk]
        have Hcan := Aside0.mk hcan
        clear hcan hk
        go_wp2_with (first
            | (go_at_call 28; refine (c_implMemOk (MemR_below H.out (below_alloc (Below.refl _ _) _))).mono ?_; rintro e w1 ⟨rfl, hb⟩; have HS1 := Aside0.mk (((Sep.start w []).alloc (g := w.heap.size) rfl #[.slice A1 m.secs.length c1, .slice A2 m.cache.length c2, .bool true, .slice A3 m.bad.length c3] 30).below hb); obtain ⟨k1, k2, k3, k4⟩ := four (HS1.out.get 0 rfl); clear hb)
            | fail)
        go_meet
        exact ⟨by rw [Hcan.out]; rfl, HS1.out⟩
    · simp only [Bool.not_eq_true] at hA
      have hcan : canRead m n = false := by simp [canRead, hA]
      have Hcan := Aside0.mk hcan
      clear hcan hk
      go_wp2_with (first
            | (go_at_call 28; refine (c_implMemOk (MemR_below H.out (below_alloc (Below.refl _ _) _))).mono ?_; rintro e w1 ⟨rfl, hb⟩; have HS1 := Aside0.mk (((Sep.start w []).alloc (g := w.heap.size) rfl #[.slice A1 m.secs.length c1, .slice A2 m.cache.length c2, .bool mf, .slice A3 m.bad.length c3] 30).below hb); obtain ⟨k1, k2, k3, k4⟩ := four (HS1.out.get 0 rfl); clear hb)
            | fail)
      go_meet
      exact ⟨by rw [Hcan.out]; rfl, HS1.out⟩
  case rest =>
    obtain ⟨rfl, hx⟩ := hcut
    have HX := Aside0.mk hx
    obtain ⟨k1, k2, k3, k4⟩ := four (HX.out.get 0 rfl)
    clear hx
    by_cases hcan : canRead m n = true
    · have hn := inR_true (show inR n 0 ((m.secs.length : Int) - 1) = true by simp [canRead] at hcan; exact hcan.2.2.1)
      obtain ⟨k, rfl⟩ : ∃ k : Nat, n = (k : Int) := ⟨n.toNat, by omega⟩
      have hk : k < m.secs.length := by omega
      obtain ⟨x, hxi⟩ : ∃ x, m.secs[k]? = some x := ⟨_, List.getElem?_eq_getElem hk⟩
      obtain ⟨ad, cap, ha, hc⟩ := RK_slices H1.out (by omega)
      cases ha
      obtain ⟨u, cu0, ru⟩ := hc k x hxi
      have cu := HX.out.old cu0
      have hread : readV m k = lastS m.cache k x := by
        simp [readV, hcan, hxi]
      have Hread := Aside0.mk hread
      have Ru := Aside0.mk ru
      have Hxi := Aside0.mk hxi
      have Hcan := Aside0.mk hcan
      have hxl := HS.out.2.1 x (List.mem_of_getElem? hxi)
      rw [hcan]
      clear hc ru hxi cu0 hread hcan
      go_wp2
      go_loopw [6, 36] (fun v6 v36 wr => ∃ i : Nat, i ≤ m.cache.length ∧ v36 = .int .i64 i ∧ Aside0 (RK kInt w v6 (lastS (m.cache.take i) k x) ∧ (lastS (m.cache.take i) k x).length ≤ 16777216) ∧ Aside0 (Sep w [] wr [bx w.heap.size 30 #[.slice (some ad) m.secs.length c1, .slice A2 m.cache.length c2, .bool mf, .slice A3 m.bad.length c3]])) (fun _ v36 _ => m.cache.length - (intOf v36).toNat)
      case atStart => exact ⟨0, by omega, rfl, ⟨Ru.out, hxl⟩, HX⟩
      case round =>
        obtain ⟨i, hi, rfl, hq, HR⟩ := hrel
        by_cases hlt : i < m.cache.length
        · obtain ⟨⟨xn, y⟩, hyi⟩ : ∃ x, m.cache[i]? = some x := ⟨_, List.getElem?_eq_getElem hlt⟩
          obtain ⟨ad2, cap2, ha, hc⟩ := RK_wrs H2.out (by omega)
          cases ha
          obtain ⟨u2, cn0, cv0, ru2⟩ := hc i _ hyi
          obtain ⟨A6, c6, rfl, _⟩ := id ru2
          have Ru2 := Aside0.mk ru2
          have cn := HR.out.old cn0
          have cv := HR.out.old cv0
          have Hyi := Aside0.mk hyi
          have hyl := HS.out.2.2.2.1 _ (List.mem_of_getElem? hyi)
          clear hc ru2 hyi cn0 cv0 k1 k2 k3 k4
          by_cases he : xn = k
          · subst he
            go_wp2
            go_roundw
            case rel => exact ⟨i + 1, by omega, by go_num, ⟨by rw [take_snoc Hyi.out, lastS_snoc]; simpa using ⟨Ru2.out, hyl⟩⟩, ⟨(HR.out.alloc rfl _ _).sel [1] (by decide) (by simp)⟩⟩
            case measure => simp [intOf]; omega
          · have he2 : (xn == (k : Int)) = false := by simpa using he
            go_wp2
            go_roundw
            case rel => exact ⟨i + 1, by omega, by go_num, ⟨by rw [take_snoc Hyi.out, lastS_snoc]; simpa [he2] using hq.out⟩, ⟨(HR.out.alloc rfl _ _).sel [1] (by decide) (by simp)⟩⟩
            case measure => simp [intOf]; omega
        · obtain rfl : i = m.cache.length := by omega
          rw [List.take_length] at hq
          go_wp2_with (first
            | (go_at_call 118; refine (c_copyInts (HR.out.rk hq.out.1) hq.out.2).mono ?_; rintro e w4 ⟨u4, F4, rfl, hu, hF, hb⟩; have HS4 := Aside0.mk (HR.out.new (new_row hu hF hb)); clear hu hF hb)
            | fail)
          go_ret2
          exact ⟨_, _, ret2 Hcan.out.symm, by rw [Hread.out]; exact HS4.out.toNew 0 rfl⟩
    · simp only [Bool.not_eq_true] at hcan
      have Hcan := Aside0.mk hcan
      rw [hcan]
      clear hcan
      go_wp2
      go_ret2
      exact ⟨_, _, ret2 Hcan.out.symm, by unfold readV; rw [Hcan.out]; exact (HX.out.nil oInt 3).toNew 0 rfl⟩
set_option maxHeartbeats 2000000 in
set_option maxRecDepth 100000 in
theorem c_specReadSec {w : World} {v : Value} {m : MemV} {n : Int} (h : MemR w v m) (hs : Small m) :
    Calls Try.prog 22 #[v, .int .i64 n] w fun e w' => ∃ u F, e = .returned (.tuple #[u, .bool (canRead m n)]) ∧ New w w' (rw_ oInt 3 F u (readV m n)) := by
  have H := Aside0.mk h
  obtain ⟨s, c, b, rfl, r1, r2, r3⟩ := h
  have H1 := Aside0.mk r1
  have H2 := Aside0.mk r2
  have H3 := Aside0.mk r3
  obtain ⟨A1, c1, rfl, _⟩ := r1
  obtain ⟨A2, c2, rfl, _⟩ := r2
  obtain ⟨A3, c3, rfl, _⟩ := r3
  have hb1 := hs.1
  have hb2 := hs.2.2.1
  have HS := Aside0.mk hs
  clear hs
  generalize hmf : m.failed = mf at H
  have Hmf := Aside0.mk hmf
  clear hmf
  go_enter Try.func22, Try.ntmps22
  go_upto_region 1 with fail
  go_cut [29] (fun s29 wx => Found m n w #[.slice A1 m.secs.length c1, .slice A2 m.cache.length c2, .bool mf, .slice A3 m.bad.length c3] 30 s29 wx)
  case first =>
    have hk := Hmf.out
    by_cases hA : memB m = true
    · cases mf
      · by_cases hC : inR n 0 ((m.secs.length : Int) - 1) = true
        · have hcan : canRead m n = !hasN m.bad n := by simp [canRead, hA, hk, hC]
          have Hcan := Aside0.mk hcan
          clear hcan hk
          go_wp2_with (first
            | (go_at_call 29; refine (c_specMemOk (MemR_below H.out (below_alloc (Below.refl _ _) _))).mono ?_; rintro e w1 ⟨rfl, hb⟩; have HS1 := Aside0.mk (((Sep.start w []).alloc (g := w.heap.size) rfl #[.slice A1 m.secs.length c1, .slice A2 m.cache.length c2, .bool false, .slice A3 m.bad.length c3] 30).below hb); obtain ⟨k1, k2, k3, k4⟩ := four (HS1.out.get 0 rfl); clear hb)
            | (go_at_call 96; refine (c_l1In _ _ _ _).mono ?_; rintro e w2 ⟨rfl, hb⟩; have HS2 := Aside0.mk (HS1.out.dr hb); clear hb k1 k2 k3 k4; obtain ⟨k1, k2, k3, k4⟩ := four (HS2.out.get 0 rfl))
            | (go_at_call 97; refine (c_l2Has (HS2.out.rk H3.out)).mono ?_; rintro e w3 ⟨rfl, hb⟩; have HS3 := Aside0.mk (HS2.out.dr hb); clear hb)
            | fail)
          go_meet
          exact ⟨by rw [Hcan.out]; simp [hasN], HS3.out⟩
        · simp only [Bool.not_eq_true] at hC
          have hcan : canRead m n = false := by simp [canRead, hA, hk, hC]
          have Hcan := Aside0.mk hcan
          clear hcan hk
          go_wp2_with (first
            | (go_at_call 29; refine (c_specMemOk (MemR_below H.out (below_alloc (Below.refl _ _) _))).mono ?_; rintro e w1 ⟨rfl, hb⟩; have HS1 := Aside0.mk (((Sep.start w []).alloc (g := w.heap.size) rfl #[.slice A1 m.secs.length c1, .slice A2 m.cache.length c2, .bool false, .slice A3 m.bad.length c3] 30).below hb); obtain ⟨k1, k2, k3, k4⟩ := four (HS1.out.get 0 rfl); clear hb)
            | (go_at_call 96; refine (c_l1In _ _ _ _).mono ?_; rintro e w2 ⟨rfl, hb⟩; have HS2 := Aside0.mk (HS1.out.dr hb); clear hb k1 k2 k3 k4; obtain ⟨k1, k2, k3, k4⟩ := four (HS2.out.get 0 rfl))
            | fail)
          go_meet
          exact ⟨by rw [Hcan.out]; rfl, HS2.out⟩
      · have hcan : canRead m n = false := by simp [canRead, hk]
        have Hcan := Aside0.mk hcan
        clear hcan hk
        go_wp2_with (first
            | (go_at_call 29; refine (c_specMemOk (MemR_below H.out (below_alloc (Below.refl _ _) _))).mono ?_; rintro e w1 ⟨rfl, hb⟩; have HS1 := Aside0.mk (((Sep.start w []).alloc (g := w.heap.size) rfl #[.slice A1 m.secs.length c1, .slice A2 m.cache.length c2, .bool true, .slice A3 m.bad.length c3] 30).below hb); obtain ⟨k1, k2, k3, k4⟩ := four (HS1.out.get 0 rfl); clear hb)
            | fail)
        go_meet
        exact ⟨by rw [Hcan.out]; rfl, HS1.out⟩
    · simp only [Bool.not_eq_true] at hA
      have hcan : canRead m n = false := by simp [canRead, hA]
      have Hcan := Aside0.mk hcan
      clear hcan hk
      go_wp2_with (first
            | (go_at_call 29; refine (c_specMemOk (MemR_below H.out (below_alloc (Below.refl _ _) _))).mono ?_; rintro e w1 ⟨rfl, hb⟩; have HS1 := Aside0.mk (((Sep.start w []).alloc (g := w.heap.size) rfl #[.slice A1 m.secs.length c1, .slice A2 m.cache.length c2, .bool mf, .slice A3 m.bad.length c3] 30).below hb); obtain ⟨k1, k2, k3, k4⟩ := four (HS1.out.get 0 rfl); clear hb)
            | fail)
      go_meet
      exact ⟨by rw [Hcan.out]; rfl, HS1.out⟩
  case rest =>
    obtain ⟨rfl, hx⟩ := hcut
    have HX := Aside0.mk hx
    obtain ⟨k1, k2, k3, k4⟩ := four (HX.out.get 0 rfl)
    clear hx
    by_cases hcan : canRead m n = true
    · have hn := inR_true (show inR n 0 ((m.secs.length : Int) - 1) = true by simp [canRead] at hcan; exact hcan.2.2.1)
      obtain ⟨k, rfl⟩ : ∃ k : Nat, n = (k : Int) := ⟨n.toNat, by omega⟩
      have hk : k < m.secs.length := by omega
      obtain ⟨x, hxi⟩ : ∃ x, m.secs[k]? = some x := ⟨_, List.getElem?_eq_getElem hk⟩
      obtain ⟨ad, cap, ha, hc⟩ := RK_slices H1.out (by omega)
      cases ha
      obtain ⟨u, cu0, ru⟩ := hc k x hxi
      have cu := HX.out.old cu0
      have hread : readV m k = lastS m.cache k x := by
        simp [readV, hcan, hxi]
      have Hread := Aside0.mk hread
      have Ru := Aside0.mk ru
      have Hxi := Aside0.mk hxi
      have Hcan := Aside0.mk hcan
      have hxl := HS.out.2.1 x (List.mem_of_getElem? hxi)
      rw [hcan]
      clear hc ru hxi cu0 hread hcan
      go_wp2
      go_loopw [6, 7] (fun v6 v36 wr => ∃ i : Nat, i ≤ m.cache.length ∧ v36 = .int .i64 i ∧ Aside0 (RK kInt w v6 (lastS (m.cache.take i) k x) ∧ (lastS (m.cache.take i) k x).length ≤ 16777216) ∧ Aside0 (Sep w [] wr [bx w.heap.size 30 #[.slice (some ad) m.secs.length c1, .slice A2 m.cache.length c2, .bool mf, .slice A3 m.bad.length c3]])) (fun _ v36 _ => m.cache.length - (intOf v36).toNat)
      case atStart => exact ⟨0, by omega, rfl, ⟨Ru.out, hxl⟩, HX⟩
      case round =>
        obtain ⟨i, hi, rfl, hq, HR⟩ := hrel
        clear k1 k2 k3 k4
        obtain ⟨k1, k2, k3, k4⟩ := four (HR.out.get 0 rfl)
        by_cases hlt : i < m.cache.length
        · obtain ⟨⟨xn, y⟩, hyi⟩ : ∃ x, m.cache[i]? = some x := ⟨_, List.getElem?_eq_getElem hlt⟩
          obtain ⟨ad2, cap2, ha, hc⟩ := RK_wrs H2.out (by omega)
          cases ha
          obtain ⟨u2, cn0, cv0, ru2⟩ := hc i _ hyi
          obtain ⟨A6, c6, rfl, _⟩ := id ru2
          have Ru2 := Aside0.mk ru2
          have cn := HR.out.old cn0
          have cv := HR.out.old cv0
          have Hyi := Aside0.mk hyi
          have hyl := HS.out.2.2.2.1 _ (List.mem_of_getElem? hyi)
          clear hc ru2 hyi cn0 cv0
          by_cases he : xn = k
          · subst he
            go_wp2
            go_roundw
            case rel => exact ⟨i + 1, by omega, by go_num, ⟨by rw [take_snoc Hyi.out, lastS_snoc]; simpa using ⟨Ru2.out, hyl⟩⟩, HR⟩
            case measure => simp [intOf]; omega
          · have he2 : (xn == (k : Int)) = false := by simpa using he
            go_wp2
            go_roundw
            case rel => exact ⟨i + 1, by omega, by go_num, ⟨by rw [take_snoc Hyi.out, lastS_snoc]; simpa [he2] using hq.out⟩, HR⟩
            case measure => simp [intOf]; omega
        · obtain rfl : i = m.cache.length := by omega
          rw [List.take_length] at hq
          go_wp2_with (first | (at_builtin; refine copy_ints .i64 (HR.out.lit rfl oInt 3) rfl _ _ 24 8 (by rfl) Try.underlying24 (by kernel_rfl) (by decide) _ _ (by rfl) (by rfl) ((HR.out.lit rfl oInt 3).rk hq.out.1) (by have := hq.out.2; omega) ?_; intro A7 c7 w4 F4 h4; have HS4 := Aside0.mk h4; clear h4) | fail)
          go_ret2
          exact ⟨_, _, ret2 Hcan.out.symm, by rw [Hread.out]; exact HS4.out.toNew 0 rfl⟩
    · simp only [Bool.not_eq_true] at hcan
      have Hcan := Aside0.mk hcan
      rw [hcan]
      clear hcan
      go_wp2
      go_ret2
      exact ⟨_, _, ret2 Hcan.out.symm, by unfold readV; rw [Hcan.out]; exact (HX.out.lit rfl oInt 3).toNew 0 rfl⟩
end Go.Proofs.Ytlmnmcfieagmbaa.MReadS
