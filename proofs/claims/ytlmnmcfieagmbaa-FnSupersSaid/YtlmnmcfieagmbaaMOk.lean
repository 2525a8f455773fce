/- MemOk, the program's and the reference's: what they return. -/
import Derived.Test.YtlmnmcfieagmbaaMRead
import Derived.IntWalk
namespace Go.Proofs.Ytlmnmcfieagmbaa.MOk
open Go.RowKit Go.Proofs.YtlmnmcfieagmbaaW.PrintWords Go.Proofs.Ytlmnmcfieagmbaa.Fp Go.Proofs.Ytlmnmcfieagmbaa.MInt Go.Proofs.Ytlmnmcfieagmbaa.MKinds Go.Proofs.Ytlmnmcfieagmbaa.MRead
set_option linter.unusedVariables false
set_option linter.unusedSimpArgs false
def wrB (n : Nat) (e : Int × List Int) : Bool := inR e.1 0 ((n : Int) - 1) && secB e.2
def badB (n : Nat) (l : List Int) (i : Nat) : Bool := inR (l.getD i 0) 0 ((n : Int) - 1) && (i == 0 || decide (l.getD (i - 1) 0 < l.getD i 0))
def badsB (n : Nat) (l : List Int) : Bool := (List.range l.length).all (badB n l)
/-- A disk is right. -/
def memB (m : MemV) : Bool := m.secs.all secB && (m.cache.all (wrB m.secs.length) && (badsB m.secs.length m.bad && (inR m.secs.length 1 20 && decide (m.cache.length ≤ 60))))
theorem range_step {g : Nat → Bool} {i : Nat} (h : (List.range i).all g = true) (hg : g i = true) : (List.range (i + 1)).all g = true := by rw [List.range_succ, List.all_append, h]; simp [hg]
theorem range_not {g : Nat → Bool} {i n : Nat} (h : i < n) (hg : g i = false) : (List.range n).all g = false := by
  rw [List.all_eq_false]; exact ⟨i, List.mem_range.2 h, by simp [hg]⟩
set_option maxHeartbeats 2000000 in
set_option maxRecDepth 100000 in
theorem c_specMemOk {w : World} {v : Value} {m : MemV} (hm : MemR w v m) : Calls Try.prog 29 #[v] w fun e w' => e = .returned (.bool (memB m)) ∧ Below w.heap.size w w' := by
  obtain ⟨s, c, b, rfl, h1, h2, h3⟩ := hm
  have l1 := RK_len h1
  have l2 := RK_len h2
  have l3 := RK_len h3
  have H1 := Aside0.mk h1
  have H2 := Aside0.mk h2
  have H3 := Aside0.mk h3
  obtain ⟨A1, c1, rfl, _⟩ := h1
  obtain ⟨A2, c2, rfl, _⟩ := h2
  obtain ⟨A3, c3, rfl, _⟩ := h3
  go_enter Try.func29, Try.ntmps29
  go_wp2
  go_loopw [4] (fun v4 wr => ∃ i : Nat, i ≤ m.secs.length ∧ v4 = .int .i64 i ∧ Aside0 ((m.secs.take i).all secB = true) ∧ Aside0 (wr.heap[w.heap.size]? = some (.cells #[.slice A1 m.secs.length c1, .slice A2 m.cache.length c2, .bool m.failed, .slice A3 m.bad.length c3] 30 (0, 0))) ∧ Aside0 (Below w.heap.size w wr)) (fun v4 _ => m.secs.length - (intOf v4).toNat)
  case atStart => exact ⟨0, by omega, rfl, ⟨by simp⟩, ⟨blk_new w _⟩, ⟨below_alloc (Below.refl _ _) _⟩⟩
  case round =>
    obtain ⟨i, hi, rfl, ht, G, HB⟩ := hrel
    by_cases hlt : i < m.secs.length
    · obtain ⟨x, hxi⟩ : ∃ x, m.secs[i]? = some x := ⟨_, List.getElem?_eq_getElem hlt⟩
      obtain ⟨ad, cap, ha, hc⟩ := RK_slices (RK_below H1.out HB.out) (by omega)
      cases ha
      obtain ⟨u, cu, ru⟩ := hc i x hxi
      have Ru := Aside0.mk ru
      have Hxi := Aside0.mk hxi
      clear hc ru hxi
      obtain ⟨k1, k2, k3, k4⟩ := four G.out
      by_cases hf : secB x = true
      · go_wp2_with (first | (go_at_call 121; refine (c_specSecOk Ru.out).mono ?_; rw [hf]; rintro e w1 ⟨rfl, hq⟩; have G2 := Aside0.mk (blk_below G.out (below_drawn hq)); have HB2 := Aside0.mk (below_next HB.out (below_drawn hq)); clear hq) | fail)
        go_roundw
        case rel => exact ⟨i + 1, by omega, by go_num, ⟨all_take ht.out Hxi.out hf⟩, G2, HB2⟩
        case measure => simp [intOf]; omega
      · simp only [Bool.not_eq_true] at hf
        go_wp2_with (first | (go_at_call 121; refine (c_specSecOk Ru.out).mono ?_; rw [hf]; rintro e w1 ⟨rfl, hq⟩; have HB2 := Aside0.mk (below_next HB.out (below_drawn hq)); clear hq) | fail)
        go_ret
        exact ⟨ret_bool (by unfold memB; rw [all_not Hxi.out hf]; rfl), HB2.out⟩
    · obtain rfl : i = m.secs.length := by omega
      have hA := ht.out
      rw [List.take_length] at hA
      have HA := Aside0.mk hA
      clear ht hA
      obtain ⟨k1, k2, k3, k4⟩ := four G.out
      go_wp2
      go_loopw [5] (fun v5 wr => ∃ i : Nat, i ≤ m.cache.length ∧ v5 = .int .i64 i ∧ Aside0 ((m.cache.take i).all (wrB m.secs.length) = true) ∧ Aside0 (wr.heap[w.heap.size]? = some (.cells #[.slice A1 m.secs.length c1, .slice A2 m.cache.length c2, .bool m.failed, .slice A3 m.bad.length c3] 30 (0, 0))) ∧ Aside0 (Below w.heap.size w wr)) (fun v5 _ => m.cache.length - (intOf v5).toNat)
      case atStart => exact ⟨0, by omega, rfl, ⟨by simp⟩, G, HB⟩
      case round =>
        clear hi hlt G HB k1 k2 k3 k4
        obtain ⟨i, hi, rfl, ht, G, HB⟩ := hrel
        obtain ⟨k1, k2, k3, k4⟩ := four G.out
        by_cases hlt : i < m.cache.length
        · obtain ⟨x, hxi⟩ : ∃ x, m.cache[i]? = some x := ⟨_, List.getElem?_eq_getElem hlt⟩
          obtain ⟨ad, cap, ha, hc⟩ := RK_wrs (RK_below H2.out HB.out) (by omega)
          cases ha
          obtain ⟨u, cn, cu, ru⟩ := hc i x hxi
          have Ru := Aside0.mk ru
          have Hxi := Aside0.mk hxi
          clear hc ru hxi
          have hg : wrB m.secs.length x = (inR x.1 0 ((m.secs.length : Int) - 1) && secB x.2) := rfl
          have Hg := Aside0.mk hg
          clear hg
          by_cases hin : inR x.1 0 ((m.secs.length : Int) - 1) = true
          · by_cases hf : secB x.2 = true
            · go_wp2_with (first
                | (go_at_call 96; refine (c_l1In _ _ _ _).mono ?_; rw [hin]; rintro e w1 ⟨rfl, hq⟩; have Hq := Aside0.mk (below_drawn hq); have G1 := Aside0.mk (blk_below G.out Hq.out); have HB1 := Aside0.mk (below_next HB.out Hq.out); replace cn := (Hq.out.cell (lt_of_cell cn)).trans cn; replace cu := (Hq.out.cell (lt_of_cell cu)).trans cu; have Ru1 := Aside0.mk (RK_below Ru.out Hq.out); clear hq k1 k2 k3 k4; obtain ⟨k1, k2, k3, k4⟩ := four G1.out)
                | (go_at_call 121; refine (c_specSecOk Ru1.out).mono ?_; rw [hf]; rintro e w2 ⟨rfl, hq⟩; have G2 := Aside0.mk (blk_below G1.out (below_drawn hq)); have HB2 := Aside0.mk (below_next HB1.out (below_drawn hq)); clear hq)
                | fail)
              go_roundw
              case rel => exact ⟨i + 1, by omega, by go_num, ⟨all_take ht.out Hxi.out (by rw [Hg.out, hin, hf]; rfl)⟩, G2, HB2⟩
              case measure => simp [intOf]; omega
            · simp only [Bool.not_eq_true] at hf
              go_wp2_with (first
                | (go_at_call 96; refine (c_l1In _ _ _ _).mono ?_; rw [hin]; rintro e w1 ⟨rfl, hq⟩; have Hq := Aside0.mk (below_drawn hq); have G1 := Aside0.mk (blk_below G.out Hq.out); have HB1 := Aside0.mk (below_next HB.out Hq.out); replace cn := (Hq.out.cell (lt_of_cell cn)).trans cn; replace cu := (Hq.out.cell (lt_of_cell cu)).trans cu; have Ru1 := Aside0.mk (RK_below Ru.out Hq.out); clear hq k1 k2 k3 k4; obtain ⟨k1, k2, k3, k4⟩ := four G1.out)
                | (go_at_call 121; refine (c_specSecOk Ru1.out).mono ?_; rw [hf]; rintro e w2 ⟨rfl, hq⟩; have HB2 := Aside0.mk (below_next HB1.out (below_drawn hq)); clear hq)
                | fail)
              go_ret
              exact ⟨ret_bool (by unfold memB; rw [HA.out, all_not Hxi.out (show wrB m.secs.length x = false by rw [Hg.out, hin, hf]; rfl)]; rfl), HB2.out⟩
          · simp only [Bool.not_eq_true] at hin
            go_wp2_with (first
              | (go_at_call 96; refine (c_l1In _ _ _ _).mono ?_; rw [hin]; rintro e w1 ⟨rfl, hq⟩; have HB1 := Aside0.mk (below_next HB.out (below_drawn hq)); clear hq)
              | fail)
            go_ret
            exact ⟨ret_bool (by unfold memB; rw [HA.out, all_not Hxi.out (show wrB m.secs.length x = false by rw [Hg.out, hin]; rfl)]; rfl), HB1.out⟩
        · obtain rfl : i = m.cache.length := by omega
          have hC := ht.out
          rw [List.take_length] at hC
          have HC := Aside0.mk hC
          clear ht hC
          go_wp2
          go_loopw [6] (fun v6 wr => ∃ i : Nat, i ≤ m.bad.length ∧ v6 = .int .i64 i ∧ Aside0 ((List.range i).all (badB m.secs.length m.bad) = true) ∧ Aside0 (wr.heap[w.heap.size]? = some (.cells #[.slice A1 m.secs.length c1, .slice A2 m.cache.length c2, .bool m.failed, .slice A3 m.bad.length c3] 30 (0, 0))) ∧ Aside0 (Below w.heap.size w wr)) (fun v6 _ => m.bad.length - (intOf v6).toNat)
          case atStart => exact ⟨0, by omega, rfl, ⟨by simp⟩, G, HB⟩
          case round =>
            clear hi hlt G HB k1 k2 k3 k4
            obtain ⟨i, hi, rfl, ht, G, HB⟩ := hrel
            obtain ⟨k1, k2, k3, k4⟩ := four G.out
            by_cases hlt : i < m.bad.length
            · obtain ⟨x, hxi⟩ : ∃ x, m.bad[i]? = some x := ⟨_, List.getElem?_eq_getElem hlt⟩
              obtain ⟨ad, cap, ha, hc⟩ := ints_at (RK_below H3.out HB.out) (by omega)
              cases ha
              have cx := hc i x hxi
              have hg : badB m.secs.length m.bad i = (inR x 0 ((m.secs.length : Int) - 1) && (i == 0 || decide (m.bad.getD (i - 1) 0 < x))) := by unfold badB; rw [List.getD_eq_getElem?_getD (i := i), hxi]; rfl
              have Hg := Aside0.mk hg
              have hin0 : ∀ k, Calls Try.prog 96 #[.int .i64 x, .int .i64 0, .int .i64 ((m.secs.length : Int) - 1)] (wr.drewN k) fun e w' => e = .returned (.bool (inR x 0 ((m.secs.length : Int) - 1))) ∧ ∃ n, w' = (wr.drewN k).drewN n := fun k => c_l1In _ _ _ _
              have ws : IntKind.i64.wrap ((m.secs.length : Int) - 1) = (m.secs.length : Int) - 1 := IntWalk.i64_in _ (by omega)
              have Ws := Aside0.mk ws
              clear hg ws
              by_cases hin : inR x 0 ((m.secs.length : Int) - 1) = true
              · rw [hin] at hin0
                have ws := Ws.out
                by_cases h0 : i = 0
                · have hbd : badB m.secs.length m.bad i = true := by rw [Hg.out, hin, h0]; rfl
                  have hz : decide (0 < i) = false := by rw [decide_eq_false_iff_not]; omega
                  have i0 : (0 : Int) ≤ (i : Int) := Int.natCast_nonneg _
                  have i1 : (i : Int) < (m.bad.length : Int) := by omega
                  have Hbd := Aside0.mk hbd
                  clear hc h0 hbd
                  go_wp2
                  go_quiet ((go_at_call 96; exact Calls.quiet_of (hin0 _)))
                  go_wp2
                  go_roundw
                  case rel => exact ⟨i + 1, by omega, by go_num, ⟨range_step ht.out Hbd.out⟩, ⟨blk_below G.out (pw_below_drewN (Below.refl _ _) _)⟩, ⟨pw_below_drewN HB.out _⟩⟩
                  case measure => simp [intOf]; omega
                · obtain ⟨p, hp⟩ : ∃ p : Nat, i = p + 1 := ⟨i - 1, by omega⟩
                  obtain ⟨y, hyi⟩ : ∃ y, m.bad[p]? = some y := ⟨_, List.getElem?_eq_getElem (by omega)⟩
                  have cy := hc p y hyi
                  have hbd : badB m.secs.length m.bad i = decide (y < x) := by rw [Hg.out, hin, hp, Nat.add_sub_cancel, List.getD_eq_getElem?_getD, hyi]; simp
                  have hz : decide (0 < i) = true := by rw [decide_eq_true_eq]; omega
                  have i0 : (0 : Int) ≤ (i : Int) := Int.natCast_nonneg _
                  have i1 : (i : Int) < (m.bad.length : Int) := by omega
                  have p0 : (0 : Int) ≤ (p : Int) := Int.natCast_nonneg _
                  have p1 : (p : Int) < (m.bad.length : Int) := by omega
                  have ws2 : IntKind.i64.wrap ((i : Int) - 1) = (p : Int) := by rw [IntWalk.i64_in _ (by omega)]; omega
                  have Hbd := Aside0.mk hbd
                  by_cases hyx : y < x
                  · have hge : decide (x ≤ y) = false := by rw [decide_eq_false_iff_not]; omega
                    have Hb2 := Aside0.mk (decide_eq_true hyx)
                    clear hc h0 hbd hp hyx
                    go_wp2
                    go_quiet ((go_at_call 96; exact Calls.quiet_of (hin0 _)))
                    go_wp2
                    go_roundw
                    case rel => exact ⟨i + 1, by omega, by go_num, ⟨range_step ht.out (Hbd.out.trans Hb2.out)⟩, ⟨blk_below G.out (pw_below_drewN (Below.refl _ _) _)⟩, ⟨pw_below_drewN HB.out _⟩⟩
                    case measure => simp [intOf]; omega
                  · have hge : decide (x ≤ y) = true := by rw [decide_eq_true_eq]; omega
                    rw [decide_eq_false hyx] at hbd
                    have Hb2 := Aside0.mk hbd
                    clear hc h0 hbd hp hyx
                    go_wp2
                    go_quiet ((go_at_call 96; exact Calls.quiet_of (hin0 _)))
                    go_wp2
                    go_ret
                    exact ⟨ret_bool (by unfold memB; rw [HA.out, HC.out, show badsB m.secs.length m.bad = false from range_not hlt Hb2.out]; rfl), pw_below_drewN HB.out _⟩
              · simp only [Bool.not_eq_true] at hin
                rw [hin] at hin0
                have ws := Ws.out
                clear hc
                go_wp2
                go_quiet ((go_at_call 96; exact Calls.quiet_of (hin0 _)))
                go_wp2
                go_ret
                exact ⟨ret_bool (by unfold memB; rw [HA.out, HC.out, show badsB m.secs.length m.bad = false from range_not hlt (by rw [Hg.out, hin]; rfl)]; rfl), pw_below_drewN HB.out _⟩
            · obtain rfl : i = m.bad.length := by omega
              have hD : badsB m.secs.length m.bad = true := ht.out
              have HD := Aside0.mk hD
              clear ht hD
              by_cases hin : inR m.secs.length 1 20 = true
              · by_cases h60 : m.cache.length ≤ 60
                · go_wp2_with (first
                    | (go_at_call 96; refine (c_l1In _ _ _ _).mono ?_; rw [hin]; rintro e w1 ⟨rfl, hq⟩; have G1 := Aside0.mk (blk_below G.out (below_drawn hq)); have HB1 := Aside0.mk (below_next HB.out (below_drawn hq)); clear hq k1 k2 k3 k4; obtain ⟨k1, k2, k3, k4⟩ := four G1.out)
                    | fail)
                  go_ret
                  exact ⟨ret_bool (by unfold memB; rw [HA.out, HC.out, HD.out, hin]; simp [badsB, h60]; try omega), HB1.out⟩
                · go_wp2_with (first
                    | (go_at_call 96; refine (c_l1In _ _ _ _).mono ?_; rw [hin]; rintro e w1 ⟨rfl, hq⟩; have G1 := Aside0.mk (blk_below G.out (below_drawn hq)); have HB1 := Aside0.mk (below_next HB.out (below_drawn hq)); clear hq k1 k2 k3 k4; obtain ⟨k1, k2, k3, k4⟩ := four G1.out)
                    | fail)
                  go_ret
                  exact ⟨ret_bool (by unfold memB; rw [HA.out, HC.out, HD.out, hin]; simp; omega), HB1.out⟩
              · simp only [Bool.not_eq_true] at hin
                go_wp2_with (first
                  | (go_at_call 96; refine (c_l1In _ _ _ _).mono ?_; rw [hin]; rintro e w1 ⟨rfl, hq⟩; have G1 := Aside0.mk (blk_below G.out (below_drawn hq)); have HB1 := Aside0.mk (below_next HB.out (below_drawn hq)); clear hq k1 k2 k3 k4; obtain ⟨k1, k2, k3, k4⟩ := four G1.out)
                  | fail)
                go_ret
                exact ⟨ret_bool (by unfold memB; rw [HA.out, HC.out, HD.out, hin]; rfl), HB1.out⟩
set_option maxHeartbeats 1000000 in
theorem c_hasSec {w : World} {v : Value} {m : MemV} {n : Int} (hm : MemR w v m) : Calls Try.prog 102 #[v, .int .i64 n] w fun e w' => e = .returned (.bool (inR n 0 ((m.secs.length : Int) - 1))) ∧ Below w.heap.size w w' := by
  obtain ⟨s, c, b, rfl, h1, h2, h3⟩ := hm
  have l1 := RK_len h1
  obtain ⟨A1, c1, rfl, _⟩ := h1
  clear h2 h3
  go_enter Try.func102, Try.ntmps102
  go_wp2_with (first | (go_at_call 120; refine (c_within _ _ _ _).mono ?_; rintro e w1 ⟨rfl, hq⟩; have HB := Aside0.mk (below_next (below_alloc (Below.refl _ _) _) (below_drawn hq)); clear hq) | fail)
  go_ret
  exact ⟨rfl, HB.out⟩
set_option maxHeartbeats 2000000 in
set_option maxRecDepth 100000 in
theorem c_implMemOk {w : World} {v : Value} {m : MemV} (hm : MemR w v m) : Calls Try.prog 28 #[v] w fun e w' => e = .returned (.bool (memB m)) ∧ Below w.heap.size w w' := by
  have HM := Aside0.mk hm
  obtain ⟨s, c, b, rfl, h1, h2, h3⟩ := hm
  have l1 := RK_len h1
  have l2 := RK_len h2
  have l3 := RK_len h3
  have H1 := Aside0.mk h1
  have H2 := Aside0.mk h2
  have H3 := Aside0.mk h3
  obtain ⟨A1, c1, rfl, _⟩ := h1
  obtain ⟨A2, c2, rfl, _⟩ := h2
  obtain ⟨A3, c3, rfl, _⟩ := h3
  go_enter Try.func28, Try.ntmps28
  go_wp2
  go_loopw [12] (fun v4 wr => ∃ i : Nat, i ≤ m.secs.length ∧ v4 = .int .i64 i ∧ Aside0 ((m.secs.take i).all secB = true) ∧ Aside0 (wr.heap[w.heap.size]? = some (.cells #[.slice A1 m.secs.length c1, .slice A2 m.cache.length c2, .bool m.failed, .slice A3 m.bad.length c3] 30 (0, 0))) ∧ Aside0 (Below w.heap.size w wr)) (fun v4 _ => m.secs.length - (intOf v4).toNat)
  case atStart => exact ⟨0, by omega, rfl, ⟨by simp⟩, ⟨blk_new w _⟩, ⟨below_alloc (Below.refl _ _) _⟩⟩
  case round =>
    obtain ⟨i, hi, rfl, ht, G, HB⟩ := hrel
    by_cases hlt : i < m.secs.length
    · obtain ⟨x, hxi⟩ : ∃ x, m.secs[i]? = some x := ⟨_, List.getElem?_eq_getElem hlt⟩
      obtain ⟨ad, cap, ha, hc⟩ := RK_slices (RK_below H1.out HB.out) (by omega)
      cases ha
      obtain ⟨u, cu, ru⟩ := hc i x hxi
      have Ru := Aside0.mk ru
      have Hxi := Aside0.mk hxi
      clear hc ru hxi
      obtain ⟨k1, k2, k3, k4⟩ := four G.out
      by_cases hf : secB x = true
      · go_wp2_with (first | (go_at_call 70; refine (c_implSecOk Ru.out).mono ?_; rw [hf]; rintro e w1 ⟨rfl, hq⟩; have G2 := Aside0.mk (blk_below G.out (below_drawn hq)); have HB2 := Aside0.mk (below_next HB.out (below_drawn hq)); clear hq) | fail)
        go_roundw
        case rel => exact ⟨i + 1, by omega, by go_num, ⟨all_take ht.out Hxi.out hf⟩, G2, HB2⟩
        case measure => simp [intOf]; omega
      · simp only [Bool.not_eq_true] at hf
        go_wp2_with (first | (go_at_call 70; refine (c_implSecOk Ru.out).mono ?_; rw [hf]; rintro e w1 ⟨rfl, hq⟩; have HB2 := Aside0.mk (below_next HB.out (below_drawn hq)); clear hq) | fail)
        go_ret
        exact ⟨ret_bool (by unfold memB; rw [all_not Hxi.out hf]; rfl), HB2.out⟩
    · obtain rfl : i = m.secs.length := by omega
      have hA := ht.out
      rw [List.take_length] at hA
      have HA := Aside0.mk hA
      clear ht hA
      obtain ⟨k1, k2, k3, k4⟩ := four G.out
      go_wp2
      go_loopw [23] (fun v5 wr => ∃ i : Nat, i ≤ m.cache.length ∧ v5 = .int .i64 i ∧ Aside0 ((m.cache.take i).all (wrB m.secs.length) = true) ∧ Aside0 (wr.heap[w.heap.size]? = some (.cells #[.slice A1 m.secs.length c1, .slice A2 m.cache.length c2, .bool m.failed, .slice A3 m.bad.length c3] 30 (0, 0))) ∧ Aside0 (Below w.heap.size w wr)) (fun v5 _ => m.cache.length - (intOf v5).toNat)
      case atStart => exact ⟨0, by omega, rfl, ⟨by simp⟩, G, HB⟩
      case round =>
        clear hi hlt G HB k1 k2 k3 k4
        obtain ⟨i, hi, rfl, ht, G, HB⟩ := hrel
        obtain ⟨k1, k2, k3, k4⟩ := four G.out
        by_cases hlt : i < m.cache.length
        · obtain ⟨x, hxi⟩ : ∃ x, m.cache[i]? = some x := ⟨_, List.getElem?_eq_getElem hlt⟩
          obtain ⟨ad, cap, ha, hc⟩ := RK_wrs (RK_below H2.out HB.out) (by omega)
          cases ha
          obtain ⟨u, cn, cu, ru⟩ := hc i x hxi
          have Ru := Aside0.mk ru
          have Hxi := Aside0.mk hxi
          obtain ⟨Au, cpu, rfl, hru⟩ := ru
          clear hc hru hxi
          have hg : wrB m.secs.length x = (inR x.1 0 ((m.secs.length : Int) - 1) && secB x.2) := rfl
          have Hg := Aside0.mk hg
          clear hg
          by_cases hin : inR x.1 0 ((m.secs.length : Int) - 1) = true
          · by_cases hf : secB x.2 = true
            · have hne1 : ¬ w.heap.size = wr.heap.size := Nat.ne_of_lt (lt_of_cell k1)
              have hne3 : w.heap.size < wr.heap.size := lt_of_cell k1
              go_wp2_with (first | (go_at_call 102; refine (c_hasSec (MemR_below HM.out (below_alloc HB.out _))).mono ?_; rw [hin]; rintro e w1 ⟨rfl, hq⟩; obtain ⟨gx, hq1⟩ := box1 hq; have Hq := Aside0.mk hq1; have GX := Aside0.mk gx; have G1 := Aside0.mk (blk_below G.out Hq.out); have HB1 := Aside0.mk (below_next HB.out Hq.out); have Ru1 := Aside0.mk (RK_below Ru.out Hq.out); clear hq hq1 gx k1 k2 k3 k4; obtain ⟨k1, k2, k3, k4⟩ := four G1.out; obtain ⟨x1, x2⟩ := two GX.out) | (go_at_call 70; refine (c_implSecOk Ru1.out).mono ?_; rw [hf]; rintro e w2 ⟨rfl, hq⟩; have G2 := Aside0.mk (blk_below G1.out (below_drawn hq)); have HB2 := Aside0.mk (below_next HB1.out (below_drawn hq)); clear hq) | fail)
              go_roundw
              case rel => exact ⟨i + 1, by omega, by go_num, ⟨all_take ht.out Hxi.out (by rw [Hg.out, hin, hf]; rfl)⟩, G2, HB2⟩
              case measure => simp [intOf]; omega
            · simp only [Bool.not_eq_true] at hf
              have hne1 : ¬ w.heap.size = wr.heap.size := Nat.ne_of_lt (lt_of_cell k1)
              have hne3 : w.heap.size < wr.heap.size := lt_of_cell k1
              go_wp2_with (first | (go_at_call 102; refine (c_hasSec (MemR_below HM.out (below_alloc HB.out _))).mono ?_; rw [hin]; rintro e w1 ⟨rfl, hq⟩; obtain ⟨gx, hq1⟩ := box1 hq; have Hq := Aside0.mk hq1; have GX := Aside0.mk gx; have G1 := Aside0.mk (blk_below G.out Hq.out); have HB1 := Aside0.mk (below_next HB.out Hq.out); have Ru1 := Aside0.mk (RK_below Ru.out Hq.out); clear hq hq1 gx k1 k2 k3 k4; obtain ⟨k1, k2, k3, k4⟩ := four G1.out; obtain ⟨x1, x2⟩ := two GX.out) | (go_at_call 70; refine (c_implSecOk Ru1.out).mono ?_; rw [hf]; rintro e w2 ⟨rfl, hq⟩; have HB2 := Aside0.mk (below_next HB1.out (below_drawn hq)); clear hq) | fail)
              go_ret
              exact ⟨ret_bool (by unfold memB; rw [HA.out, all_not Hxi.out (show wrB m.secs.length x = false by rw [Hg.out, hin, hf]; rfl)]; rfl), HB2.out⟩
          · simp only [Bool.not_eq_true] at hin
            have hne1 : ¬ w.heap.size = wr.heap.size := Nat.ne_of_lt (lt_of_cell k1)
            have hne3 : w.heap.size < wr.heap.size := lt_of_cell k1
            go_wp2_with (first | (go_at_call 102; refine (c_hasSec (MemR_below HM.out (below_alloc HB.out _))).mono ?_; rw [hin]; rintro e w1 ⟨rfl, hq⟩; obtain ⟨gx, hq1⟩ := box1 hq; have Hq := Aside0.mk hq1; have GX := Aside0.mk gx; have G1 := Aside0.mk (blk_below G.out Hq.out); have HB1 := Aside0.mk (below_next HB.out Hq.out); have Ru1 := Aside0.mk (RK_below Ru.out Hq.out); clear hq hq1 gx k1 k2 k3 k4; obtain ⟨k1, k2, k3, k4⟩ := four G1.out; obtain ⟨x1, x2⟩ := two GX.out) | fail)
            go_ret
            exact ⟨ret_bool (by unfold memB; rw [HA.out, all_not Hxi.out (show wrB m.secs.length x = false by rw [Hg.out, hin]; rfl)]; rfl), HB1.out⟩
        · obtain rfl : i = m.cache.length := by omega
          have hC := ht.out
          rw [List.take_length] at hC
          have HC := Aside0.mk hC
          clear ht hC
          go_wp2
          go_loopw [42] (fun v6 wr => ∃ i : Nat, i ≤ m.bad.length ∧ v6 = .int .i64 i ∧ Aside0 ((List.range i).all (badB m.secs.length m.bad) = true) ∧ Aside0 (wr.heap[w.heap.size]? = some (.cells #[.slice A1 m.secs.length c1, .slice A2 m.cache.length c2, .bool m.failed, .slice A3 m.bad.length c3] 30 (0, 0))) ∧ Aside0 (Below w.heap.size w wr)) (fun v6 _ => m.bad.length - (intOf v6).toNat)
          case atStart => exact ⟨0, by omega, rfl, ⟨by simp⟩, G, HB⟩
          case round =>
            clear hi hlt G HB k1 k2 k3 k4
            obtain ⟨i, hi, rfl, ht, G, HB⟩ := hrel
            obtain ⟨k1, k2, k3, k4⟩ := four G.out
            by_cases hlt : i < m.bad.length
            · obtain ⟨x, hxi⟩ : ∃ x, m.bad[i]? = some x := ⟨_, List.getElem?_eq_getElem hlt⟩
              obtain ⟨ad, cap, ha, hc⟩ := ints_at H3.out (by omega)
              cases ha
              have hg : badB m.secs.length m.bad i = (inR x 0 ((m.secs.length : Int) - 1) && (i == 0 || decide (m.bad.getD (i - 1) 0 < x))) := by unfold badB; rw [List.getD_eq_getElem?_getD (i := i), hxi]; rfl
              have Hg := Aside0.mk hg
              have cx := (HB.out.cell (lt_of_cell (hc i x hxi))).trans (hc i x hxi)
              clear hg
              by_cases hin : inR x 0 ((m.secs.length : Int) - 1) = true
              · by_cases h0 : i = 0
                · have hbd : badB m.secs.length m.bad i = true := by rw [Hg.out, hin, h0]; rfl
                  have hz : decide (0 < i) = false := by rw [decide_eq_false_iff_not]; omega
                  have hz2 : ¬ 0 < i := by omega
                  have Hcx := Aside0.mk (show ∀ W, Below w.heap.size w W → True ∧ True from fun _ _ => ⟨trivial, trivial⟩)
                  have Hbd := Aside0.mk hbd
                  clear hc h0 hbd hxi
                  go_wp2_with (first | (go_at_call 102; refine (c_hasSec (MemR_below HM.out HB.out)).mono ?_; rw [hin]; rintro e w1 ⟨rfl, hq⟩; have G1 := Aside0.mk (blk_below G.out hq); have HB1 := Aside0.mk (below_next HB.out hq); clear hq k1 k2 k3 k4; obtain ⟨k1, k2, k3, k4⟩ := four G1.out; have cx2 := (Hcx.out _ HB1.out).1; have cy2 := (Hcx.out _ HB1.out).2) | fail)
                  go_roundw
                  case rel => exact ⟨i + 1, by omega, by go_num, ⟨range_step ht.out Hbd.out⟩, G1, HB1⟩
                  case measure => simp [intOf]; omega
                · obtain ⟨p, hp⟩ : ∃ p : Nat, i = p + 1 := ⟨i - 1, by omega⟩
                  obtain ⟨y, hyi⟩ : ∃ y, m.bad[p]? = some y := ⟨_, List.getElem?_eq_getElem (by omega)⟩
                  have Hcx := Aside0.mk (show ∀ W, Below w.heap.size w W → W.cell? (ad.add i) = some (.int .i64 x) ∧ W.cell? (ad.add p) = some (.int .i64 y) from fun W hb => ⟨(hb.cell (lt_of_cell (hc i x hxi))).trans (hc i x hxi), (hb.cell (lt_of_cell (hc p y hyi))).trans (hc p y hyi)⟩)
                  have hbd : badB m.secs.length m.bad i = decide (y < x) := by rw [Hg.out, hin, hp, Nat.add_sub_cancel, List.getD_eq_getElem?_getD, hyi]; simp
                  have Hbd := Aside0.mk hbd
                  have ws2 : IntKind.i64.wrap ((i : Int) - 1) = (p : Int) := by rw [IntWalk.i64_in _ (by omega)]; omega
                  have hz : decide (0 < i) = true := by rw [decide_eq_true_eq]; omega
                  have hz2 : 0 < i := by omega
                  have p1 : (p : Int) < (m.bad.length : Int) := by omega
                  by_cases hyx : y < x
                  · have Hb2 := Aside0.mk (decide_eq_true hyx)
                    have hge : ¬ x ≤ y := by omega
                    clear hc h0 hbd hxi hp
                    go_wp2_with (first | (go_at_call 102; refine (c_hasSec (MemR_below HM.out HB.out)).mono ?_; rw [hin]; rintro e w1 ⟨rfl, hq⟩; have G1 := Aside0.mk (blk_below G.out hq); have HB1 := Aside0.mk (below_next HB.out hq); clear hq k1 k2 k3 k4; obtain ⟨k1, k2, k3, k4⟩ := four G1.out; have cx2 := (Hcx.out _ HB1.out).1; have cy2 := (Hcx.out _ HB1.out).2) | fail)
                    go_roundw
                    case rel => exact ⟨i + 1, by omega, by go_num, ⟨range_step ht.out (Hbd.out.trans Hb2.out)⟩, G1, HB1⟩
                    case measure => simp [intOf]; omega
                  · rw [decide_eq_false hyx] at hbd
                    have Hb2 := Aside0.mk hbd
                    have hge : x ≤ y := by omega
                    clear hc h0 hbd hxi hp
                    go_wp2_with (first | (go_at_call 102; refine (c_hasSec (MemR_below HM.out HB.out)).mono ?_; rw [hin]; rintro e w1 ⟨rfl, hq⟩; have G1 := Aside0.mk (blk_below G.out hq); have HB1 := Aside0.mk (below_next HB.out hq); clear hq k1 k2 k3 k4; obtain ⟨k1, k2, k3, k4⟩ := four G1.out; have cx2 := (Hcx.out _ HB1.out).1; have cy2 := (Hcx.out _ HB1.out).2) | fail)
                    go_ret
                    exact ⟨ret_bool (by unfold memB; rw [HA.out, HC.out, show badsB m.secs.length m.bad = false from range_not hlt Hb2.out]; rfl), HB1.out⟩
              · simp only [Bool.not_eq_true] at hin
                have Hcx := Aside0.mk (show ∀ W, Below w.heap.size w W → True ∧ True from fun _ _ => ⟨trivial, trivial⟩)
                clear hc hxi
                go_wp2_with (first | (go_at_call 102; refine (c_hasSec (MemR_below HM.out HB.out)).mono ?_; rw [hin]; rintro e w1 ⟨rfl, hq⟩; have G1 := Aside0.mk (blk_below G.out hq); have HB1 := Aside0.mk (below_next HB.out hq); clear hq k1 k2 k3 k4; obtain ⟨k1, k2, k3, k4⟩ := four G1.out; have cx2 := (Hcx.out _ HB1.out).1; have cy2 := (Hcx.out _ HB1.out).2) | fail)
                go_ret
                exact ⟨ret_bool (by unfold memB; rw [HA.out, HC.out, show badsB m.secs.length m.bad = false from range_not hlt (by rw [Hg.out, hin]; rfl)]; rfl), HB1.out⟩
            · obtain rfl : i = m.bad.length := by omega
              have hD : badsB m.secs.length m.bad = true := ht.out
              have HD := Aside0.mk hD
              clear ht hD
              by_cases hin : inR m.secs.length 1 20 = true
              · by_cases h60 : m.cache.length ≤ 60
                · go_wp2_with (first | (go_at_call 120; refine (c_within _ _ _ _).mono ?_; rw [hin]; rintro e w1 ⟨rfl, hq⟩; have G1 := Aside0.mk (blk_below G.out (below_drawn hq)); have HB1 := Aside0.mk (below_next HB.out (below_drawn hq)); clear hq k1 k2 k3 k4; obtain ⟨k1, k2, k3, k4⟩ := four G1.out) | fail)
                  go_ret
                  exact ⟨ret_bool (by unfold memB; rw [HA.out, HC.out, HD.out, hin]; simp [badsB, h60]; try omega), HB1.out⟩
                · go_wp2_with (first | (go_at_call 120; refine (c_within _ _ _ _).mono ?_; rw [hin]; rintro e w1 ⟨rfl, hq⟩; have G1 := Aside0.mk (blk_below G.out (below_drawn hq)); have HB1 := Aside0.mk (below_next HB.out (below_drawn hq)); clear hq k1 k2 k3 k4; obtain ⟨k1, k2, k3, k4⟩ := four G1.out) | fail)
                  go_ret
                  exact ⟨ret_bool (by unfold memB; rw [HA.out, HC.out, HD.out, hin]; simp; omega), HB1.out⟩
              · simp only [Bool.not_eq_true] at hin
                go_wp2_with (first | (go_at_call 120; refine (c_within _ _ _ _).mono ?_; rw [hin]; rintro e w1 ⟨rfl, hq⟩; have G1 := Aside0.mk (blk_below G.out (below_drawn hq)); have HB1 := Aside0.mk (below_next HB.out (below_drawn hq)); clear hq k1 k2 k3 k4; obtain ⟨k1, k2, k3, k4⟩ := four G1.out) | fail)
                go_ret
                exact ⟨ret_bool (by unfold memB; rw [HA.out, HC.out, HD.out, hin]; rfl), HB1.out⟩
end Go.Proofs.Ytlmnmcfieagmbaa.MOk
