/- Own text: MHeld MMark MOk MVal LawLib SepT AKinds AHole AMake AEnt ALaw AArr AMark DRes. -/
import Derived.Test.YtggmifnblcjdfaaGreatXB2
import Derived.IntWalk
import Derived.Deep.RegionHeld3
import Derived.Test.YtggmifnblcjdfaaGreatXB1
import Derived.Maps.AppendAt
set_option linter.unusedVariables false
set_option linter.unusedSimpArgs false
namespace Go.Proofs.YtggmifnblcjdfaaGreat
namespace MHeld
open Go.RowKit Go.Proofs.YtggmifnblcjdfaaGreatW.PrintWords Fp MInt MKinds MRead
end MHeld
namespace MMark
open Go.RowKit Go.Proofs.YtggmifnblcjdfaaGreatW.PrintWords Fp MInt MKinds MRead MHeld MPut
end MMark
namespace MOk
open Go.RowKit Go.Proofs.YtggmifnblcjdfaaGreatW.PrintWords Fp MInt MKinds MRead
def wrB (n : Nat) (e : Int × List Int) : Bool := inR e.1 0 ((n : Int) - 1) && secB e.2
def badB (n : Nat) (l : List Int) (i : Nat) : Bool := inR (l.getD i 0) 0 ((n : Int) - 1) && (i == 0 || decide (l.getD (i - 1) 0 < l.getD i 0))
def badsB (n : Nat) (l : List Int) : Bool := (List.range l.length).all (badB n l)
def memB (m : MemV) : Bool := m.secs.all secB && (m.cache.all (wrB m.secs.length) && (badsB m.secs.length m.bad && (inR m.secs.length 1 20 && decide (m.cache.length ≤ 60))))
theorem range_step {g : Nat → Bool} {i : Nat} (h : (List.range i).all g = true) (hg : g i = true) : (List.range (i + 1)).all g = true := by rw [List.range_succ, List.all_append, h]; simp [hg]
theorem range_not {g : Nat → Bool} {i n : Nat} (h : i < n) (hg : g i = false) : (List.range n).all g = false := by
 rw [List.all_eq_false]; exact ⟨i, List.mem_range.2 h, by simp [hg]⟩
set_option maxHeartbeats 2000000 in
set_option maxRecDepth 100000 in
theorem c_specMemOk {w : World} {v : Value} {m : MemV} (hm : MemR w v m) : Calls Tryz.prog 145 #[v] w fun e w' => e = .returned (.bool (memB m)) ∧ Below w.heap.size w w' := by
 obtain ⟨s, c, b, rfl, h1, h2, h3⟩ := hm
 have l1 := RK_len h1
 have l2 := RK_len h2
 have l3 := RK_len h3
 have H1 := Aside0.mk h1
 have H2 := Aside0.mk h2
 have H3 := Aside0.mk h3
 obtain ⟨A1, c1, rfl, _⟩ := h1
 obtain ⟨A2, c2, rfl, _⟩ := h2
 obtain ⟨A3, c3, rfl, _⟩ := h3
 go_enter Tryz.func145, Tryz.ntmps145
 go_wp2
 go_loopw [4] (fun v4 wr => ∃ i : Nat, i ≤ m.secs.length ∧ v4 = .int .i64 i ∧ Aside0 ((m.secs.take i).all secB = true) ∧ Aside0 (wr.heap[w.heap.size]? = some (.cells #[.slice A1 m.secs.length c1, .slice A2 m.cache.length c2, .bool m.failed, .slice A3 m.bad.length c3] 89 (0, 0))) ∧ Aside0 (Below w.heap.size w wr)) (fun v4 _ => m.secs.length - (intOf v4).toNat)
 case atStart => exact ⟨0, by omega, rfl, ⟨by simp⟩, ⟨blk_new w _⟩, ⟨below_alloc (Below.refl _ _) _⟩⟩
 case round =>
  obtain ⟨i, hi, rfl, ht, G, HB⟩ := hrel
  by_cases hlt : i < m.secs.length
  ·obtain ⟨x, hxi⟩ : ∃ x, m.secs[i]? = some x := ⟨_, List.getElem?_eq_getElem hlt⟩
   obtain ⟨ad, cap, ha, hc⟩ := RK_slices (RK_below H1.out HB.out) (by omega)
   cases ha
   obtain ⟨u, cu, ru⟩ := hc i x hxi
   have Ru := Aside0.mk ru
   have Hxi := Aside0.mk hxi
   clear hc ru hxi
   obtain ⟨k1, k2, k3, k4⟩ := four G.out
   by_cases hf : secB x = true
   ·go_wp2_with (first | (go_at_call 168; refine (c_specSecOk Ru.out).mono ?_; rw [hf]; rintro e w1 ⟨rfl, hq⟩; have G2 := Aside0.mk (blk_below G.out (below_drawn hq)); have HB2 := Aside0.mk (below_next HB.out (below_drawn hq)); clear hq) | fail)
    go_roundw
    case rel => exact ⟨i + 1, by omega, by go_num, ⟨all_take ht.out Hxi.out hf⟩, G2, HB2⟩
    case measure => simp [intOf]; omega
   ·simp only [Bool.not_eq_true] at hf
    go_wp2_with (first | (go_at_call 168; refine (c_specSecOk Ru.out).mono ?_; rw [hf]; rintro e w1 ⟨rfl, hq⟩; have HB2 := Aside0.mk (below_next HB.out (below_drawn hq)); clear hq) | fail)
    go_ret
    exact ⟨ret_bool (by unfold memB; rw [all_not Hxi.out hf]; rfl), HB2.out⟩
  ·obtain rfl : i = m.secs.length := by omega
   have hA := ht.out
   rw [List.take_length] at hA
   have HA := Aside0.mk hA
   clear ht hA
   obtain ⟨k1, k2, k3, k4⟩ := four G.out
   go_wp2
   go_loopw [5] (fun v5 wr => ∃ i : Nat, i ≤ m.cache.length ∧ v5 = .int .i64 i ∧ Aside0 ((m.cache.take i).all (wrB m.secs.length) = true) ∧ Aside0 (wr.heap[w.heap.size]? = some (.cells #[.slice A1 m.secs.length c1, .slice A2 m.cache.length c2, .bool m.failed, .slice A3 m.bad.length c3] 89 (0, 0))) ∧ Aside0 (Below w.heap.size w wr)) (fun v5 _ => m.cache.length - (intOf v5).toNat)
   case atStart => exact ⟨0, by omega, rfl, ⟨by simp⟩, G, HB⟩
   case round =>
    clear hi hlt G HB k1 k2 k3 k4
    obtain ⟨i, hi, rfl, ht, G, HB⟩ := hrel
    obtain ⟨k1, k2, k3, k4⟩ := four G.out
    by_cases hlt : i < m.cache.length
    ·obtain ⟨x, hxi⟩ : ∃ x, m.cache[i]? = some x := ⟨_, List.getElem?_eq_getElem hlt⟩
     obtain ⟨ad, cap, ha, hc⟩ := RK_wrs (RK_below H2.out HB.out) (by omega)
     cases ha
     obtain ⟨u, cn, cu, ru⟩ := hc i x hxi
     have Ru := Aside0.mk ru
     have Hxi := Aside0.mk hxi
     clear hc ru hxi
     have hg : wrB m.secs.length x = (inR x.1 0 ((m.secs.length : Int) - 1) && secB x.2) := rfl
     have Hg := Aside0.mk hg
     clear hg
     by_cases hin : inR x.1 0 ((m.secs.length : Int) - 1) = true
     ·by_cases hf : secB x.2 = true
      ·go_wp2_with (first
        | (go_at_call 70; refine (c_l1In _ _ _ _).mono ?_; rw [hin]; rintro e w1 ⟨rfl, hq⟩; have Hq := Aside0.mk (below_drawn hq); have G1 := Aside0.mk (blk_below G.out Hq.out); have HB1 := Aside0.mk (below_next HB.out Hq.out); replace cn := (Hq.out.cell (lt_of_cell cn)).trans cn; replace cu := (Hq.out.cell (lt_of_cell cu)).trans cu; have Ru1 := Aside0.mk (RK_below Ru.out Hq.out); clear hq k1 k2 k3 k4; obtain ⟨k1, k2, k3, k4⟩ := four G1.out)
        | (go_at_call 168; refine (c_specSecOk Ru1.out).mono ?_; rw [hf]; rintro e w2 ⟨rfl, hq⟩; have G2 := Aside0.mk (blk_below G1.out (below_drawn hq)); have HB2 := Aside0.mk (below_next HB1.out (below_drawn hq)); clear hq)
        | fail)
       go_roundw
       case rel => exact ⟨i + 1, by omega, by go_num, ⟨all_take ht.out Hxi.out (by rw [Hg.out, hin, hf]; rfl)⟩, G2, HB2⟩
       case measure => simp [intOf]; omega
      ·simp only [Bool.not_eq_true] at hf
       go_wp2_with (first
        | (go_at_call 70; refine (c_l1In _ _ _ _).mono ?_; rw [hin]; rintro e w1 ⟨rfl, hq⟩; have Hq := Aside0.mk (below_drawn hq); have G1 := Aside0.mk (blk_below G.out Hq.out); have HB1 := Aside0.mk (below_next HB.out Hq.out); replace cn := (Hq.out.cell (lt_of_cell cn)).trans cn; replace cu := (Hq.out.cell (lt_of_cell cu)).trans cu; have Ru1 := Aside0.mk (RK_below Ru.out Hq.out); clear hq k1 k2 k3 k4; obtain ⟨k1, k2, k3, k4⟩ := four G1.out)
        | (go_at_call 168; refine (c_specSecOk Ru1.out).mono ?_; rw [hf]; rintro e w2 ⟨rfl, hq⟩; have HB2 := Aside0.mk (below_next HB1.out (below_drawn hq)); clear hq)
        | fail)
       go_ret
       exact ⟨ret_bool (by unfold memB; rw [HA.out, all_not Hxi.out (show wrB m.secs.length x = false by rw [Hg.out, hin, hf]; rfl)]; rfl), HB2.out⟩
     ·simp only [Bool.not_eq_true] at hin
      go_wp2_with (first
       | (go_at_call 70; refine (c_l1In _ _ _ _).mono ?_; rw [hin]; rintro e w1 ⟨rfl, hq⟩; have HB1 := Aside0.mk (below_next HB.out (below_drawn hq)); clear hq)
       | fail)
      go_ret
      exact ⟨ret_bool (by unfold memB; rw [HA.out, all_not Hxi.out (show wrB m.secs.length x = false by rw [Hg.out, hin]; rfl)]; rfl), HB1.out⟩
    ·obtain rfl : i = m.cache.length := by omega
     have hC := ht.out
     rw [List.take_length] at hC
     have HC := Aside0.mk hC
     clear ht hC
     go_wp2
     go_loopw [6] (fun v6 wr => ∃ i : Nat, i ≤ m.bad.length ∧ v6 = .int .i64 i ∧ Aside0 ((List.range i).all (badB m.secs.length m.bad) = true) ∧ Aside0 (wr.heap[w.heap.size]? = some (.cells #[.slice A1 m.secs.length c1, .slice A2 m.cache.length c2, .bool m.failed, .slice A3 m.bad.length c3] 89 (0, 0))) ∧ Aside0 (Below w.heap.size w wr)) (fun v6 _ => m.bad.length - (intOf v6).toNat)
     case atStart => exact ⟨0, by omega, rfl, ⟨by simp⟩, G, HB⟩
     case round =>
      clear hi hlt G HB k1 k2 k3 k4
      obtain ⟨i, hi, rfl, ht, G, HB⟩ := hrel
      obtain ⟨k1, k2, k3, k4⟩ := four G.out
      by_cases hlt : i < m.bad.length
      ·obtain ⟨x, hxi⟩ : ∃ x, m.bad[i]? = some x := ⟨_, List.getElem?_eq_getElem hlt⟩
       obtain ⟨ad, cap, ha, hc⟩ := ints_at (RK_below H3.out HB.out) (by omega)
       cases ha
       have cx := hc i x hxi
       have hg : badB m.secs.length m.bad i = (inR x 0 ((m.secs.length : Int) - 1) && (i == 0 || decide (m.bad.getD (i - 1) 0 < x))) := by unfold badB; rw [List.getD_eq_getElem?_getD (i := i), hxi]; rfl
       have Hg := Aside0.mk hg
       have hin0 : ∀ k, Calls Tryz.prog 70 #[.int .i64 x, .int .i64 0, .int .i64 ((m.secs.length : Int) - 1)] (wr.drewN k) fun e w' => e = .returned (.bool (inR x 0 ((m.secs.length : Int) - 1))) ∧ ∃ n, w' = (wr.drewN k).drewN n := fun k => c_l1In _ _ _ _
       have ws : IntKind.i64.wrap ((m.secs.length : Int) - 1) = (m.secs.length : Int) - 1 := IntWalk.i64_in _ (by omega)
       have Ws := Aside0.mk ws
       clear hg ws
       by_cases hin : inR x 0 ((m.secs.length : Int) - 1) = true
       ·rw [hin] at hin0
        have ws := Ws.out
        by_cases h0 : i = 0
        ·have hbd : badB m.secs.length m.bad i = true := by rw [Hg.out, hin, h0]; rfl
         have hz : decide (0 < i) = false := by rw [decide_eq_false_iff_not]; omega
         have i0 : (0 : Int) ≤ (i : Int) := Int.natCast_nonneg _
         have i1 : (i : Int) < (m.bad.length : Int) := by omega
         have Hbd := Aside0.mk hbd
         clear hc h0 hbd
         go_wp2
         go_quiet ((go_at_call 70; exact Calls.quiet_of (hin0 _)))
         go_wp2
         go_roundw
         case rel => exact ⟨i + 1, by omega, by go_num, ⟨range_step ht.out Hbd.out⟩, ⟨blk_below G.out (pw_below_drewN (Below.refl _ _) _)⟩, ⟨pw_below_drewN HB.out _⟩⟩
         case measure => simp [intOf]; omega
        ·obtain ⟨p, hp⟩ : ∃ p : Nat, i = p + 1 := ⟨i - 1, by omega⟩
         obtain ⟨y, hyi⟩ : ∃ y, m.bad[p]? = some y := ⟨_, List.getElem?_eq_getElem (by omega)⟩
         have cy := hc p y hyi
         have hbd : badB m.secs.length m.bad i = decide (y < x) := by rw [Hg.out, hin, hp, Nat.add_sub_cancel, List.getD_eq_getElem?_getD, hyi]; simp
         have hz : decide (0 < i) = true := by rw [decide_eq_true_eq]; omega
         have i0 : (0 : Int) ≤ (i : Int) := Int.natCast_nonneg _
         have i1 : (i : Int) < (m.bad.length : Int) := by omega
         have p0 : (0 : Int) ≤ (p : Int) := Int.natCast_nonneg _
         have p1 : (p : Int) < (m.bad.length : Int) := by omega
         have ws2 : IntKind.i64.wrap ((i : Int) - 1) = (p : Int) := by rw [IntWalk.i64_in _ (by omega)]; omega
         have Hbd := Aside0.mk hbd
         by_cases hyx : y < x
         ·have hge : decide (x ≤ y) = false := by rw [decide_eq_false_iff_not]; omega
          have Hb2 := Aside0.mk (decide_eq_true hyx)
          clear hc h0 hbd hp hyx
          go_wp2
          go_quiet ((go_at_call 70; exact Calls.quiet_of (hin0 _)))
          go_wp2
          go_roundw
          case rel => exact ⟨i + 1, by omega, by go_num, ⟨range_step ht.out (Hbd.out.trans Hb2.out)⟩, ⟨blk_below G.out (pw_below_drewN (Below.refl _ _) _)⟩, ⟨pw_below_drewN HB.out _⟩⟩
          case measure => simp [intOf]; omega
         ·have hge : decide (x ≤ y) = true := by rw [decide_eq_true_eq]; omega
          rw [decide_eq_false hyx] at hbd
          have Hb2 := Aside0.mk hbd
          clear hc h0 hbd hp hyx
          go_wp2
          go_quiet ((go_at_call 70; exact Calls.quiet_of (hin0 _)))
          go_wp2
          go_ret
          exact ⟨ret_bool (by unfold memB; rw [HA.out, HC.out, show badsB m.secs.length m.bad = false from range_not hlt Hb2.out]; rfl), pw_below_drewN HB.out _⟩
       ·simp only [Bool.not_eq_true] at hin
        rw [hin] at hin0
        have ws := Ws.out
        clear hc
        go_wp2
        go_quiet ((go_at_call 70; exact Calls.quiet_of (hin0 _)))
        go_wp2
        go_ret
        exact ⟨ret_bool (by unfold memB; rw [HA.out, HC.out, show badsB m.secs.length m.bad = false from range_not hlt (by rw [Hg.out, hin]; rfl)]; rfl), pw_below_drewN HB.out _⟩
      ·obtain rfl : i = m.bad.length := by omega
       have hD : badsB m.secs.length m.bad = true := ht.out
       have HD := Aside0.mk hD
       clear ht hD
       by_cases hin : inR m.secs.length 1 20 = true
       ·by_cases h60 : m.cache.length ≤ 60
        ·go_wp2_with (first
          | (go_at_call 70; refine (c_l1In _ _ _ _).mono ?_; rw [hin]; rintro e w1 ⟨rfl, hq⟩; have G1 := Aside0.mk (blk_below G.out (below_drawn hq)); have HB1 := Aside0.mk (below_next HB.out (below_drawn hq)); clear hq k1 k2 k3 k4; obtain ⟨k1, k2, k3, k4⟩ := four G1.out)
          | fail)
         go_ret
         exact ⟨ret_bool (by unfold memB; rw [HA.out, HC.out, HD.out, hin]; simp [badsB, h60]; try omega), HB1.out⟩
        ·go_wp2_with (first
          | (go_at_call 70; refine (c_l1In _ _ _ _).mono ?_; rw [hin]; rintro e w1 ⟨rfl, hq⟩; have G1 := Aside0.mk (blk_below G.out (below_drawn hq)); have HB1 := Aside0.mk (below_next HB.out (below_drawn hq)); clear hq k1 k2 k3 k4; obtain ⟨k1, k2, k3, k4⟩ := four G1.out)
          | fail)
         go_ret
         exact ⟨ret_bool (by unfold memB; rw [HA.out, HC.out, HD.out, hin]; simp; omega), HB1.out⟩
       ·simp only [Bool.not_eq_true] at hin
        go_wp2_with (first
         | (go_at_call 70; refine (c_l1In _ _ _ _).mono ?_; rw [hin]; rintro e w1 ⟨rfl, hq⟩; have G1 := Aside0.mk (blk_below G.out (below_drawn hq)); have HB1 := Aside0.mk (below_next HB.out (below_drawn hq)); clear hq k1 k2 k3 k4; obtain ⟨k1, k2, k3, k4⟩ := four G1.out)
         | fail)
        go_ret
        exact ⟨ret_bool (by unfold memB; rw [HA.out, HC.out, HD.out, hin]; rfl), HB1.out⟩
set_option maxHeartbeats 1000000 in
theorem c_hasSec {w : World} {v : Value} {m : MemV} {n : Int} (hm : MemR w v m) : Calls Tryz.prog 127 #[v, .int .i64 n] w fun e w' => e = .returned (.bool (inR n 0 ((m.secs.length : Int) - 1))) ∧ Below w.heap.size w w' := by
 obtain ⟨s, c, b, rfl, h1, h2, h3⟩ := hm
 have l1 := RK_len h1
 obtain ⟨A1, c1, rfl, _⟩ := h1
 clear h2 h3
 go_enter Tryz.func127, Tryz.ntmps127
 go_wp2_with (first | (go_at_call 78; refine (c_within _ _ _ _).mono ?_; rintro e w1 ⟨rfl, hq⟩; have HB := Aside0.mk (below_next (below_alloc (Below.refl _ _) _) (below_drawn hq)); clear hq) | fail)
 go_ret
 exact ⟨rfl, HB.out⟩
set_option maxHeartbeats 2000000 in
set_option maxRecDepth 100000 in
theorem c_implMemOk {w : World} {v : Value} {m : MemV} (hm : MemR w v m) : Calls Tryz.prog 81 #[v] w fun e w' => e = .returned (.bool (memB m)) ∧ Below w.heap.size w w' := by
 have HM := Aside0.mk hm
 obtain ⟨s, c, b, rfl, h1, h2, h3⟩ := hm
 have l1 := RK_len h1
 have l2 := RK_len h2
 have l3 := RK_len h3
 have H1 := Aside0.mk h1
 have H2 := Aside0.mk h2
 have H3 := Aside0.mk h3
 obtain ⟨A1, c1, rfl, _⟩ := h1
 obtain ⟨A2, c2, rfl, _⟩ := h2
 obtain ⟨A3, c3, rfl, _⟩ := h3
 go_enter Tryz.func81, Tryz.ntmps81
 go_wp2
 go_loopw [12] (fun v4 wr => ∃ i : Nat, i ≤ m.secs.length ∧ v4 = .int .i64 i ∧ Aside0 ((m.secs.take i).all secB = true) ∧ Aside0 (wr.heap[w.heap.size]? = some (.cells #[.slice A1 m.secs.length c1, .slice A2 m.cache.length c2, .bool m.failed, .slice A3 m.bad.length c3] 89 (0, 0))) ∧ Aside0 (Below w.heap.size w wr)) (fun v4 _ => m.secs.length - (intOf v4).toNat)
 case atStart => exact ⟨0, by omega, rfl, ⟨by simp⟩, ⟨blk_new w _⟩, ⟨below_alloc (Below.refl _ _) _⟩⟩
 case round =>
  obtain ⟨i, hi, rfl, ht, G, HB⟩ := hrel
  by_cases hlt : i < m.secs.length
  ·obtain ⟨x, hxi⟩ : ∃ x, m.secs[i]? = some x := ⟨_, List.getElem?_eq_getElem hlt⟩
   obtain ⟨ad, cap, ha, hc⟩ := RK_slices (RK_below H1.out HB.out) (by omega)
   cases ha
   obtain ⟨u, cu, ru⟩ := hc i x hxi
   have Ru := Aside0.mk ru
   have Hxi := Aside0.mk hxi
   clear hc ru hxi
   obtain ⟨k1, k2, k3, k4⟩ := four G.out
   by_cases hf : secB x = true
   ·go_wp2_with (first | (go_at_call 126; refine (c_implSecOk Ru.out).mono ?_; rw [hf]; rintro e w1 ⟨rfl, hq⟩; have G2 := Aside0.mk (blk_below G.out (below_drawn hq)); have HB2 := Aside0.mk (below_next HB.out (below_drawn hq)); clear hq) | fail)
    go_roundw
    case rel => exact ⟨i + 1, by omega, by go_num, ⟨all_take ht.out Hxi.out hf⟩, G2, HB2⟩
    case measure => simp [intOf]; omega
   ·simp only [Bool.not_eq_true] at hf
    go_wp2_with (first | (go_at_call 126; refine (c_implSecOk Ru.out).mono ?_; rw [hf]; rintro e w1 ⟨rfl, hq⟩; have HB2 := Aside0.mk (below_next HB.out (below_drawn hq)); clear hq) | fail)
    go_ret
    exact ⟨ret_bool (by unfold memB; rw [all_not Hxi.out hf]; rfl), HB2.out⟩
  ·obtain rfl : i = m.secs.length := by omega
   have hA := ht.out
   rw [List.take_length] at hA
   have HA := Aside0.mk hA
   clear ht hA
   obtain ⟨k1, k2, k3, k4⟩ := four G.out
   go_wp2
   go_loopw [23] (fun v5 wr => ∃ i : Nat, i ≤ m.cache.length ∧ v5 = .int .i64 i ∧ Aside0 ((m.cache.take i).all (wrB m.secs.length) = true) ∧ Aside0 (wr.heap[w.heap.size]? = some (.cells #[.slice A1 m.secs.length c1, .slice A2 m.cache.length c2, .bool m.failed, .slice A3 m.bad.length c3] 89 (0, 0))) ∧ Aside0 (Below w.heap.size w wr)) (fun v5 _ => m.cache.length - (intOf v5).toNat)
   case atStart => exact ⟨0, by omega, rfl, ⟨by simp⟩, G, HB⟩
   case round =>
    clear hi hlt G HB k1 k2 k3 k4
    obtain ⟨i, hi, rfl, ht, G, HB⟩ := hrel
    obtain ⟨k1, k2, k3, k4⟩ := four G.out
    by_cases hlt : i < m.cache.length
    ·obtain ⟨x, hxi⟩ : ∃ x, m.cache[i]? = some x := ⟨_, List.getElem?_eq_getElem hlt⟩
     obtain ⟨ad, cap, ha, hc⟩ := RK_wrs (RK_below H2.out HB.out) (by omega)
     cases ha
     obtain ⟨u, cn, cu, ru⟩ := hc i x hxi
     have Ru := Aside0.mk ru
     have Hxi := Aside0.mk hxi
     obtain ⟨Au, cpu, rfl, hru⟩ := ru
     clear hc hru hxi
     have hg : wrB m.secs.length x = (inR x.1 0 ((m.secs.length : Int) - 1) && secB x.2) := rfl
     have Hg := Aside0.mk hg
     clear hg
     by_cases hin : inR x.1 0 ((m.secs.length : Int) - 1) = true
     ·by_cases hf : secB x.2 = true
      ·have hne1 : ¬ w.heap.size = wr.heap.size := Nat.ne_of_lt (lt_of_cell k1)
       have hne3 : w.heap.size < wr.heap.size := lt_of_cell k1
       go_wp2_with (first | (go_at_call 127; refine (c_hasSec (MemR_below HM.out (below_alloc HB.out _))).mono ?_; rw [hin]; rintro e w1 ⟨rfl, hq⟩; obtain ⟨gx, hq1⟩ := box1 hq; have Hq := Aside0.mk hq1; have GX := Aside0.mk gx; have G1 := Aside0.mk (blk_below G.out Hq.out); have HB1 := Aside0.mk (below_next HB.out Hq.out); have Ru1 := Aside0.mk (RK_below Ru.out Hq.out); clear hq hq1 gx k1 k2 k3 k4; obtain ⟨k1, k2, k3, k4⟩ := four G1.out; obtain ⟨x1, x2⟩ := two GX.out) | (go_at_call 126; refine (c_implSecOk Ru1.out).mono ?_; rw [hf]; rintro e w2 ⟨rfl, hq⟩; have G2 := Aside0.mk (blk_below G1.out (below_drawn hq)); have HB2 := Aside0.mk (below_next HB1.out (below_drawn hq)); clear hq) | fail)
       go_roundw
       case rel => exact ⟨i + 1, by omega, by go_num, ⟨all_take ht.out Hxi.out (by rw [Hg.out, hin, hf]; rfl)⟩, G2, HB2⟩
       case measure => simp [intOf]; omega
      ·simp only [Bool.not_eq_true] at hf
       have hne1 : ¬ w.heap.size = wr.heap.size := Nat.ne_of_lt (lt_of_cell k1)
       have hne3 : w.heap.size < wr.heap.size := lt_of_cell k1
       go_wp2_with (first | (go_at_call 127; refine (c_hasSec (MemR_below HM.out (below_alloc HB.out _))).mono ?_; rw [hin]; rintro e w1 ⟨rfl, hq⟩; obtain ⟨gx, hq1⟩ := box1 hq; have Hq := Aside0.mk hq1; have GX := Aside0.mk gx; have G1 := Aside0.mk (blk_below G.out Hq.out); have HB1 := Aside0.mk (below_next HB.out Hq.out); have Ru1 := Aside0.mk (RK_below Ru.out Hq.out); clear hq hq1 gx k1 k2 k3 k4; obtain ⟨k1, k2, k3, k4⟩ := four G1.out; obtain ⟨x1, x2⟩ := two GX.out) | (go_at_call 126; refine (c_implSecOk Ru1.out).mono ?_; rw [hf]; rintro e w2 ⟨rfl, hq⟩; have HB2 := Aside0.mk (below_next HB1.out (below_drawn hq)); clear hq) | fail)
       go_ret
       exact ⟨ret_bool (by unfold memB; rw [HA.out, all_not Hxi.out (show wrB m.secs.length x = false by rw [Hg.out, hin, hf]; rfl)]; rfl), HB2.out⟩
     ·simp only [Bool.not_eq_true] at hin
      have hne1 : ¬ w.heap.size = wr.heap.size := Nat.ne_of_lt (lt_of_cell k1)
      have hne3 : w.heap.size < wr.heap.size := lt_of_cell k1
      go_wp2_with (first | (go_at_call 127; refine (c_hasSec (MemR_below HM.out (below_alloc HB.out _))).mono ?_; rw [hin]; rintro e w1 ⟨rfl, hq⟩; obtain ⟨gx, hq1⟩ := box1 hq; have Hq := Aside0.mk hq1; have GX := Aside0.mk gx; have G1 := Aside0.mk (blk_below G.out Hq.out); have HB1 := Aside0.mk (below_next HB.out Hq.out); have Ru1 := Aside0.mk (RK_below Ru.out Hq.out); clear hq hq1 gx k1 k2 k3 k4; obtain ⟨k1, k2, k3, k4⟩ := four G1.out; obtain ⟨x1, x2⟩ := two GX.out) | fail)
      go_ret
      exact ⟨ret_bool (by unfold memB; rw [HA.out, all_not Hxi.out (show wrB m.secs.length x = false by rw [Hg.out, hin]; rfl)]; rfl), HB1.out⟩
    ·obtain rfl : i = m.cache.length := by omega
     have hC := ht.out
     rw [List.take_length] at hC
     have HC := Aside0.mk hC
     clear ht hC
     go_wp2
     go_loopw [42] (fun v6 wr => ∃ i : Nat, i ≤ m.bad.length ∧ v6 = .int .i64 i ∧ Aside0 ((List.range i).all (badB m.secs.length m.bad) = true) ∧ Aside0 (wr.heap[w.heap.size]? = some (.cells #[.slice A1 m.secs.length c1, .slice A2 m.cache.length c2, .bool m.failed, .slice A3 m.bad.length c3] 89 (0, 0))) ∧ Aside0 (Below w.heap.size w wr)) (fun v6 _ => m.bad.length - (intOf v6).toNat)
     case atStart => exact ⟨0, by omega, rfl, ⟨by simp⟩, G, HB⟩
     case round =>
      clear hi hlt G HB k1 k2 k3 k4
      obtain ⟨i, hi, rfl, ht, G, HB⟩ := hrel
      obtain ⟨k1, k2, k3, k4⟩ := four G.out
      by_cases hlt : i < m.bad.length
      ·obtain ⟨x, hxi⟩ : ∃ x, m.bad[i]? = some x := ⟨_, List.getElem?_eq_getElem hlt⟩
       obtain ⟨ad, cap, ha, hc⟩ := ints_at H3.out (by omega)
       cases ha
       have hg : badB m.secs.length m.bad i = (inR x 0 ((m.secs.length : Int) - 1) && (i == 0 || decide (m.bad.getD (i - 1) 0 < x))) := by unfold badB; rw [List.getD_eq_getElem?_getD (i := i), hxi]; rfl
       have Hg := Aside0.mk hg
       have cx := (HB.out.cell (lt_of_cell (hc i x hxi))).trans (hc i x hxi)
       clear hg
       by_cases hin : inR x 0 ((m.secs.length : Int) - 1) = true
       ·by_cases h0 : i = 0
        ·have hbd : badB m.secs.length m.bad i = true := by rw [Hg.out, hin, h0]; rfl
         have hz : decide (0 < i) = false := by rw [decide_eq_false_iff_not]; omega
         have hz2 : ¬ 0 < i := by omega
         have Hcx := Aside0.mk (show ∀ W, Below w.heap.size w W → True ∧ True from fun _ _ => ⟨trivial, trivial⟩)
         have Hbd := Aside0.mk hbd
         clear hc h0 hbd hxi
         go_wp2_with (first | (go_at_call 127; refine (c_hasSec (MemR_below HM.out HB.out)).mono ?_; rw [hin]; rintro e w1 ⟨rfl, hq⟩; have G1 := Aside0.mk (blk_below G.out hq); have HB1 := Aside0.mk (below_next HB.out hq); clear hq k1 k2 k3 k4; obtain ⟨k1, k2, k3, k4⟩ := four G1.out; have cx2 := (Hcx.out _ HB1.out).1; have cy2 := (Hcx.out _ HB1.out).2) | fail)
         go_roundw
         case rel => exact ⟨i + 1, by omega, by go_num, ⟨range_step ht.out Hbd.out⟩, G1, HB1⟩
         case measure => simp [intOf]; omega
        ·obtain ⟨p, hp⟩ : ∃ p : Nat, i = p + 1 := ⟨i - 1, by omega⟩
         obtain ⟨y, hyi⟩ : ∃ y, m.bad[p]? = some y := ⟨_, List.getElem?_eq_getElem (by omega)⟩
         have Hcx := Aside0.mk (show ∀ W, Below w.heap.size w W → W.cell? (ad.add i) = some (.int .i64 x) ∧ W.cell? (ad.add p) = some (.int .i64 y) from fun W hb => ⟨(hb.cell (lt_of_cell (hc i x hxi))).trans (hc i x hxi), (hb.cell (lt_of_cell (hc p y hyi))).trans (hc p y hyi)⟩)
         have hbd : badB m.secs.length m.bad i = decide (y < x) := by rw [Hg.out, hin, hp, Nat.add_sub_cancel, List.getD_eq_getElem?_getD, hyi]; simp
         have Hbd := Aside0.mk hbd
         have ws2 : IntKind.i64.wrap ((i : Int) - 1) = (p : Int) := by rw [IntWalk.i64_in _ (by omega)]; omega
         have hz : decide (0 < i) = true := by rw [decide_eq_true_eq]; omega
         have hz2 : 0 < i := by omega
         have p1 : (p : Int) < (m.bad.length : Int) := by omega
         by_cases hyx : y < x
         ·have Hb2 := Aside0.mk (decide_eq_true hyx)
          have hge : ¬ x ≤ y := by omega
          clear hc h0 hbd hxi hp
          go_wp2_with (first | (go_at_call 127; refine (c_hasSec (MemR_below HM.out HB.out)).mono ?_; rw [hin]; rintro e w1 ⟨rfl, hq⟩; have G1 := Aside0.mk (blk_below G.out hq); have HB1 := Aside0.mk (below_next HB.out hq); clear hq k1 k2 k3 k4; obtain ⟨k1, k2, k3, k4⟩ := four G1.out; have cx2 := (Hcx.out _ HB1.out).1; have cy2 := (Hcx.out _ HB1.out).2) | fail)
          go_roundw
          case rel => exact ⟨i + 1, by omega, by go_num, ⟨range_step ht.out (Hbd.out.trans Hb2.out)⟩, G1, HB1⟩
          case measure => simp [intOf]; omega
         ·rw [decide_eq_false hyx] at hbd
          have Hb2 := Aside0.mk hbd
          have hge : x ≤ y := by omega
          clear hc h0 hbd hxi hp
          go_wp2_with (first | (go_at_call 127; refine (c_hasSec (MemR_below HM.out HB.out)).mono ?_; rw [hin]; rintro e w1 ⟨rfl, hq⟩; have G1 := Aside0.mk (blk_below G.out hq); have HB1 := Aside0.mk (below_next HB.out hq); clear hq k1 k2 k3 k4; obtain ⟨k1, k2, k3, k4⟩ := four G1.out; have cx2 := (Hcx.out _ HB1.out).1; have cy2 := (Hcx.out _ HB1.out).2) | fail)
          go_ret
          exact ⟨ret_bool (by unfold memB; rw [HA.out, HC.out, show badsB m.secs.length m.bad = false from range_not hlt Hb2.out]; rfl), HB1.out⟩
       ·simp only [Bool.not_eq_true] at hin
        have Hcx := Aside0.mk (show ∀ W, Below w.heap.size w W → True ∧ True from fun _ _ => ⟨trivial, trivial⟩)
        clear hc hxi
        go_wp2_with (first | (go_at_call 127; refine (c_hasSec (MemR_below HM.out HB.out)).mono ?_; rw [hin]; rintro e w1 ⟨rfl, hq⟩; have G1 := Aside0.mk (blk_below G.out hq); have HB1 := Aside0.mk (below_next HB.out hq); clear hq k1 k2 k3 k4; obtain ⟨k1, k2, k3, k4⟩ := four G1.out; have cx2 := (Hcx.out _ HB1.out).1; have cy2 := (Hcx.out _ HB1.out).2) | fail)
        go_ret
        exact ⟨ret_bool (by unfold memB; rw [HA.out, HC.out, show badsB m.secs.length m.bad = false from range_not hlt (by rw [Hg.out, hin]; rfl)]; rfl), HB1.out⟩
      ·obtain rfl : i = m.bad.length := by omega
       have hD : badsB m.secs.length m.bad = true := ht.out
       have HD := Aside0.mk hD
       clear ht hD
       by_cases hin : inR m.secs.length 1 20 = true
       ·by_cases h60 : m.cache.length ≤ 60
        ·go_wp2_with (first | (go_at_call 78; refine (c_within _ _ _ _).mono ?_; rw [hin]; rintro e w1 ⟨rfl, hq⟩; have G1 := Aside0.mk (blk_below G.out (below_drawn hq)); have HB1 := Aside0.mk (below_next HB.out (below_drawn hq)); clear hq k1 k2 k3 k4; obtain ⟨k1, k2, k3, k4⟩ := four G1.out) | fail)
         go_ret
         exact ⟨ret_bool (by unfold memB; rw [HA.out, HC.out, HD.out, hin]; simp [badsB, h60]; try omega), HB1.out⟩
        ·go_wp2_with (first | (go_at_call 78; refine (c_within _ _ _ _).mono ?_; rw [hin]; rintro e w1 ⟨rfl, hq⟩; have G1 := Aside0.mk (blk_below G.out (below_drawn hq)); have HB1 := Aside0.mk (below_next HB.out (below_drawn hq)); clear hq k1 k2 k3 k4; obtain ⟨k1, k2, k3, k4⟩ := four G1.out) | fail)
         go_ret
         exact ⟨ret_bool (by unfold memB; rw [HA.out, HC.out, HD.out, hin]; simp; omega), HB1.out⟩
       ·simp only [Bool.not_eq_true] at hin
        go_wp2_with (first | (go_at_call 78; refine (c_within _ _ _ _).mono ?_; rw [hin]; rintro e w1 ⟨rfl, hq⟩; have G1 := Aside0.mk (blk_below G.out (below_drawn hq)); have HB1 := Aside0.mk (below_next HB.out (below_drawn hq)); clear hq k1 k2 k3 k4; obtain ⟨k1, k2, k3, k4⟩ := four G1.out) | fail)
        go_ret
        exact ⟨ret_bool (by unfold memB; rw [HA.out, HC.out, HD.out, hin]; rfl), HB1.out⟩
end MOk
namespace MVal
open Go.RowKit Go.Proofs.YtggmifnblcjdfaaGreatW.PrintWords Fp MInt MKinds MRead MPut MOk
def hasN (l : List Int) (n : Int) : Bool := !(l.all (fun x => !(x == n)))
def lastS (l : List (Int × List Int)) (n : Int) (s : List Int) : List Int := l.foldl (fun s e => if e.1 == n then e.2 else s) s
def canRead (m : MemV) (n : Int) : Bool := memB m && (!m.failed && (inR n 0 ((m.secs.length : Int) - 1) && !hasN m.bad n))
def readV (m : MemV) (n : Int) : List Int := if canRead m n then lastS m.cache n (m.secs.getD n.toNat []) else []
def canWrite (m : MemV) (n : Int) (s : List Int) : Bool := memB m && (!m.failed && (inR n 0 ((m.secs.length : Int) - 1) && (secB s && decide (m.cache.length < 60))))
def without (l : List Int) (n : Int) : List Int := l.filter (fun x => !(x == n))
def writeV (m : MemV) (n : Int) (s : List Int) : MemV := if canWrite m n s then ⟨m.secs, m.cache ++ [(n, s)], m.failed, without m.bad n⟩ else m
def putW (secs : List (List Int)) (e : Int × List Int) : List (List Int) := secs.set e.1.toNat e.2
def flushV (m : MemV) : MemV := if memB m && !m.failed then ⟨m.cache.foldl putW m.secs, [], m.failed, m.bad⟩ else m
def failV (m : MemV) : MemV := ⟨m.secs, [], true, m.bad⟩
def newV (n : Int) : MemV := if inR n 1 20 then ⟨List.replicate n.toNat [], [], false, []⟩ else ⟨[], [], false, []⟩
def insN (n : Int) : List Int → List Int
 | [] => [n]
 | x :: l => if x < n then x :: insN n l else n :: x :: l
def spoilV (m : MemV) (n : Int) : MemV := if memB m && (inR n 0 ((m.secs.length : Int) - 1) && !hasN m.bad n) then ⟨m.secs, m.cache, m.failed, insN n m.bad⟩ else m
theorem putW_len (secs : List (List Int)) (e : Int × List Int) : (putW secs e).length = secs.length := by simp [putW]
theorem foldPut_len (l : List (Int × List Int)) : ∀ secs : List (List Int), (l.foldl putW secs).length = secs.length := by
 induction l with
 | nil => intro secs; rfl
 | cons e l ih => intro secs; rw [List.foldl_cons, ih, putW_len]
theorem foldPut_snoc (l : List (Int × List Int)) (e : Int × List Int) (secs : List (List Int)) : (l ++ [e]).foldl putW secs = putW (l.foldl putW secs) e := by simp
theorem memB_parts {m : MemV} (h : memB m = true) : (∀ x ∈ m.secs, secB x = true) ∧ (∀ e ∈ m.cache, wrB m.secs.length e = true) ∧ badsB m.secs.length m.bad = true ∧ (1 ≤ m.secs.length ∧ m.secs.length ≤ 20) ∧ m.cache.length ≤ 60 := by
 simp only [memB, Bool.and_eq_true, List.all_eq_true, decide_eq_true_eq, inR] at h
 exact ⟨h.1, h.2.1, h.2.2.1, by omega, h.2.2.2.2⟩
theorem wrB_at {n : Nat} {e : Int × List Int} (h : wrB n e = true) : ∃ k : Nat, e.1 = (k : Int) ∧ k < n ∧ secB e.2 = true := by
 simp only [wrB, inR, Bool.and_eq_true, decide_eq_true_eq] at h
 exact ⟨e.1.toNat, by omega, by omega, h.2⟩
end MVal
namespace LawLib
open Go.RowKit RJ Go.Proofs.YtggmifnblcjdfaaGreatW.PrintWords Fp FpStep MInt MKinds MRead MMake MPut MHeld MMark MOk MVal Go.Proofs.YtggmifnblcjdfaaGreat.Sep SepStep
end LawLib
namespace Sep
open Go.RowKit Go.Proofs.YtggmifnblcjdfaaGreatW.PrintWords Fp MInt MKinds MRead MMake MPut
section
variable {w0 w : World} {S : List Nat} {L : List Res}
theorem drop_picks (L : List Res) (n : Nat) : L.drop n = (List.range' n (L.length - n)).map (pick L) := by
 apply List.ext_getElem
 ·simp
 ·intro i h1 h2
  simp only [List.length_drop] at h1
  have h3 : n + i < L.length := by omega
  simp [pick, List.getD, h3]
theorem Sep.selT (h : Sep w0 S w L) (n : Nat) (is : List Nat) (hn : is.Nodup) (hm : ∀ i ∈ is, i < n ∧ i < L.length) : Sep w0 S w (is.map (pick L) ++ L.drop n) := by
 rw [drop_picks L n, ← List.map_append]
 refine h.sel _ ?_ ?_
 ·rw [List.nodup_append]
  refine ⟨hn, List.nodup_range', fun a ha b hb e => ?_⟩
  subst e
  have h1 := (hm a ha).1
  simp at hb
  omega
 ·intro i hi
  rcases List.mem_append.1 hi with hi | hi
  ·exact (hm i hi).2
  ·simp at hi
   omega
theorem Sep.box4 (h : Sep w0 S w L) (i : Nat) {g : Nat} {t : TypeId} {a0 a1 a2 a3 : Value} (hi : L[i]? = some (bx g t #[a0, a1, a2, a3])) (b0 b1 b2 b3 : Value) :
  Sep w0 S ((((w.setCell ⟨g, 0, none⟩ b0).setCell ⟨g, 1, none⟩ b1).setCell ⟨g, 2, none⟩ b2).setCell ⟨g, 3, none⟩ b3) (L.set i (bx g t #[b0, b1, b2, b3])) := by
 have hl : i < L.length := (List.getElem?_eq_some_iff.1 hi).1
 have h1 := h.setb i hi 0 b0 (cs' := #[b0, a1, a2, a3]) rfl
 have h2 := h1.setb i (g := g) (t := t) (cs := #[b0, a1, a2, a3]) (by simp [hl]) 1 b1 (cs' := #[b0, b1, a2, a3]) rfl
 have h3 := h2.setb i (g := g) (t := t) (cs := #[b0, b1, a2, a3]) (by simp [hl]) 2 b2 (cs' := #[b0, b1, b2, a3]) rfl
 have h4 := h3.setb i (g := g) (t := t) (cs := #[b0, b1, b2, a3]) (by simp [hl]) 3 b3 (cs' := #[b0, b1, b2, b3]) rfl
 simpa using h4
theorem Sep.seti (h : Sep w0 S w L) (i : Nat) {e : TypeId} {F : List Nat} {g n cap j : Nat} {ys : List Int} (hi : L[i]? = some (rw_ oInt e F (.slice (some ⟨g, 0, none⟩) n cap) ys)) (hj : j < ys.length) (x : Int) :
  Sep w0 S (w.setCell ⟨g, j, none⟩ (.int .i64 x)) (L.set i (rw_ oInt e F (.slice (some ⟨g, 0, none⟩) n cap) (ys.set j x))) := by
 have ho : oInt.O e w F (.slice (some ⟨g, 0, none⟩) n cap) ys := h.get i hi
 exact h.upd i hi ⟨(Chg.refl _ _).set (.inl (mem_own ho g rfl)) _, (h.fnd i hi :), fun k hk => .inl hk, lies_row (O_int_set ho hj x)⟩
theorem Sep.ofMemL {F : List Nat} {a b d : Value} {f : Bool} {m : MemV} (h : Sep w0 S w (me F (.agg #[a, b, .bool f, d]) m :: L)) :
  ∃ F1 F2 F3, Sep w0 S w (rw_ oSec 28 F1 a m.secs :: rw_ oWr 126 F2 b m.cache :: rw_ oInt 3 F3 d m.bad :: L) := by
 obtain ⟨A1, c1, A2, c2, A3, c3, F1, F2, F3, hv, hs⟩ := h.ofMem
 have h1 := congrArg Array.toList (Value.agg.inj hv)
 simp only [List.cons.injEq, and_true] at h1
 obtain ⟨e1, e2, _, e3⟩ := h1
 subst e1 e2 e3
 exact ⟨F1, F2, F3, hs⟩
end
end Sep
namespace AKinds
open Go.RowKit Go.Proofs.YtggmifnblcjdfaaGreatW.PrintWords Fp MInt MKinds MRead MMake MPut MHeld Go.Proofs.YtggmifnblcjdfaaGreat.Sep
structure ArrV where
 id : Int
 gn : Int
 gs : Int
 mems : List MemV
 lost : Int
 built : Int
 seq : Int
 tail : Int
 gen : Int
 dirty : List (Int × List Int)
 fuse : Int
 down : Bool
 broken : Bool
 deriving DecidableEq
abbrev arrC (a : ArrV) (vm vd : Value) : Array Value := #[.int .i64 a.id, .int .i64 a.gn, .int .i64 a.gs, vm, .int .i64 a.lost, .int .i64 a.built, .int .i64 a.seq, .int .i64 a.tail, .int .i64 a.gen, vd, .int .i64 a.fuse, .bool a.down, .bool a.broken]
def ArrR (w : World) (v : Value) (a : ArrV) : Prop := ∃ vm vd, v = .agg (arrC a vm vd) ∧ RK kMem w vm a.mems ∧ RK kWr w vd a.dirty
def ArrO (w : World) (F : List Nat) (v : Value) (a : ArrV) : Prop := ∃ vm vd F1 F2, v = .agg (arrC a vm vd) ∧ F = F1 ++ F2 ∧ oMem.O 89 w F1 vm a.mems ∧ oWr.O 91 w F2 vd a.dirty
theorem ArrR_below {w w1 : World} {v : Value} {a : ArrV} (h : ArrR w v a) (hb : Below w.heap.size w w1) : ArrR w1 v a := by
 obtain ⟨vm, vd, rfl, h1, h2⟩ := h
 exact ⟨vm, vd, rfl, RK_below h1 hb, RK_below h2 hb⟩
theorem oMem_RK {e : TypeId} {w : World} {F : List Nat} {v : Value} {xs : List MemV} (h : oMem.O e w F v xs) : RK kMem w v xs := O_RK h
theorem ArrO_R {w : World} {F : List Nat} {v : Value} {a : ArrV} (h : ArrO w F v a) : ArrR w v a := by
 obtain ⟨vm, vd, F1, F2, rfl, rfl, h1, h2⟩ := h
 exact ⟨vm, vd, rfl, oMem_RK h1, O_RK h2⟩
theorem ArrO_lt {w : World} {F : List Nat} {v : Value} {a : ArrV} (h : ArrO w F v a) : ∀ k ∈ F, k < w.heap.size := by
 obtain ⟨vm, vd, F1, F2, rfl, rfl, h1, h2⟩ := h
 intro k hk
 rcases List.mem_append.1 hk with hk | hk
 ·exact O_lt h1 k hk
 ·exact O_lt h2 k hk
theorem ArrO_move {w w1 : World} {F : List Nat} {v : Value} {a : ArrV} (h : ArrO w F v a) (hm : ∀ k ∈ F, w1.heap[k]? = w.heap[k]?) : ArrO w1 F v a := by
 obtain ⟨vm, vd, F1, F2, rfl, rfl, h1, h2⟩ := h
 exact ⟨vm, vd, F1, F2, rfl, rfl, O_move h1 (fun k hk => hm k (List.mem_append_left _ hk)), O_move h2 (fun k hk => hm k (List.mem_append_right _ hk))⟩
def ar (F : List Nat) (v : Value) (a : ArrV) : Res := (F, fun w => ArrO w F v a)
theorem lies_arr {w : World} {F : List Nat} {v : Value} {a : ArrV} (h : ArrO w F v a) : Lies w (ar F v a) := ⟨ArrO_lt h, fun w' hm => ArrO_move h hm⟩
def SmallA (a : ArrV) : Prop := a.mems.length ≤ 16777216 ∧ (∀ m ∈ a.mems, Small m) ∧ a.dirty.length ≤ 16777216 ∧ ∀ e ∈ a.dirty, e.2.length ≤ 16777216
section
variable {w0 w w' : World} {S : List Nat} {L : List Res}
theorem Sep.toArr {F1 F2 : List Nat} {vm vd : Value} {a : ArrV} (h : Sep w0 S w (rw_ oMem 89 F1 vm a.mems :: rw_ oWr 91 F2 vd a.dirty :: L)) : Sep w0 S w (ar (F1 ++ F2) (.agg (arrC a vm vd)) a :: L) :=
 Sep.glue (M := [rw_ oMem 89 F1 vm a.mems, rw_ oWr 91 F2 vd a.dirty]) h (by simp [fps, rw_, ar]) (lies_arr ⟨vm, vd, F1, F2, rfl, rfl, h.get 0 rfl, h.get 1 rfl⟩)
theorem Sep.ofArr {F : List Nat} {u : Value} {a : ArrV} (h : Sep w0 S w (ar F u a :: L)) : ∃ A1 c1 A2 c2 F1 F2, u = .agg (arrC a (.slice A1 a.mems.length c1) (.slice A2 a.dirty.length c2)) ∧
  Sep w0 S w (rw_ oMem 89 F1 (.slice A1 a.mems.length c1) a.mems :: rw_ oWr 91 F2 (.slice A2 a.dirty.length c2) a.dirty :: L) := by
 obtain ⟨vm, vd, F1, F2, rfl, rfl, h1, h2⟩ := (show ArrO w F u a from h.get 0 rfl)
 obtain ⟨A1, c1, rfl, _⟩ := O_reads h1
 obtain ⟨A2, c2, rfl, _⟩ := O_reads h2
 refine ⟨A1, c1, A2, c2, F1, F2, rfl, h.part 0 rfl (M := [rw_ oMem 89 F1 _ a.mems, rw_ oWr 91 F2 _ a.dirty]) (by simp [fps, rw_, ar]) ?_⟩
 intro r hr
 simp only [List.mem_cons, List.not_mem_nil, or_false] at hr
 rcases hr with rfl | rfl
 ·exact lies_row h1
 ·exact lies_row h2
theorem ar_form {F : List Nat} {u : Value} {a : ArrV} (h : Sep w0 S w (ar F u a :: L)) : ∃ A1 c1 A2 c2, u = .agg (arrC a (.slice A1 a.mems.length c1) (.slice A2 a.dirty.length c2)) := by
 obtain ⟨A1, c1, A2, c2, F1, F2, hu, _⟩ := Sep.ofArr h
 exact ⟨A1, c1, A2, c2, hu⟩
end
theorem thirteen {w : World} {g : Nat} {t : TypeId} {a0 a1 a2 a3 a4 a5 a6 a7 a8 a9 a10 a11 a12 : Value} (h : w.heap[g]? = some (.cells #[a0, a1, a2, a3, a4, a5, a6, a7, a8, a9, a10, a11, a12] t (0, 0))) :
  w.cell? ⟨g, 0, none⟩ = some a0 ∧ w.cell? ⟨g, 1, none⟩ = some a1 ∧ w.cell? ⟨g, 2, none⟩ = some a2 ∧ w.cell? ⟨g, 3, none⟩ = some a3 ∧ w.cell? ⟨g, 4, none⟩ = some a4 ∧ w.cell? ⟨g, 5, none⟩ = some a5 ∧ w.cell? ⟨g, 6, none⟩ = some a6 ∧ w.cell? ⟨g, 7, none⟩ = some a7 ∧ w.cell? ⟨g, 8, none⟩ = some a8 ∧ w.cell? ⟨g, 9, none⟩ = some a9 ∧ w.cell? ⟨g, 10, none⟩ = some a10 ∧ w.cell? ⟨g, 11, none⟩ = some a11 ∧ w.cell? ⟨g, 12, none⟩ = some a12 :=
 ⟨(blk_cell h 0).trans rfl, (blk_cell h 1).trans rfl, (blk_cell h 2).trans rfl, (blk_cell h 3).trans rfl, (blk_cell h 4).trans rfl, (blk_cell h 5).trans rfl, (blk_cell h 6).trans rfl, (blk_cell h 7).trans rfl, (blk_cell h 8).trans rfl, (blk_cell h 9).trans rfl, (blk_cell h 10).trans rfl, (blk_cell h 11).trans rfl, (blk_cell h 12).trans rfl⟩
theorem RK_mems {w : World} {v : Value} {l : List MemV} (h : RK kMem w v l) (hn : 0 < l.length) :
  ∃ ad cap, v = .slice (some ad) l.length cap ∧ ∀ (i : Nat) (x : MemV), l[i]? = some x → ∃ A1 c1 A2 c2 A3 c3, w.cell? (ad.add (i * 4)) = some (.slice A1 x.secs.length c1) ∧ w.cell? ⟨(ad.add (i * 4)).block, (ad.add (i * 4)).off + 1, none⟩ = some (.slice A2 x.cache.length c2) ∧ w.cell? ⟨(ad.add (i * 4)).block, (ad.add (i * 4)).off + 2, none⟩ = some (.bool x.failed) ∧ w.cell? ⟨(ad.add (i * 4)).block, (ad.add (i * 4)).off + 3, none⟩ = some (.slice A3 x.bad.length c3) ∧ MemR w (.agg #[.slice A1 x.secs.length c1, .slice A2 x.cache.length c2, .bool x.failed, .slice A3 x.bad.length c3]) x := by
 obtain ⟨A, cap, rfl, hl, hC⟩ := h
 obtain ⟨ad, rfl, hc⟩ := hC.2.2 hn
 refine ⟨ad, cap, rfl, fun i x hi => ?_⟩
 obtain ⟨c, _, hK, hcell⟩ := hc i x hi
 have hM := kMem_K.1 hK
 obtain ⟨s, cc, b, hv, r1, r2, r3⟩ := id hM
 have : c = [s, cc, .bool x.failed, b] := congrArg Array.toList (Value.agg.inj hv)
 subst this
 obtain ⟨A1, c1, rfl, _⟩ := id r1
 obtain ⟨A2, c2, rfl, _⟩ := id r2
 obtain ⟨A3, c3, rfl, _⟩ := id r3
 refine ⟨A1, c1, A2, c2, A3, c3, hcell 0 _ rfl, ?_, ?_, ?_, hM⟩
 ·rw [← add_off _ _ _ (by decide)]; exact hcell 1 _ rfl
 ·rw [← add_off _ _ _ (by decide)]; exact hcell 2 _ rfl
 ·rw [← add_off _ _ _ (by decide)]; exact hcell 3 _ rfl
end AKinds
namespace AHole
open Go.RowKit Go.Proofs.YtggmifnblcjdfaaGreatW.PrintWords Fp MInt MKinds MRead MMake MPut Go.Proofs.YtggmifnblcjdfaaGreat.Sep AKinds
def Hole {α : Type} (d : Od α) (e : TypeId) (g cap i : Nat) (xs : List α) (c : List Value) (R : List Nat) (w : World) : Prop :=
 ∃ (cs : List Value) (A B : List (List Nat)), w.ownsRow 0 e d.sz (.slice (some ⟨g, 0, none⟩) xs.length cap) xs.length cs ∧ A.length = i ∧ A.length + 1 + B.length = xs.length ∧ seg d.sz i cs = c ∧ R = g :: (A.flatten ++ B.flatten) ∧
  ∀ (j : Nat) (z : α) (H : List Nat), j ≠ i → xs[j]? = some z → (A ++ [] :: B)[j]? = some H → d.M w H z (seg d.sz j cs)
def ho {α : Type} (d : Od α) (e : TypeId) (g cap i : Nat) (xs : List α) (c : List Value) (R : List Nat) : Res := (R, fun w => Hole d e g cap i xs c R w)
section
variable {α : Type} {d : Od α} {e : TypeId} {g cap i : Nat} {xs : List α} {c : List Value} {R : List Nat} {w w' w0 : World} {S : List Nat} {L : List Res}
theorem other_in {A B : List (List Nat)} {i j : Nat} {H : List Nat} (hA : A.length = i) (hj : j ≠ i) (h : (A ++ [] :: B)[j]? = some H) : ∀ k ∈ H, k ∈ A.flatten ++ B.flatten := by
 intro k hk
 rcases Nat.lt_or_ge j A.length with hlt | hge
 ·rw [List.getElem?_append_left hlt] at h
  exact List.mem_append_left _ (List.mem_flatten.2 ⟨H, List.mem_of_getElem? h, hk⟩)
 ·rw [List.getElem?_append_right hge] at h
  obtain ⟨m, hm⟩ : ∃ m, j - A.length = m + 1 := ⟨j - A.length - 1, by omega⟩
  rw [hm, List.getElem?_cons_succ] at h
  exact List.mem_append_right _ (List.mem_flatten.2 ⟨H, List.mem_of_getElem? h, hk⟩)
theorem Hole.move (h : Hole d e g cap i xs c R w) (hm : ∀ k ∈ R, w'.heap[k]? = w.heap[k]?) : Hole d e g cap i xs c R w' := by
 obtain ⟨cs, A, B, hr, hA, hl, hc, hR, hM⟩ := h
 refine ⟨cs, A, B, own_move hr (fun k hk => hm k ?_), hA, hl, hc, hR, fun j z H hj hz hH => d.M_move (hM j z H hj hz hH) (fun k hk => hm k ?_)⟩
 ·have hk : g = k := by simpa [Value.ownBlock] using hk
  rw [hR, hk]; simp
 ·rw [hR]; exact List.mem_cons_of_mem _ (other_in hA hj hH k hk)
theorem Hole.lt (h : Hole d e g cap i xs c R w) : ∀ k ∈ R, k < w.heap.size := by
 obtain ⟨cs, A, B, hr, hA, hl, hc, hR, hM⟩ := h
 intro k hk
 rw [hR] at hk
 rcases List.mem_cons.1 hk with rfl | hk
 ·exact (hr.lt k (by simp [Value.ownBlock])).2
 ·have hin : ∀ (C : List (List Nat)), (∀ H ∈ C, ∃ j z, j ≠ i ∧ xs[j]? = some z ∧ (A ++ [] :: B)[j]? = some H) → k ∈ C.flatten → k < w.heap.size := by
   intro C hC hk
   obtain ⟨H, hH, hk⟩ := List.mem_flatten.1 hk
   obtain ⟨j, z, hj, hz, hH'⟩ := hC H hH
   exact d.M_lt (hM j z H hj hz hH') k hk
  rcases List.mem_append.1 hk with hk | hk
  ·refine hin A (fun H hH => ?_) hk
   obtain ⟨j, hj, rfl⟩ := List.getElem_of_mem hH
   have hjx : j < xs.length := by omega
   exact ⟨j, xs[j], by omega, List.getElem?_eq_getElem hjx, by rw [List.getElem?_append_left hj, List.getElem?_eq_getElem hj]⟩
  ·refine hin B (fun H hH => ?_) hk
   obtain ⟨j, hj, rfl⟩ := List.getElem_of_mem hH
   have hjx : A.length + 1 + j < xs.length := by omega
   refine ⟨A.length + 1 + j, xs[A.length + 1 + j], by omega, List.getElem?_eq_getElem hjx, ?_⟩
   rw [List.getElem?_append_right (by omega), show A.length + 1 + j - A.length = j + 1 by omega, List.getElem?_cons_succ, List.getElem?_eq_getElem hj]
theorem lies_hole (h : Hole d e g cap i xs c R w) : Lies w (ho d e g cap i xs c R) := ⟨h.lt, fun w' hm => h.move hm⟩
theorem Hole.len (h : Hole d e g cap i xs c R w) : c.length = d.sz := by
 obtain ⟨cs, A, B, hr, hA, hl, hc, hR, hM⟩ := h
 rw [← hc]; exact seg_length hr.1 (by omega)
theorem Hole.cell (h : Hole d e g cap i xs c R w) {t : Nat} {u : Value} (hu : c[t]? = some u) : w.cell? ⟨g, i * d.sz + t, none⟩ = some u := by
 have hlen := h.len
 obtain ⟨cs, A, B, hr, hA, hl, hc, hR, hM⟩ := h
 have hil : i < xs.length := by omega
 have ht : t < d.sz := by rw [← hlen]; exact (List.getElem?_eq_some_iff.1 hu).1
 rw [← hc, seg_get hr.1 hil ht] at hu
 rw [hr.cellAt _ ?_]
 ·exact hu
 ·have : (i + 1) * d.sz ≤ xs.length * d.sz := Nat.mul_le_mul_right _ hil
  rw [Nat.succ_mul] at this; omega
theorem Sep.splitP {r : Res} {M : List Res} (h : Sep w0 S w (r :: L)) (hf : (fps M).Perm r.1) (hM : ∀ m ∈ M, Lies w m) : Sep w0 S w (M ++ L) := by
 have hp : (fps (M ++ L)).Perm (fps (r :: L)) := by rw [fps_append, fps]; exact hf.append_right _
 refine ⟨h.chg, hp.nodup_iff.2 h.nd, fun k hk => h.sub k (hp.mem_iff.1 hk), fun q hq => ?_⟩
 rcases List.mem_append.1 hq with hq | hq
 ·exact hM q hq
 ·exact h.all q (List.mem_cons_of_mem _ hq)
theorem Sep.glueP {r : Res} {M : List Res} (h : Sep w0 S w (M ++ L)) (hf : (fps M).Perm r.1) (hl : Lies w r) : Sep w0 S w (r :: L) := by
 have hp : (fps (M ++ L)).Perm (fps (r :: L)) := by rw [fps_append, fps]; exact hf.append_right _
 refine ⟨h.chg, hp.nodup_iff.1 h.nd, fun k hk => h.sub k (hp.mem_iff.2 hk), fun q hq => ?_⟩
 rcases List.mem_cons.1 hq with rfl | hq
 ·exact hl
 ·exact h.all q (List.mem_append_right _ hq)
def el {α : Type} (d : Od α) (G : List Nat) (x : α) (c : List Value) : Res := (G, fun w => d.M w G x c)
theorem Sep.take_out {F : List Nat} {n : Nat} {x : α} (h : Sep w0 S w (rw_ d e F (.slice (some ⟨g, 0, none⟩) n cap) xs :: L)) (hi : xs[i]? = some x) :
  n = xs.length ∧ ∃ c G R, Sep w0 S w (el d G x c :: ho d e g cap i xs c R :: L) := by
 obtain ⟨cs, Fs, hr, hl, hF, hM⟩ := (show d.O e w F _ xs from h.get 0 rfl)
 have hil : i < xs.length := (List.getElem?_eq_some_iff.1 hi).1
 have hn : n = xs.length := by
  rcases hr.2 with ⟨h', _⟩ | ⟨_, _, _, h', _⟩ <;> simp at h'
  exact h'.2.1
 subst hn
 have hG := List.getElem?_eq_getElem (show i < Fs.length by omega)
 obtain ⟨G, hG'⟩ : ∃ G, G = Fs[i]'(by omega) := ⟨_, rfl⟩
 rw [← hG'] at hG
 obtain ⟨A, B, hAB, hA⟩ := split_at_ hG
 subst hAB
 refine ⟨rfl, seg d.sz i cs, G, g :: (A.flatten ++ B.flatten), ?_⟩
 have hE : d.M w G x (seg d.sz i cs) := hM i x G hi hG
 have hH : Hole d e g cap i xs (seg d.sz i cs) (g :: (A.flatten ++ B.flatten)) w := by
  refine ⟨cs, A, B, hr, hA, by simp at hl; omega, rfl, rfl, fun j z H hj hz hH => ?_⟩
  rw [get_mid (x := G) (by omega)] at hH
  exact hM j z H hz hH
 refine Sep.splitP (M := [el d G x (seg d.sz i cs), ho d e g cap i xs (seg d.sz i cs) (g :: (A.flatten ++ B.flatten))]) h ?_ ?_
 ·have hf2 : (rw_ d e F (.slice (some ⟨g, 0, none⟩) xs.length cap) xs).1 = g :: (A.flatten ++ (G ++ B.flatten)) := by
   show F = _
   rw [hF]; simp [Value.ownBlock]
  rw [hf2]
  show List.Perm (G ++ (g :: (A.flatten ++ B.flatten) ++ [])) _
  rw [List.append_nil]
  refine List.perm_middle.trans (List.Perm.cons _ ?_)
  rw [← List.append_assoc, ← List.append_assoc]
  exact List.Perm.append_right _ List.perm_append_comm
 ·intro r hr'
  simp only [List.mem_cons, List.not_mem_nil, or_false] at hr'
  rcases hr' with rfl | rfl
  ·exact ⟨fun k hk => d.M_lt hE k hk, fun w' hm => d.M_move hE hm⟩
  ·exact lies_hole hH
theorem Sep.put_in {G : List Nat} {y : α} {p : World → Prop} (h : Sep w0 S w ((G, p) :: ho d e g cap i xs c R :: L)) (hy : d.M w G y c) :
  ∃ F', Sep w0 S w (rw_ d e F' (.slice (some ⟨g, 0, none⟩) xs.length cap) (xs.set i y) :: L) := by
 obtain ⟨cs, A, B, hr, hA, hl, hc, hR, hM⟩ := (show Hole d e g cap i xs c R w from h.get 1 rfl)
 have hil : i < xs.length := by omega
 have hO : d.O e w (g :: (A ++ G :: B).flatten) (.slice (some ⟨g, 0, none⟩) xs.length cap) (xs.set i y) := by
  refine ⟨cs, A ++ G :: B, by rw [List.length_set]; exact hr, by simp; omega, by simp [Value.ownBlock], fun j z H hz hH => ?_⟩
  by_cases hj : j = i
  ·subst hj
   rw [List.getElem?_set_self hil] at hz
   have hH' : (A ++ G :: B)[j]? = some G := by rw [List.getElem?_append_right (by omega)]; simp [hA]
   rw [hH'] at hH
   cases hz; cases hH
   rw [hc]; exact hy
  ·rw [List.getElem?_set_ne (Ne.symm hj)] at hz
   rw [get_mid (x := []) (by omega)] at hH
   exact hM j z H hj hz hH
 refine ⟨_, Sep.glueP (M := [(G, p), ho d e g cap i xs c R]) h ?_ (lies_row hO)⟩
 show List.Perm (G ++ (R ++ [])) (g :: (A ++ G :: B).flatten)
 rw [List.append_nil, hR]
 refine List.perm_middle.trans (List.Perm.cons _ ?_)
 rw [List.flatten_append, List.flatten_cons, ← List.append_assoc, ← List.append_assoc]
 exact List.Perm.append_right _ List.perm_append_comm
theorem Sep.take_mem {F : List Nat} {n : Nat} {xs : List MemV} {x : MemV} (h : Sep w0 S w (rw_ oMem e F (.slice (some ⟨g, 0, none⟩) n cap) xs :: L)) (hi : xs[i]? = some x) :
  n = xs.length ∧ ∃ A1 c1 A2 c2 A3 c3 F1 F2 F3 R, Sep w0 S w (rw_ oSec 28 F1 (.slice A1 x.secs.length c1) x.secs :: rw_ oWr 126 F2 (.slice A2 x.cache.length c2) x.cache :: rw_ oInt 3 F3 (.slice A3 x.bad.length c3) x.bad :: ho oMem e g cap i xs [.slice A1 x.secs.length c1, .slice A2 x.cache.length c2, .bool x.failed, .slice A3 x.bad.length c3] R :: L) := by
 obtain ⟨hn, c, G, R, hs⟩ := Sep.take_out h hi
 refine ⟨hn, ?_⟩
 have hM : MemO w G (.agg c.toArray) x := oMem_M.1 (show oMem.M w G x c from hs.get 0 rfl)
 have hs1 : Sep w0 S w (me G (.agg c.toArray) x :: ho oMem e g cap i xs c R :: L) := Sep.splitP (M := [me G (.agg c.toArray) x]) hs (by simp [fps, me, el]) (fun r hr => by
  simp only [List.mem_cons, List.not_mem_nil, or_false] at hr
  subst hr; exact lies_mem hM)
 obtain ⟨A1, c1, A2, c2, A3, c3, F1, F2, F3, hv, hs2⟩ := hs1.ofMem
 have hc : c = [.slice A1 x.secs.length c1, .slice A2 x.cache.length c2, .bool x.failed, .slice A3 x.bad.length c3] := congrArg Array.toList (Value.agg.inj hv)
 subst hc
 exact ⟨A1, c1, A2, c2, A3, c3, F1, F2, F3, R, hs2⟩
theorem Sep.put_mem {F1 F2 F3 : List Nat} {s u b : Value} {xs : List MemV} (y : MemV) (h : Sep w0 S w (rw_ oSec 28 F1 s y.secs :: rw_ oWr 126 F2 u y.cache :: rw_ oInt 3 F3 b y.bad :: ho oMem e g cap i xs [s, u, .bool y.failed, b] R :: L)) :
  ∃ F', Sep w0 S w (rw_ oMem e F' (.slice (some ⟨g, 0, none⟩) xs.length cap) (xs.set i y) :: L) := by
 have h1 := h.toMem
 have hM : MemO w _ _ y := h1.get 0 rfl
 exact Sep.put_in (p := (me (F1 ++ (F2 ++ F3)) (.agg #[s, u, .bool y.failed, b]) y).2) h1 (oMem_M.2 hM)
end
end AHole
namespace AMake
open Go.RowKit RJ RP Go.Proofs.YtggmifnblcjdfaaGreatW.PrintWords Fp FpStep MInt MKinds MRead MMake MPut MHeld Go.Proofs.YtggmifnblcjdfaaGreat.Sep SepStep AKinds
end AMake
namespace AEnt
open Go.RowKit Go.Proofs.YtggmifnblcjdfaaGreatW.PrintWords Fp MInt MKinds MRead MMake MPut MHeld MMark
end AEnt
namespace ALaw
open Go.RowKit RJ RP Go.Proofs.YtggmifnblcjdfaaGreatW.PrintWords Fp FpStep MInt MKinds MRead MMake MPut MHeld Go.Proofs.YtggmifnblcjdfaaGreat.Sep SepStep AKinds AMake AEnt
end ALaw
namespace AArr
open Go.RowKit RJ RP Go.Proofs.YtggmifnblcjdfaaGreatW.PrintWords Fp FpStep MInt MKinds MRead MMake MPut MHeld Go.Proofs.YtggmifnblcjdfaaGreat.Sep SepStep AKinds AMake AEnt ALaw
abbrev arrZ : Array Value := #[.int .i64 0, .int .i64 0, .int .i64 0, .slice none 0 0, .int .i64 0, .int .i64 0, .int .i64 0, .int .i64 0, .int .i64 0, .slice none 0 0, .int .i64 0, .bool false, .bool false]
end AArr
namespace AMark
open Go.RowKit Go.Proofs.YtggmifnblcjdfaaGreatW.PrintWords Fp MInt MKinds MRead MMake MPut MHeld MMark Go.Proofs.YtggmifnblcjdfaaGreat.Sep AKinds AEnt AHole
end AMark
namespace DRes
open Go.RowKit Go.Proofs.YtggmifnblcjdfaaGreatW.PrintWords Fp FpStep MInt MKinds MRead MMake MPut Go.Proofs.YtggmifnblcjdfaaGreat.Sep SepStep AKinds
def kVal : Kd Value where
 sz := 1
 E := []
 K := fun _ x cs => cs = [x] ∧ x.oneCell' = true
 M := fun _ _ _ x cs => cs = [x] ∧ x.oneCell' = true
 K_len := by rintro w x cs ⟨rfl, _⟩; rfl
 K_one := by rintro w x cs ⟨rfl, h⟩ u hu; simp only [List.mem_singleton] at hu; subst hu; exact h
 K_below := fun _ h => h
 K_of_M := id
 M_mono := fun _ h => h
 M_bound := fun h => h
 M_move := fun _ h => h
 M_lower := fun _ h => h
def oVal : Od Value where
 sz := 1
 kd := kVal
 hsz := rfl
 M := fun _ F x cs => F = [] ∧ cs = [x] ∧ x.oneCell' = true
 M_K := fun h => h.2
 M_move := fun h _ => h
 M_lt := fun h k hk => by rw [h.1] at hk; cases hk
@[reducible] def oShl : Od (Int × Value) := Od.pair oInt oVal
def Dat (w : World) (es : List (Int × Value)) (l : List (Int × List Int)) : Prop :=
 es.length = l.length ∧ ∀ (j : Nat) (e : Int × Value) (x : Int × List Int), es[j]? = some e → l[j]? = some x → e.1 = x.1 ∧ RK kInt w e.2 x.2
def da (F : List Nat) (es : List (Int × Value)) (l : List (Int × List Int)) : Res := (F, fun w => Dat w es l)
theorem oShl_M {w : World} {s : Int} {v : Value} (h1 : v.oneCell' = true) : oShl.M w [] (s, v) [.int .i64 s, v] := ⟨[], [], [.int .i64 s], [v], rfl, rfl, ⟨rfl, rfl⟩, rfl, rfl, h1⟩
section
variable {w0 w w' : World} {S : List Nat} {L : List Res}
theorem wr_split {w : World} {F : List Nat} {vd : Value} {l : List (Int × List Int)} {e : TypeId} (h : oWr.O e w F vd l) :
  ∃ es F1 F2, F = F1 ++ F2 ∧ Lies w (rw_ oShl e F1 vd es) ∧ Lies w (da F2 es l) := by
 obtain ⟨cs, Fs, how, hl, rfl, hM⟩ := h
 let es : List (Int × Value) := (List.range l.length).map fun j => ((l.getD j (0, [])).1, cs.getD (j * 2 + 1) (.int .i64 0))
 have hel : es.length = l.length := by simp [es]
 have hcl : cs.length = l.length * 2 := how.1
 have hes : ∀ (j : Nat) (x : Int × List Int), l[j]? = some x → ∃ G v, Fs[j]? = some G ∧ seg 2 j cs = [.int .i64 x.1, v] ∧ oInt.O 3 w G v x.2 ∧ es[j]? = some (x.1, v) := by
  intro j x hx
  have hj : j < l.length := (List.getElem?_eq_some_iff.1 hx).1
  obtain ⟨G, hG⟩ : ∃ G, Fs[j]? = some G := ⟨_, List.getElem?_eq_getElem (by omega)⟩
  obtain ⟨G1, G2, c1, c2, rfl, hc, ⟨rfl, rfl⟩, v, rfl, hO⟩ := hM j x G hx hG
  refine ⟨_, v, hG, hc, by simpa using hO, ?_⟩
  have h1 : cs[j * 2 + 1]? = some v := by
   rw [← seg_get (sz := 2) hcl hj (by decide)]
   show (seg 2 j cs)[1]? = some v
   rw [show seg 2 j cs = [.int .i64 x.1] ++ [v] from hc]; rfl
  have h2 : l[j] = x := Option.some.inj ((List.getElem?_eq_getElem hj).symm.trans hx)
  simp [es, hj, List.getD_eq_getElem?_getD, h1, h2]
 have one : ∀ v, v ∈ cs → v.oneCell' = true := by
  intro v hv
  obtain ⟨i, hi⟩ := List.getElem?_of_mem hv
  have hi2 : i < cs.length := (List.getElem?_eq_some_iff.1 hi).1
  have hj : i / 2 < l.length := by omega
  obtain ⟨x, hx⟩ : ∃ x, l[i / 2]? = some x := ⟨_, List.getElem?_eq_getElem hj⟩
  obtain ⟨G, u, hG, hs, hO, _⟩ := hes _ x hx
  have hm : v ∈ seg 2 (i / 2) cs := by
   have h3 := seg_get (sz := 2) (t := i % 2) hcl hj (by omega)
   rw [show i / 2 * 2 + i % 2 = i by omega, hi] at h3
   exact List.mem_of_getElem? h3
  have hK := hM _ x G hx hG
  exact (Od.M_one oWr hK) v hm
 refine ⟨es, vd.ownBlock.toList, Fs.flatten, rfl, lies_row ⟨cs, List.replicate l.length [], ?_, by simp [hel], by simp, ?_⟩, ?_, ?_⟩
 ·rw [hel]; exact how
 ·intro j x G hx hG
  have hj : j < l.length := by have := (List.getElem?_eq_some_iff.1 hx).1; omega
  obtain ⟨y, hy⟩ : ∃ y, l[j]? = some y := ⟨_, List.getElem?_eq_getElem hj⟩
  obtain ⟨G1, v, hG1, hs, hO, he⟩ := hes j y hy
  obtain rfl : (y.1, v) = x := Option.some.inj (he.symm.trans hx)
  obtain rfl : G = [] := by
   simp [List.getElem?_replicate, hj] at hG; first | exact hG | exact hG.symm
  have hv : v ∈ cs := by
   have h3 := seg_get (sz := 2) (t := 1) hcl hj (by decide)
   rw [show seg 2 j cs = [.int .i64 y.1, v] from hs] at h3
   exact List.mem_of_getElem? h3.symm
  show oShl.M w [] (y.1, v) (seg 2 j cs)
  rw [hs]
  exact oShl_M (one v hv)
 ·intro k hk
  obtain ⟨G, hG, hkG⟩ := List.mem_flatten.1 hk
  obtain ⟨j, hj⟩ := List.getElem?_of_mem hG
  have hj2 : j < l.length := by have := (List.getElem?_eq_some_iff.1 hj).1; omega
  obtain ⟨x, hx⟩ : ∃ x, l[j]? = some x := ⟨_, List.getElem?_eq_getElem hj2⟩
  obtain ⟨G1, v, hG1, hs, hO, he⟩ := hes j x hx
  obtain rfl : G1 = G := Option.some.inj (hG1.symm.trans hj)
  exact O_lt hO k hkG
 ·intro w' hm
  refine ⟨hel, fun j e2 x he hx => ?_⟩
  obtain ⟨G1, v, hG1, hs, hO, he2⟩ := hes j x hx
  obtain rfl : (x.1, v) = e2 := Option.some.inj (he2.symm.trans he)
  exact ⟨rfl, O_RK (O_move hO (fun k hk => hm k (List.mem_flatten.2 ⟨G1, List.mem_of_getElem? hG1, hk⟩)))⟩
theorem Sep.dirt {F : List Nat} {vd : Value} {l : List (Int × List Int)} {e : TypeId} (h : Sep w0 S w (rw_ oWr e F vd l :: L)) :
  ∃ es F1 F2, es.length = l.length ∧ Sep w0 S w (rw_ oShl e F1 vd es :: da F2 es l :: L) := by
 obtain ⟨es, F1, F2, rfl, h1, h2⟩ := wr_split (h.get 0 rfl : oWr.O e w F vd l)
 refine ⟨es, F1, F2, (h2.now : Dat w es l).1, h.part 0 rfl (M := [rw_ oShl e F1 vd es, da F2 es l]) (by simp [fps, rw_, da]) ?_⟩
 intro r hr
 simp only [List.mem_cons, List.not_mem_nil, or_false] at hr
 rcases hr with rfl | rfl
 ·exact h1
 ·exact h2
theorem shl_RK {e : TypeId} {F : List Nat} {vd : Value} {es : List (Int × Value)} {l : List (Int × List Int)} (h1 : oShl.O e w F vd es) (h2 : Dat w es l) : RK kWr w vd l := by
 obtain ⟨A, c, rfl, hl, hC⟩ := O_reads h1
 obtain ⟨hel, hd⟩ := h2
 refine ⟨A, c, by rw [hel], by omega, hel ▸ ⟨by rw [hel], hC.2.1, fun hn => ?_⟩⟩
 obtain ⟨ad, rfl, hc⟩ := hC.2.2 hn
 refine ⟨ad, rfl, fun i x hx => ?_⟩
 have hi : i < es.length := by have := (List.getElem?_eq_some_iff.1 hx).1; omega
 obtain ⟨y, hy⟩ : ∃ y, es[i]? = some y := ⟨_, List.getElem?_eq_getElem hi⟩
 obtain ⟨cc, hl2, ⟨c1, c2, rfl, hK1, hK2, _⟩, hcell⟩ := hc i y hy
 obtain ⟨h3, h4⟩ := hd i y x hy hx
 obtain rfl : c1 = [.int .i64 y.1] := hK1
 subst hK2
 refine ⟨_, hl2, ⟨_, _, rfl, ?_, ?_⟩, hcell⟩
 ·rw [h3]; exact (rfl : [Value.int .i64 x.1] = _)
 ·obtain ⟨A2, c3, hv, hl3, hC3⟩ := h4
  exact ⟨A2, c3, by rw [hv], hl3, hC3⟩
end
theorem da_add {w : World} {F Fe : List Nat} {es : List (Int × Value)} {l : List (Int × List Int)} {s : Int} {u : Value} {xs : List Int} {e : TypeId} (h : Lies w (da F es l)) (h2 : Lies w (rw_ oInt e Fe u xs)) : Lies w (da (F ++ Fe) (es ++ [(s, u)]) (l ++ [(s, xs)])) := by
 refine ⟨fun k hk => ?_, fun w' hm => ?_⟩
 ·rcases List.mem_append.1 hk with hk | hk
  ·exact h.lt k hk
  ·exact h2.lt k hk
 ·obtain ⟨h3, h4⟩ : Dat w' es l := h.st w' (fun k hk => hm k (List.mem_append_left _ hk))
  have h5 : RK kInt w' u xs := O_RK (h2.st w' (fun k hk => hm k (List.mem_append_right _ hk)) : oInt.O e w' Fe u xs)
  refine ⟨by simp [h3], fun j q x hq hx => ?_⟩
  rcases Nat.lt_or_ge j es.length with hj | hj
  ·rw [List.getElem?_append_left hj] at hq
   rw [List.getElem?_append_left (by omega)] at hx
   exact h4 j q x hq hx
  ·have hj2 : j = es.length := by have := (List.getElem?_eq_some_iff.1 hq).1; simp at this; omega
   subst hj2
   rw [List.getElem?_append_right (Nat.le_refl _), Nat.sub_self] at hq
   rw [h3, List.getElem?_append_right (Nat.le_refl _), Nat.sub_self] at hx
   simp only [List.getElem?_cons_zero, Option.some.injEq] at hq hx
   subst hq hx
   exact ⟨rfl, h5⟩
theorem da_pick {w : World} {F : List Nat} {es : List (Int × Value)} {l : List (Int × List Int)} (h : Lies w (da F es l)) : ∀ (out : List (Int × Value)), (∀ q ∈ out, q ∈ es) → ∃ l', l'.length = out.length ∧ (∀ x ∈ l', x ∈ l) ∧ Lies w (da F out l')
 | [], _ => ⟨[], rfl, by simp, h.lt, fun w' hm => ⟨rfl, fun j q x hq => by simp at hq⟩⟩
 | q :: out, ho => by
  obtain ⟨l', h1, h2, h3⟩ := da_pick h out (fun r hr => ho r (List.mem_cons_of_mem _ hr))
  obtain ⟨j, hj⟩ := List.getElem?_of_mem (ho q (List.mem_cons_self ..))
  have hel : es.length = l.length := (h.now : Dat w es l).1
  obtain ⟨x, hx⟩ : ∃ x, l[j]? = some x := ⟨_, List.getElem?_eq_getElem (by have := (List.getElem?_eq_some_iff.1 hj).1; omega)⟩
  refine ⟨x :: l', by simp [h1], ?_, h.lt, fun w' hm => ⟨by simp [h1], ?_⟩⟩
  ·intro y hy
   rcases List.mem_cons.1 hy with rfl | hy
   ·exact List.mem_of_getElem? hx
   ·exact h2 y hy
  ·intro i r y hr hy
   cases i with
   | zero =>
    simp only [List.getElem?_cons_zero, Option.some.injEq] at hr hy
    subst hr hy
    exact (h.st w' hm : Dat w' es l).2 j _ _ hj hx
   | succ i =>
    simp only [List.getElem?_cons_succ] at hr hy
    exact (h3.st w' hm : Dat w' out l').2 i r y hr hy
theorem shl_cells {w : World} {e : TypeId} {F : List Nat} {A : Option Addr} {n c : Nat} {es : List (Int × Value)} (h : oShl.O e w F (.slice A n c) es) (hn : 0 < es.length) :
  ∃ ad, A = some ad ∧ ∀ (i : Nat) (x : Int × Value), es[i]? = some x → w.cell? (ad.add (i * 2)) = some (.int .i64 x.1) ∧ w.cell? ⟨(ad.add (i * 2)).block, (ad.add (i * 2)).off + 1, none⟩ = some x.2 ∧ x.2.oneCell' = true := by
 obtain ⟨A1, c1, hv, hl, hC⟩ := O_reads h
 obtain ⟨rfl, rfl, rfl⟩ := Value.slice.inj hv
 obtain ⟨ad, rfl, hc⟩ := hC.2.2 hn
 refine ⟨ad, rfl, fun i x hx => ?_⟩
 obtain ⟨cc, hl2, ⟨c1, c2, rfl, hK1, hK2, h1⟩, hcell⟩ := hc i x hx
 obtain rfl : c1 = [.int .i64 x.1] := hK1
 subst hK2
 refine ⟨hcell 0 _ rfl, ?_, h1⟩
 rw [← add_off _ _ _ (by decide)]
 exact hcell 1 _ rfl
theorem shl_cap {w : World} {e : TypeId} {F : List Nat} {A : Option Addr} {n c : Nat} {es : List (Int × Value)} (h : oShl.O e w F (.slice A n c) es) : es.length ≤ c := by
 obtain ⟨A1, c1, hv, hl, hC⟩ := O_reads h
 obtain ⟨rfl, rfl, rfl⟩ := Value.slice.inj hv
 exact hl
theorem add_two {ad : Addr} {n m : Nat} (hn : 0 < n) : (ad.add n).add m = ad.add (n + m) := by
 rcases Nat.eq_zero_or_pos m with rfl | hm
 ·rw [Nat.add_zero]; rfl
 ·rw [add_off ad n m hm]
  rcases n with _ | n
  ·omega
  ·rcases m with _ | m
   ·omega
   ·simp [Addr.add]
def cel : List (Int × Value) → List Value
 | [] => []
 | x :: l => .int .i64 x.1 :: x.2 :: cel l
theorem cel_len : ∀ l : List (Int × Value), (cel l).length = l.length * 2
 | [] => rfl
 | x :: l => by simp [cel, cel_len l]; omega
theorem cel_app : ∀ l m : List (Int × Value), cel (l ++ m) = cel l ++ cel m
 | [], _ => rfl
 | x :: l, m => by simp [cel, cel_app l m]
theorem cel_seg : ∀ (l : List (Int × Value)) (j : Nat) (x : Int × Value), l[j]? = some x → seg 2 j (cel l) = [.int .i64 x.1, x.2]
 | [], j, x, h => by simp at h
 | y :: l, 0, x, h => by simp only [List.getElem?_cons_zero, Option.some.injEq] at h; subst h; simp [seg, cel]
 | y :: l, j + 1, x, h => by
  rw [← cel_seg l j x (by simpa using h)]
  simp only [seg, cel]
  rw [show (j + 1) * 2 = j * 2 + 1 + 1 by omega, List.drop_succ_cons, List.drop_succ_cons]
theorem shl_row {w : World} {e : TypeId} {F : List Nat} {v : Value} {es : List (Int × Value)} (h : oShl.O e w F v es) : w.ownsRow 0 e 2 v es.length (cel es) ∧ F = v.ownBlock.toList ∧ ∀ q ∈ es, q.2.oneCell' = true := by
 obtain ⟨cs, Fs, how, hl, rfl, hM⟩ := h
 have hcl : cs.length = es.length * 2 := how.1
 have hs : ∀ (j : Nat) (x : Int × Value), es[j]? = some x → Fs[j]? = some [] ∧ seg 2 j cs = [.int .i64 x.1, x.2] ∧ x.2.oneCell' = true := by
  intro j x hx
  obtain ⟨G, hG⟩ : ∃ G, Fs[j]? = some G := ⟨_, List.getElem?_eq_getElem (by have := (List.getElem?_eq_some_iff.1 hx).1; omega)⟩
  obtain ⟨G1, G2, c1, c2, rfl, hc, ⟨rfl, rfl⟩, rfl, rfl, h1⟩ := hM j x G hx hG
  exact ⟨hG, hc, h1⟩
 have hcs : cs = cel es := by
  refine List.ext_getElem? fun i => ?_
  by_cases hi : i < cs.length
  ·obtain ⟨x, hx⟩ : ∃ x, es[i / 2]? = some x := ⟨_, List.getElem?_eq_getElem (by omega)⟩
   have h1 := seg_get (sz := 2) (j := i / 2) (t := i % 2) hcl (by omega) (by omega)
   have h2 := seg_get (sz := 2) (j := i / 2) (t := i % 2) (cel_len es) (by omega) (by omega)
   rw [(hs _ x hx).2.1] at h1
   rw [cel_seg es _ x hx] at h2
   rw [show i / 2 * 2 + i % 2 = i by omega] at h1 h2
   rw [← h1, ← h2]
  ·rw [List.getElem?_eq_none (by omega), List.getElem?_eq_none (by rw [cel_len]; omega)]
 refine ⟨by rw [← hcs]; exact how, ?_, fun q hq => ?_⟩
 ·have : Fs.flatten = [] := by
   rw [List.flatten_eq_nil_iff]
   intro G hG
   obtain ⟨j, hj⟩ := List.getElem?_of_mem hG
   obtain ⟨x, hx⟩ : ∃ x, es[j]? = some x := ⟨_, List.getElem?_eq_getElem (by have := (List.getElem?_eq_some_iff.1 hj).1; omega)⟩
   exact Option.some.inj (hj.symm.trans (hs j x hx).1)
  rw [this, List.append_nil]
 ·obtain ⟨j, hj⟩ := List.getElem?_of_mem hq
  exact (hs j q hj).2.2
theorem row_shl {w : World} {e : TypeId} {v : Value} {es : List (Int × Value)} (h : w.ownsRow 0 e 2 v es.length (cel es)) (h1 : ∀ q ∈ es, q.2.oneCell' = true) : oShl.O e w v.ownBlock.toList v es := by
 refine ⟨cel es, List.replicate es.length [], h, by simp, by simp, fun j x G hx hG => ?_⟩
 obtain rfl : G = [] := by
  have hj := (List.getElem?_eq_some_iff.1 hx).1
  simp [List.getElem?_replicate, hj] at hG; first | exact hG | exact hG.symm
 show oShl.M w [] x (seg 2 j (cel es))
 rw [cel_seg es j x hx]
 exact oShl_M (h1 x (List.mem_of_getElem? hx))
section
variable {P : Program} {ops : Array Oper} {rest : List Oper} {o : Oper} {a : Act} {Q : Exit → Act → World → Prop} {K : Act → World → Prop} {E : Prop} {w0 W : World} {S : List Nat} {L : List Res}
theorem app_shl {e : TypeId} {F : List Nat} {v : Value} {xs : List (Int × Value)} (HS : Sep w0 S W (rw_ oShl e F v xs :: L)) (hgd : o.guard = none) (s x : Operand) (t : TypeId) (z : Value) (bytes : Nat)
  (ho : o.op = .call { callee := .builtin .append, args := #[s, x], argTypes := #[t, t] })
  (ht : P.underlying t = some (.slice e)) (hinfo : (P.info? e).map (fun i => (i.zero, i.size, i.bytes)) = some (some z, 2, bytes)) (hz : z.cells.size = 2) (hb0 : 0 < bytes)
  (ad : Addr) (m c : Nat) (ys : List (Int × Value)) (hs : a.eval s = v) (hx : a.eval x = .slice (some ad) m c) (hm : ys.length = m)
  (hc : ∀ (j : Nat) (q : Int × Value), ys[j]? = some q → W.cell? (ad.add (j * 2)) = some (.int .i64 q.1) ∧ W.cell? (ad.add (j * 2 + 1)) = some q.2 ∧ q.2.oneCell' = true) (hl : (xs.length + m) * bytes ≤ 140737488355328)
  (h : ∀ A c w1 F1, Sep w0 S w1 (rw_ oShl e F1 (.slice A (xs.length + m) c) (xs ++ ys) :: L) → wpList P ops Q rest (a.put o.dst (.slice A (xs.length + m) c)) w1) :
  wpList P ops Q (o :: rest) a W := by
 obtain ⟨i0, hi, hzz⟩ := Option.map_eq_some_iff.1 hinfo
 simp only [Prod.mk.injEq] at hzz
 obtain ⟨hz0, hz1, hz2⟩ := hzz
 obtain ⟨hr, rfl, h1⟩ := shl_row (HS.get 0 rfl : oShl.O e W F v xs)
 have hlen : xs.length + m ≤ 140737488355328 := Nat.le_trans (Nat.le_mul_of_pos_right _ hb0) hl
 have hone : ∀ q ∈ ys, q.2.oneCell' = true := fun q hq => by obtain ⟨j, hj⟩ := List.getElem?_of_mem hq; exact (hc j q hj).2.2
 have hnews : ∀ j u, (cel ys)[j]? = some u → W.cell? (ad.add j) = some u := by
  intro j u hu
  have hj : j < ys.length * 2 := by have := (List.getElem?_eq_some_iff.1 hu).1; rwa [cel_len] at this
  obtain ⟨q, hq⟩ : ∃ q, ys[j / 2]? = some q := ⟨_, List.getElem?_eq_getElem (by omega)⟩
  have h2 := seg_get (sz := 2) (j := j / 2) (t := j % 2) (cel_len ys) (by omega) (by omega)
  rw [cel_seg ys _ q hq, show j / 2 * 2 + j % 2 = j by omega, hu] at h2
  obtain ⟨h3, h4, _⟩ := hc _ q hq
  rcases Nat.mod_two_eq_zero_or_one j with hj0 | hj0
  ·rw [hj0] at h2
   simp only [List.getElem?_cons_zero, Option.some.injEq] at h2
   rw [← h2, ← h3]; congr 2; omega
  ·rw [hj0] at h2
   simp only [List.getElem?_cons_succ, List.getElem?_cons_zero, Option.some.injEq] at h2
   rw [← h2, ← h4]; congr 2; omega
 have hone' : ∀ l : List (Int × Value), (∀ q ∈ l, q.2.oneCell' = true) → ∀ u ∈ cel l, u.oneCell' = true := by
  intro l
  induction l with
  | nil => intro _ u hu; cases hu
  | cons q l ih =>
   intro hl u hu
   rcases List.mem_cons.1 hu with rfl | hu
   ·rfl
   ·rcases List.mem_cons.1 hu with rfl | hu
    ·exact hl q (List.mem_cons_self ..)
    ·exact ih (fun r hr => hl r (List.mem_cons_of_mem _ hr)) u hu
 refine wpList_append_own_at W hgd s x t ho 0 e i0 z 2 bytes ht hi hz0 hz1 hz2 hz (by decide) v xs.length (cel xs) hs hr ad m c (cel ys) hx (by rw [cel_len, hm]) hnews (hone' ys hone) (by simp only [maxLen]; omega) hl (Nat.zero_le _) ?_
 intro v1 w1 hown hg _ hat
 rw [← cel_app] at hown
 have hlm : (xs ++ ys).length = xs.length + m := by simp [hm]
 rw [← hlm] at hown
 have hO := row_shl hown (fun q hq => by rcases List.mem_append.1 hq with hq | hq; exact h1 q hq; exact hone q hq)
 obtain ⟨A, c, rfl, hq⟩ := O_reads hO
 rw [hlm] at *
 refine h A c w1 _ (HS.upd 0 rfl ⟨Chg.of_grown hg, ?_, fun k hk => ?_, lies_row hO⟩)
 ·show (Option.toList _).Nodup
  generalize Value.ownBlock _ = ob
  cases ob <;> simp
 ·have hk' : Value.ownBlock (.slice A (xs.length + m) c) = some k := by simpa [rw_] using hk
  rcases hat with hat | hat
  ·left; show k ∈ v.ownBlock.toList; rw [← hat, hk']; simp
  ·rw [hat] at hk'; cases hk'; exact .inr (Nat.le_refl _)
theorem step_shl {e : TypeId} {F : List Nat} {v : Value} {xs : List (Int × Value)} (HS : Sep w0 S W (rw_ oShl e F v xs :: L)) (hgd : o.guard = none) (s x : Operand) (t : TypeId) (z : Value) (bytes : Nat)
  (ho : o.op = .call { callee := .builtin .append, args := #[s, x], argTypes := #[t, t] })
  (ht : P.underlying t = some (.slice e)) (hinfo : (P.info? e).map (fun i => (i.zero, i.size, i.bytes)) = some (some z, 2, bytes)) (hz : z.cells.size = 2) (hb0 : 0 < bytes)
  (ad : Addr) (m c : Nat) (ys : List (Int × Value)) (hs : a.eval s = v) (hx : a.eval x = .slice (some ad) m c) (hm : ys.length = m)
  (hc : ∀ (j : Nat) (q : Int × Value), ys[j]? = some q → W.cell? (ad.add (j * 2)) = some (.int .i64 q.1) ∧ W.cell? (ad.add (j * 2 + 1)) = some q.2 ∧ q.2.oneCell' = true) (hl : (xs.length + m) * bytes ≤ 140737488355328)
  (h : ∀ A c w1 F1, Sep w0 S w1 (rw_ oShl e F1 (.slice A (xs.length + m) c) (xs ++ ys) :: L) → K (a.put o.dst (.slice A (xs.length + m) c)) w1) :
  if Region.wanted o (yielded ops a.tmps) = true then Oper.wp P o a W K Q else E :=
 step_of_list hgd (fun Q' hQ => app_shl HS hgd s x t z bytes ho ht hinfo hz hb0 ad m c ys hs hx hm hc hl (fun A c w1 F1 hh => hQ _ _ (h A c w1 F1 hh)))
end
def Bx (w0 w : World) (g : Nat) (a : ArrV) (L : List Res) : Prop :=
 ∃ (h c1 : Nat) (A2 : Option Addr) (c2 : Nat) (F1 F2 F3 : List Nat) (es : List (Int × Value)), es.length = a.dirty.length ∧
  Sep w0 [] w (bx g 34 (arrC a (.slice (some ⟨h, 0, none⟩) a.mems.length c1) (.slice A2 a.dirty.length c2)) :: rw_ oMem 89 F1 (.slice (some ⟨h, 0, none⟩) a.mems.length c1) a.mems :: rw_ oShl 91 F2 (.slice A2 a.dirty.length c2) es :: da F3 es a.dirty :: L)
theorem thirteenB {w w' : World} {g : Nat} {t : TypeId} {a0 a1 a2 a3 a4 a5 a6 a7 a8 a9 a10 a11 a12 : Value} (h : w.heap[g]? = some (.cells #[a0, a1, a2, a3, a4, a5, a6, a7, a8, a9, a10, a11, a12] t (0, 0))) (hb : Below w.heap.size w w') :
  w'.cell? ⟨g, 0, none⟩ = some a0 ∧ w'.cell? ⟨g, 1, none⟩ = some a1 ∧ w'.cell? ⟨g, 2, none⟩ = some a2 ∧ w'.cell? ⟨g, 3, none⟩ = some a3 ∧ w'.cell? ⟨g, 4, none⟩ = some a4 ∧ w'.cell? ⟨g, 5, none⟩ = some a5 ∧ w'.cell? ⟨g, 6, none⟩ = some a6 ∧ w'.cell? ⟨g, 7, none⟩ = some a7 ∧ w'.cell? ⟨g, 8, none⟩ = some a8 ∧ w'.cell? ⟨g, 9, none⟩ = some a9 ∧ w'.cell? ⟨g, 10, none⟩ = some a10 ∧ w'.cell? ⟨g, 11, none⟩ = some a11 ∧ w'.cell? ⟨g, 12, none⟩ = some a12 :=
 thirteen ((hb.block g (blk_lt h)).trans h)
theorem cell_later {w w' : World} {c : Addr} {v : Value} (h : w.cell? c = some v) (hb : Below w.heap.size w w') : w'.cell? c = some v := (hb.cell (lt_of_cell h)).trans h
theorem Bx.le {w0 w : World} {g : Nat} {a : ArrV} {L : List Res} {hh c1 c2 : Nat} {A2 : Option Addr} {F1 F2 F3 : List Nat} {es : List (Int × Value)} (hel : es.length = a.dirty.length)
  (h : Sep w0 [] w (bx g 34 (arrC a (.slice (some ⟨hh, 0, none⟩) a.mems.length c1) (.slice A2 a.dirty.length c2)) :: rw_ oMem 89 F1 (.slice (some ⟨hh, 0, none⟩) a.mems.length c1) a.mems :: rw_ oShl 91 F2 (.slice A2 a.dirty.length c2) es :: da F3 es a.dirty :: L)) : Bx w0 w g a L := ⟨hh, c1, A2, c2, F1, F2, F3, es, hel, h⟩
theorem Bx.ofF {w0 w : World} {g : Nat} {a nv : ArrV} {L : List Res} {hh n c1 c2 : Nat} {A2 : Option Addr} {F1 F2 F3 : List Nat} {es : List (Int × Value)} (hel : es.length = a.dirty.length) (hd : nv.dirty = a.dirty) (hm : nv.mems.length = n)
  (h : Sep w0 [] w (bx g 34 (arrC nv (.slice (some ⟨hh, 0, none⟩) n c1) (.slice A2 a.dirty.length c2)) :: rw_ oMem 89 F1 (.slice (some ⟨hh, 0, none⟩) n c1) nv.mems :: rw_ oShl 91 F2 (.slice A2 a.dirty.length c2) es :: da F3 es a.dirty :: L)) : Bx w0 w g nv L := by
 subst hm
 rw [← hd] at h hel
 exact ⟨hh, c1, A2, c2, F1, F2, F3, es, hel, h⟩
theorem box_R {w0 w : World} {g h c1 c2 : Nat} {a : ArrV} {A2 : Option Addr} {F1 F2 F3 : List Nat} {es : List (Int × Value)} {L : List Res} {S : List Nat}
  (H : Sep w0 S w (bx g 34 (arrC a (.slice (some ⟨h, 0, none⟩) a.mems.length c1) (.slice A2 a.dirty.length c2)) :: rw_ oMem 89 F1 (.slice (some ⟨h, 0, none⟩) a.mems.length c1) a.mems :: rw_ oShl 91 F2 (.slice A2 a.dirty.length c2) es :: da F3 es a.dirty :: L)) :
  ArrR w (.agg (arrC a (.slice (some ⟨h, 0, none⟩) a.mems.length c1) (.slice A2 a.dirty.length c2))) a :=
 ⟨_, _, rfl, oMem_RK (H.get 1 rfl), shl_RK (H.get 2 rfl) (H.get 3 rfl)⟩
end DRes
end Go.Proofs.YtggmifnblcjdfaaGreat
