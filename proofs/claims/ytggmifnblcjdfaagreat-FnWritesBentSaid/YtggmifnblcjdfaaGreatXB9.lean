/- Own text: MDraw2 MSpoilS DTurn. -/
import Derived.Test.YtggmifnblcjdfaaGreatXB2
import Derived.Test.YtggmifnblcjdfaaGreatXB8
import Derived.Test.YtggmifnblcjdfaaGreatXB5
import Derived.Deep.DrawnRows
import Derived.Laws.BitsLemmas
import Derived.Test.YtggmifnblcjdfaaGreatXB4
import Derived.Test.YtggmifnblcjdfaaGreatXB7
import Derived.Test.YtggmifnblcjdfaaGreatXB3
import Derived.Deep.DeepCutAuto
import Derived.Tactics2
import Derived.Test.YtggmifnblcjdfaaGreatXDFlush
set_option linter.unusedVariables false
set_option linter.unusedSimpArgs false
namespace Go.Proofs.YtggmifnblcjdfaaGreat
namespace MDraw2
open Go.RowKit RJ Go.Proofs.YtggmifnblcjdfaaGreatW.PrintWords Fp FpStep MInt MKinds MRead MMake MPut Go.Proofs.YtggmifnblcjdfaaGreat.Sep SepStep MSuper MDraw
attribute [local go_sem ↓] Go.wp_at_zero Go.wp_at_succ
set_option maxHeartbeats 4000000 in
theorem c_l1Sec {w0 w : World} {L : List Res} {g : Nat} {B : Value} {bs : List Int} {i h : Int} (hs : Sep w0 [] w (cur g B i h :: L)) (hB : RK (Kd.int .u8) w0 B bs) (hi : 0 ≤ i ∧ i ≤ bs.length) :
  Calls Tryz.prog 96 #[.pointer (some ⟨g, 0, none⟩)] w fun e w' => ∃ (A : Option Addr) (c : Nat) (F : List Nat) (xs : List Int) (i' h' : Int), e = .returned (.slice A xs.length c) ∧ (xs.length ≤ 4 ∧ ∀ x ∈ xs, 0 ≤ x ∧ x ≤ 65535) ∧ (0 ≤ i' ∧ i' ≤ bs.length) ∧ Sep w0 [] w' (rw_ oInt 3 F (.slice A xs.length c) xs :: cur g B i' h' :: L) := by
 have HS := Aside0.mk hs
 clear hs
 go_enter Tryz.func96, Tryz.ntmps96
 go_wp2_with (first
  | (go_at_call 94; have hl := (HS.out.lit (g := w.heap.size) rfl oInt 3).perm (List.Perm.swap _ _ _); refine (c_l1Below hl hB hi (by omega)).mono ?_; rintro e w1 ⟨x, i1, h1, rfl, hx0, hx1, hi1, hs1⟩; have hx2 := hx1 (by omega); have HS1 := Aside0.mk (hs1.perm (List.Perm.swap _ _ _)); clear hs1 hl hx1)
  | fail)
 go_loopw [3, 4] (fun v3 v4 wr => ∃ (A : Option Addr) (c : Nat) (F : List Nat) (xs : List Int) (k i' h' : Int), v3 = .slice A xs.length c ∧ v4 = .int .i64 k ∧ (0 ≤ k ∧ xs.length + k ≤ 4) ∧ Aside0 ((∀ x ∈ xs, 0 ≤ x ∧ x ≤ 65535) ∧ (0 ≤ i' ∧ i' ≤ bs.length) ∧ Sep w0 [] wr (rw_ oInt 3 F (.slice A xs.length c) xs :: cur g B i' h' :: L))) (fun _ v4 _ => (intOf v4).toNat)
 case atStart => exact ⟨_, _, _, [], x, i1, h1, rfl, rfl, ⟨hx0, by simp; omega⟩, ⟨by simp, hi1, HS1.out⟩⟩
 case round =>
  obtain ⟨A, c, F, xs, k, i', h', rfl, rfl, hk, hr⟩ := hrel
  by_cases h0 : 0 < k
  ·go_wp2_with (first
    | (go_at_call 99; refine (c_l1Draw (hr.out.2.2.perm (List.Perm.swap _ _ _)) hB hr.out.2.1).mono ?_; rintro e w2 ⟨y, i2, h2, rfl, hy, hi2, hs2⟩; have HS2 := Aside0.mk (hs2.perm (List.Perm.swap _ _ _)); clear hs2)
    | (at_builtin; (refine app_one0 (d := oInt) (y := y) HS2.out rfl _ _ 28 (.int .i64 0) 8 (by rfl) Tryz.underlying28 (by kernel_rfl) rfl (by decide) (by decide) [.int .i64 y] (by first | exact ⟨rfl, rfl⟩ | rfl | simp [oInt, Od.int]) (by rfl) (by rfl) rfl (n := xs.length) rfl (by omega) ?_); intro A3 c3 w3 F3 hs3; have HS3 := Aside0.mk hs3; clear hs3)
    | fail)
   go_roundw
   case rel => exact ⟨A3, c3, F3, xs ++ [y], k - 1, i2, h2, by simp, by go_num, ⟨by omega, by simp; omega⟩, ⟨by intro z hz; rcases List.mem_append.1 hz with q | q; exact hr.out.1 z q; simp at q; omega, hi2, by rw [List.length_append]; exact HS3.out⟩⟩
   case measure => simp [intOf]; omega
  ·go_wp2
   go_ret
   first | exact ⟨A, c, F, xs, rfl, ⟨by omega, hr.out.1⟩, i', hr.out.2.1, h', hr.out.2.2⟩ | exact ⟨A, c, F, xs, i', h', rfl, ⟨by omega, hr.out.1⟩, hr.out.2.1, hr.out.2.2⟩
set_option maxHeartbeats 4000000 in
theorem c_l1Any {w0 w : World} {L : List Res} {g : Nat} {B : Value} {bs : List Int} {i h : Int} (hs : Sep w0 [] w (cur g B i h :: L)) (hB : RK (Kd.int .u8) w0 B bs) (hi : 0 ≤ i ∧ i ≤ bs.length) :
  Calls Tryz.prog 54 #[.pointer (some ⟨g, 0, none⟩)] w fun e w' => ∃ (A : Option Addr) (c : Nat) (F : List Nat) (xs : List Int) (i' h' : Int), e = .returned (.slice A xs.length c) ∧ xs.length ≤ 13 ∧ (0 ≤ i' ∧ i' ≤ bs.length) ∧ Sep w0 [] w' (rw_ oInt 3 F (.slice A xs.length c) xs :: cur g B i' h' :: L) := by
 have HS := Aside0.mk hs
 clear hs
 go_enter Tryz.func54, Tryz.ntmps54
 go_upto_region 3 with (first
  | (go_at_call 94; refine (c_l1Below (HS1.out.perm (List.Perm.swap _ _ _)) hB hi1 (by omega)).mono ?_; rintro e w2 ⟨y, i2, h2, rfl, hy0, hy1, hi2, hs2⟩; have HS2 := Aside0.mk (hs2.perm (List.Perm.swap _ _ _)); clear hs2)
  | (go_at_call 96; refine (c_l1Sec HS.out hB hi).mono ?_; rintro e w1 ⟨A, c, F, xs, i1, h1, rfl, hx, hi1, hs1⟩; have HS1 := Aside0.mk hs1; clear hs1)
  | fail)
 have hl4 := hx.1
 by_cases y0 : y = 0
 ·subst y0
  go_wp2_with (first
   | (go_at_call 55; have hn := new_lit HS2.out (g := w2.heap.size) rfl 3 (#[.int .i64 (-1), .int .i64 65536]) (l := [-1, 65536]) (n := 2) rfl rfl (by decide); have hn2 := hn.front 2 rfl; refine (c_l1Int hn2 hB hi2 (fun w' hw => O_RK (hw.get 0 rfl)) (by decide)).mono ?_; rintro e w3 ⟨x, i3, h3, rfl, hx3, hi3, hs3⟩; have hs4 := hs3.drop 1 rfl; have HS3 := Aside0.mk (hs4.perm (List.Perm.swap _ _ _)); clear hs3 hs4 hn hn2)
   | (at_builtin; refine app_one0 (d := oInt) (y := x) HS3.out rfl _ _ 28 (.int .i64 0) 8 (by rfl) Tryz.underlying28 (by kernel_rfl) rfl (by decide) (by decide) [.int .i64 x] (by first | exact ⟨rfl, rfl⟩ | rfl | simp [oInt, Od.int]) (by rfl) (by rfl) rfl (n := xs.length) rfl (by omega) ?_; intro A4 c4 w4 F4 hs4; have HS4 := Aside0.mk hs4; clear hs4)
   | fail)
  go_ret
  have hlen : (xs ++ [x]).length = xs.length + 1 := by simp
  first | exact ⟨A4, c4, F4, xs ++ [x], by rw [hlen]; rfl, by omega, i3, hi3, h3, by rw [hlen]; exact HS4.out⟩ | exact ⟨A4, c4, F4, xs ++ [x], i3, h3, by rw [hlen]; rfl, by omega, hi3, by rw [hlen]; exact HS4.out⟩
 ·by_cases y1 : y = 1
  ·subst y1
   go_wp2_with (first
    | (go_at_call 94; refine (c_l1Below (HS2.out.perm (List.Perm.swap _ _ _)) hB hi2 (by omega)).mono ?_; rintro e w3 ⟨x, i3, h3, rfl, hx0, hx1, hi3, hs3⟩; have hx2 := hx1 (by omega); obtain ⟨k, rfl⟩ := Int.eq_ofNat_of_zero_le hx0; have HS3 := Aside0.mk (hs3.drop 1 rfl); clear hs3 hx1)
    | (refine make_sep oInt HS3.out rfl rfl 28 3 _ _ (by rfl) (12 + k) (by simp; rfl) (by simp; rfl) Tryz.underlying28 (.int .i64 0) 8 (by kernel_rfl) rfl (by decide) (by decide) 0 (fun _ => ⟨rfl, rfl⟩) (by omega) ?_; intro w4 g4 hs4 hg4; have HS4 := Aside0.mk hs4; clear hs4 hg4)
    | fail)
   go_ret
   have hlen : (List.replicate (12 + k) (0 : Int)).length = 12 + k := by simp
   first | exact ⟨some ⟨g4, 0, none⟩, 12 + k, [g4], List.replicate (12 + k) 0, i3, h3, by rw [hlen]; rfl, by rw [hlen]; omega, hi3, by rw [hlen]; exact HS4.out⟩ | exact ⟨some ⟨g4, 0, none⟩, 12 + k, [g4], List.replicate (12 + k) 0, by rw [hlen]; rfl, by rw [hlen]; omega, i3, hi3, h3, by rw [hlen]; exact HS4.out⟩
  ·go_wp2
   go_ret
   first | exact ⟨A, c, F, xs, rfl, by omega, i2, hi2, h2, HS2.out⟩ | exact ⟨A, c, F, xs, i2, h2, rfl, by omega, hi2, HS2.out⟩
end MDraw2
namespace MSpoilS
open Go.RowKit RJ Go.Proofs.YtggmifnblcjdfaaGreatW.PrintWords Fp FpStep MInt MKinds MRead MMake MPut MOk MVal Go.Proofs.YtggmifnblcjdfaaGreat.Sep SepStep MCopyS MReadS MSpoilV
attribute [local go_sem ↓] Go.wp_at_zero Go.wp_at_succ
def canSpoil (m : MemV) (n : Int) : Bool := memB m && (inR n 0 ((m.secs.length : Int) - 1) && !hasN m.bad n)
theorem spoilV_eq (m : MemV) (n : Int) : spoilV m n = if canSpoil m n then ⟨m.secs, m.cache, m.failed, insN n m.bad⟩ else m := rfl
set_option maxHeartbeats 4000000 in
set_option maxRecDepth 100000 in
theorem c_specSpoilSec {w : World} {v : Value} {m : MemV} {n : Int} (h : MemR w v m) (hs : Small m) :
  Calls Tryz.prog 167 #[v, .int .i64 n] w fun e w' => ∃ u F, e = .returned u ∧ New w w' (me F u (spoilV m n)) := by
 have H := Aside0.mk h
 obtain ⟨s, c, b, rfl, r1, r2, r3⟩ := h
 have H3 := Aside0.mk r3
 obtain ⟨A01, c01, rfl, _⟩ := r1
 clear r2 r3
 have hb1 := hs.1
 have hb3 := hs.2.2.2.2
 have HS := Aside0.mk hs
 clear hs
 generalize hmf : m.failed = mf at H
 go_enter Tryz.func167, Tryz.ntmps167
 go_upto_region 2 with (first
  | (go_at_call 68; refine (c_l2Copy (MemR_below H.out (below_alloc (below_alloc (Below.refl _ _) _) _)) HS.out).mono ?_; rintro e w1 ⟨u, F, rfl, hn⟩; obtain ⟨A1, c1, A2, c2, A3, c3, F1, F2, F3, rfl, h1⟩ := ((((Sep.start w []).alloc (g := w.heap.size) rfl _ _).alloc (g := w.heap.size + 1) (by simp) _ _).new hn).ofMem; have HS1 := Aside0.mk h1; clear hn h1)
  | fail)
 have hB := HS1.out.alloc (g := w1.heap.size) rfl #[.slice A1 m.secs.length c1, .slice A2 m.cache.length c2, .bool mf, .slice A3 m.bad.length c3] 89
 try rw [hmf]
 generalize hg : w1.heap.size = g at *
 generalize hw : w1.alloc (.cells #[.slice A1 m.secs.length c1, .slice A2 m.cache.length c2, .bool mf, .slice A3 m.bad.length c3] 89 (0, 0)) = w2 at *
 have HB := Aside0.mk hB
 clear hB hg hw
 obtain ⟨k1, k2, k3, k4⟩ := four (HB.out.get 5 rfl)
 have HD : w1 = w1 := rfl
 go_cut [26] (fun s26 wx => s26 = .bool (!canSpoil m n) ∧ Aside0 (Sep w [] wx [bx g 89 #[.slice A1 m.secs.length c1, .slice A2 m.cache.length c2, .bool mf, .slice A3 m.bad.length c3], rw_ oSec 28 F1 (.slice A1 m.secs.length c1) m.secs, rw_ oWr 126 F2 (.slice A2 m.cache.length c2) m.cache, rw_ oInt 3 F3 (.slice A3 m.bad.length c3) m.bad, bx (w.heap.size + 1) 89 #[.slice none 0 0, .slice none 0 0, .bool false, .slice none 0 0], bx w.heap.size 89 #[.slice A01 m.secs.length c01, c, .bool mf, b]]))
 case first =>
  obtain ⟨A3', c3', hbv, _⟩ := id H3.out
  subst hbv
  by_cases hA : memB m = true
  ·by_cases hI : inR n 0 ((m.secs.length : Int) - 1) = true
   ·have hcan : canSpoil m n = !hasN m.bad n := by simp [canSpoil, hA, hI]
    have Hcan := Aside0.mk hcan
    clear hcan
    go_wp2_with (first
     | (go_at_call 178; refine (c_l2Has (HE.out.rk H3.out)).mono ?_; rintro e w5 ⟨rfl, hb⟩; have HG := Aside0.mk (HE.out.dr hb); clear hb)
     | (go_at_call 70; refine (c_l1In _ _ _ _).mono ?_; rw [hI]; rintro e w4 ⟨rfl, hb⟩; have HE := Aside0.mk (HC.out.dr hb); clear hb k1 k2 k3 k4; obtain ⟨k1, k2, k3, k4⟩ := four (HE.out.get 5 rfl))
     | (go_at_call 145; refine (c_specMemOk (MemR_below H.out HB.out.toBelow)).mono ?_; rintro e w3 ⟨rfl, hb⟩; have HC := Aside0.mk (HB.out.below hb); clear hb k1 k2 k3 k4; obtain ⟨k1, k2, k3, k4⟩ := four (HC.out.get 5 rfl))
     | fail)
    go_meet
    exact ⟨by rw [Hcan.out]; simp [hasN], HG⟩
   ·simp only [Bool.not_eq_true] at hI
    have hcan : canSpoil m n = false := by simp [canSpoil, hA, hI]
    have Hcan := Aside0.mk hcan
    clear hcan
    go_wp2_with (first
     | (go_at_call 70; refine (c_l1In _ _ _ _).mono ?_; rw [hI]; rintro e w4 ⟨rfl, hb⟩; have HE := Aside0.mk (HC.out.dr hb); clear hb k1 k2 k3 k4; obtain ⟨k1, k2, k3, k4⟩ := four (HE.out.get 5 rfl))
     | (go_at_call 145; refine (c_specMemOk (MemR_below H.out HB.out.toBelow)).mono ?_; rintro e w3 ⟨rfl, hb⟩; have HC := Aside0.mk (HB.out.below hb); clear hb k1 k2 k3 k4; obtain ⟨k1, k2, k3, k4⟩ := four (HC.out.get 5 rfl))
     | fail)
    go_meet
    exact ⟨by rw [Hcan.out]; rfl, HE⟩
  ·simp only [Bool.not_eq_true] at hA
   have hcan : canSpoil m n = false := by simp [canSpoil, hA]
   have Hcan := Aside0.mk hcan
   clear hcan
   go_wp2_with (first
    | (go_at_call 145; refine (c_specMemOk (MemR_below H.out HB.out.toBelow)).mono ?_; rintro e w3 ⟨rfl, hb⟩; have HC := Aside0.mk (HB.out.below hb); clear hb k1 k2 k3 k4; obtain ⟨k1, k2, k3, k4⟩ := four (HC.out.get 5 rfl))
    | fail)
   go_meet
   exact ⟨by rw [Hcan.out]; rfl, HC⟩
 case rest =>
  obtain ⟨rfl, HC⟩ := hcut
  clear HB HS1 k1 k2 k3 k4
  by_cases hcan : canSpoil m n = true
  ·have hval : spoilV m n = ⟨m.secs, m.cache, m.failed, insN n m.bad⟩ := by rw [spoilV_eq, hcan]; rfl
   have Hval := Aside0.mk hval
   have hpp : memB m = true ∧ hasN m.bad n = false := by simpa [canSpoil] using (show memB m = true ∧ _ ∧ _ from by simpa [canSpoil] using hcan).imp_right (fun q => q.2)
   obtain ⟨hmB, hhN⟩ := hpp
   obtain ⟨hp1, hp2, hp3, hp4, hp5⟩ := memB_parts hmB
   have Hp3 := Aside0.mk hp3
   have HhN := Aside0.mk hhN
   rw [hcan]
   clear hp1 hp2 hp3 hp5 hmB hhN hcan hval
   obtain ⟨k1, k2, k3, k4⟩ := four (HC.out.get 0 rfl)
   go_upto_region 5 with (first
    | (at_builtin; (refine app_one0 (d := oInt) (y := n) (HC.out.front 3 rfl) rfl _ _ 28 (.int .i64 0) 8 (by rfl) Tryz.underlying28 (by kernel_rfl) rfl (by decide) (by decide) [.int .i64 n] (by first | exact ⟨rfl, rfl⟩ | rfl | simp [oInt, Od.int]) (by rfl) (by rfl) rfl (n := m.bad.length) rfl (by omega) ?_); intro A4 c4 w4 F4 hs4; obtain ⟨g4, cap4, hA4, hg4, _⟩ := O_form (show oInt.O 3 w4 F4 (.slice A4 (m.bad.length + 1) c4) (m.bad ++ [n]) from hs4.get 0 rfl) (by simp); obtain rfl := (Value.slice.inj hA4).1; clear hA4; have HS4 := Aside0.mk hs4; have gz := blk_frozen (HS4.out.get 1 rfl); clear hs4 hg4 k1 k2 k3 k4; obtain ⟨k1, k2, k3, k4⟩ := four (HS4.out.get 1 rfl))
    | fail)
   have hE := (HS4.out.setb 1 rfl 3 (.slice (some ⟨g4, 0, none⟩) (m.bad.length + 1) c4) rfl).sel [1, 0, 2, 3, 4, 5] (by decide) (by simp)
   simp only [qqN] at hE
   generalize w4.setCell ⟨g, 3, none⟩ (.slice (some ⟨g4, 0, none⟩) (m.bad.length + 1) c4) = w5 at *
   have HE := Aside0.mk hE
   clear hE HS4 HC gz k1 k2 k3 k4
   obtain ⟨k1, k2, k3, k4⟩ := four (HE.out.get 0 rfl)
   have el : ((m.bad.length + 1 : Nat) : Int) = (m.bad.length : Int) + 1 := by omega
   go_wp2
   go_loopw [6] (fun v6 wr => ∃ k : Nat, k ≤ m.bad.length ∧ v6 = .int .i64 k ∧ ∃ ys : List Int, Aside0 (ys.length = m.bad.length + 1 ∧ ys.take k = m.bad.take k ∧ ys.drop (k + 1) = m.bad.drop k ∧ (∀ x ∈ m.bad.drop k, ¬ x < n)) ∧ Aside0 (Sep w [] wr [bx g 89 #[.slice A1 m.secs.length c1, .slice A2 m.cache.length c2, .bool mf, .slice (some ⟨g4, 0, none⟩) (m.bad.length + 1) c4], rw_ oInt 3 F4 (.slice (some ⟨g4, 0, none⟩) (m.bad.length + 1) c4) ys, rw_ oSec 28 F1 (.slice A1 m.secs.length c1) m.secs, rw_ oWr 126 F2 (.slice A2 m.cache.length c2) m.cache, bx (w.heap.size + 1) 89 #[.slice none 0 0, .slice none 0 0, .bool false, .slice none 0 0], bx w.heap.size 89 #[.slice A01 m.secs.length c01, c, .bool mf, b]])) (fun v6 _ => (intOf v6).toNat)
   case atStart =>
    go_loud (refine ⟨m.bad.length, by omega, by first | rfl | go_num, m.bad ++ [n], ⟨by simp, by simp, by simp, by simp⟩, HE⟩)
   case round =>
    obtain ⟨k, hk, rfl, ys, hy, HR⟩ := hrel
    clear k1 k2 k3 k4
    obtain ⟨k1, k2, k3, k4⟩ := four (HR.out.get 0 rfl)
    have hyl := hy.out.1
    by_cases hgo : 0 < k ∧ n < m.bad.getD (k - 1) 0
    ·obtain ⟨h0, hn1⟩ := hgo
     obtain ⟨q, rfl⟩ : ∃ q, k = q + 1 := ⟨k - 1, by omega⟩
     have hq : q < m.bad.length := by omega
     have hyq : ys[q]'(by omega) = m.bad[q] := by
      have h1 : (ys.take (q + 1))[q]'(by simp; omega) = (m.bad.take (q + 1))[q]'(by simp; omega) := by simp only [hy.out.2.1]
      simpa using h1
     have cq := (O_int_cell (HR.out.get 1 rfl) (show q < ys.length by omega)).1
     have fq := O_int_cell (HR.out.get 1 rfl) (show q + 1 < ys.length by omega)
     rw [hyq] at cq
     have hn2 : n < m.bad[q] := by simpa [hq] using hn1
     generalize hx : m.bad[q] = x at *
     obtain ⟨c2q, fq⟩ := fq
     have hx2 := Aside0.mk hx
     clear hn1 hx hyq
     have q0 : (0 : Int) ≤ (q : Int) := by omega
     have q1 : (0 : Int) ≤ (q : Int) + 1 := by omega
     have ql : (q : Int) < (m.bad.length : Int) + 1 := by omega
     have qw : IntKind.i64.wrap (q : Int) = (q : Int) := by rw [IntKind.wrap_i64]; omega
     go_upto_region 7 with fail
     refine wp_region_seq (fun w' => w'.cell? ⟨g, 3, none⟩ = some (.slice (some ⟨g4, 0, none⟩) (m.bad.length + 1) c4) ∧ w'.cell? ⟨g4, q, none⟩ = some (.int .i64 x)) [10] [(0, true), (1, true), (2, true), (3, true), (4, true), (5, true), (6, true), (7, true), (8, true), (9, true), (10, false)] (by kernel_rfl) (by kernel_rfl) ?_
     have hS : (fun w' : World => w'.cell? ⟨g, 3, none⟩ = some (.slice (some ⟨g4, 0, none⟩) (m.bad.length + 1) c4) ∧ w'.cell? ⟨g4, q, none⟩ = some (.int .i64 x)) wr.drew := ⟨k4, cq⟩
     iterate 10 (refine seq_take hS rfl (fun _ _ _ h => h) (by rfl) (fun w_ hSw => by (try dsimp only at hSw); go_simp; first | done | with_reducible rfl) ?_; (try simp only [Act.put, qqP]))
     refine seq_step rfl (fun K hK => ?_)
     go_simp
     refine hK.out _ _ ⟨(fun h => (by cases h)), ?_⟩; clear hK K; (try simp only [Act.put, qqP])
     refine seq_done ?_
     go_wp2
     go_roundw
     case rel =>
      have hs6 := (HR.out.seti 1 rfl (show q + 1 < ys.length by omega) x).drew
      simp only [qqN] at hs6
      refine ⟨q, by omega, by go_num, ys.set (q + 1) x, ⟨by simp [hyl], ?_, ?_, ?_⟩, ⟨hs6⟩⟩
      ·have h1 := congrArg (List.take q) hy.out.2.1
       rw [List.take_set_of_le (by omega)]
       simpa [List.take_take, Nat.min_eq_left (Nat.le_succ q)] using h1
      ·rw [List.drop_eq_getElem_cons (show q + 1 < (ys.set (q + 1) x).length by simp; omega), List.drop_eq_getElem_cons hq, List.getElem_set_self, hx2.out, List.drop_set_of_lt (by omega), hy.out.2.2.1]
      ·intro z hz
       rw [List.drop_eq_getElem_cons hq, hx2.out] at hz
       rcases List.mem_cons.1 hz with rfl | hz
       ·omega
       ·exact hy.out.2.2.2 z hz
     case measure => first | (simp [intOf]; done) | (simp [intOf]; omega)
    ·have hend : k = 0 ∨ m.bad.getD (k - 1) 0 ≤ n := by omega
     have hins : insN n m.bad = ys.set k n := by
      have hlt := take_lt Hp3.out HhN.out hk hend
      rw [← List.take_append_drop k m.bad, insN_split n _ _ hlt hy.out.2.2.2, ← hy.out.2.1, ← hy.out.2.2.1]
      rw [List.set_eq_take_append_cons_drop, if_pos (by omega)]
     have Hins := Aside0.mk hins
     have ck := O_int_cell (HR.out.get 1 rfl) (show k < ys.length by omega)
     obtain ⟨ck, fk⟩ := ck
     obtain ⟨z1, z2, z3, z4⟩ := four (HR.out.get 4 rfl)
     have fz := blk_frozen (HR.out.get 4 rfl)
     have hgr : g4 ≠ w.heap.size + 1 := fun e => by
      have := HR.out.apart 1 4 rfl rfl (by decide) g4 (mem_own (show oInt.O 3 wr F4 _ ys from HR.out.get 1 rfl) g4 rfl)
      simp [bx] at this
      exact this e
     have hg4 : g4 ≠ g := fun e => by
      have := HR.out.apart 1 0 rfl rfl (by decide) g4 (mem_own (show oInt.O 3 wr F4 _ ys from HR.out.get 1 rfl) g4 rfl)
      simp [bx] at this
      exact this e
     have hgz : g ≠ w.heap.size + 1 := HR.out.neq 0 4 rfl rfl (by decide)
     have q0 : (0 : Int) ≤ (k : Int) := by omega
     have ql : (k : Int) < (m.bad.length : Int) + 1 := by omega
     have qw : IntKind.i64.wrap (k : Int) = (k : Int) := by rw [IntKind.wrap_i64]; omega
     clear hins
     rcases Nat.eq_zero_or_pos k with h0 | h0
     ·subst h0
      go_wp2
      have HE : Sep w [] _ _ := (((((HR.out.seti 1 rfl (show 0 < ys.length by omega) n).setb 4 rfl 0 (.slice A1 m.secs.length c1) rfl).setb 4 rfl 1 (.slice A2 m.cache.length c2) rfl).setb 4 rfl 2 (.bool mf) rfl).setb 4 rfl 3 (.slice (some ⟨g4, 0, none⟩) (m.bad.length + 1) c4) rfl)
      refine bodyPost_ret (results_cell_row rfl _ _ (w.heap.size + 1) 89 #[.slice A1 m.secs.length c1, .slice A2 m.cache.length c2, .bool mf, .slice (some ⟨g4, 0, none⟩) (m.bad.length + 1) c4] (0, 0) _ rfl (HE.get 4 rfl) Tryz.underlying89 rfl (by kernel_rfl)) rfl ?_
      rw [Hval.out]
      have h9 := (HE.sel [2, 3, 1] (by decide) (by simp)).toMem (m := ⟨m.secs, m.cache, mf, ys.set 0 n⟩)
      rw [Hins.out, hmf]
      first | exact ⟨_, _, rfl, h9.toNew 0 rfl⟩ | exact ⟨_, rfl, _, h9.toNew 0 rfl⟩
     ·obtain ⟨q, rfl⟩ : ∃ q, k = q + 1 := ⟨k - 1, by omega⟩
      have hq : q < m.bad.length := by omega
      have hyq : ys[q]'(by omega) = m.bad[q] := by
       have h1 : (ys.take (q + 1))[q]'(by simp; omega) = (m.bad.take (q + 1))[q]'(by simp; omega) := by simp only [hy.out.2.1]
       simpa using h1
      have cq := (O_int_cell (HR.out.get 1 rfl) (show q < ys.length by omega)).1
      rw [hyq] at cq
      have hn2 : ¬ n < m.bad[q] := by
       have h5 : ¬ n < m.bad.getD q 0 := fun h6 => hgo ⟨by omega, by simpa using h6⟩
       simpa [hq] using h5
      generalize hx : m.bad[q] = x at *
      have hq0 : (0 : Int) ≤ (q : Int) := by omega
      have hql : (q : Int) < (m.bad.length : Int) + 1 := by omega
      have hqw : IntKind.i64.wrap (q : Int) = (q : Int) := by rw [IntKind.wrap_i64]; omega
      clear hyq hx hgo hend
      go_wp2
      have HE : Sep w [] _ _ := (((((HR.out.seti 1 rfl (show q + 1 < ys.length by omega) n).setb 4 rfl 0 (.slice A1 m.secs.length c1) rfl).setb 4 rfl 1 (.slice A2 m.cache.length c2) rfl).setb 4 rfl 2 (.bool mf) rfl).setb 4 rfl 3 (.slice (some ⟨g4, 0, none⟩) (m.bad.length + 1) c4) rfl)
      refine bodyPost_ret (results_cell_row rfl _ _ (w.heap.size + 1) 89 #[.slice A1 m.secs.length c1, .slice A2 m.cache.length c2, .bool mf, .slice (some ⟨g4, 0, none⟩) (m.bad.length + 1) c4] (0, 0) _ rfl (HE.get 4 rfl) Tryz.underlying89 rfl (by kernel_rfl)) rfl ?_
      rw [Hval.out]
      have h9 := (HE.sel [2, 3, 1] (by decide) (by simp)).toMem (m := ⟨m.secs, m.cache, mf, ys.set (q + 1) n⟩)
      rw [Hins.out, hmf]
      first | exact ⟨_, _, rfl, h9.toNew 0 rfl⟩ | exact ⟨_, rfl, _, h9.toNew 0 rfl⟩
  ·simp only [Bool.not_eq_true] at hcan
   have hval : spoilV m n = m := by rw [spoilV_eq, hcan]; rfl
   have Hval := Aside0.mk hval
   rw [hcan]
   obtain ⟨k1, k2, k3, k4⟩ := four (HC.out.get 0 rfl)
   obtain ⟨z1, z2, z3, z4⟩ := four (HC.out.get 4 rfl)
   have fz := blk_frozen (HC.out.get 4 rfl)
   clear hcan hval
   go_wp2
   have HE : Sep w [] _ _ := ((((HC.out.setb 4 rfl 0 (.slice A1 m.secs.length c1) rfl).setb 4 rfl 1 (.slice A2 m.cache.length c2) rfl).setb 4 rfl 2 (.bool mf) rfl).setb 4 rfl 3 (.slice A3 m.bad.length c3) rfl)
   refine bodyPost_ret (results_cell_row rfl _ _ (w.heap.size + 1) 89 #[.slice A1 m.secs.length c1, .slice A2 m.cache.length c2, .bool mf, .slice A3 m.bad.length c3] (0, 0) _ rfl (HE.get 4 rfl) Tryz.underlying89 rfl (by kernel_rfl)) rfl ?_
   rw [Hval.out]
   subst hmf
   have h9 := (HE.sel [1, 2, 3] (by decide) (by simp)).toMem (m := m)
   first | exact ⟨_, _, rfl, h9.toNew 0 rfl⟩ | exact ⟨_, rfl, _, h9.toNew 0 rfl⟩
end MSpoilS
namespace DTurn
open Go.RowKit RJ RP RPC Go.Proofs.YtggmifnblcjdfaaGreatW.PrintWords Fp FpStep MInt MKinds MRead MMake MPut MHeld MOk MVal MSuper MDraw MSpoilS Go.Proofs.YtggmifnblcjdfaaGreat.Sep SepStep AKinds AOk AOkD AXor AHole AMarkV AMarkF AStrV DRes DInv DEnd DGeo DSet DFlush DFail
section
variable {w0 w : World} {g gc : Nat} {a : ArrV} {B : Value} {bs : List Int} {i h : Int} {L : List Res}
set_option maxHeartbeats 1000000 in
theorem c_l1Once {n : Int} (hs : Sep w0 [] w (cur gc B i h :: L)) (hB : RK (Kd.int .u8) w0 B bs) (hi : 0 ≤ i ∧ i ≤ bs.length) (hn : n ≤ 256) :
  Calls Tryz.prog 53 #[.pointer (some ⟨gc, 0, none⟩), .int .i64 n] w fun e w' => ∃ (x : Bool) (i' h' : Int), e = .returned (.bool x) ∧ (0 ≤ i' ∧ i' ≤ bs.length) ∧ Sep w0 [] w' (cur gc B i' h' :: L) := by
 have HS := Aside0.mk hs
 clear hs
 go_enter Tryz.func53, Tryz.ntmps53
 go_wp2_with (first
  | (go_at_call 94; refine (c_l1Below HS.out hB hi hn).mono ?_; rintro e w1 ⟨x, i', h', rfl, hx0, hx1, hi2, hs1⟩; have HS1 := Aside0.mk hs1; clear hs1 hx0 hx1)
  | fail)
 go_ret
 first | exact ⟨_, i', h', rfl, hi2, HS1.out⟩ | exact ⟨_, rfl, i', hi2, h', HS1.out⟩
theorem Bx.cur {w' : World} {Q : World → Prop} (hb : Bx w0 w g a (cur gc B i h :: L)) (h1 : ∀ X, Sep w0 [] w (MDraw.cur gc B i h :: X) → (∀ (w' : World) (i' h' : Int), Sep w0 [] w' (MDraw.cur gc B i' h' :: X) → Bx w0 w' g a (MDraw.cur gc B i' h' :: L)) → Q w) : Q w := by
 obtain ⟨hh, c1, A2, c2, F1, F2, F3, es, hel, hs⟩ := hb
 have hq := hs.selT 5 [4, 0, 1, 2, 3] (by decide) (by simp <;> omega)
 simp only [qqN, qqT] at hq
 refine h1 _ hq (fun w' i' h' hs' => ⟨hh, c1, A2, c2, F1, F2, F3, es, hel, ?_⟩)
 have hq2 := hs'.selT 5 [1, 2, 3, 4, 0] (by decide) (by simp <;> omega)
 simp only [qqN, qqT] at hq2
 exact hq2
theorem c_belowB {n : Int} (hb : Bx w0 w g a (cur gc B i h :: L)) (hB : RK (Kd.int .u8) w0 B bs) (hi : 0 ≤ i ∧ i ≤ bs.length) (hn : n ≤ 256) :
  Calls Tryz.prog 94 #[.pointer (some ⟨gc, 0, none⟩), .int .i64 n] w fun e w' => ∃ (x i' h' : Int), e = .returned (.int .i64 x) ∧ 0 ≤ x ∧ (0 < n → x < n) ∧ (0 ≤ i' ∧ i' ≤ bs.length) ∧ Bx w0 w' g a (cur gc B i' h' :: L) :=
 Bx.cur (w' := w) (Q := fun w => Calls Tryz.prog 94 #[.pointer (some ⟨gc, 0, none⟩), .int .i64 n] w fun e w' => ∃ (x i' h' : Int), e = .returned (.int .i64 x) ∧ 0 ≤ x ∧ (0 < n → x < n) ∧ (0 ≤ i' ∧ i' ≤ bs.length) ∧ Bx w0 w' g a (cur gc B i' h' :: L)) hb
  (fun X hs hk => (c_l1Below hs hB hi hn).mono (by rintro e w' ⟨x, i', h', he, h0, h1, hi2, hs2⟩; exact ⟨x, i', h', he, h0, h1, hi2, hk _ _ _ hs2⟩))
theorem c_onceB {n : Int} (hb : Bx w0 w g a (cur gc B i h :: L)) (hB : RK (Kd.int .u8) w0 B bs) (hi : 0 ≤ i ∧ i ≤ bs.length) (hn : n ≤ 256) :
  Calls Tryz.prog 53 #[.pointer (some ⟨gc, 0, none⟩), .int .i64 n] w fun e w' => ∃ (x : Bool) (i' h' : Int), e = .returned (.bool x) ∧ (0 ≤ i' ∧ i' ≤ bs.length) ∧ Bx w0 w' g a (cur gc B i' h' :: L) :=
 Bx.cur (w' := w) (Q := fun w => Calls Tryz.prog 53 #[.pointer (some ⟨gc, 0, none⟩), .int .i64 n] w fun e w' => ∃ (x : Bool) (i' h' : Int), e = .returned (.bool x) ∧ (0 ≤ i' ∧ i' ≤ bs.length) ∧ Bx w0 w' g a (cur gc B i' h' :: L)) hb
  (fun X hs hk => (c_l1Once hs hB hi hn).mono (by rintro e w' ⟨x, i', h', he, hi2, hs2⟩; exact ⟨x, i', h', he, hi2, hk _ _ _ hs2⟩))
theorem c_drawB (hb : Bx w0 w g a (cur gc B i h :: L)) (hB : RK (Kd.int .u8) w0 B bs) (hi : 0 ≤ i ∧ i ≤ bs.length) :
  Calls Tryz.prog 99 #[.pointer (some ⟨gc, 0, none⟩)] w fun e w' => ∃ (x i' h' : Int), e = .returned (.int .i64 x) ∧ (0 ≤ i' ∧ i' ≤ bs.length) ∧ Bx w0 w' g a (cur gc B i' h' :: L) :=
 Bx.cur (w' := w) (Q := fun w => Calls Tryz.prog 99 #[.pointer (some ⟨gc, 0, none⟩)] w fun e w' => ∃ (x i' h' : Int), e = .returned (.int .i64 x) ∧ (0 ≤ i' ∧ i' ≤ bs.length) ∧ Bx w0 w' g a (cur gc B i' h' :: L)) hb
  (fun X hs hk => (c_l1Draw hs hB hi).mono (by rintro e w' ⟨x, i', h', he, _, hi2, hs2⟩; exact ⟨x, i', h', he, hi2, hk _ _ _ hs2⟩))
theorem Bx.below {w' : World} (h : Bx w0 w g a L) (hb : Below w.heap.size w w') : Bx w0 w' g a L := by
 obtain ⟨hh, c1, A2, c2, F1, F2, F3, es, hel, hs⟩ := h
 exact ⟨hh, c1, A2, c2, F1, F2, F3, es, hel, hs.below hb⟩
end
theorem set_same {α : Type} {l : List α} {i : Nat} {x : α} (h : l[i]? = some x) : l.set i x = l := by
 obtain ⟨hi, rfl⟩ := List.getElem?_eq_some_iff.1 h
 exact List.set_getElem_self hi
theorem hole_cells {w : World} {g hh cap m : Nat} {t e : TypeId} {R : List Nat} {xs : List MemV} {a0 a1 a2 a3 a4 a5 a6 a7 a8 a9 a10 a11 a12 u0 u1 u2 u3 : Value} (h : w.heap[g]? = some (.cells #[a0, a1, a2, a3, a4, a5, a6, a7, a8, a9, a10, a11, a12] t (0, 0))) (h2 : AHole.Hole oMem e hh cap m xs [u0, u1, u2, u3] R w) :
  (w.cell? ⟨g, 2, none⟩ = some a2 ∧ w.cell? ⟨g, 3, none⟩ = some a3) ∧ (w.cell? ⟨hh, m * 4, none⟩ = some u0 ∧ w.cell? ⟨hh, m * 4 + 1, none⟩ = some u1 ∧ w.cell? ⟨hh, m * 4 + 2, none⟩ = some u2 ∧ w.cell? ⟨hh, m * 4 + 3, none⟩ = some u3) :=
 ⟨⟨(thirteen h).2.2.1, (thirteen h).2.2.2.1⟩, h2.cell (t := 0) rfl, h2.cell (t := 1) rfl, h2.cell (t := 2) rfl, h2.cell (t := 3) rfl⟩
def TuR (w0 : World) (g gc : Nat) (B : Value) (n : Nat) (L : List Res) (b d : Int) (e : Ending) (w' : World) : Prop := e = .returned (.tuple #[]) ∧ ∃ (a' : ArrV) (i' h' : Int), Fit b d a' ∧ (0 ≤ i' ∧ i' ≤ n) ∧ Bx w0 w' g a' (cur gc B i' h' :: L)
theorem tu_end {w0 w' : World} {g gc n : Nat} {B : Value} {L : List Res} {b d b' d' i' h' : Int} {a' : ArrV} {e : Ending} (he : e = .returned (.tuple #[])) (h1 : Fit b' d' a') (hb : b' ≤ b) (hd : d' ≤ d) (h2 : 0 ≤ i' ∧ i' ≤ n) (h3 : Bx w0 w' g a' (cur gc B i' h' :: L)) : TuR w0 g gc B n L b d e w' := ⟨he, a', i', h', h1.le hb hd, h2, h3⟩
set_option maxHeartbeats 16000000 in
set_option maxRecDepth 100000 in
theorem c_l6Turn {w0 w : World} {g gc : Nat} {a : ArrV} {B : Value} {bs : List Int} {i h : Int} {L : List Res} {b d : Int} (hb : Bx w0 w g a (cur gc B i h :: L)) (hB : RK (Kd.int .u8) w0 B bs) (hi : 0 ≤ i ∧ i ≤ bs.length) (hG : Fit b d a) (hd : d ≤ 40) (hbb : b ≤ 20000) :
  Calls Tryz.prog 140 #[.pointer (some ⟨gc, 0, none⟩), .pointer (some ⟨g, 0, none⟩)] w (TuR w0 g gc B bs.length L (b + 100) (d + 1)) := by
 have HB := Aside0.mk hb
 have HG := Aside0.mk hG
 have HN := Aside0.mk (And.intro hG.n (blocks_le hG.geo))
 have HDL := Aside0.mk (show (a.dirty.length : Int) ≤ 40 by have := hG.dl; omega)
 clear hb hG
 go_enter Tryz.func140, Tryz.ntmps140
 go_upto_region 4 with (first
  | (go_at_call 94; refine (c_belowB HB.out hB hi (by omega)).mono ?_; rintro e w1 ⟨x, i1, h1, rfl, hx0, hx1, hi1, hq⟩; have HB1 := Aside0.mk hq; clear hq; have hx2 := hx1 (by omega); clear hx1)
  | fail)
 clear HB
 obtain ⟨hh, c1, A2, c2, F1, F2, F3, es, hel, hs⟩ := HB1.out
 simp only [arrC] at hs
 have HS := Aside0.mk hs
 have HEL := Aside0.mk hel
 clear hs hel
 have kk := thirteen (HS.out.get 0 rfl)
 by_cases hc : x ≤ 3
 ·have hc2 : x = 0 ∨ x = 1 ∨ x = 2 ∨ x = 3 := by omega
  clear hc hx0 hx2
  rcases hc2 with rfl | rfl | rfl | rfl
  all_goals
   go_wp2_with (first
    | (go_at_call 160; refine (c_l8Set HB4.out HG.out (by omega) ⟨hx3, hz3⟩).mono ?_; rintro e w5 ⟨c, a', rfl, hg', hb'⟩; have HE := Aside0.mk (And.intro hg' hb'); clear hg' hb')
    | (go_at_call 99; refine (c_drawB HB3.out hB hi3).mono ?_; rintro e w4 ⟨y, i4, h4, rfl, hi4, hq⟩; have HB4 := Aside0.mk hq; clear hq)
    | (go_at_call 94; refine (c_belowB HB2.out hB hi1 (by have := HN.out; omega)).mono ?_; rintro e w3 ⟨x3, i3, h3, rfl, hx3, hy3, hi3, hq⟩; have HB3 := Aside0.mk hq; clear hq; have hz3 := hy3 (by have := HN.out; omega); clear hy3)
    | (go_at_call 161; refine (c_specBlocks _ _ _ HG.out.geo).mono ?_; rintro e w2 ⟨rfl, hb⟩; have HB2 := Aside0.mk (Bx.below HB1.out hb); clear hb kk)
    | fail)
   go_end0
   exact tu_end rfl HE.out.1 (by omega) (by omega) hi4 HE.out.2
 by_cases hc4 : x ≤ 6
 ·have hc2 : x = 4 ∨ x = 5 ∨ x = 6 := by omega
  clear hc hc4 hx0 hx2
  rcases hc2 with rfl | rfl | rfl
  all_goals
   go_wp2_with (first
    | (go_at_call 162; refine (c_l8Flush HB3.out HG.out (by omega) (by omega)).mono ?_; rintro e w5 ⟨c, a', rfl, ⟨hg', _⟩, hb'⟩; have HE := Aside0.mk (And.intro hg' hb'); clear hg' hb')
    | (go_at_call 94; refine (c_belowB HB1.out hB hi1 (by have := HN.out; omega)).mono ?_; rintro e w3 ⟨x3, i3, h3, rfl, hx3, hy3, hi3, hq⟩; have HB3 := Aside0.mk hq; clear hq kk)
    | fail)
   go_end0
   exact tu_end rfl HE.out.1 (by omega) (by omega) hi3 HE.out.2
 by_cases hc7 : x = 7
 ·subst hc7
  clear hc hc4 hx0 hx2
  go_wp2_with (first
   | (go_at_call 163; refine (c_l8All HB1.out HG.out (by omega) (by omega)).mono ?_; rintro e w5 ⟨c, a', rfl, hg', hb'⟩; have HE := Aside0.mk (And.intro hg' hb'); clear hg' hb')
   | fail)
  go_end0
  exact tu_end rfl HE.out.1 (by have := HDL.out; omega) (by omega) hi1 HE.out.2
 by_cases hc8 : x = 8
 ·subst hc8
  clear hc hc4 hc7 hx0 hx2
  by_cases hl : a.lost = -1
  ·have hlb : (a.lost == -1) = true := by simp [hl]
   go_upto_region 17 with (first
    | (go_at_call 53; refine (c_onceB HB1.out hB hi1 (by omega)).mono ?_; rintro e w2 ⟨y, i2, h2, rfl, hi2, hq⟩; cases y <;> (have HB2 := Aside0.mk hq; clear hq kk HS HEL; obtain ⟨hh, c1, A2, c2, F1, F2, F3, es, hel, hs⟩ := HB2.out; simp only [arrC] at hs; have HS := Aside0.mk hs; clear hs hel; have kk := thirteen (HS.out.get 0 rfl)))
    | fail)
   ·go_end0
    exact tu_end rfl HG.out (by omega) (by omega) hi2 HB2.out
   ·go_wp2_with (first
     | (go_at_call 164; refine (c_l11Fail HB3.out HG.out (by omega) (by omega) hm hl).mono ?_; rintro e w5 ⟨rfl, a', hg', hb'⟩; have HE := Aside0.mk (And.intro hg' hb'); clear hg' hb')
     | (go_at_call 94; refine (c_belowB HB2.out hB hi2 (by have := HN.out; omega)).mono ?_; rintro e w3 ⟨x3, i3, h3, rfl, hx3, hy3, hi3, hq⟩; have HB3 := Aside0.mk hq; clear hq kk; obtain ⟨m, rfl⟩ := Int.eq_ofNat_of_zero_le hx3; have hm : m < a.mems.length := (by have h1 := hy3 (by have := HN.out; omega); have h2 := HG.out.len; omega))
     | fail)
    go_end0
    exact tu_end rfl HE.out.1 (by omega) (by omega) hi3 HE.out.2
  ·have hlb : (a.lost == -1) = false := by simp [hl]
   go_wp2_with (first
    | (go_at_call 53; refine (c_onceB HB1.out hB hi1 (by omega)).mono ?_; rintro e w2 ⟨y, i2, h2, rfl, hi2, hq⟩; cases y <;> (have HB2 := Aside0.mk hq; clear hq kk HS HEL; obtain ⟨hh, c1, A2, c2, F1, F2, F3, es, hel, hs⟩ := HB2.out; simp only [arrC] at hs; have HS := Aside0.mk hs; clear hs hel; have kk := thirteen (HS.out.get 0 rfl)))
    | fail)
   all_goals
    go_end0
    exact tu_end rfl HG.out (by omega) (by omega) hi2 HB2.out
 by_cases hc9 : x = 9
 ·subst hc9
  clear hc hc4 hc7 hc8 hx0 hx2
  by_cases hl : 0 ≤ a.lost
  ·obtain ⟨m, hlost⟩ : ∃ m : Nat, a.lost = (m : Int) := ⟨a.lost.toNat, by omega⟩
   have hm : m < a.mems.length := by have h1 := HG.out.lost; have h2 := HG.out.len; omega
   obtain ⟨y, hy⟩ : ∃ y, a.mems[m]? = some y := ⟨_, List.getElem?_eq_getElem hm⟩
   obtain ⟨B1, d1, B2, d2, B3, d3, hcell, hfr, hM⟩ := mem_store (HS.out.get 1 rfl) hy
   have hlb : decide (0 ≤ a.lost) = true := decide_eq_true hl
   have hlc : decide ((0 : Int) ≤ (m : Int)) = true := decide_eq_true (by omega)
   have m0 : (0 : Int) ≤ (m : Int) := by omega
   have m1 : (m : Int) < (a.mems.length : Int) := by omega
   clear hfr hM hy
   generalize y.failed = yf at *
   go_upto_region 19 with fail
   cases yf
   ·go_quiet (fail)
    go_wp2
    go_end0
    exact tu_end rfl HG.out (by omega) (by omega) hi1 (Bx.below HB1.out (below_drawn ⟨_, rfl⟩))
   ·go_quiet (fail)
    go_wp2_with (first
     | (go_at_call 165; refine (c_l12Spare (Bx.below HB1.out (below_drawn ⟨_, rfl⟩)) HG.out (by omega) (by omega) hm hlost).mono ?_; rintro e w5 ⟨c, a', rfl, hg', hb'⟩; have HE := Aside0.mk (And.intro hg' hb'); clear hg' hb')
     | fail)
    go_end0
    exact tu_end rfl HE.out.1 (by omega) (by omega) hi1 HE.out.2
  ·have hlb : decide (0 ≤ a.lost) = false := decide_eq_false hl
   go_upto_region 19 with fail
   go_quiet (fail)
   go_wp2
   go_end0
   exact tu_end rfl HG.out (by omega) (by omega) hi1 (Bx.below HB1.out (below_drawn ⟨_, rfl⟩))
 by_cases hc11 : x ≤ 11
 ·have hc2 : x = 10 ∨ x = 11 := by omega
  clear hc hc4 hc7 hc8 hc9 hc11 hx0 hx2
  by_cases hl : 0 ≤ a.lost
  ·obtain ⟨m, hlost⟩ : ∃ m : Nat, a.lost = (m : Int) := ⟨a.lost.toNat, by omega⟩
   have hm : m < a.mems.length := by have h1 := HG.out.lost; have h2 := HG.out.len; omega
   obtain ⟨y, hy⟩ : ∃ y, a.mems[m]? = some y := ⟨_, List.getElem?_eq_getElem hm⟩
   obtain ⟨B1, d1, B2, d2, B3, d3, hcell, hfr, hM⟩ := mem_store (HS.out.get 1 rfl) hy
   have hlb : decide (0 ≤ a.lost) = true := decide_eq_true hl
   have hlc : decide ((0 : Int) ≤ (m : Int)) = true := decide_eq_true (by omega)
   have m0 : (0 : Int) ≤ (m : Int) := by omega
   have m1 : (m : Int) < (a.mems.length : Int) := by omega
   clear hfr hM hy
   generalize y.failed = yf at *
   by_cases hbl : a.built < a.gs
   ·have hbd : decide (a.built < a.gs) = true := decide_eq_true hbl
    rcases hc2 with rfl | rfl
    all_goals
     go_upto_region 23 with fail
     cases yf
     ·go_quiet (fail)
      go_wp2_with (first
       | (go_at_call 166; refine (c_l12Step (Bx.below HB1.out (below_drawn ⟨_, rfl⟩)) HG.out (by omega) hm hlost hbl).mono ?_; rintro e w5 ⟨c, a', rfl, hg', hb'⟩; have HE := Aside0.mk (And.intro hg' hb'); clear hg' hb')
       | fail)
      go_end0
      exact tu_end rfl HE.out.1 (by omega) (by omega) hi1 HE.out.2
     ·go_quiet (fail)
      go_wp2
      go_end0
      exact tu_end rfl HG.out (by omega) (by omega) hi1 (Bx.below HB1.out (below_drawn ⟨_, rfl⟩))
   ·have hbd : decide (a.built < a.gs) = false := decide_eq_false hbl
    rcases hc2 with rfl | rfl
    all_goals
     go_upto_region 23 with fail
     cases yf
     all_goals
      go_quiet (fail)
      go_wp2
      go_end0
      exact tu_end rfl HG.out (by omega) (by omega) hi1 (Bx.below HB1.out (below_drawn ⟨_, rfl⟩))
  ·have hlb : decide (0 ≤ a.lost) = false := decide_eq_false hl
   rcases hc2 with rfl | rfl
   all_goals
    go_upto_region 23 with fail
    go_quiet (fail)
    go_wp2
    go_end0
    exact tu_end rfl HG.out (by omega) (by omega) hi1 (Bx.below HB1.out (below_drawn ⟨_, rfl⟩))
 by_cases hc12 : x = 12
 ·subst hc12
  clear hc hc4 hc7 hc8 hc9 hc11 hx0 hx2
  go_wp2_with (first
   | (go_at_call 65; refine (c_specCheckF HS.out rfl HG.out.small1 HG.out.down (by have := HG.out.fuse; omega) HG.out.small2 (by have := HG.out.gen; omega)).mono ?_; rintro e w5 ⟨F6, rfl, hs5⟩; have HS5 := Aside0.mk hs5; clear hs5)
   | fail)
  go_end0
  exact tu_end rfl (good_check HG.out) (by omega) (by omega) hi1 (Bx.ofF HEL.out (checkV_dirty a) (checkV_len a) HS5.out)
 have hc13 : x = 13 := by omega
 subst hc13
 clear hc hc4 hc7 hc8 hc9 hc11 hc12 hx0 hx2
 by_cases hl : a.lost = -1
 case neg =>
  have hlb : (a.lost == -1) = false := by simp [hl]
  go_wp2
  go_end0
  exact tu_end rfl HG.out (by omega) (by omega) hi1 HB1.out
 have hlb : (a.lost == -1) = true := by simp [hl]
 go_upto_region 2 with (first
  | (go_at_call 53; refine (c_onceB HB1.out hB hi1 (by omega)).mono ?_; rintro e w2 ⟨y, i2, h2, rfl, hi2, hq⟩; cases y <;> (have HB2 := Aside0.mk hq; clear hq kk HS HEL; obtain ⟨hh, c1, A2, c2, F1, F2, F3, es, hel, hs⟩ := HB2.out; simp only [arrC] at hs; have HS := Aside0.mk hs; clear hs hel; have kk := thirteen (HS.out.get 0 rfl)))
  | fail)
 ·go_end0
  exact tu_end rfl HG.out (by omega) (by omega) hi2 HB2.out
 go_upto_region 3 with (first
  | (go_at_call 94; refine (c_belowB HB2.out hB hi2 (by have := HN.out; omega)).mono ?_; rintro e w3 ⟨x3, i3, h3, rfl, hx3, hy3, hi3, hq⟩; have HB3 := Aside0.mk hq; clear hq kk; obtain ⟨m, rfl⟩ := Int.eq_ofNat_of_zero_le hx3; have hm : m < a.mems.length := (by have h1 := hy3 (by have := HN.out; omega); have h2 := HG.out.len; omega))
  | fail)
 clear HS HB2 HB1 hl hlb
 obtain ⟨hh, c1, A2, c2, F1, F2, F3, es, hel, hs⟩ := HB3.out
 simp only [arrC] at hs
 have HEL := Aside0.mk hel
 obtain ⟨y, hy⟩ : ∃ y, a.mems[m]? = some y := ⟨_, List.getElem?_eq_getElem hm⟩
 have HY := Aside0.mk hy
 have HDY := Aside0.mk (HG.out.dk y (List.mem_of_getElem? hy))
 have hq := hs.selT 5 [1, 4, 0, 2, 3] (by decide) (by simp <;> omega)
 simp only [qqN, qqT] at hq
 obtain ⟨_, B1, d1, B2, d2, B3, d3, G1, G2, G3, R, hq2⟩ := Sep.take_mem hq hy
 have hq3 := hq2.selT 8 [4, 0, 1, 2, 3, 5, 6, 7] (by decide) (by simp <;> omega)
 simp only [qqN, qqT] at hq3
 have HT := Aside0.mk hq3.drew
 have m0 : (0 : Int) ≤ (m : Int) := by omega
 have m1 : (m : Int) < (a.mems.length : Int) := by omega
 clear hel hs hy hq hq2 hq3 HB3
 refine wp_region_seqc (fun w' => (w'.cell? ⟨g, 2, none⟩ = some (.int .i64 a.gs) ∧ w'.cell? ⟨g, 3, none⟩ = some (.slice (some ⟨hh, 0, none⟩) a.mems.length c1)) ∧ (w'.cell? ⟨hh, m * 4, none⟩ = some (.slice B1 y.secs.length d1) ∧ w'.cell? ⟨hh, m * 4 + 1, none⟩ = some (.slice B2 y.cache.length d2) ∧ w'.cell? ⟨hh, m * 4 + 2, none⟩ = some (.bool y.failed) ∧ w'.cell? ⟨hh, m * 4 + 3, none⟩ = some (.slice B3 y.bad.length d3))) [22] [(0, 2), (1, 2), (2, 2), (4, 2), (5, 2), (6, 2), (7, 2), (9, 2), (12, 2), (13, 2), (14, 2), (15, 2), (16, 2), (3, 1), (8, 1), (10, 2), (11, 1), (17, 1), (18, 0), (19, 0), (20, 0), (21, 2), (22, 0)] (by kernel_rfl) (by kernel_rfl) ?_
 have hS := hole_cells (HT.out.get 5 rfl) (HT.out.get 4 rfl)
 repeat ((first | (refine seqp_pure rfl (fun _ _ _ h => h) (by rfl) (fun w_ => by go_simp; first | done | with_reducible rfl) ?_) | (refine seqp_take hS rfl (fun _ _ _ h => h) (by rfl) (fun w_ hSw => by (try dsimp only at hSw); go_simp; first | done | with_reducible rfl) ?_) | (refine seqp_skip2 rfl (fun _ _ _ h => h) (by rfl) ?_) | (refine seqp_skip1 hS rfl (fun _ _ _ h => h) (by rfl) ?_) | (refine seqp_skip0 rfl (by rfl) ?_)); (try simp only [Act.put, qqP]))
 refine seqp_step rfl (fun K hK => ?_)
 go_simp
 go_at_call 94; refine (c_l1Below HT.out hB hi3 (by have := HN.out; omega)).mono ?_; rintro e w4 ⟨x4, i4, h4, rfl, hx4, hy4, hi4, hq⟩
 have HT4 := Aside0.mk hq
 clear hq hy4
 replace hS := hole_cells (HT4.out.get 5 rfl) (HT4.out.get 4 rfl)
 refine hK.out _ _ ⟨fun _ _ => hS, ?_⟩; clear hK K; (try simp only [Act.put, qqP])
 refine seqp_step rfl (fun K hK => ?_)
 go_simp
 go_at_call 97; refine (c_specDataAt _ _).mono ?_; rintro e w5 ⟨rfl, hdr⟩
 have HT5 := Aside0.mk (HT4.out.dr hdr)
 clear hdr
 replace hS := hole_cells (HT5.out.get 5 rfl) (HT5.out.get 4 rfl)
 refine hK.out _ _ ⟨fun _ _ => hS, ?_⟩; clear hK K; (try simp only [Act.put, qqP])
 refine seqp_step rfl (fun K hK => ?_)
 go_simp
 go_at_call 167; refine (c_specSpoilSec (m := y) ⟨_, _, _, rfl, O_RK (HT5.out.get 1 rfl), O_RK (HT5.out.get 2 rfl), O_RK (HT5.out.get 3 rfl)⟩ HDY.out.1).mono ?_
 obtain ⟨z, hz⟩ : ∃ z, spoilV y (dataV x4) = z := ⟨_, rfl⟩
 have HZ := Aside0.mk (show Dk (6 + a.gs) z by rw [← hz]; exact dk_spoil HDY.out)
 rw [hz]
 clear hz
 rintro e w6 ⟨u, F7, rfl, hn⟩
 have hq := HT5.out.new hn
 obtain ⟨E1, f1, E2, f2, E3, f3, rfl⟩ := me_form hq
 have HT6 := Aside0.mk hq
 clear hn hq
 replace hS := hole_cells (HT6.out.get 6 rfl) (HT6.out.get 5 rfl)
 refine hK.out _ _ ⟨fun _ _ => hS, ?_⟩; clear hK K; (try simp only [Act.put, qqP])
 repeat ((first | (refine seqp_pure rfl (fun _ _ _ h => h) (by rfl) (fun w_ => by go_simp; first | done | with_reducible rfl) ?_) | (refine seqp_take hS rfl (fun _ _ _ h => h) (by rfl) (fun w_ hSw => by (try dsimp only at hSw); go_simp; first | done | with_reducible rfl) ?_) | (refine seqp_skip2 rfl (fun _ _ _ h => h) (by rfl) ?_) | (refine seqp_skip1 hS rfl (fun _ _ _ h => h) (by rfl) ?_) | (refine seqp_skip0 rfl (by rfl) ?_)); (try simp only [Act.put, qqP]))
 clear hS
 have hq := HT6.out.selT 9 [2, 3, 4, 5, 0, 1, 6, 7, 8] (by decide) (by simp <;> omega)
 simp only [qqN, qqT] at hq
 obtain ⟨F8, hq2⟩ := Sep.put_mem y hq
 rw [set_same HY.out] at hq2
 have hq3 := hq2.selT 6 [1, 3, 0, 4, 5, 2] (by decide) (by simp <;> omega)
 simp only [qqN, qqT] at hq3
 have HU := Aside0.mk hq3
 clear hq hq2 hq3 HT6 HT5 HT4 HT
 obtain ⟨_, _, _, _, _, _, hcell, hfr, hM⟩ := mem_store (HU.out.get 2 rfl) HY.out
 clear hM
 refine seqp_step rfl (fun K hK => ?_)
 go_simp
 refine hK.out _ _ ⟨(fun h => (by cases h)), ?_⟩; clear hK K; (try simp only [Act.put, qqP])
 refine seqp_done ?_
 obtain ⟨w7, F9, hw7, hq⟩ := store_mem HU.out hm
 rw [hw7]
 have HE := Aside0.mk hq
 clear hq hcell hfr hw7
 go_wp2
 go_end0
 first | exact tu_end rfl (good_set (i := m) HZ.out HG.out) (by omega) (by omega) hi4 (Bx.ofF (nv := { a with mems := a.mems.set m z }) HEL.out rfl (List.length_set ..) HE.out) | exact tu_end rfl (good_set (i := m) HZ.out HG.out) (by omega) (by omega) hi4 (Bx.ofF (nv := { a with mems := a.mems.set m z }) HEL.out rfl (List.length_set ..) HE.out.drew)
end DTurn
end Go.Proofs.YtggmifnblcjdfaaGreat
