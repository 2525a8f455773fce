/- Own text: MReadS MSuper AOk. -/
import Derived.Test.YtggmifnblcjdfaaGreatXB2
import Derived.Test.YtggmifnblcjdfaaGreatXB3
import Derived.Deep.DrawnRows
import Derived.Deep.DeepCutAuto
import Derived.Tactics2
import Derived.Deep.RegionHeld3
import Derived.Test.YtggmifnblcjdfaaGreatXB1
set_option linter.unusedVariables false
set_option linter.unusedSimpArgs false
namespace Go.Proofs.YtggmifnblcjdfaaGreat
namespace MReadS
open Go.RowKit RJ Go.Proofs.YtggmifnblcjdfaaGreatW.PrintWords Fp FpStep MInt MKinds MRead MMake MPut MOk MVal Go.Proofs.YtggmifnblcjdfaaGreat.Sep SepStep
attribute [local go_sem ↓] Go.wp_at_zero Go.wp_at_succ
theorem lastS_snoc (l : List (Int × List Int)) (n : Int) (s : List Int) (e : Int × List Int) : lastS (l ++ [e]) n s = if e.1 == n then e.2 else lastS l n s := by simp [lastS]
theorem inR_true {n lo hi : Int} (h : inR n lo hi = true) : lo ≤ n ∧ n ≤ hi := by simpa [inR] using h
theorem ret2 {u : Value} {b c : Bool} (h : b = c) : Ending.returned (.tuple #[u, .bool b]) = .returned (.tuple #[u, .bool c]) := by rw [h]
def Found (m : MemV) (n : Int) (w : World) (cs : Array Value) (t : TypeId) (s : Value) (wx : World) : Prop := s = .bool (!canRead m n) ∧ Sep w [] wx [bx w.heap.size t cs]
set_option maxHeartbeats 2000000 in
set_option maxRecDepth 100000 in
theorem c_specReadSec {w : World} {v : Value} {m : MemV} {n : Int} (h : MemR w v m) (hs : Small m) :
  Calls Tryz.prog 184 #[v, .int .i64 n] w fun e w' => ∃ u F, e = .returned (.tuple #[u, .bool (canRead m n)]) ∧ New w w' (rw_ oInt 3 F u (readV m n)) := by
 have H := Aside0.mk h
 obtain ⟨s, c, b, rfl, r1, r2, r3⟩ := h
 have H1 := Aside0.mk r1
 have H2 := Aside0.mk r2
 have H3 := Aside0.mk r3
 obtain ⟨A1, c1, rfl, _⟩ := r1
 obtain ⟨A2, c2, rfl, _⟩ := r2
 obtain ⟨A3, c3, rfl, _⟩ := r3
 have hb1 := hs.1
 have hb2 := hs.2.2.1
 have HS := Aside0.mk hs
 clear hs
 generalize hmf : m.failed = mf at H
 have Hmf := Aside0.mk hmf
 clear hmf
 go_enter Tryz.func184, Tryz.ntmps184
 go_upto_region 1 with fail
 go_cut [29] (fun s29 wx => Found m n w #[.slice A1 m.secs.length c1, .slice A2 m.cache.length c2, .bool mf, .slice A3 m.bad.length c3] 89 s29 wx)
 case first =>
  have hk := Hmf.out
  by_cases hA : memB m = true
  ·cases mf
   ·by_cases hC : inR n 0 ((m.secs.length : Int) - 1) = true
    ·have hcan : canRead m n = !hasN m.bad n := by simp [canRead, hA, hk, hC]
     have Hcan := Aside0.mk hcan
     clear hcan hk
     go_wp2_with (first
      | (go_at_call 145; refine (c_specMemOk (MemR_below H.out (below_alloc (Below.refl _ _) _))).mono ?_; rintro e w1 ⟨rfl, hb⟩; have HS1 := Aside0.mk (((Sep.start w []).alloc (g := w.heap.size) rfl #[.slice A1 m.secs.length c1, .slice A2 m.cache.length c2, .bool false, .slice A3 m.bad.length c3] 89).below hb); obtain ⟨k1, k2, k3, k4⟩ := four (HS1.out.get 0 rfl); clear hb)
      | (go_at_call 70; refine (c_l1In _ _ _ _).mono ?_; rintro e w2 ⟨rfl, hb⟩; have HS2 := Aside0.mk (HS1.out.dr hb); clear hb k1 k2 k3 k4; obtain ⟨k1, k2, k3, k4⟩ := four (HS2.out.get 0 rfl))
      | (go_at_call 178; refine (c_l2Has (HS2.out.rk H3.out)).mono ?_; rintro e w3 ⟨rfl, hb⟩; have HS3 := Aside0.mk (HS2.out.dr hb); clear hb)
      | fail)
     go_meet
     exact ⟨by rw [Hcan.out]; simp [hasN], HS3.out⟩
    ·simp only [Bool.not_eq_true] at hC
     have hcan : canRead m n = false := by simp [canRead, hA, hk, hC]
     have Hcan := Aside0.mk hcan
     clear hcan hk
     go_wp2_with (first
      | (go_at_call 145; refine (c_specMemOk (MemR_below H.out (below_alloc (Below.refl _ _) _))).mono ?_; rintro e w1 ⟨rfl, hb⟩; have HS1 := Aside0.mk (((Sep.start w []).alloc (g := w.heap.size) rfl #[.slice A1 m.secs.length c1, .slice A2 m.cache.length c2, .bool false, .slice A3 m.bad.length c3] 89).below hb); obtain ⟨k1, k2, k3, k4⟩ := four (HS1.out.get 0 rfl); clear hb)
      | (go_at_call 70; refine (c_l1In _ _ _ _).mono ?_; rintro e w2 ⟨rfl, hb⟩; have HS2 := Aside0.mk (HS1.out.dr hb); clear hb k1 k2 k3 k4; obtain ⟨k1, k2, k3, k4⟩ := four (HS2.out.get 0 rfl))
      | fail)
     go_meet
     exact ⟨by rw [Hcan.out]; rfl, HS2.out⟩
   ·have hcan : canRead m n = false := by simp [canRead, hk]
    have Hcan := Aside0.mk hcan
    clear hcan hk
    go_wp2_with (first
      | (go_at_call 145; refine (c_specMemOk (MemR_below H.out (below_alloc (Below.refl _ _) _))).mono ?_; rintro e w1 ⟨rfl, hb⟩; have HS1 := Aside0.mk (((Sep.start w []).alloc (g := w.heap.size) rfl #[.slice A1 m.secs.length c1, .slice A2 m.cache.length c2, .bool true, .slice A3 m.bad.length c3] 89).below hb); obtain ⟨k1, k2, k3, k4⟩ := four (HS1.out.get 0 rfl); clear hb)
      | fail)
    go_meet
    exact ⟨by rw [Hcan.out]; rfl, HS1.out⟩
  ·simp only [Bool.not_eq_true] at hA
   have hcan : canRead m n = false := by simp [canRead, hA]
   have Hcan := Aside0.mk hcan
   clear hcan hk
   go_wp2_with (first
      | (go_at_call 145; refine (c_specMemOk (MemR_below H.out (below_alloc (Below.refl _ _) _))).mono ?_; rintro e w1 ⟨rfl, hb⟩; have HS1 := Aside0.mk (((Sep.start w []).alloc (g := w.heap.size) rfl #[.slice A1 m.secs.length c1, .slice A2 m.cache.length c2, .bool mf, .slice A3 m.bad.length c3] 89).below hb); obtain ⟨k1, k2, k3, k4⟩ := four (HS1.out.get 0 rfl); clear hb)
      | fail)
   go_meet
   exact ⟨by rw [Hcan.out]; rfl, HS1.out⟩
 case rest =>
  obtain ⟨rfl, hx⟩ := hcut
  have HX := Aside0.mk hx
  obtain ⟨k1, k2, k3, k4⟩ := four (HX.out.get 0 rfl)
  clear hx
  by_cases hcan : canRead m n = true
  ·have hn := inR_true (show inR n 0 ((m.secs.length : Int) - 1) = true by simp [canRead] at hcan; exact hcan.2.2.1)
   obtain ⟨k, rfl⟩ : ∃ k : Nat, n = (k : Int) := ⟨n.toNat, by omega⟩
   have hk : k < m.secs.length := by omega
   obtain ⟨x, hxi⟩ : ∃ x, m.secs[k]? = some x := ⟨_, List.getElem?_eq_getElem hk⟩
   obtain ⟨ad, cap, ha, hc⟩ := RK_slices H1.out (by omega)
   cases ha
   obtain ⟨u, cu0, ru⟩ := hc k x hxi
   have cu := HX.out.old cu0
   have hread : readV m k = lastS m.cache k x := by
    simp [readV, hcan, hxi]
   have Hread := Aside0.mk hread
   have Ru := Aside0.mk ru
   have Hxi := Aside0.mk hxi
   have Hcan := Aside0.mk hcan
   have hxl := HS.out.2.1 x (List.mem_of_getElem? hxi)
   rw [hcan]
   clear hc ru hxi cu0 hread hcan
   go_wp2
   go_loopw [6, 7] (fun v6 v36 wr => ∃ i : Nat, i ≤ m.cache.length ∧ v36 = .int .i64 i ∧ Aside0 (RK kInt w v6 (lastS (m.cache.take i) k x) ∧ (lastS (m.cache.take i) k x).length ≤ 16777216) ∧ Aside0 (Sep w [] wr [bx w.heap.size 89 #[.slice (some ad) m.secs.length c1, .slice A2 m.cache.length c2, .bool mf, .slice A3 m.bad.length c3]])) (fun _ v36 _ => m.cache.length - (intOf v36).toNat)
   case atStart => exact ⟨0, by omega, rfl, ⟨Ru.out, hxl⟩, HX⟩
   case round =>
    obtain ⟨i, hi, rfl, hq, HR⟩ := hrel
    clear k1 k2 k3 k4
    obtain ⟨k1, k2, k3, k4⟩ := four (HR.out.get 0 rfl)
    by_cases hlt : i < m.cache.length
    ·obtain ⟨⟨xn, y⟩, hyi⟩ : ∃ x, m.cache[i]? = some x := ⟨_, List.getElem?_eq_getElem hlt⟩
     obtain ⟨ad2, cap2, ha, hc⟩ := RK_wrs H2.out (by omega)
     cases ha
     obtain ⟨u2, cn0, cv0, ru2⟩ := hc i _ hyi
     obtain ⟨A6, c6, rfl, _⟩ := id ru2
     have Ru2 := Aside0.mk ru2
     have cn := HR.out.old cn0
     have cv := HR.out.old cv0
     have Hyi := Aside0.mk hyi
     have hyl := HS.out.2.2.2.1 _ (List.mem_of_getElem? hyi)
     clear hc ru2 hyi cn0 cv0
     by_cases he : xn = k
     ·subst he
      go_wp2
      go_roundw
      case rel => exact ⟨i + 1, by omega, by go_num, ⟨by rw [take_snoc Hyi.out, lastS_snoc]; simpa using ⟨Ru2.out, hyl⟩⟩, HR⟩
      case measure => simp [intOf]; omega
     ·have he2 : (xn == (k : Int)) = false := by simpa using he
      go_wp2
      go_roundw
      case rel => exact ⟨i + 1, by omega, by go_num, ⟨by rw [take_snoc Hyi.out, lastS_snoc]; simpa [he2] using hq.out⟩, HR⟩
      case measure => simp [intOf]; omega
    ·obtain rfl : i = m.cache.length := by omega
     rw [List.take_length] at hq
     go_wp2_with (first | (at_builtin; refine copy_ints .i64 (HR.out.lit rfl oInt 3) rfl _ _ 28 8 (by rfl) Tryz.underlying28 (by kernel_rfl) (by decide) _ _ (by rfl) (by rfl) ((HR.out.lit rfl oInt 3).rk hq.out.1) (by have := hq.out.2; omega) ?_; intro A7 c7 w4 F4 h4; have HS4 := Aside0.mk h4; clear h4) | fail)
     go_ret2
     exact ⟨_, _, ret2 Hcan.out.symm, by rw [Hread.out]; exact HS4.out.toNew 0 rfl⟩
  ·simp only [Bool.not_eq_true] at hcan
   have Hcan := Aside0.mk hcan
   rw [hcan]
   clear hcan
   go_wp2
   go_ret2
   exact ⟨_, _, ret2 Hcan.out.symm, by unfold readV; rw [Hcan.out]; exact (HX.out.lit rfl oInt 3).toNew 0 rfl⟩
end MReadS
namespace MSuper
open Go.RowKit RJ Go.Proofs.YtggmifnblcjdfaaGreatW.PrintWords Fp FpStep MInt MKinds MRead MMake MPut MVal Go.Proofs.YtggmifnblcjdfaaGreat.Sep SepStep MReadS
attribute [local go_sem ↓] Go.wp_at_zero Go.wp_at_succ
structure SupV where
 id : Int
 gen : Int
 role : Int
 n : Int
 st : Int
 tail : Int
 lost : Int
 built : Int
 deriving DecidableEq
def geoB (n s : Int) : Bool := inR n 3 5 && inR s 1 8
def lostB (n s lost built : Int) : Bool := inR lost (-1) (n - 1) && (inR built 0 s && (built == 0 || lost != -1))
def supB (s : SupV) : Bool := inR s.id 1 60000 && (inR s.gen 0 60000 && (inR s.tail 0 60000 && (geoB s.n s.st && (inR s.role 0 (s.n - 1) && lostB s.n s.st s.lost s.built))))
def supL (s : SupV) : List Int := [21317, s.id, s.gen, s.role, s.n, s.st, s.tail, s.lost + 1, s.built]
def putSup (s : SupV) : List Int := if supB s then supL s else []
theorem geoB_true {n s : Int} (h : geoB n s = true) : 3 ≤ n ∧ n ≤ 5 ∧ 1 ≤ s ∧ s ≤ 8 := by simp [geoB, inR] at h; omega
theorem eight {w : World} {g : Nat} {a0 a1 a2 a3 a4 a5 a6 a7 : Value} {t : TypeId} (h : w.heap[g]? = some (.cells #[a0, a1, a2, a3, a4, a5, a6, a7] t (0, 0))) :
  w.cell? ⟨g, 0, none⟩ = some a0 ∧ w.cell? ⟨g, 1, none⟩ = some a1 ∧ w.cell? ⟨g, 2, none⟩ = some a2 ∧ w.cell? ⟨g, 3, none⟩ = some a3 ∧ w.cell? ⟨g, 4, none⟩ = some a4 ∧ w.cell? ⟨g, 5, none⟩ = some a5 ∧ w.cell? ⟨g, 6, none⟩ = some a6 ∧ w.cell? ⟨g, 7, none⟩ = some a7 :=
 ⟨(blk_cell h 0).trans rfl, (blk_cell h 1).trans rfl, (blk_cell h 2).trans rfl, (blk_cell h 3).trans rfl, (blk_cell h 4).trans rfl, (blk_cell h 5).trans rfl, (blk_cell h 6).trans rfl, (blk_cell h 7).trans rfl⟩
set_option maxHeartbeats 1000000 in
theorem c_implGeoOk (n st : Int) (w : World) :
  Calls Tryz.prog 77 #[.agg #[.int .i64 n, .int .i64 st]] w fun e w' => e = .returned (.bool (geoB n st)) ∧ Below w.heap.size w w' := by
 by_cases h1 : inR n 3 5 = true
 ·skip
  by_cases h2 : inR st 1 8 = true
  ·skip
   go_enter Tryz.func77, Tryz.ntmps77
   go_wp2_with (first
    | (go_at_call 78; refine (c_within _ _ _ _).mono ?_; rintro e wN ⟨rfl, hb⟩; replace HS := Aside0.mk (HS.out.dr hb); clear hb; obtain ⟨k1, k2⟩ := two (HS.out.get 0 rfl))
    | (go_at_call 78; refine (c_within _ _ _ _).mono ?_; rintro e wN ⟨rfl, hb⟩; have HS := Aside0.mk (((Sep.start w []).alloc (g := w.heap.size) rfl #[.int .i64 n, .int .i64 st] 30).dr hb); clear hb; obtain ⟨k1, k2⟩ := two (HS.out.get 0 rfl))
    | fail)
   go_ret
   exact ⟨ret_bool (by simp [geoB, h1, h2]), HS.out.toBelow⟩
  ·simp only [Bool.not_eq_true] at h2
   go_enter Tryz.func77, Tryz.ntmps77
   go_wp2_with (first
    | (go_at_call 78; refine (c_within _ _ _ _).mono ?_; rintro e wN ⟨rfl, hb⟩; replace HS := Aside0.mk (HS.out.dr hb); clear hb; obtain ⟨k1, k2⟩ := two (HS.out.get 0 rfl))
    | (go_at_call 78; refine (c_within _ _ _ _).mono ?_; rintro e wN ⟨rfl, hb⟩; have HS := Aside0.mk (((Sep.start w []).alloc (g := w.heap.size) rfl #[.int .i64 n, .int .i64 st] 30).dr hb); clear hb; obtain ⟨k1, k2⟩ := two (HS.out.get 0 rfl))
    | fail)
   go_ret
   exact ⟨ret_bool (by simp [geoB, h1, h2]), HS.out.toBelow⟩
 ·simp only [Bool.not_eq_true] at h1
  go_enter Tryz.func77, Tryz.ntmps77
  go_wp2_with (first
   | (go_at_call 78; refine (c_within _ _ _ _).mono ?_; rintro e wN ⟨rfl, hb⟩; replace HS := Aside0.mk (HS.out.dr hb); clear hb; obtain ⟨k1, k2⟩ := two (HS.out.get 0 rfl))
   | (go_at_call 78; refine (c_within _ _ _ _).mono ?_; rintro e wN ⟨rfl, hb⟩; have HS := Aside0.mk (((Sep.start w []).alloc (g := w.heap.size) rfl #[.int .i64 n, .int .i64 st] 30).dr hb); clear hb; obtain ⟨k1, k2⟩ := two (HS.out.get 0 rfl))
   | fail)
  go_ret
  exact ⟨ret_bool (by simp [geoB, h1]), HS.out.toBelow⟩
set_option maxHeartbeats 1000000 in
theorem c_specGeoOk (n st : Int) (w : World) :
  Calls Tryz.prog 104 #[.agg #[.int .i64 n, .int .i64 st]] w fun e w' => e = .returned (.bool (geoB n st)) ∧ Below w.heap.size w w' := by
 by_cases h1 : inR n 3 5 = true
 ·skip
  by_cases h2 : inR st 1 8 = true
  ·skip
   go_enter Tryz.func104, Tryz.ntmps104
   go_wp2_with (first
    | (go_at_call 70; refine (c_l1In _ _ _ _).mono ?_; rintro e wN ⟨rfl, hb⟩; replace HS := Aside0.mk (HS.out.dr hb); clear hb; obtain ⟨k1, k2⟩ := two (HS.out.get 0 rfl))
    | (go_at_call 70; refine (c_l1In _ _ _ _).mono ?_; rintro e wN ⟨rfl, hb⟩; have HS := Aside0.mk (((Sep.start w []).alloc (g := w.heap.size) rfl #[.int .i64 n, .int .i64 st] 30).dr hb); clear hb; obtain ⟨k1, k2⟩ := two (HS.out.get 0 rfl))
    | fail)
   go_ret
   exact ⟨ret_bool (by simp [geoB, h1, h2]), HS.out.toBelow⟩
  ·simp only [Bool.not_eq_true] at h2
   go_enter Tryz.func104, Tryz.ntmps104
   go_wp2_with (first
    | (go_at_call 70; refine (c_l1In _ _ _ _).mono ?_; rintro e wN ⟨rfl, hb⟩; replace HS := Aside0.mk (HS.out.dr hb); clear hb; obtain ⟨k1, k2⟩ := two (HS.out.get 0 rfl))
    | (go_at_call 70; refine (c_l1In _ _ _ _).mono ?_; rintro e wN ⟨rfl, hb⟩; have HS := Aside0.mk (((Sep.start w []).alloc (g := w.heap.size) rfl #[.int .i64 n, .int .i64 st] 30).dr hb); clear hb; obtain ⟨k1, k2⟩ := two (HS.out.get 0 rfl))
    | fail)
   go_ret
   exact ⟨ret_bool (by simp [geoB, h1, h2]), HS.out.toBelow⟩
 ·simp only [Bool.not_eq_true] at h1
  go_enter Tryz.func104, Tryz.ntmps104
  go_wp2_with (first
   | (go_at_call 70; refine (c_l1In _ _ _ _).mono ?_; rintro e wN ⟨rfl, hb⟩; replace HS := Aside0.mk (HS.out.dr hb); clear hb; obtain ⟨k1, k2⟩ := two (HS.out.get 0 rfl))
   | (go_at_call 70; refine (c_l1In _ _ _ _).mono ?_; rintro e wN ⟨rfl, hb⟩; have HS := Aside0.mk (((Sep.start w []).alloc (g := w.heap.size) rfl #[.int .i64 n, .int .i64 st] 30).dr hb); clear hb; obtain ⟨k1, k2⟩ := two (HS.out.get 0 rfl))
   | fail)
  go_ret
  exact ⟨ret_bool (by simp [geoB, h1]), HS.out.toBelow⟩
set_option maxHeartbeats 1000000 in
theorem c_lostOk {n : Int} (st lost built : Int) (w : World) (hn : 3 ≤ n ∧ n ≤ 5) :
  Calls Tryz.prog 79 #[.agg #[.int .i64 n, .int .i64 st], .int .i64 lost, .int .i64 built] w fun e w' => e = .returned (.bool (lostB n st lost built)) ∧ Below w.heap.size w w' := by
 obtain ⟨hn1, hn2⟩ := hn
 by_cases h1 : inR lost (-1) (n - 1) = true
 ·skip
  by_cases h2 : inR built 0 st = true
  ·skip
   by_cases h3 : (built == 0) = true
   ·skip
    go_enter Tryz.func79, Tryz.ntmps79
    go_wp2_with (first
     | (go_at_call 78; refine (c_within _ _ _ _).mono ?_; rintro e wN ⟨rfl, hb⟩; replace HS := Aside0.mk (HS.out.dr hb); clear hb; obtain ⟨k1, k2⟩ := two (HS.out.get 0 rfl))
     | (go_at_call 78; refine (c_within _ _ _ _).mono ?_; rintro e wN ⟨rfl, hb⟩; have HS := Aside0.mk (((Sep.start w []).alloc (g := w.heap.size) rfl #[.int .i64 n, .int .i64 st] 30).dr hb); clear hb; obtain ⟨k1, k2⟩ := two (HS.out.get 0 rfl))
     | fail)
    go_ret
    exact ⟨ret_bool (by simp [lostB, h1, h2, h3]), HS.out.toBelow⟩
   ·simp only [Bool.not_eq_true] at h3
    go_enter Tryz.func79, Tryz.ntmps79
    go_wp2_with (first
     | (go_at_call 78; refine (c_within _ _ _ _).mono ?_; rintro e wN ⟨rfl, hb⟩; replace HS := Aside0.mk (HS.out.dr hb); clear hb; obtain ⟨k1, k2⟩ := two (HS.out.get 0 rfl))
     | (go_at_call 78; refine (c_within _ _ _ _).mono ?_; rintro e wN ⟨rfl, hb⟩; have HS := Aside0.mk (((Sep.start w []).alloc (g := w.heap.size) rfl #[.int .i64 n, .int .i64 st] 30).dr hb); clear hb; obtain ⟨k1, k2⟩ := two (HS.out.get 0 rfl))
     | fail)
    go_ret
    exact ⟨ret_bool (by simp [lostB, h1, h2, h3]), HS.out.toBelow⟩
  ·simp only [Bool.not_eq_true] at h2
   go_enter Tryz.func79, Tryz.ntmps79
   go_wp2_with (first
    | (go_at_call 78; refine (c_within _ _ _ _).mono ?_; rintro e wN ⟨rfl, hb⟩; replace HS := Aside0.mk (HS.out.dr hb); clear hb; obtain ⟨k1, k2⟩ := two (HS.out.get 0 rfl))
    | (go_at_call 78; refine (c_within _ _ _ _).mono ?_; rintro e wN ⟨rfl, hb⟩; have HS := Aside0.mk (((Sep.start w []).alloc (g := w.heap.size) rfl #[.int .i64 n, .int .i64 st] 30).dr hb); clear hb; obtain ⟨k1, k2⟩ := two (HS.out.get 0 rfl))
    | fail)
   go_ret
   exact ⟨ret_bool (by simp [lostB, h1, h2]), HS.out.toBelow⟩
 ·simp only [Bool.not_eq_true] at h1
  go_enter Tryz.func79, Tryz.ntmps79
  go_wp2_with (first
   | (go_at_call 78; refine (c_within _ _ _ _).mono ?_; rintro e wN ⟨rfl, hb⟩; replace HS := Aside0.mk (HS.out.dr hb); clear hb; obtain ⟨k1, k2⟩ := two (HS.out.get 0 rfl))
   | (go_at_call 78; refine (c_within _ _ _ _).mono ?_; rintro e wN ⟨rfl, hb⟩; have HS := Aside0.mk (((Sep.start w []).alloc (g := w.heap.size) rfl #[.int .i64 n, .int .i64 st] 30).dr hb); clear hb; obtain ⟨k1, k2⟩ := two (HS.out.get 0 rfl))
   | fail)
  go_ret
  exact ⟨ret_bool (by simp [lostB, h1]), HS.out.toBelow⟩
set_option maxHeartbeats 2000000 in
theorem c_implSuperOk (id gen role n st tail lost built : Int) (w : World) :
  Calls Tryz.prog 148 #[.agg #[.int .i64 id, .int .i64 gen, .int .i64 role, .int .i64 n, .int .i64 st, .int .i64 tail, .int .i64 lost, .int .i64 built]] w fun e w' => e = .returned (.bool (supB ⟨id, gen, role, n, st, tail, lost, built⟩)) ∧ Below w.heap.size w w' := by
 by_cases h1 : inR id 1 60000 = true
 ·skip
  by_cases h2 : inR gen 0 60000 = true
  ·skip
   by_cases h3 : inR tail 0 60000 = true
   ·skip
    by_cases h4 : geoB n st = true
    ·skip
     have hgb := geoB_true h4
     by_cases h5 : inR role 0 (n - 1) = true
     ·skip
      go_enter Tryz.func148, Tryz.ntmps148
      go_wp2_with (first
       | (go_at_call 78; refine (c_within _ _ _ _).mono ?_; rintro e wN ⟨rfl, hb⟩; replace HS := Aside0.mk (HS.out.dr hb); clear hb; obtain ⟨k0, k1, k2, k3, k4, k5, k6, k7⟩ := eight (HS.out.get 1 rfl); obtain ⟨l1, l2⟩ := two (HS.out.get 0 rfl))
       | (go_at_call 78; refine (c_within _ _ _ _).mono ?_; rintro e wN ⟨rfl, hb⟩; have HS := Aside0.mk ((((Sep.start w []).alloc (g := w.heap.size) rfl #[.int .i64 id, .int .i64 gen, .int .i64 role, .int .i64 n, .int .i64 st, .int .i64 tail, .int .i64 lost, .int .i64 built] 121).alloc (g := w.heap.size + 1) (by simp) #[.int .i64 n, .int .i64 st] 30).dr hb); clear hb; obtain ⟨k0, k1, k2, k3, k4, k5, k6, k7⟩ := eight (HS.out.get 1 rfl); obtain ⟨l1, l2⟩ := two (HS.out.get 0 rfl))
       | (go_at_call 77; refine (c_implGeoOk _ _ _).mono ?_; rintro e wN ⟨rfl, hb⟩; replace HS := Aside0.mk (HS.out.below hb); clear hb; obtain ⟨k0, k1, k2, k3, k4, k5, k6, k7⟩ := eight (HS.out.get 1 rfl); obtain ⟨l1, l2⟩ := two (HS.out.get 0 rfl))
       | (go_at_call 79; refine (c_lostOk _ _ _ _ (by have := geoB_true h4; omega)).mono ?_; rintro e wN ⟨rfl, hb⟩; replace HS := Aside0.mk (HS.out.below hb); clear hb)
       | fail)
      go_ret
      exact ⟨ret_bool (by simp [supB, h1, h2, h3, h4, h5]), HS.out.toBelow⟩
     ·simp only [Bool.not_eq_true] at h5
      go_enter Tryz.func148, Tryz.ntmps148
      go_wp2_with (first
       | (go_at_call 78; refine (c_within _ _ _ _).mono ?_; rintro e wN ⟨rfl, hb⟩; replace HS := Aside0.mk (HS.out.dr hb); clear hb; obtain ⟨k0, k1, k2, k3, k4, k5, k6, k7⟩ := eight (HS.out.get 1 rfl); obtain ⟨l1, l2⟩ := two (HS.out.get 0 rfl))
       | (go_at_call 78; refine (c_within _ _ _ _).mono ?_; rintro e wN ⟨rfl, hb⟩; have HS := Aside0.mk ((((Sep.start w []).alloc (g := w.heap.size) rfl #[.int .i64 id, .int .i64 gen, .int .i64 role, .int .i64 n, .int .i64 st, .int .i64 tail, .int .i64 lost, .int .i64 built] 121).alloc (g := w.heap.size + 1) (by simp) #[.int .i64 n, .int .i64 st] 30).dr hb); clear hb; obtain ⟨k0, k1, k2, k3, k4, k5, k6, k7⟩ := eight (HS.out.get 1 rfl); obtain ⟨l1, l2⟩ := two (HS.out.get 0 rfl))
       | (go_at_call 77; refine (c_implGeoOk _ _ _).mono ?_; rintro e wN ⟨rfl, hb⟩; replace HS := Aside0.mk (HS.out.below hb); clear hb; obtain ⟨k0, k1, k2, k3, k4, k5, k6, k7⟩ := eight (HS.out.get 1 rfl); obtain ⟨l1, l2⟩ := two (HS.out.get 0 rfl))
       | (go_at_call 79; refine (c_lostOk _ _ _ _ (by have := geoB_true h4; omega)).mono ?_; rintro e wN ⟨rfl, hb⟩; replace HS := Aside0.mk (HS.out.below hb); clear hb)
       | fail)
      go_ret
      exact ⟨ret_bool (by simp [supB, h1, h2, h3, h4, h5]), HS.out.toBelow⟩
    ·simp only [Bool.not_eq_true] at h4
     go_enter Tryz.func148, Tryz.ntmps148
     go_wp2_with (first
      | (go_at_call 78; refine (c_within _ _ _ _).mono ?_; rintro e wN ⟨rfl, hb⟩; replace HS := Aside0.mk (HS.out.dr hb); clear hb; obtain ⟨k0, k1, k2, k3, k4, k5, k6, k7⟩ := eight (HS.out.get 1 rfl); obtain ⟨l1, l2⟩ := two (HS.out.get 0 rfl))
      | (go_at_call 78; refine (c_within _ _ _ _).mono ?_; rintro e wN ⟨rfl, hb⟩; have HS := Aside0.mk ((((Sep.start w []).alloc (g := w.heap.size) rfl #[.int .i64 id, .int .i64 gen, .int .i64 role, .int .i64 n, .int .i64 st, .int .i64 tail, .int .i64 lost, .int .i64 built] 121).alloc (g := w.heap.size + 1) (by simp) #[.int .i64 n, .int .i64 st] 30).dr hb); clear hb; obtain ⟨k0, k1, k2, k3, k4, k5, k6, k7⟩ := eight (HS.out.get 1 rfl); obtain ⟨l1, l2⟩ := two (HS.out.get 0 rfl))
      | (go_at_call 77; refine (c_implGeoOk _ _ _).mono ?_; rintro e wN ⟨rfl, hb⟩; replace HS := Aside0.mk (HS.out.below hb); clear hb; obtain ⟨k0, k1, k2, k3, k4, k5, k6, k7⟩ := eight (HS.out.get 1 rfl); obtain ⟨l1, l2⟩ := two (HS.out.get 0 rfl))
      | (go_at_call 79; refine (c_lostOk _ _ _ _ (by have := geoB_true h4; omega)).mono ?_; rintro e wN ⟨rfl, hb⟩; replace HS := Aside0.mk (HS.out.below hb); clear hb)
      | fail)
     go_ret
     exact ⟨ret_bool (by simp [supB, h1, h2, h3, h4]), HS.out.toBelow⟩
   ·simp only [Bool.not_eq_true] at h3
    go_enter Tryz.func148, Tryz.ntmps148
    go_wp2_with (first
     | (go_at_call 78; refine (c_within _ _ _ _).mono ?_; rintro e wN ⟨rfl, hb⟩; replace HS := Aside0.mk (HS.out.dr hb); clear hb; obtain ⟨k0, k1, k2, k3, k4, k5, k6, k7⟩ := eight (HS.out.get 1 rfl); obtain ⟨l1, l2⟩ := two (HS.out.get 0 rfl))
     | (go_at_call 78; refine (c_within _ _ _ _).mono ?_; rintro e wN ⟨rfl, hb⟩; have HS := Aside0.mk ((((Sep.start w []).alloc (g := w.heap.size) rfl #[.int .i64 id, .int .i64 gen, .int .i64 role, .int .i64 n, .int .i64 st, .int .i64 tail, .int .i64 lost, .int .i64 built] 121).alloc (g := w.heap.size + 1) (by simp) #[.int .i64 n, .int .i64 st] 30).dr hb); clear hb; obtain ⟨k0, k1, k2, k3, k4, k5, k6, k7⟩ := eight (HS.out.get 1 rfl); obtain ⟨l1, l2⟩ := two (HS.out.get 0 rfl))
     | (go_at_call 77; refine (c_implGeoOk _ _ _).mono ?_; rintro e wN ⟨rfl, hb⟩; replace HS := Aside0.mk (HS.out.below hb); clear hb; obtain ⟨k0, k1, k2, k3, k4, k5, k6, k7⟩ := eight (HS.out.get 1 rfl); obtain ⟨l1, l2⟩ := two (HS.out.get 0 rfl))
     | (go_at_call 79; refine (c_lostOk _ _ _ _ (by have := geoB_true h4; omega)).mono ?_; rintro e wN ⟨rfl, hb⟩; replace HS := Aside0.mk (HS.out.below hb); clear hb)
     | fail)
    go_ret
    exact ⟨ret_bool (by simp [supB, h1, h2, h3]), HS.out.toBelow⟩
  ·simp only [Bool.not_eq_true] at h2
   go_enter Tryz.func148, Tryz.ntmps148
   go_wp2_with (first
    | (go_at_call 78; refine (c_within _ _ _ _).mono ?_; rintro e wN ⟨rfl, hb⟩; replace HS := Aside0.mk (HS.out.dr hb); clear hb; obtain ⟨k0, k1, k2, k3, k4, k5, k6, k7⟩ := eight (HS.out.get 1 rfl); obtain ⟨l1, l2⟩ := two (HS.out.get 0 rfl))
    | (go_at_call 78; refine (c_within _ _ _ _).mono ?_; rintro e wN ⟨rfl, hb⟩; have HS := Aside0.mk ((((Sep.start w []).alloc (g := w.heap.size) rfl #[.int .i64 id, .int .i64 gen, .int .i64 role, .int .i64 n, .int .i64 st, .int .i64 tail, .int .i64 lost, .int .i64 built] 121).alloc (g := w.heap.size + 1) (by simp) #[.int .i64 n, .int .i64 st] 30).dr hb); clear hb; obtain ⟨k0, k1, k2, k3, k4, k5, k6, k7⟩ := eight (HS.out.get 1 rfl); obtain ⟨l1, l2⟩ := two (HS.out.get 0 rfl))
    | (go_at_call 77; refine (c_implGeoOk _ _ _).mono ?_; rintro e wN ⟨rfl, hb⟩; replace HS := Aside0.mk (HS.out.below hb); clear hb; obtain ⟨k0, k1, k2, k3, k4, k5, k6, k7⟩ := eight (HS.out.get 1 rfl); obtain ⟨l1, l2⟩ := two (HS.out.get 0 rfl))
    | (go_at_call 79; refine (c_lostOk _ _ _ _ (by have := geoB_true h4; omega)).mono ?_; rintro e wN ⟨rfl, hb⟩; replace HS := Aside0.mk (HS.out.below hb); clear hb)
    | fail)
   go_ret
   exact ⟨ret_bool (by simp [supB, h1, h2]), HS.out.toBelow⟩
 ·simp only [Bool.not_eq_true] at h1
  go_enter Tryz.func148, Tryz.ntmps148
  go_wp2_with (first
   | (go_at_call 78; refine (c_within _ _ _ _).mono ?_; rintro e wN ⟨rfl, hb⟩; replace HS := Aside0.mk (HS.out.dr hb); clear hb; obtain ⟨k0, k1, k2, k3, k4, k5, k6, k7⟩ := eight (HS.out.get 1 rfl); obtain ⟨l1, l2⟩ := two (HS.out.get 0 rfl))
   | (go_at_call 78; refine (c_within _ _ _ _).mono ?_; rintro e wN ⟨rfl, hb⟩; have HS := Aside0.mk ((((Sep.start w []).alloc (g := w.heap.size) rfl #[.int .i64 id, .int .i64 gen, .int .i64 role, .int .i64 n, .int .i64 st, .int .i64 tail, .int .i64 lost, .int .i64 built] 121).alloc (g := w.heap.size + 1) (by simp) #[.int .i64 n, .int .i64 st] 30).dr hb); clear hb; obtain ⟨k0, k1, k2, k3, k4, k5, k6, k7⟩ := eight (HS.out.get 1 rfl); obtain ⟨l1, l2⟩ := two (HS.out.get 0 rfl))
   | (go_at_call 77; refine (c_implGeoOk _ _ _).mono ?_; rintro e wN ⟨rfl, hb⟩; replace HS := Aside0.mk (HS.out.below hb); clear hb; obtain ⟨k0, k1, k2, k3, k4, k5, k6, k7⟩ := eight (HS.out.get 1 rfl); obtain ⟨l1, l2⟩ := two (HS.out.get 0 rfl))
   | (go_at_call 79; refine (c_lostOk _ _ _ _ (by have := geoB_true h4; omega)).mono ?_; rintro e wN ⟨rfl, hb⟩; replace HS := Aside0.mk (HS.out.below hb); clear hb)
   | fail)
  go_ret
  exact ⟨ret_bool (by simp [supB, h1]), HS.out.toBelow⟩
set_option maxHeartbeats 2000000 in
theorem c_specSuperOk (id gen role n st tail lost built : Int) (w : World) :
  Calls Tryz.prog 150 #[.agg #[.int .i64 id, .int .i64 gen, .int .i64 role, .int .i64 n, .int .i64 st, .int .i64 tail, .int .i64 lost, .int .i64 built]] w fun e w' => e = .returned (.bool (supB ⟨id, gen, role, n, st, tail, lost, built⟩)) ∧ Below w.heap.size w w' := by
 by_cases h4 : geoB n st = true
 ·skip
  have hgb := geoB_true h4
  by_cases h1 : inR id 1 60000 = true
  ·skip
   by_cases h2 : inR gen 0 60000 = true
   ·skip
    by_cases h5 : inR role 0 (n - 1) = true
    ·skip
     by_cases h3 : inR tail 0 60000 = true
     ·skip
      by_cases h6 : inR lost (-1) (n - 1) = true
      ·skip
       have hlo := (inR_true h6).1
       by_cases h7 : inR built 0 st = true
       ·skip
        by_cases h8 : decide (0 ≤ lost) = true
        ·skip
         go_enter Tryz.func150, Tryz.ntmps150
         go_wp2_with (first
          | (go_at_call 70; refine (c_l1In _ _ _ _).mono ?_; rintro e wN ⟨rfl, hb⟩; replace HS := Aside0.mk (HS.out.dr hb); clear hb; obtain ⟨k0, k1, k2, k3, k4, k5, k6, k7⟩ := eight (HS.out.get 0 rfl))
          | (go_at_call 104; refine (c_specGeoOk _ _ _).mono ?_; rintro e wN ⟨rfl, hb⟩; have HS := Aside0.mk (((Sep.start w []).alloc (g := w.heap.size) rfl #[.int .i64 id, .int .i64 gen, .int .i64 role, .int .i64 n, .int .i64 st, .int .i64 tail, .int .i64 lost, .int .i64 built] 121).below hb); clear hb; obtain ⟨k0, k1, k2, k3, k4, k5, k6, k7⟩ := eight (HS.out.get 0 rfl))
          | fail)
         go_ret
         exact ⟨ret_bool (by simp [supB, lostB, h4, h1, h2, h5, h3, h6, h7, h8]; simp at h8; omega), HS.out.toBelow⟩
        ·simp only [Bool.not_eq_true] at h8
         go_enter Tryz.func150, Tryz.ntmps150
         go_wp2_with (first
          | (go_at_call 70; refine (c_l1In _ _ _ _).mono ?_; rintro e wN ⟨rfl, hb⟩; replace HS := Aside0.mk (HS.out.dr hb); clear hb; obtain ⟨k0, k1, k2, k3, k4, k5, k6, k7⟩ := eight (HS.out.get 0 rfl))
          | (go_at_call 104; refine (c_specGeoOk _ _ _).mono ?_; rintro e wN ⟨rfl, hb⟩; have HS := Aside0.mk (((Sep.start w []).alloc (g := w.heap.size) rfl #[.int .i64 id, .int .i64 gen, .int .i64 role, .int .i64 n, .int .i64 st, .int .i64 tail, .int .i64 lost, .int .i64 built] 121).below hb); clear hb; obtain ⟨k0, k1, k2, k3, k4, k5, k6, k7⟩ := eight (HS.out.get 0 rfl))
          | fail)
         go_ret
         exact ⟨ret_bool (by simp [supB, lostB, h4, h1, h2, h5, h3, h6, h7, h8]; simp at h8; omega), HS.out.toBelow⟩
       ·simp only [Bool.not_eq_true] at h7
        go_enter Tryz.func150, Tryz.ntmps150
        go_wp2_with (first
         | (go_at_call 70; refine (c_l1In _ _ _ _).mono ?_; rintro e wN ⟨rfl, hb⟩; replace HS := Aside0.mk (HS.out.dr hb); clear hb; obtain ⟨k0, k1, k2, k3, k4, k5, k6, k7⟩ := eight (HS.out.get 0 rfl))
         | (go_at_call 104; refine (c_specGeoOk _ _ _).mono ?_; rintro e wN ⟨rfl, hb⟩; have HS := Aside0.mk (((Sep.start w []).alloc (g := w.heap.size) rfl #[.int .i64 id, .int .i64 gen, .int .i64 role, .int .i64 n, .int .i64 st, .int .i64 tail, .int .i64 lost, .int .i64 built] 121).below hb); clear hb; obtain ⟨k0, k1, k2, k3, k4, k5, k6, k7⟩ := eight (HS.out.get 0 rfl))
         | fail)
        go_ret
        exact ⟨ret_bool (by simp [supB, lostB, h4, h1, h2, h5, h3, h6, h7]), HS.out.toBelow⟩
      ·simp only [Bool.not_eq_true] at h6
       go_enter Tryz.func150, Tryz.ntmps150
       go_wp2_with (first
        | (go_at_call 70; refine (c_l1In _ _ _ _).mono ?_; rintro e wN ⟨rfl, hb⟩; replace HS := Aside0.mk (HS.out.dr hb); clear hb; obtain ⟨k0, k1, k2, k3, k4, k5, k6, k7⟩ := eight (HS.out.get 0 rfl))
        | (go_at_call 104; refine (c_specGeoOk _ _ _).mono ?_; rintro e wN ⟨rfl, hb⟩; have HS := Aside0.mk (((Sep.start w []).alloc (g := w.heap.size) rfl #[.int .i64 id, .int .i64 gen, .int .i64 role, .int .i64 n, .int .i64 st, .int .i64 tail, .int .i64 lost, .int .i64 built] 121).below hb); clear hb; obtain ⟨k0, k1, k2, k3, k4, k5, k6, k7⟩ := eight (HS.out.get 0 rfl))
        | fail)
       go_ret
       exact ⟨ret_bool (by simp [supB, lostB, h4, h1, h2, h5, h3, h6]), HS.out.toBelow⟩
     ·simp only [Bool.not_eq_true] at h3
      go_enter Tryz.func150, Tryz.ntmps150
      go_wp2_with (first
       | (go_at_call 70; refine (c_l1In _ _ _ _).mono ?_; rintro e wN ⟨rfl, hb⟩; replace HS := Aside0.mk (HS.out.dr hb); clear hb; obtain ⟨k0, k1, k2, k3, k4, k5, k6, k7⟩ := eight (HS.out.get 0 rfl))
       | (go_at_call 104; refine (c_specGeoOk _ _ _).mono ?_; rintro e wN ⟨rfl, hb⟩; have HS := Aside0.mk (((Sep.start w []).alloc (g := w.heap.size) rfl #[.int .i64 id, .int .i64 gen, .int .i64 role, .int .i64 n, .int .i64 st, .int .i64 tail, .int .i64 lost, .int .i64 built] 121).below hb); clear hb; obtain ⟨k0, k1, k2, k3, k4, k5, k6, k7⟩ := eight (HS.out.get 0 rfl))
       | fail)
      go_ret
      exact ⟨ret_bool (by simp [supB, lostB, h4, h1, h2, h5, h3]), HS.out.toBelow⟩
    ·simp only [Bool.not_eq_true] at h5
     go_enter Tryz.func150, Tryz.ntmps150
     go_wp2_with (first
      | (go_at_call 70; refine (c_l1In _ _ _ _).mono ?_; rintro e wN ⟨rfl, hb⟩; replace HS := Aside0.mk (HS.out.dr hb); clear hb; obtain ⟨k0, k1, k2, k3, k4, k5, k6, k7⟩ := eight (HS.out.get 0 rfl))
      | (go_at_call 104; refine (c_specGeoOk _ _ _).mono ?_; rintro e wN ⟨rfl, hb⟩; have HS := Aside0.mk (((Sep.start w []).alloc (g := w.heap.size) rfl #[.int .i64 id, .int .i64 gen, .int .i64 role, .int .i64 n, .int .i64 st, .int .i64 tail, .int .i64 lost, .int .i64 built] 121).below hb); clear hb; obtain ⟨k0, k1, k2, k3, k4, k5, k6, k7⟩ := eight (HS.out.get 0 rfl))
      | fail)
     go_ret
     exact ⟨ret_bool (by simp [supB, lostB, h4, h1, h2, h5]), HS.out.toBelow⟩
   ·simp only [Bool.not_eq_true] at h2
    go_enter Tryz.func150, Tryz.ntmps150
    go_wp2_with (first
     | (go_at_call 70; refine (c_l1In _ _ _ _).mono ?_; rintro e wN ⟨rfl, hb⟩; replace HS := Aside0.mk (HS.out.dr hb); clear hb; obtain ⟨k0, k1, k2, k3, k4, k5, k6, k7⟩ := eight (HS.out.get 0 rfl))
     | (go_at_call 104; refine (c_specGeoOk _ _ _).mono ?_; rintro e wN ⟨rfl, hb⟩; have HS := Aside0.mk (((Sep.start w []).alloc (g := w.heap.size) rfl #[.int .i64 id, .int .i64 gen, .int .i64 role, .int .i64 n, .int .i64 st, .int .i64 tail, .int .i64 lost, .int .i64 built] 121).below hb); clear hb; obtain ⟨k0, k1, k2, k3, k4, k5, k6, k7⟩ := eight (HS.out.get 0 rfl))
     | fail)
    go_ret
    exact ⟨ret_bool (by simp [supB, lostB, h4, h1, h2]), HS.out.toBelow⟩
  ·simp only [Bool.not_eq_true] at h1
   go_enter Tryz.func150, Tryz.ntmps150
   go_wp2_with (first
    | (go_at_call 70; refine (c_l1In _ _ _ _).mono ?_; rintro e wN ⟨rfl, hb⟩; replace HS := Aside0.mk (HS.out.dr hb); clear hb; obtain ⟨k0, k1, k2, k3, k4, k5, k6, k7⟩ := eight (HS.out.get 0 rfl))
    | (go_at_call 104; refine (c_specGeoOk _ _ _).mono ?_; rintro e wN ⟨rfl, hb⟩; have HS := Aside0.mk (((Sep.start w []).alloc (g := w.heap.size) rfl #[.int .i64 id, .int .i64 gen, .int .i64 role, .int .i64 n, .int .i64 st, .int .i64 tail, .int .i64 lost, .int .i64 built] 121).below hb); clear hb; obtain ⟨k0, k1, k2, k3, k4, k5, k6, k7⟩ := eight (HS.out.get 0 rfl))
    | fail)
   go_ret
   exact ⟨ret_bool (by simp [supB, lostB, h4, h1]), HS.out.toBelow⟩
 ·simp only [Bool.not_eq_true] at h4
  go_enter Tryz.func150, Tryz.ntmps150
  go_wp2_with (first
   | (go_at_call 70; refine (c_l1In _ _ _ _).mono ?_; rintro e wN ⟨rfl, hb⟩; replace HS := Aside0.mk (HS.out.dr hb); clear hb; obtain ⟨k0, k1, k2, k3, k4, k5, k6, k7⟩ := eight (HS.out.get 0 rfl))
   | (go_at_call 104; refine (c_specGeoOk _ _ _).mono ?_; rintro e wN ⟨rfl, hb⟩; have HS := Aside0.mk (((Sep.start w []).alloc (g := w.heap.size) rfl #[.int .i64 id, .int .i64 gen, .int .i64 role, .int .i64 n, .int .i64 st, .int .i64 tail, .int .i64 lost, .int .i64 built] 121).below hb); clear hb; obtain ⟨k0, k1, k2, k3, k4, k5, k6, k7⟩ := eight (HS.out.get 0 rfl))
   | fail)
  go_ret
  exact ⟨ret_bool (by simp [supB, lostB, h4]), HS.out.toBelow⟩
theorem lies_ints {w : World} {e : TypeId} {g : Nat} {l : List Int} {n : Nat} {cs : Array Value} (h : w.heap[g]? = some (.cells cs e (0, 0))) (hn : l.length = n) (hc : cs.toList = nums .i64 l) (hm : n ≤ 1000) : Lies w (rw_ oInt e [g] (.slice (some ⟨g, 0, none⟩) n n) l) := by
 subst hn
 have hs : cs.size = l.length := by rw [← Array.length_toList, hc]; simp [nums]
 refine lies_row (O_int .i64 (v := .slice (some ⟨g, 0, none⟩) l.length l.length) ⟨by simp [nums], .inr ⟨g, l.length, cs, rfl, Nat.zero_le _, h, Nat.le_refl _, by unfold maxLen; omega, by rw [hs]; simp, ?_⟩⟩ rfl)
 rw [Nat.mul_one, hc, List.take_of_length_le (by simp [nums])]
theorem new_lit {w0 w : World} {S : List Nat} {L : List Res} (h : Sep w0 S w L) {g : Nat} (hg : w.heap.size = g) (e : TypeId) (cs : Array Value) {l : List Int} {n : Nat} (hn : l.length = n) (hc : cs.toList = nums .i64 l) (hm : n ≤ 1000) : Sep w0 S (w.alloc (.cells cs e (0, 0))) (rw_ oInt e [g] (.slice (some ⟨g, 0, none⟩) n n) l :: L) :=
 Sep.glue (M := [bx g e cs]) (h.alloc hg cs e) (by simp [fps, bx, rw_]) (lies_ints ((h.alloc hg cs e).get 0 rfl) hn hc hm)
set_option maxHeartbeats 2000000 in
theorem c_implPutSuper (id gen role n st tail lost built : Int) (w : World) :
  Calls Tryz.prog 110 #[.agg #[.int .i64 id, .int .i64 gen, .int .i64 role, .int .i64 n, .int .i64 st, .int .i64 tail, .int .i64 lost, .int .i64 built]] w fun e w' => ∃ u F, e = .returned u ∧ New w w' (rw_ oInt 3 F u (putSup ⟨id, gen, role, n, st, tail, lost, built⟩)) := by
 by_cases h : supB ⟨id, gen, role, n, st, tail, lost, built⟩ = true
 ·have hp : putSup ⟨id, gen, role, n, st, tail, lost, built⟩ = supL ⟨id, gen, role, n, st, tail, lost, built⟩ := by unfold putSup; rw [if_pos h]
  have hlo : -1 ≤ lost ∧ lost ≤ 4 := by simp [supB, lostB, inR, geoB] at h; omega
  have Hp := Aside0.mk hp
  clear hp
  go_enter Tryz.func110, Tryz.ntmps110
  go_wp2_with (first
   | (go_at_call 148; refine (c_implSuperOk _ _ _ _ _ _ _ _ _).mono ?_; rw [h]; rintro e wN ⟨rfl, hb⟩; have HS := Aside0.mk (((Sep.start w []).alloc (g := w.heap.size) rfl #[.int .i64 id, .int .i64 gen, .int .i64 role, .int .i64 n, .int .i64 st, .int .i64 tail, .int .i64 lost, .int .i64 built] 121).below hb); clear hb; obtain ⟨k0, k1, k2, k3, k4, k5, k6, k7⟩ := eight (HS.out.get 0 rfl))
   | fail)
  go_ret
  exact ⟨_, _, rfl, by rw [Hp.out]; exact (new_lit HS.out rfl 3 _ (l := supL ⟨id, gen, role, n, st, tail, lost, built⟩) (n := 9) rfl rfl (by decide)).toNew 0 rfl⟩
 ·simp only [Bool.not_eq_true] at h
  have hp : putSup ⟨id, gen, role, n, st, tail, lost, built⟩ = [] := by unfold putSup; rw [h]; rfl
  have Hp := Aside0.mk hp
  clear hp
  go_enter Tryz.func110, Tryz.ntmps110
  go_wp2_with (first
   | (go_at_call 148; refine (c_implSuperOk _ _ _ _ _ _ _ _ _).mono ?_; rw [h]; rintro e wN ⟨rfl, hb⟩; have HS := Aside0.mk (((Sep.start w []).alloc (g := w.heap.size) rfl #[.int .i64 id, .int .i64 gen, .int .i64 role, .int .i64 n, .int .i64 st, .int .i64 tail, .int .i64 lost, .int .i64 built] 121).below hb); clear hb)
   | fail)
  go_ret
  exact ⟨_, _, rfl, by rw [Hp.out]; exact (HS.out.nil oInt 3).toNew 0 rfl⟩
set_option maxHeartbeats 2000000 in
theorem c_specPutSuper (id gen role n st tail lost built : Int) (w : World) :
  Calls Tryz.prog 113 #[.agg #[.int .i64 id, .int .i64 gen, .int .i64 role, .int .i64 n, .int .i64 st, .int .i64 tail, .int .i64 lost, .int .i64 built]] w fun e w' => ∃ u F, e = .returned u ∧ New w w' (rw_ oInt 3 F u (putSup ⟨id, gen, role, n, st, tail, lost, built⟩)) := by
 by_cases h : supB ⟨id, gen, role, n, st, tail, lost, built⟩ = true
 ·have hp : putSup ⟨id, gen, role, n, st, tail, lost, built⟩ = supL ⟨id, gen, role, n, st, tail, lost, built⟩ := by unfold putSup; rw [if_pos h]
  have hlo : -1 ≤ lost ∧ lost ≤ 4 := by simp [supB, lostB, inR, geoB] at h; omega
  have Hp := Aside0.mk hp
  clear hp
  go_enter Tryz.func113, Tryz.ntmps113
  go_wp2_with (first
   | (go_at_call 150; refine (c_specSuperOk _ _ _ _ _ _ _ _ _).mono ?_; rw [h]; rintro e wN ⟨rfl, hb⟩; have HS := Aside0.mk (((Sep.start w []).alloc (g := w.heap.size) rfl #[.int .i64 id, .int .i64 gen, .int .i64 role, .int .i64 n, .int .i64 st, .int .i64 tail, .int .i64 lost, .int .i64 built] 121).below hb); clear hb; obtain ⟨k0, k1, k2, k3, k4, k5, k6, k7⟩ := eight (HS.out.get 0 rfl))
   | fail)
  go_ret
  exact ⟨_, _, rfl, by rw [Hp.out]; exact (new_lit HS.out rfl 3 _ (l := supL ⟨id, gen, role, n, st, tail, lost, built⟩) (n := 9) rfl rfl (by decide)).toNew 0 rfl⟩
 ·simp only [Bool.not_eq_true] at h
  have hp : putSup ⟨id, gen, role, n, st, tail, lost, built⟩ = [] := by unfold putSup; rw [h]; rfl
  have Hp := Aside0.mk hp
  clear hp
  go_enter Tryz.func113, Tryz.ntmps113
  go_wp2_with (first
   | (go_at_call 150; refine (c_specSuperOk _ _ _ _ _ _ _ _ _).mono ?_; rw [h]; rintro e wN ⟨rfl, hb⟩; have HS := Aside0.mk (((Sep.start w []).alloc (g := w.heap.size) rfl #[.int .i64 id, .int .i64 gen, .int .i64 role, .int .i64 n, .int .i64 st, .int .i64 tail, .int .i64 lost, .int .i64 built] 121).below hb); clear hb)
   | fail)
  go_ret
  exact ⟨_, _, rfl, by rw [Hp.out]; exact (HS.out.lit rfl oInt 3).toNew 0 rfl⟩
end MSuper
namespace AOk
open Go.RowKit RJ RP Go.Proofs.YtggmifnblcjdfaaGreatW.PrintWords Fp FpStep MInt MKinds MRead MMake MPut MHeld MOk MSuper Go.Proofs.YtggmifnblcjdfaaGreat.Sep SepStep AKinds AMake AEnt ALaw AArr
def allIx {α : Type} (l : List α) (p : Nat → α → Bool) : Bool := (List.range l.length).all fun j => match l[j]? with | some x => p j x | none => true
theorem allIx_false {α : Type} {l : List α} {p : Nat → α → Bool} {i : Nat} {x : α} (hx : l[i]? = some x) (hp : p i x = false) : allIx l p = false := by
 unfold allIx
 rw [List.all_eq_false]
 exact ⟨i, List.mem_range.2 (List.getElem?_eq_some_iff.1 hx).1, by rw [hx]; simp [hp]⟩
theorem allIx_true {α : Type} {l : List α} {p : Nat → α → Bool} (h : ∀ j x, j < l.length → l[j]? = some x → p j x = true) : allIx l p = true := by
 unfold allIx
 rw [List.all_eq_true]
 intro j hj
 have hj := List.mem_range.1 hj
 rw [List.getElem?_eq_getElem hj]
 exact h j _ hj (List.getElem?_eq_getElem hj)
theorem ix_next {α : Type} {l : List α} {p : Nat → α → Bool} {i : Nat} {x : α} (h : ∀ j y, j < i → l[j]? = some y → p j y = true) (hx : l[i]? = some x) (hp : p i x = true) : ∀ j y, j < i + 1 → l[j]? = some y → p j y = true := by
 intro j y hj hy
 by_cases hji : j = i
 ·subst hji
  rw [hx] at hy
  cases hy
  exact hp
 ·exact h j y (by omega) hy
def okM (a : ArrV) (j : Nat) (m : MemV) : Bool := memB m && (decide ((m.secs.length : Int) = 6 + a.gs) && (!m.failed || (decide (a.lost = (j : Int)) || a.broken)))
theorem c_specL6Secs {w : World} (n s : Int) (h0 : 0 ≤ s) (h1 : s ≤ 1000) :
  Calls Tryz.prog 146 #[.agg #[.int .i64 n, .int .i64 s]] w fun e w' => e = .returned (.int .i64 (6 + s)) ∧ Below w.heap.size w w' := by
 have hw : IntKind.i64.wrap (6 + s) = 6 + s := IntWalk.i64_in _ (by omega)
 go_enter Tryz.func146, Tryz.ntmps146
 go_wp2
 go_ret
 exact ⟨rfl, below_alloc (Below.refl _ _) _⟩
theorem c_implSectors {w : World} (n s : Int) (h0 : 0 ≤ s) (h1 : s ≤ 1000) :
  Calls Tryz.prog 82 #[.agg #[.int .i64 n, .int .i64 s]] w fun e w' => e = .returned (.int .i64 (6 + s)) ∧ Below w.heap.size w w' := by
 have hw : IntKind.i64.wrap (6 + s) = 6 + s := IntWalk.i64_in _ (by omega)
 go_enter Tryz.func82, Tryz.ntmps82
 go_wp2
 go_ret
 exact ⟨rfl, below_alloc (Below.refl _ _) _⟩
end AOk
end Go.Proofs.YtggmifnblcjdfaaGreat
