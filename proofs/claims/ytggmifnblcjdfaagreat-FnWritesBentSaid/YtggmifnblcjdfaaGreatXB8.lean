/- Own text: MFail MDraw DFail. -/
import Derived.Test.YtggmifnblcjdfaaGreatXB4
import Derived.Test.YtggmifnblcjdfaaGreatXB3
import Derived.Test.YtggmifnblcjdfaaGreatXB2
import Derived.Deep.DrawnRows
import Derived.Test.YtggmifnblcjdfaaGreatXB5
import Derived.Laws.BitsLemmas
import Derived.Test.YtggmifnblcjdfaaGreatXB7
import Derived.Test.YtggmifnblcjdfaaGreatXB1
set_option linter.unusedVariables false
set_option linter.unusedSimpArgs false
namespace Go.Proofs.YtggmifnblcjdfaaGreat
namespace MFail
open Go.RowKit RJ Go.Proofs.YtggmifnblcjdfaaGreatW.PrintWords Fp FpStep MInt MKinds MRead MMake MPut MOk MVal Go.Proofs.YtggmifnblcjdfaaGreat.Sep SepStep MCopy MCopyS
attribute [local go_sem ↓] Go.wp_at_zero Go.wp_at_succ
set_option maxHeartbeats 2000000 in
theorem c_specFailMem {w : World} {v : Value} {m : MemV} (h : MemR w v m) (hs : Small m) :
  Calls Tryz.prog 143 #[v] w fun e w' => ∃ u F, e = .returned u ∧ New w w' (me F u (failV m)) := by
 have H := Aside0.mk h
 obtain ⟨s, c, b, rfl, r1, r2, r3⟩ := h
 clear r1 r2 r3
 have HS := Aside0.mk hs
 clear hs
 go_enter Tryz.func143, Tryz.ntmps143
 go_upto_region 3 with (first
  | (go_at_call 68; refine (c_l2Copy (MemR_below H.out (below_alloc (below_alloc (Below.refl _ _) _) _)) HS.out).mono ?_; rintro e w1 ⟨u, F, rfl, hn⟩; obtain ⟨A1, c1, A2, c2, A3, c3, F1, F2, F3, rfl, h1⟩ := ((((Sep.start w []).alloc (g := w.heap.size) rfl _ _).alloc (g := w.heap.size + 1) (by simp) _ _).new hn).ofMem; have HS1 := Aside0.mk h1; clear hn h1)
  | fail)
 have hB := HS1.out.alloc (g := w1.heap.size) rfl #[.slice A1 m.secs.length c1, .slice A2 m.cache.length c2, .bool true, .slice A3 m.bad.length c3] 89
 generalize hg : w1.heap.size = g at *
 generalize hw : w1.alloc (.cells #[.slice A1 m.secs.length c1, .slice A2 m.cache.length c2, .bool true, .slice A3 m.bad.length c3] 89 (0, 0)) = w2 at *
 have HB := Aside0.mk hB
 obtain ⟨k1, k2, k3, k4⟩ := four (HB.out.get 0 rfl)
 obtain ⟨z1, z2, z3, z4⟩ := four (HB.out.get 4 rfl)
 have fk := frozen_alloc (HB.out.get 0 rfl)
 have fz := frozen_alloc (HB.out.get 4 rfl)
 replace z1 := cell_alloc z1; replace z2 := cell_alloc z2; replace z3 := cell_alloc z3; replace z4 := cell_alloc z4
 replace k1 := cell_alloc k1; replace k2 := cell_alloc k2; replace k3 := cell_alloc k3; replace k4 := cell_alloc k4
 have hne : w.heap.size + 1 ≠ g := HB.out.neq 4 0 rfl rfl (by decide)
 have hne2 : g ≠ w.heap.size + 1 := Ne.symm hne
 clear hB hg hw
 go_wp2
 have HE : Sep w [] _ _ := (((((HB.out.lit (g := w2.heap.size) rfl oWr 126).setb 1 rfl 1 (.slice (some ⟨w2.heap.size, 0, none⟩) 0 0) rfl).setb 5 rfl 0 (.slice A1 m.secs.length c1) rfl).setb 5 rfl 1 (.slice (some ⟨w2.heap.size, 0, none⟩) 0 0) rfl).setb 5 rfl 2 (.bool true) rfl).setb 5 rfl 3 (.slice A3 m.bad.length c3) rfl
 refine bodyPost_ret (results_cell_row rfl _ _ (w.heap.size + 1) 89 #[.slice A1 m.secs.length c1, .slice (some ⟨w2.heap.size, 0, none⟩) 0 0, .bool true, .slice A3 m.bad.length c3] (0, 0) _ rfl (HE.get 5 rfl) Tryz.underlying89 rfl (by kernel_rfl)) rfl ?_
 have h9 := (HE.sel [2, 0, 4] (by decide) (by simp)).toMem (m := failV m)
 exact ⟨_, _, rfl, h9.toNew 0 rfl⟩
set_option maxHeartbeats 2000000 in
theorem c_specMemNew (n : Int) (w : World) :
  Calls Tryz.prog 159 #[.int .i64 n] w fun e w' => ∃ u F, e = .returned u ∧ New w w' (me F u (newV n)) := by
 by_cases hn : inR n 1 20 = true
 ·have hr : (1 : Int) ≤ n ∧ n ≤ 20 := by simpa [inR] using hn
  obtain ⟨k, rfl⟩ : ∃ k : Nat, n = (k : Int) := ⟨n.toNat, by omega⟩
  have hv : newV (k : Int) = ⟨List.replicate k [], [], false, []⟩ := by unfold newV; rw [if_pos hn]; rfl
  have Hv := Aside0.mk hv
  have hk : k ≤ 20 := by omega
  clear hv hr
  go_enter Tryz.func159, Tryz.ntmps159
  go_wp2_with (first
   | (go_at_call 70; refine (c_l1In _ _ _ _).mono ?_; rw [hn]; rintro e w1 ⟨rfl, hb⟩; have HS1 := Aside0.mk (((Sep.start w []).alloc (g := w.heap.size) rfl #[.slice none 0 0, .slice none 0 0, .bool false, .slice none 0 0] 89).dr hb); clear hb)
   | fail)
  have HB := Aside0.mk ((((HS1.out.alloc (g := w1.heap.size) rfl #[.slice none 0 0, .slice none 0 0, .bool false, .slice none 0 0] 89).nil oInt 3).nil oWr 126).nil oSec 28)
  generalize hg : w1.heap.size = g at *
  go_loopw [4] (fun v4 wr => ∃ i : Nat, i ≤ k ∧ v4 = .int .i64 i ∧ ∃ (A : Option Addr) (c : Nat) (F : List Nat), Aside0 (Sep w [] wr [rw_ oSec 28 F (.slice A i c) (List.replicate i []), bx g 89 #[.slice A i c, .slice none 0 0, .bool false, .slice none 0 0], rw_ oWr 126 [] (.slice none 0 0) [], rw_ oInt 3 [] (.slice none 0 0) [], bx w.heap.size 89 #[.slice none 0 0, .slice none 0 0, .bool false, .slice none 0 0]])) (fun v4 _ => k - (intOf v4).toNat)
  case atStart => exact ⟨0, by omega, rfl, none, 0, [], ⟨HB.out.sel [0, 3, 1, 2, 4] (by decide) (by simp)⟩⟩
  case round =>
   obtain ⟨i, hi, rfl, A, c, F, HR⟩ := hrel
   by_cases hlt : i < k
   ·obtain ⟨p1, p2, p3, p4⟩ := four (HR.out.get 1 rfl)
    clear p2 p3 p4
    go_wp2_with (first
     | (at_builtin; refine app_one (d := oSec) (y := []) ((HR.out.lit rfl oInt 3).sel [1, 0, 2, 3, 4, 5] (by decide) (by simp)) rfl _ _ 80 (.slice none 0 0) 24 (by rfl) Tryz.underlying80 (by kernel_rfl) rfl (by decide) (by decide) [.slice (some ⟨_, 0, none⟩) 0 0] ⟨_, rfl, (HR.out.lit rfl oInt 3).get 0 rfl⟩ (by rfl) (by rfl) (by simp) (n := i) (by simp) (by omega) ?_; intro A2 c2 w2 F2 h2; have HS2 := Aside0.mk h2; clear p1; obtain ⟨p1, p2, p3, p4⟩ := four (h2.get 1 rfl); have fz := blk_frozen (h2.get 1 rfl); clear p2 p3 p4 h2)
     | fail)
    go_roundw
    case rel => exact ⟨i + 1, by omega, by go_num, A2, c2, F2, ⟨by rw [List.replicate_succ']; exact HS2.out.setb 1 rfl 0 _ rfl⟩⟩
    case measure => simp [intOf]; omega
   ·obtain rfl : i = k := by omega
    obtain ⟨p1, p2, p3, p4⟩ := four (HR.out.get 1 rfl)
    obtain ⟨z1, z2, z3, z4⟩ := four (HR.out.get 4 rfl)
    have fz := blk_frozen (HR.out.get 4 rfl)
    go_wp2
    have HE : Sep w [] _ _ := (((HR.out.setb 4 rfl 0 (.slice A i c) rfl).setb 4 rfl 1 (.slice none 0 0) rfl).setb 4 rfl 2 (.bool false) rfl).setb 4 rfl 3 (.slice none 0 0) rfl
    refine bodyPost_ret (results_cell_row rfl _ _ w.heap.size 89 #[.slice A i c, .slice none 0 0, .bool false, .slice none 0 0] (0, 0) _ rfl (HE.get 4 rfl) Tryz.underlying89 rfl (by kernel_rfl)) rfl ?_
    rw [Hv.out]
    have h9 := (HE.sel [0, 2, 3] (by decide) (by simp)).toMem (m := ⟨List.replicate i [], [], false, []⟩)
    exact ⟨_, _, rfl, h9.toNew 0 rfl⟩
 ·simp only [Bool.not_eq_true] at hn
  go_enter Tryz.func159, Tryz.ntmps159
  go_wp2_with (first
   | (go_at_call 70; refine (c_l1In _ _ _ _).mono ?_; rw [hn]; rintro e w1 ⟨rfl, hb⟩; have HS1 := Aside0.mk (((Sep.start w []).alloc (g := w.heap.size) rfl #[.slice none 0 0, .slice none 0 0, .bool false, .slice none 0 0] 89).dr hb); clear hb; obtain ⟨z1, z2, z3, z4⟩ := four (HS1.out.get 0 rfl); have fz := blk_frozen (HS1.out.get 0 rfl))
   | fail)
  have HE : Sep w [] _ _ := (((HS1.out.setb 0 rfl 0 (.slice none 0 0) rfl).setb 0 rfl 1 (.slice none 0 0) rfl).setb 0 rfl 2 (.bool false) rfl).setb 0 rfl 3 (.slice none 0 0) rfl
  refine bodyPost_ret (results_cell_row rfl _ _ w.heap.size 89 #[.slice none 0 0, .slice none 0 0, .bool false, .slice none 0 0] (0, 0) _ rfl (HE.get 0 rfl) Tryz.underlying89 rfl (by kernel_rfl)) rfl ?_
  have hv : newV n = ⟨[], [], false, []⟩ := by unfold newV; rw [hn]; rfl
  rw [hv]
  have h9 := ((((HE.nil oInt 3).nil oWr 126).nil oSec 28).sel [0, 1, 2] (by decide) (by simp)).toMem (m := ⟨[], [], false, []⟩)
  exact ⟨_, _, rfl, h9.toNew 0 rfl⟩
end MFail
namespace MDraw
open Go.RowKit RJ Go.Proofs.YtggmifnblcjdfaaGreatW.PrintWords Fp FpStep MInt MKinds MRead MMake MPut Go.Proofs.YtggmifnblcjdfaaGreat.Sep SepStep MSuper
attribute [local go_sem ↓] Go.wp_at_zero Go.wp_at_succ
theorem three {w : World} {g : Nat} {a0 a1 a2 : Value} {t : TypeId} (h : w.heap[g]? = some (.cells #[a0, a1, a2] t (0, 0))) :
  w.cell? ⟨g, 0, none⟩ = some a0 ∧ w.cell? ⟨g, 1, none⟩ = some a1 ∧ w.cell? ⟨g, 2, none⟩ = some a2 := by
 refine ⟨?_, ?_, ?_⟩ <;> simp [World.cell?, h]
abbrev cur (g : Nat) (B : Value) (i h : Int) : Res := bx g 111 #[B, .int .i64 i, .int .i64 h]
theorem band_eq (x m : Int) : Go.bits .and .i64 x m = IntKind.i64.wrap ((BitVec.ofInt 64 x &&& BitVec.ofInt 64 m).toNat : Int) := rfl
theorem band_le (x : Int) (m : Nat) (hm : m < 9223372036854775808) : 0 ≤ Go.bits .and .i64 x (m : Int) ∧ Go.bits .and .i64 x (m : Int) ≤ m := by
 rw [band_eq, IntKind.wrap_i64, BitVec.toNat_and]
 have h : (BitVec.ofInt 64 (m : Int)).toNat = m := by
  rw [BitVec.toNat_ofInt]; omega
 rw [h]
 have := Nat.and_le_right (n := (BitVec.ofInt 64 x).toNat) (m := m)
 omega
set_option maxHeartbeats 4000000 in
theorem c_l1Byte {w0 w : World} {L : List Res} {g : Nat} {B : Value} {bs : List Int} {i h : Int} (hs : Sep w0 [] w (cur g B i h :: L)) (hB : RK (Kd.int .u8) w0 B bs) (hi : 0 ≤ i ∧ i ≤ bs.length) :
  Calls Tryz.prog 141 #[.pointer (some ⟨g, 0, none⟩)] w fun e w' => ∃ (x i' h' : Int), e = .returned (.int .i64 x) ∧ 0 ≤ x ∧ x ≤ 255 ∧ (0 ≤ i' ∧ i' ≤ bs.length) ∧ Sep w0 [] w' (cur g B i' h' :: L) := by
 have lx := RK_len hB
 obtain ⟨hi0, hi1⟩ := hi
 obtain ⟨k, rfl⟩ := Int.eq_ofNat_of_zero_le hi0
 by_cases hk : k < bs.length
 ·obtain ⟨ad, ca, rfl, hcell⟩ := ints_at hB (by omega)
  have hk1 : (k : Int) < (bs.length : Int) := by omega
  obtain ⟨x, hx⟩ : ∃ x, bs[k]? = some x := ⟨_, List.getElem?_eq_getElem hk⟩
  have K0 := Aside0.mk (hcell k x hx)
  clear hcell
  obtain ⟨k0, k1, k2⟩ := three (hs.get 0 rfl)
  have gz := blk_frozen (hs.get 0 rfl)
  have HS := Aside0.mk hs
  clear hs
  go_enter Tryz.func141, Tryz.ntmps141
  go_upto_region 2 with fail
  generalize wrap64 (wrap64 (h * 6364136223846793005) + 1442695040888963407) = h1 at *
  have hE := HS.out.setb 0 rfl 2 (.int .i64 h1) rfl
  simp only [qqN] at hE
  generalize w.setCell ⟨g, 2, none⟩ (.int .i64 h1) = w1 at *
  have HE := Aside0.mk hE
  clear hE k0 k1 k2 gz HS
  obtain ⟨k0, k1, k2⟩ := three (HE.out.get 0 rfl)
  have gz := blk_frozen (HE.out.get 0 rfl)
  have kx := HE.out.old K0.out
  go_quiet (fail)
  go_upto_region 3 with fail
  go_quiet (fail)
  go_upto_region 4 with fail
  go_quiet (fail)
  go_wp2
  go_ret
  have hb := band_le (wrap64 (Go.bits .and .i64 (Go.bits .xor .i64 (h1 / 8589934592) (h1 / 140737488355328)) 255 + wrap64 x)) 255 (by omega)
  exact ⟨_, (k : Int) + 1, h1, rfl, hb.1, hb.2, ⟨by omega, by omega⟩, (HE.out.drewN _).setb 0 rfl 1 _ rfl⟩
 ·obtain ⟨A, ca, rfl, _, _⟩ := id hB
  have hk1 : ¬ (k : Int) < (bs.length : Int) := by omega
  obtain ⟨k0, k1, k2⟩ := three (hs.get 0 rfl)
  have gz := blk_frozen (hs.get 0 rfl)
  have HS := Aside0.mk hs
  clear hs
  go_enter Tryz.func141, Tryz.ntmps141
  go_upto_region 2 with fail
  generalize wrap64 (wrap64 (h * 6364136223846793005) + 1442695040888963407) = h1 at *
  have hE := HS.out.setb 0 rfl 2 (.int .i64 h1) rfl
  simp only [qqN] at hE
  generalize w.setCell ⟨g, 2, none⟩ (.int .i64 h1) = w1 at *
  have HE := Aside0.mk hE
  clear hE k0 k1 k2 gz HS
  obtain ⟨k0, k1, k2⟩ := three (HE.out.get 0 rfl)
  go_quiet (fail)
  go_upto_region 3 with fail
  go_quiet (fail)
  go_wp2
  go_ret
  have hb := band_le (Go.bits .xor .i64 (h1 / 8589934592) (h1 / 140737488355328)) 255 (by omega)
  first | exact ⟨_, rfl, hb.1, hb.2, k, ⟨by omega, by omega⟩, h1, HE.out.drewN _⟩ | exact ⟨_, k, h1, rfl, hb.1, hb.2, ⟨by omega, by omega⟩, HE.out.drewN _⟩
set_option maxHeartbeats 2000000 in
theorem c_l1Below {w0 w : World} {L : List Res} {g : Nat} {B : Value} {bs : List Int} {i h n : Int} (hs : Sep w0 [] w (cur g B i h :: L)) (hB : RK (Kd.int .u8) w0 B bs) (hi : 0 ≤ i ∧ i ≤ bs.length) (hn : n ≤ 256) :
  Calls Tryz.prog 94 #[.pointer (some ⟨g, 0, none⟩), .int .i64 n] w fun e w' => ∃ (x i' h' : Int), e = .returned (.int .i64 x) ∧ 0 ≤ x ∧ (0 < n → x < n) ∧ (0 ≤ i' ∧ i' ≤ bs.length) ∧ Sep w0 [] w' (cur g B i' h' :: L) := by
 have HS := Aside0.mk hs
 clear hs
 by_cases h0 : 0 < n
 ·go_enter Tryz.func94, Tryz.ntmps94
  go_wp2_with (first
   | (go_at_call 141; refine (c_l1Byte HS.out hB hi).mono ?_; rintro e w1 ⟨x, i', h', rfl, hx0, hx1, hi2, hs1⟩; have HS1 := Aside0.mk hs1; clear hs1)
   | fail)
  go_ret
  exact ⟨_, i', h', rfl, Int.emod_nonneg _ (by omega), fun _ => Int.emod_lt_of_pos _ h0, hi2, HS1.out⟩
 ·have h9 : n ≤ 0 := by omega
  go_enter Tryz.func94, Tryz.ntmps94
  go_wp2
  go_ret
  first | exact ⟨_, rfl, by omega, fun q => by omega, i, hi, h, HS.out⟩ | exact ⟨_, i, h, rfl, by omega, fun q => by omega, hi, HS.out⟩
set_option maxHeartbeats 2000000 in
theorem c_l1Int {w0 w : World} {L : List Res} {g : Nat} {B : Value} {bs : List Int} {i h : Int} {u : Value} {xs : List Int} (hs : Sep w0 [] w (cur g B i h :: L)) (hB : RK (Kd.int .u8) w0 B bs) (hi : 0 ≤ i ∧ i ≤ bs.length) (hu : ∀ w', Sep w0 [] w' L → RK kInt w' u xs) (hn : 0 < xs.length ∧ xs.length ≤ 256) :
  Calls Tryz.prog 55 #[.pointer (some ⟨g, 0, none⟩), u] w fun e w' => ∃ (x i' h' : Int), e = .returned (.int .i64 x) ∧ x ∈ xs ∧ (0 ≤ i' ∧ i' ≤ bs.length) ∧ Sep w0 [] w' (cur g B i' h' :: L) := by
 have HU := Aside0.mk hu
 obtain ⟨A, ca, rfl, _, _⟩ := hu w (hs.drop 0 rfl)
 have HS := Aside0.mk hs
 clear hs hu
 go_enter Tryz.func55, Tryz.ntmps55
 go_wp2_with (first
  | (go_at_call 94; (refine (c_l1Below HS.out hB hi (by omega)).mono ?_; rintro e w1 ⟨x, i', h', rfl, hx0, hx1, hi2, hs1⟩; have hx2 := hx1 (by omega); obtain ⟨k, rfl⟩ := Int.eq_ofNat_of_zero_le hx0; have hk : k < xs.length := (by omega); have HS1 := Aside0.mk hs1; have hs2 : Sep w0 [] w1 L := hs1.drop 0 rfl; have hru := HU.out w1 hs2; have hl0 : 0 < xs.length := Nat.lt_of_le_of_lt (Nat.zero_le k) hk; obtain ⟨ad, cc, ev, hcell⟩ := ints_at hru hl0; cases ev; obtain ⟨y, hy⟩ : ∃ y, xs[k]? = some y := ⟨_, List.getElem?_eq_getElem hk⟩; have ky := hcell k y hy; clear hs1 hcell))
  | fail)
 go_ret
 exact ⟨_, i', h', rfl, List.mem_of_getElem? hy, hi2, HS1.out⟩
set_option maxHeartbeats 2000000 in
theorem c_l1Draw {w0 w : World} {L : List Res} {g : Nat} {B : Value} {bs : List Int} {i h : Int} (hs : Sep w0 [] w (cur g B i h :: L)) (hB : RK (Kd.int .u8) w0 B bs) (hi : 0 ≤ i ∧ i ≤ bs.length) :
  Calls Tryz.prog 99 #[.pointer (some ⟨g, 0, none⟩)] w fun e w' => ∃ (x i' h' : Int), e = .returned (.int .i64 x) ∧ (0 ≤ x ∧ x ≤ 65535) ∧ (0 ≤ i' ∧ i' ≤ bs.length) ∧ Sep w0 [] w' (cur g B i' h' :: L) := by
 have HS := Aside0.mk hs
 clear hs
 go_enter Tryz.func99, Tryz.ntmps99
 go_wp2_with (first
  | (go_at_call 55; have hn := new_lit HS.out (g := w.heap.size) rfl 3 (#[.int .i64 0, .int .i64 1, .int .i64 2, .int .i64 7, .int .i64 255, .int .i64 256, .int .i64 4660, .int .i64 65535]) (l := [0, 1, 2, 7, 255, 256, 4660, 65535]) (n := 8) rfl rfl (by decide); have hn2 := hn.perm (List.Perm.swap _ _ _); refine (c_l1Int hn2 hB hi (fun w' hw => O_RK (hw.get 0 rfl)) (by decide)).mono ?_; rintro e w1 ⟨x, i', h', rfl, hx, hi2, hs1⟩; have HS1 := Aside0.mk (hs1.drop 1 rfl); have hx2 : 0 ≤ x ∧ x ≤ 65535 := (by simp at hx; omega); clear hs1 hn hn2 hx)
  | fail)
 go_ret
 exact ⟨x, i', h', rfl, hx2, hi2, HS1.out⟩
set_option maxHeartbeats 2000000 in
theorem c_l1New {w : World} {B : Value} {bs : List Int} (hB : RK (Kd.int .u8) w B bs) (hl : bs.length ≤ 16777216) :
  Calls Tryz.prog 48 #[B] w fun e w' => ∃ (g : Nat) (h' : Int), e = .returned (.pointer (some ⟨g, 0, none⟩)) ∧ Sep w [] w' [cur g B 0 h'] := by
 have lx := RK_len hB
 by_cases hn : 0 < bs.length
 ·obtain ⟨ad, cap, rfl, hc⟩ := ints_at hB hn
  have Hc := Aside0.mk hc
  clear hB hc
  go_enter Tryz.func48, Tryz.ntmps48
  go_wp2
  go_loopw [3, 4] (fun v3 v4 wr => ∃ (i : Nat) (h : Int), i ≤ bs.length ∧ v3 = .int .i64 h ∧ v4 = .int .i64 i ∧ ∃ n, wr = w.drewN n) (fun _ v4 _ => bs.length - (intOf v4).toNat)
  case atStart => exact ⟨0, _, by omega, rfl, rfl, 0, rfl⟩
  case round =>
   obtain ⟨i, h, hi, rfl, rfl, n, rfl⟩ := hrel
   by_cases hlt : i < bs.length
   ·obtain ⟨x, hxi⟩ : ∃ x, bs[i]? = some x := ⟨_, List.getElem?_eq_getElem hlt⟩
    have ca := Hc.out i x hxi
    have h1 : (i : Int) < (bs.length : Int) := by omega
    by_cases hq : (i : Int) < 4000
    ·go_wp2
     go_roundw
     case rel => exact ⟨i + 1, _, by omega, rfl, by go_num, by first | exact ⟨_, rfl⟩ | exact ⟨_, World.drewN_drewN _ _ _⟩⟩
     case measure => simp [intOf]; omega
    ·go_wp2
     go_ret
     first | exact ⟨_, rfl, h, ((Sep.start w []).drewN _).alloc rfl _ _⟩ | exact ⟨_, h, rfl, ((Sep.start w []).drewN _).alloc rfl _ _⟩
   ·have h1 : ¬ (i : Int) < (bs.length : Int) := by omega
    go_wp2
    go_ret
    first | exact ⟨_, rfl, h, ((Sep.start w []).drewN _).alloc rfl _ _⟩ | exact ⟨_, h, rfl, ((Sep.start w []).drewN _).alloc rfl _ _⟩
 ·have h2 : bs = [] := List.eq_nil_of_length_eq_zero (by omega)
  subst h2
  obtain ⟨A, ca, rfl, _, _⟩ := hB
  go_enter Tryz.func48, Tryz.ntmps48
  go_wp2
  refine wp_loop_rounds 1 ?_
  rw [rounds_succ]
  go_wp2
  go_ret
  first | exact ⟨_, rfl, _, ((Sep.start w []).alloc rfl _ _)⟩ | exact ⟨_, _, rfl, ((Sep.start w []).alloc rfl _ _)⟩
end MDraw
namespace DFail
open Go.RowKit RJ RP RQ RPC Go.Proofs.YtggmifnblcjdfaaGreatW.PrintWords Fp FpStep MInt MKinds MRead MMake MPut MHeld MOk MVal MSuper MFail Go.Proofs.YtggmifnblcjdfaaGreat.Sep SepStep AKinds AOk AOkD AOkA AXor AWords AData APut AMarkV AMarkF ASyncF AStrV DRes DInv DEnd
theorem lb_cells {w : World} {g : Nat} {t : TypeId} {a0 a1 a2 a3 a4 a5 a6 a7 a8 a9 a10 a11 a12 : Value} (h : w.heap[g]? = some (.cells #[a0, a1, a2, a3, a4, a5, a6, a7, a8, a9, a10, a11, a12] t (0, 0))) : w.cell? ⟨g, 4, none⟩ = some a4 ∧ w.cell? ⟨g, 5, none⟩ = some a5 := ⟨(thirteen h).2.2.2.2.1, (thirteen h).2.2.2.2.2.1⟩
set_option maxHeartbeats 8000000 in
set_option maxRecDepth 100000 in
theorem c_l11Fail {w0 w : World} {g : Nat} {a : ArrV} {L : List Res} {m : Nat} {b d : Int} (h : Bx w0 w g a L) (hG : Fit b d a) (hd : d ≤ 1000) (hb : b ≤ 50000) (hm : m < a.mems.length) (hlost : a.lost = -1) :
  Calls Tryz.prog 164 #[.pointer (some ⟨g, 0, none⟩), .int .i64 m] w fun e w' => e = .returned (.tuple #[]) ∧ ∃ a', Fit (b + 1) d a' ∧ Bx w0 w' g a' L := by
 obtain ⟨hh, c1, A2, c2, F1, F2, F3, es, hel, hs⟩ := h
 have HG := Aside0.mk hG
 have HEL := Aside0.mk hel
 have HI := Aside0.mk hs
 obtain ⟨x, hx⟩ : ∃ x, a.mems[m]? = some x := ⟨_, List.getElem?_eq_getElem hm⟩
 have HX := Aside0.mk hx
 have HDK := Aside0.mk (hG.dk x (List.mem_of_getElem? hx))
 obtain ⟨A3, c3, A4, c4, A5, c5, hcell, hfr, hM⟩ := mem_store (HI.out.get 1 rfl) hx
 have HM := Aside0.mk hM
 have HC := Aside0.mk hcell
 have i0 : (0 : Int) ≤ (m : Int) := by omega
 have il : (m : Int) < (a.mems.length : Int) := by omega
 have hdn := hG.down
 have hbr := hG.brok
 have hge : decide (a.gen < 60000) = true := decide_eq_true (by have := hG.gen; omega)
 obtain ⟨y, hy⟩ : ∃ y, failV x = y := ⟨_, rfl⟩
 have HY := Aside0.mk hy
 clear hy
 clear hs hG hel hx hcell hfr hM
 simp only [arrC] at *
 go_enter Tryz.func164, Tryz.ntmps164
 go_upto_region 0 with fail
 have HALL := Aside0.mk (fun (w' : World) (hb : Below w.heap.size w w') => And.intro (thirteenB (HI.out.get 0 rfl) hb) (And.intro (cell_later HC.out.1 hb) (And.intro (cell_later HC.out.2.1 hb) (And.intro (cell_later HC.out.2.2.1 hb) (cell_later HC.out.2.2.2 hb)))))
 refine wp_region_seqc (fun w' => Below w.heap.size w w') [14] [(0, 2), (1, 2), (2, 2), (4, 2), (5, 2), (6, 2), (7, 2), (9, 2), (3, 1), (8, 1), (10, 2), (11, 1), (12, 0), (13, 2), (14, 0)] (by kernel_rfl) (by kernel_rfl) ?_
 have hS : Below w.heap.size w w.drew := Below.drew (Below.refl _ _)
 repeat ((first | (refine seqp_pure rfl (fun _ _ _ h => h) (by rfl) (fun w_ => by go_simp; first | done | with_reducible rfl) ?_) | (refine seqp_take hS rfl (fun _ _ _ h => h) (by rfl) (fun w_ hSw => by have hSc := HALL.out w_ hSw; clear hSw; go_simp; first | done | with_reducible rfl) ?_) | (refine seqp_skip2 rfl (fun _ _ _ h => h) (by rfl) ?_) | (refine seqp_skip1 hS rfl (fun _ _ _ h => h) (by rfl) ?_) | (refine seqp_skip0 rfl (by rfl) ?_)); (try simp only [Act.put, qqP]))
 have HS1 := Aside0.mk (HI.out.below hS)
 have HM1 := Aside0.mk (MemR_below HM.out hS)
 refine seqp_step rfl (fun K hK => ?_)
 go_simp
 go_at_call 143; refine (c_specFailMem HM1.out HDK.out.1).mono ?_; rw [HY.out]; rintro e w2 ⟨u, F4, rfl, hn⟩
 have hs2 := HS1.out.new hn
 obtain ⟨B1, d1, B2, d2, B3, d3, rfl⟩ := me_form hs2
 have HS2 := Aside0.mk hs2
 have hb := hn.below
 clear hs2 hn
 replace hS := hS.trans (hb.mono hS.size); clear hb; refine hK.out _ _ ⟨fun _ _ => hS, ?_⟩; clear hK K; (try simp only [Act.put, qqP])
 repeat ((first | (refine seqp_pure rfl (fun _ _ _ h => h) (by rfl) (fun w_ => by go_simp; first | done | with_reducible rfl) ?_) | (refine seqp_take hS rfl (fun _ _ _ h => h) (by rfl) (fun w_ hSw => by have hSc := HALL.out w_ hSw; clear hSw; go_simp; first | done | with_reducible rfl) ?_) | (refine seqp_skip2 rfl (fun _ _ _ h => h) (by rfl) ?_) | (refine seqp_skip1 hS rfl (fun _ _ _ h => h) (by rfl) ?_) | (refine seqp_skip0 rfl (by rfl) ?_)); (try simp only [Act.put, qqP]))
 clear hS HALL
 obtain ⟨A3, c3, A4, c4, A5, c5, hcell, hfr, hM⟩ := mem_store (HS2.out.get 2 rfl) HX.out
 clear hM
 refine seqp_step rfl (fun K hK => ?_)
 go_simp
 refine hK.out _ _ ⟨(fun h => (by cases h)), ?_⟩; clear hK K; (try simp only [Act.put, qqP])
 refine seqp_done ?_
 obtain ⟨w3, F5, hw3, hq⟩ := store_mem HS2.out hm
 rw [hw3]
 have HE := Aside0.mk hq
 clear hq hcell hfr hw3
 have kk := thirteen (HE.out.get 0 rfl)
 have gz := blk_frozen (HE.out.get 0 rfl)
 have HDY := Aside0.mk (show Dk (6 + a.gs) y by rw [← HY.out]; exact dk_fail HDK.out)
 have HG2 := Aside0.mk (good_lost (n := (m : Int)) ⟨by omega, by have := HG.out.len; show (m : Int) < a.gn; omega⟩ (good_set (i := m) HDY.out HG.out))
 have hlb : (a.lost == -1) = true := by simp [hlost]
 go_upto_region 5 with fail
 have hq := (HE.out.setb 0 rfl 4 (.int .i64 m) rfl).setb 0 rfl 5 (.int .i64 0) rfl
 simp only [qqN] at hq
 generalize (w3.setCell ⟨g, 4, none⟩ (.int .i64 m)).setCell ⟨g, 5, none⟩ (.int .i64 0) = w4 at *
 have HE2 := Aside0.mk hq
 clear hq kk gz HE
 have kk := thirteen (HE2.out.get 0 rfl)
 go_wp2_with (first
  | (go_at_call 63; refine (c_specMarkF (a := { a with mems := a.mems.set m y, lost := (m : Int), built := 0 }) HE2.out (by simp) HG2.out.small1 HG2.out.down (by have := HG2.out.fuse; omega) HG2.out.small2 (by have := HG2.out.gen; omega)).mono ?_; rintro e w5 ⟨F6, rfl, hs5⟩; have HS5 := Aside0.mk hs5; clear hs5)
  | fail)
 go_end0
 exact ⟨rfl, _, good_mark HG2.out, Bx.ofF HEL.out (markV_dirty _) (by rw [markV_len]; simp) HS5.out⟩
set_option maxHeartbeats 8000000 in
set_option maxRecDepth 100000 in
theorem c_l12Spare {w0 w : World} {g : Nat} {a : ArrV} {L : List Res} {m : Nat} {b d : Int} (h : Bx w0 w g a L) (hG : Fit b d a) (hd : d ≤ 1000) (hb : b ≤ 50000) (hm : m < a.mems.length) (hlost : a.lost = (m : Int)) :
  Calls Tryz.prog 165 #[.pointer (some ⟨g, 0, none⟩)] w (PtR w0 g L (b + 1) d) := by
 obtain ⟨hh, c1, A2, c2, F1, F2, F3, es, hel, hs⟩ := h
 have HG := Aside0.mk hG
 have HEL := Aside0.mk hel
 obtain ⟨x, hx⟩ : ∃ x, a.mems[m]? = some x := ⟨_, List.getElem?_eq_getElem hm⟩
 have HX := Aside0.mk hx
 have i0 : (0 : Int) ≤ (m : Int) := by omega
 have il : (m : Int) < (a.mems.length : Int) := by omega
 have hgs := hG.n.2
 have HI := Aside0.mk hs
 obtain ⟨y, hy⟩ : ∃ y, newV (6 + a.gs) = y := ⟨_, rfl⟩
 have HY := Aside0.mk hy
 have HDY := Aside0.mk (show Dk (6 + a.gs) y by rw [← hy]; exact dk_new (by omega))
 clear hs hG hel hx hy
 simp only [arrC] at *
 rw [hlost] at HI
 go_enter Tryz.func165, Tryz.ntmps165
 go_upto_region 1 with fail
 have HALL := Aside0.mk (fun (w' : World) (hb : Below w.heap.size w w') => (thirteenB (HI.out.get 0 rfl) hb))
 refine wp_region_seqc (fun w' => Below w.heap.size w w') [15] [(0, 2), (1, 2), (2, 2), (4, 2), (5, 2), (6, 2), (8, 2), (9, 2), (10, 2), (3, 1), (7, 1), (11, 1), (12, 0), (13, 0), (14, 2), (15, 0)] (by kernel_rfl) (by kernel_rfl) ?_
 have hS : Below w.heap.size w w.drew := Below.drew (Below.refl _ _)
 repeat ((first | (refine seqp_pure rfl (fun _ _ _ h => h) (by rfl) (fun w_ => by go_simp; first | done | with_reducible rfl) ?_) | (refine seqp_take hS rfl (fun _ _ _ h => h) (by rfl) (fun w_ hSw => by have hSc := HALL.out w_ hSw; clear hSw; go_simp; first | done | with_reducible rfl) ?_) | (refine seqp_skip2 rfl (fun _ _ _ h => h) (by rfl) ?_) | (refine seqp_skip1 hS rfl (fun _ _ _ h => h) (by rfl) ?_) | (refine seqp_skip0 rfl (by rfl) ?_)); (try simp only [Act.put, qqP]))
 have HS1 := Aside0.mk (HI.out.below hS)
 refine seqp_step rfl (fun K hK => ?_)
 go_simp
 go_at_call 146; refine (c_specL6Secs _ _ (by omega) (by omega)).mono ?_; rintro e w2 ⟨rfl, hb⟩
 have HS2 := Aside0.mk (HS1.out.below hb)
 replace hS := hS.trans (hb.mono hS.size); clear hb; refine hK.out _ _ ⟨fun _ _ => hS, ?_⟩; clear hK K; (try simp only [Act.put, qqP])
 refine seqp_step rfl (fun K hK => ?_)
 go_simp
 go_at_call 159; refine (c_specMemNew _ _).mono ?_; rw [HY.out]; rintro e w3 ⟨u, F4, rfl, hn⟩
 have hs3 := HS2.out.new hn
 obtain ⟨B1, d1, B2, d2, B3, d3, rfl⟩ := me_form hs3
 have HS3 := Aside0.mk hs3
 have hb := hn.below
 clear hs3 hn
 replace hS := hS.trans (hb.mono hS.size); clear hb; refine hK.out _ _ ⟨fun _ _ => hS, ?_⟩; clear hK K; (try simp only [Act.put, qqP])
 repeat ((first | (refine seqp_pure rfl (fun _ _ _ h => h) (by rfl) (fun w_ => by go_simp; first | done | with_reducible rfl) ?_) | (refine seqp_take hS rfl (fun _ _ _ h => h) (by rfl) (fun w_ hSw => by have hSc := HALL.out w_ hSw; clear hSw; go_simp; first | done | with_reducible rfl) ?_) | (refine seqp_skip2 rfl (fun _ _ _ h => h) (by rfl) ?_) | (refine seqp_skip1 hS rfl (fun _ _ _ h => h) (by rfl) ?_) | (refine seqp_skip0 rfl (by rfl) ?_)); (try simp only [Act.put, qqP]))
 clear hS HALL
 obtain ⟨A3, c3, A4, c4, A5, c5, hcell, hfr, hM⟩ := mem_store (HS3.out.get 2 rfl) HX.out
 clear hM
 refine seqp_step rfl (fun K hK => ?_)
 go_simp
 refine hK.out _ _ ⟨(fun h => (by cases h)), ?_⟩; clear hK K; (try simp only [Act.put, qqP])
 refine seqp_done ?_
 obtain ⟨w4, F5, hw4, hq⟩ := store_mem HS3.out hm
 rw [hw4]
 have HE := Aside0.mk hq
 clear hq hcell hfr hw4
 have kk := thirteen (HE.out.get 0 rfl)
 have gz := blk_frozen (HE.out.get 0 rfl)
 have HG2 := Aside0.mk (good_lost (n := (m : Int)) ⟨by omega, by have := HG.out.len; show (m : Int) < a.gn; omega⟩ (good_set (i := m) HDY.out HG.out))
 obtain ⟨nv, hnv⟩ : ∃ nv, markV { a with mems := a.mems.set m y, lost := (m : Int), built := 0 } = nv := ⟨_, rfl⟩
 have HNV := Aside0.mk hnv
 have HGV := Aside0.mk (show Fit (b + 1) d nv by rw [← hnv]; exact good_mark HG2.out)
 have hdn := HGV.out.down
 have HDV := Aside0.mk (show nv.dirty = a.dirty by rw [← hnv]; exact markV_dirty _)
 have HLV := Aside0.mk (show nv.mems.length = a.mems.length by rw [← hnv, markV_len]; simp)
 clear hnv
 go_upto_region 3 with fail
 have hq := HE.out.setb 0 rfl 5 (.int .i64 0) rfl
 simp only [qqN] at hq
 generalize w4.setCell ⟨g, 5, none⟩ (.int .i64 0) = w5 at *
 have HE2 := Aside0.mk hq
 clear hq kk gz HE
 go_wp2_with (first
  | (go_at_call 63; refine (c_specMarkF (a := { a with mems := a.mems.set m y, lost := (m : Int), built := 0 }) HE2.out (by simp) HG2.out.small1 HG2.out.down (by have := HG2.out.fuse; omega) HG2.out.small2 (by have := HG2.out.gen; omega)).mono ?_; rw [HNV.out]; rintro e w6 ⟨F6, rfl, hs6⟩; simp only [arrC] at hs6; have HS6 := Aside0.mk hs6; clear hs6; have kk := thirteen (HS6.out.get 0 rfl))
  | fail)
 go_ret
 exact pt_end rfl HGV.out (Bx.ofF HEL.out HDV.out HLV.out HS6.out)
set_option maxHeartbeats 8000000 in
set_option maxRecDepth 100000 in
theorem c_l12Step {w0 w : World} {g : Nat} {a : ArrV} {L : List Res} {m : Nat} {b d : Int} (h : Bx w0 w g a L) (hG : Fit b d a) (hd : d ≤ 1000) (hm : m < a.mems.length) (hlost : a.lost = (m : Int)) (hbl : a.built < a.gs) :
  Calls Tryz.prog 166 #[.pointer (some ⟨g, 0, none⟩)] w (PtR w0 g L b d) := by
 obtain ⟨hh, c1, A2, c2, F1, F2, F3, es, hel, hs⟩ := h
 have HG := Aside0.mk hG
 have HEL := Aside0.mk hel
 have HSM := Aside0.mk (hG.small (by omega : d ≤ 16777216))
 have HLO := Aside0.mk hlost
 have HBL := Aside0.mk hbl
 have hgs := hG.n
 have hbu := hG.built
 have i0 : (0 : Int) ≤ (m : Int) := by omega
 have HI := Aside0.mk hs
 clear hs hG hel hlost
 simp only [arrC] at *
 go_enter Tryz.func166, Tryz.ntmps166
 go_upto_region 1 with fail
 have HALL := Aside0.mk (fun (w' : World) (hb : Below w.heap.size w w') => (thirteenB (HI.out.get 0 rfl) hb))
 refine wp_region_seqc (fun w' => Below w.heap.size w w') [12] [(0, 2), (1, 2), (3, 2), (4, 2), (5, 2), (2, 1), (6, 1), (7, 0), (8, 2), (9, 2), (10, 2), (11, 0), (12, 0)] (by kernel_rfl) (by kernel_rfl) ?_
 have hS : Below w.heap.size w w.drew := Below.drew (Below.refl _ _)
 repeat ((first | (refine seqp_pure rfl (fun _ _ _ h => h) (by rfl) (fun w_ => by go_simp; first | done | with_reducible rfl) ?_) | (refine seqp_take hS rfl (fun _ _ _ h => h) (by rfl) (fun w_ hSw => by have hSc := HALL.out w_ hSw; clear hSw; go_simp; first | done | with_reducible rfl) ?_) | (refine seqp_skip2 rfl (fun _ _ _ h => h) (by rfl) ?_) | (refine seqp_skip1 hS rfl (fun _ _ _ h => h) (by rfl) ?_) | (refine seqp_skip0 rfl (by rfl) ?_)); (try simp only [Act.put, qqP]))
 have HS1 := Aside0.mk (HI.out.below hS)
 refine seqp_step rfl (fun K hK => ?_)
 go_simp
 go_at_call 177; refine (c_specL6Words (box_R (es := es) HS1.out) HSM.out HG.out.len).mono ?_
 have HWL := Aside0.mk (wsR_len2 (a := a) (s := a.built))
 obtain ⟨⟨xs, ok⟩, hp⟩ : ∃ p, wsR a a.built = p := ⟨_, rfl⟩
 rw [hp] at HWL ⊢
 clear hp
 rintro e w2 ⟨u, F4, rfl, hn⟩
 have HS2 := Aside0.mk (HS1.out.new hn)
 have hb := hn.below
 clear hn
 replace hS := hS.trans (hb.mono hS.size); clear hb; refine hK.out _ _ ⟨fun _ _ => hS, ?_⟩; clear hK K; (try simp only [Act.put, qqP])
 repeat ((first | (refine seqp_pure rfl (fun _ _ _ h => h) (by rfl) (fun w_ => by go_simp; first | done | with_reducible rfl) ?_) | (refine seqp_take hS rfl (fun _ _ _ h => h) (by rfl) (fun w_ hSw => by have hSc := HALL.out w_ hSw; clear hSw; go_simp; first | done | with_reducible rfl) ?_) | (refine seqp_skip2 rfl (fun _ _ _ h => h) (by rfl) ?_) | (refine seqp_skip1 hS rfl (fun _ _ _ h => h) (by rfl) ?_) | (refine seqp_skip0 rfl (by rfl) ?_)); (try simp only [Act.put, qqP]))
 refine seqp_step rfl (fun K hK => ?_)
 go_simp
 refine hK.out _ _ ⟨fun _ _ => hS, ?_⟩; clear hK K; (try simp only [Act.put, qqP])
 refine seqp_step rfl (fun K hK => ?_)
 go_simp
 refine hK.out _ _ ⟨(fun h => (by cases h)), ?_⟩; clear hK K; (try simp only [Act.put, qqP])
 clear hS HALL
 refine seqp_done ?_
 cases ok
 ·go_wp2
  go_ret
  have hq := HS2.out.drop 0 rfl
  simp only [qqN] at hq
  exact pt_end rfl HG.out (Bx.le HEL.out hq)
 have hxl := HWL.out rfl
 simp only at hxl
 obtain ⟨gl, cl, rfl, _, _⟩ := O_form (show oInt.O 3 w2 F4 u xs from HS2.out.get 0 rfl) (by omega)
 obtain ⟨y, hy⟩ : ∃ y, xs[m]? = some y := ⟨_, List.getElem?_eq_getElem (by omega)⟩
 have HYX := Aside0.mk hy
 have il : (m : Int) < (xs.length : Int) := by omega
 clear hy hxl
 go_upto_region 4 with fail
 have hlost := HLO.out
 obtain ⟨nv, hnv⟩ : ∃ nv, putV a m (dataV a.built) [y] = nv := ⟨_, rfl⟩
 have HNV := Aside0.mk hnv
 have HGV := Aside0.mk (show Fit b d nv by rw [← hnv]; exact good_put (by simp) HG.out)
 have hdn := HGV.out.down
 have HSV := Aside0.mk (show Same a nv by rw [← hnv]; exact turnV_same _ _ _)
 clear hnv
 go_cut [36] (fun s36 wx => ∃ F9, Aside0 (Sep w0 [] wx (bx g 34 (arrC nv (.slice (some ⟨hh, 0, none⟩) a.mems.length c1) (.slice A2 a.dirty.length c2)) :: rw_ oMem 89 F9 (.slice (some ⟨hh, 0, none⟩) a.mems.length c1) nv.mems :: rw_ oShl 91 F2 (.slice A2 a.dirty.length c2) es :: da F3 es a.dirty :: L)))
 case first =>
  refine wp_region_tr (fun w' => w'.cell? ⟨g, 4, none⟩ = some (.int .i64 a.lost) ∧ w'.cell? ⟨g, 5, none⟩ = some (.int .i64 a.built)) [] (Tr.p 0 (Tr.p 1 (Tr.p 2 (Tr.p 3 (Tr.p 5 (Tr.p 6 (Tr.p 7 (Tr.p 10 (Tr.p 11 (Tr.p 12 (Tr.p 13 (Tr.t 4 (Tr.t 8 (Tr.alt 9 (Tr.s 14 (Tr.p 15 (Tr.s 16 (Tr.s 17 (Tr.s 18 (Tr.nil)))))) (Tr.s 14 (Tr.p 15 (Tr.alt 9 (Tr.s 16 (Tr.s 17 (Tr.s 18 (Tr.nil)))) (Tr.s 16 (Tr.alt 9 (Tr.s 17 (Tr.s 18 (Tr.nil))) (Tr.s 17 (Tr.s 9 (Tr.s 18 (Tr.nil))))))))))))))))))))))) (by kernel_rfl) (by kernel_rfl) ?_
  have HV := Aside0.mk (HS2.out.drew)
  generalize hwd : w2.drew = wd at *
  clear hwd
  have hS := lb_cells (HV.out.get 1 rfl)
  iterate 11 (refine tr_pure rfl (fun _ _ _ h => h) (by rfl) (fun w_ => by go_simp; first | done | with_reducible rfl) ?_; (try simp only [Act.put, qqP]))
  iterate 2 (refine tr_take hS rfl (fun _ _ _ h => h) (by rfl) (fun w_ hSw => by (try dsimp only at hSw); go_simp; first | done | with_reducible rfl) ?_; (try simp only [Act.put, qqP]))
  refine tr_two ?_ ?_
  ·skip
   refine tr_step rfl (fun K hK => ?_)
   go_simp
   go_at_call 97; refine (c_specDataAt _ _).mono ?_; rintro e w11 ⟨rfl, hdr⟩
   have H11 := Aside0.mk (HV.out.dr hdr)
   clear hdr
   replace hS := lb_cells (H11.out.get 1 rfl)
   refine hK.out _ _ ⟨fun _ _ => hS, ?_⟩; clear hK K; (try simp only [Act.put, qqP])
   refine tr_step rfl (fun K hK => ?_)
   have kk := thirteen (H11.out.get 1 rfl)
   go_simp
   clear kk
   refine hK.out _ _ ⟨fun _ _ => hS, ?_⟩; clear hK K; (try simp only [Act.put, qqP])
   iterate 1 (refine tr_pure rfl (fun _ _ _ h => h) (by rfl) (fun w_ => by go_simp; first | done | with_reducible rfl) ?_; (try simp only [Act.put, qqP]))
   refine tr_step rfl (fun K hK => ?_)
   have kk := O_int_at (show oInt.O 3 _ F4 (.slice (some ⟨gl, 0, none⟩) xs.length cl) xs from H11.out.get 0 rfl) HYX.out
   go_simp
   clear kk
   refine hK.out _ _ ⟨fun _ _ => hS, ?_⟩; clear hK K; (try simp only [Act.put, qqP])
   refine tr_step rfl (fun K hK => ?_)
   go_simp
   have hq := new_lit H11.out (g := w11.heap.size) rfl 3 (#[.int .i64 y]) (l := [y]) (n := 1) rfl rfl (by decide)
   have H14 := Aside0.mk hq
   clear hq
   replace hS := lb_cells (H14.out.get 2 rfl)
   refine hK.out _ _ ⟨fun _ _ => hS, ?_⟩; clear hK K; (try simp only [Act.put, qqP])
   generalize w11.alloc (.cells #[.int .i64 y] 3 (0, 0)) = w14 at *
   generalize w11.heap.size = gn14 at *
   have hq := H14.out.selT 6 [2, 3, 0, 4, 5] (by decide) (by simp <;> omega)
   simp only [qqN, qqT] at hq
   have HP := Aside0.mk hq
   clear hq
   refine tr_step rfl (fun K hK => ?_)
   go_simp
   go_at_call 112; refine (c_specPut (i := m) (xs := [y]) HP.out rfl hm (by have := HG.out.fuse; omega) HG.out.small2 (by simp)).mono ?_; rw [HNV.out]; rintro e w9 ⟨F9, rfl, hs9⟩
   have hq := hs9.selT 5 [0, 1, 3, 4] (by decide) (by simp <;> omega)
   simp only [qqN, qqT] at hq
   have HE := Aside0.mk hq
   clear hs9 hq
   have hSe := lb_cells (HE.out.get 0 rfl)
   rw [HSV.out.lost, HSV.out.built] at hSe
   refine hK.out _ _ ⟨fun _ _ => hSe, ?_⟩; clear hK K; (try simp only [Act.put, qqP])
   refine tr_done ?_
   go_wp2_with fail
   go_meet
   first | exact ⟨F9, HE⟩ | exact ⟨F9, ⟨HE.out.drew⟩⟩
  ·skip
   refine tr_step rfl (fun K hK => ?_)
   have kk := thirteen (HV.out.get 1 rfl)
   go_simp
   clear kk
   refine hK.out _ _ ⟨fun _ _ => hS, ?_⟩; clear hK K; (try simp only [Act.put, qqP])
   iterate 1 (refine tr_pure rfl (fun _ _ _ h => h) (by rfl) (fun w_ => by go_simp; first | done | with_reducible rfl) ?_; (try simp only [Act.put, qqP]))
   refine tr_two ?_ ?_
   ·skip
    refine tr_step rfl (fun K hK => ?_)
    go_simp
    go_at_call 97; refine (c_specDataAt _ _).mono ?_; rintro e w17 ⟨rfl, hdr⟩
    have H17 := Aside0.mk (HV.out.dr hdr)
    clear hdr
    replace hS := lb_cells (H17.out.get 1 rfl)
    refine hK.out _ _ ⟨fun _ _ => hS, ?_⟩; clear hK K; (try simp only [Act.put, qqP])
    refine tr_step rfl (fun K hK => ?_)
    have kk := O_int_at (show oInt.O 3 _ F4 (.slice (some ⟨gl, 0, none⟩) xs.length cl) xs from H17.out.get 0 rfl) HYX.out
    go_simp
    clear kk
    refine hK.out _ _ ⟨fun _ _ => hS, ?_⟩; clear hK K; (try simp only [Act.put, qqP])
    refine tr_step rfl (fun K hK => ?_)
    go_simp
    have hq := new_lit H17.out (g := w17.heap.size) rfl 3 (#[.int .i64 y]) (l := [y]) (n := 1) rfl rfl (by decide)
    have H19 := Aside0.mk hq
    clear hq
    replace hS := lb_cells (H19.out.get 2 rfl)
    refine hK.out _ _ ⟨fun _ _ => hS, ?_⟩; clear hK K; (try simp only [Act.put, qqP])
    generalize w17.alloc (.cells #[.int .i64 y] 3 (0, 0)) = w19 at *
    generalize w17.heap.size = gn19 at *
    have hq := H19.out.selT 6 [2, 3, 0, 4, 5] (by decide) (by simp <;> omega)
    simp only [qqN, qqT] at hq
    have HP := Aside0.mk hq
    clear hq
    refine tr_step rfl (fun K hK => ?_)
    go_simp
    go_at_call 112; refine (c_specPut (i := m) (xs := [y]) HP.out rfl hm (by have := HG.out.fuse; omega) HG.out.small2 (by simp)).mono ?_; rw [HNV.out]; rintro e w9 ⟨F9, rfl, hs9⟩
    have hq := hs9.selT 5 [0, 1, 3, 4] (by decide) (by simp <;> omega)
    simp only [qqN, qqT] at hq
    have HE := Aside0.mk hq
    clear hs9 hq
    have hSe := lb_cells (HE.out.get 0 rfl)
    rw [HSV.out.lost, HSV.out.built] at hSe
    refine hK.out _ _ ⟨fun _ _ => hSe, ?_⟩; clear hK K; (try simp only [Act.put, qqP])
    refine tr_done ?_
    go_wp2_with fail
    go_meet
    first | exact ⟨F9, HE⟩ | exact ⟨F9, ⟨HE.out.drew⟩⟩
   ·skip
    refine tr_step rfl (fun K hK => ?_)
    have kk := O_int_at (show oInt.O 3 _ F4 (.slice (some ⟨gl, 0, none⟩) xs.length cl) xs from HV.out.get 0 rfl) HYX.out
    go_simp
    clear kk
    refine hK.out _ _ ⟨fun _ _ => hS, ?_⟩; clear hK K; (try simp only [Act.put, qqP])
    refine tr_two ?_ ?_
    ·skip
     refine tr_step rfl (fun K hK => ?_)
     go_simp
     go_at_call 97; refine (c_specDataAt _ _).mono ?_; rintro e w22 ⟨rfl, hdr⟩
     have H22 := Aside0.mk (HV.out.dr hdr)
     clear hdr
     replace hS := lb_cells (H22.out.get 1 rfl)
     refine hK.out _ _ ⟨fun _ _ => hS, ?_⟩; clear hK K; (try simp only [Act.put, qqP])
     refine tr_step rfl (fun K hK => ?_)
     go_simp
     have hq := new_lit H22.out (g := w22.heap.size) rfl 3 (#[.int .i64 y]) (l := [y]) (n := 1) rfl rfl (by decide)
     have H23 := Aside0.mk hq
     clear hq
     replace hS := lb_cells (H23.out.get 2 rfl)
     refine hK.out _ _ ⟨fun _ _ => hS, ?_⟩; clear hK K; (try simp only [Act.put, qqP])
     generalize w22.alloc (.cells #[.int .i64 y] 3 (0, 0)) = w23 at *
     generalize w22.heap.size = gn23 at *
     have hq := H23.out.selT 6 [2, 3, 0, 4, 5] (by decide) (by simp <;> omega)
     simp only [qqN, qqT] at hq
     have HP := Aside0.mk hq
     clear hq
     refine tr_step rfl (fun K hK => ?_)
     go_simp
     go_at_call 112; refine (c_specPut (i := m) (xs := [y]) HP.out rfl hm (by have := HG.out.fuse; omega) HG.out.small2 (by simp)).mono ?_; rw [HNV.out]; rintro e w9 ⟨F9, rfl, hs9⟩
     have hq := hs9.selT 5 [0, 1, 3, 4] (by decide) (by simp <;> omega)
     simp only [qqN, qqT] at hq
     have HE := Aside0.mk hq
     clear hs9 hq
     have hSe := lb_cells (HE.out.get 0 rfl)
     rw [HSV.out.lost, HSV.out.built] at hSe
     refine hK.out _ _ ⟨fun _ _ => hSe, ?_⟩; clear hK K; (try simp only [Act.put, qqP])
     refine tr_done ?_
     go_wp2_with fail
     go_meet
     first | exact ⟨F9, HE⟩ | exact ⟨F9, ⟨HE.out.drew⟩⟩
    ·skip
     refine tr_step rfl (fun K hK => ?_)
     go_simp
     have hq := new_lit HV.out (g := wd.heap.size) rfl 3 (#[.int .i64 y]) (l := [y]) (n := 1) rfl rfl (by decide)
     have H25 := Aside0.mk hq
     clear hq
     replace hS := lb_cells (H25.out.get 2 rfl)
     refine hK.out _ _ ⟨fun _ _ => hS, ?_⟩; clear hK K; (try simp only [Act.put, qqP])
     generalize wd.alloc (.cells #[.int .i64 y] 3 (0, 0)) = w25 at *
     generalize wd.heap.size = gn25 at *
     refine tr_step rfl (fun K hK => ?_)
     go_simp
     go_at_call 97; refine (c_specDataAt _ _).mono ?_; rintro e w26 ⟨rfl, hdr⟩
     have H26 := Aside0.mk (H25.out.dr hdr)
     clear hdr
     replace hS := lb_cells (H26.out.get 2 rfl)
     refine hK.out _ _ ⟨fun _ _ => hS, ?_⟩; clear hK K; (try simp only [Act.put, qqP])
     have hq := H26.out.selT 6 [2, 3, 0, 4, 5] (by decide) (by simp <;> omega)
     simp only [qqN, qqT] at hq
     have HP := Aside0.mk hq
     clear hq
     refine tr_step rfl (fun K hK => ?_)
     go_simp
     go_at_call 112; refine (c_specPut (i := m) (xs := [y]) HP.out rfl hm (by have := HG.out.fuse; omega) HG.out.small2 (by simp)).mono ?_; rw [HNV.out]; rintro e w9 ⟨F9, rfl, hs9⟩
     have hq := hs9.selT 5 [0, 1, 3, 4] (by decide) (by simp <;> omega)
     simp only [qqN, qqT] at hq
     have HE := Aside0.mk hq
     clear hs9 hq
     have hSe := lb_cells (HE.out.get 0 rfl)
     rw [HSV.out.lost, HSV.out.built] at hSe
     refine hK.out _ _ ⟨fun _ _ => hSe, ?_⟩; clear hK K; (try simp only [Act.put, qqP])
     refine tr_done ?_
     go_wp2_with fail
     go_meet
     first | exact ⟨F9, HE⟩ | exact ⟨F9, ⟨HE.out.drew⟩⟩
 case rest =>
  obtain ⟨F9, HE⟩ := hcut
  have kk := thirteen (HE.out.get 0 rfl)
  have gz := blk_frozen (HE.out.get 0 rfl)
  have HB2 := Aside0.mk (show nv.built = a.built from HSV.out.built)
  have hbw : nv.built ≤ 8 := by have := HB2.out; omega
  have hbv : 0 ≤ nv.built := by have := HB2.out; omega
  go_wp2
  go_ret
  have hq := HE.out.setb 0 rfl 5 (.int .i64 (nv.built + 1)) rfl
  simp only [qqN] at hq
  have hf := good_built (n := nv.built + 1) ⟨by omega, by have := HB2.out; have := HSV.out.gs; omega⟩ HGV.out
  exact pt_end rfl hf (Bx.ofF (nv := { nv with built := nv.built + 1 }) HEL.out HSV.out.dirty HSV.out.len hq)
end DFail
end Go.Proofs.YtggmifnblcjdfaaGreat
