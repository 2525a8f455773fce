/- Own text: MWSuper ANewV ABox ANewS. -/
import Derived.Test.YtggmifnblcjdfaaGreatXB5
import Derived.Test.YtggmifnblcjdfaaGreatXABun4
import Derived.Laws.BitsLemmas
import Derived.Test.YtggmifnblcjdfaaGreatXB6
import Derived.Test.YtggmifnblcjdfaaGreatXB3
import Derived.Laws.Tables
import Derived.Test.YtggmifnblcjdfaaGreatXB8
import Derived.Test.YtggmifnblcjdfaaGreatXB1
set_option linter.unusedVariables false
set_option linter.unusedSimpArgs false
namespace Go.Proofs.YtggmifnblcjdfaaGreat
namespace MWSuper
open Go.RowKit RJ Go.Proofs.YtggmifnblcjdfaaGreatW.PrintWords Fp FpStep MInt MKinds MRead MMake MPut MVal Go.Proofs.YtggmifnblcjdfaaGreat.Sep SepStep MReadS MSuper MCopy MCopyS MWrite
attribute [local go_sem ↓] Go.wp_at_zero Go.wp_at_succ
def wsupV (m : MemV) (s : SupV) : MemV := if supB s then writeV m (s.gen % 2) (putSup s) else m
end MWSuper
namespace ANewV
open Go.RowKit MInt MKinds MRead MPut MHeld MOk MVal MSuper MWSuper LawLib AKinds AXor AMark
def supN (id n s : Int) (m : Nat) : SupV := ⟨id, 0, m, n, s, 0, -1, 0⟩
def dskI (id n s : Int) (m : Nat) : Nat → MemV
 | 0 => wsupV (newV (6 + s)) (supN id n s m)
 | j + 1 => writeV (dskI id n s m j) (dataV (j : Int)) [0]
def secsS (id n s : Int) (m : Nat) : Nat → List (List Int)
 | 0 => (newV (6 + s)).secs.set 0 (putSup (supN id n s m))
 | j + 1 => (secsS id n s m j).set (dataV (j : Int)).toNat [0]
def dskS (id n s : Int) (m j : Nat) : MemV := ⟨secsS id n s m j, [], false, []⟩
def dskN (id n s : Int) (m : Nat) : MemV := dskS id n s m s.toNat
def memsN (id n s : Int) (i : Nat) : List MemV := (List.range i).map (dskN id n s)
theorem memsN_succ (id n s : Int) (i : Nat) : memsN id n s (i + 1) = memsN id n s i ++ [dskN id n s i] := by simp [memsN, List.range_succ]
theorem memsN_len (id n s : Int) (i : Nat) : (memsN id n s i).length = i := by simp [memsN]
def zeroA : ArrV := ⟨0, 0, 0, [], 0, 0, 0, 0, 0, [], 0, false, false⟩
def partN (id n s : Int) (i : Nat) : ArrV := ⟨id, n, s, memsN id n s i, -1, 0, 0, 0, 0, [], -1, false, false⟩
def newOk (id n s : Int) : Bool := geoB n s && inR id 1 60000
def newR (id n s : Int) : ArrV := if newOk id n s then partN id n s n.toNat else zeroA
section
variable {id n s : Int} {m : Nat}
theorem dataV_nat (j : Nat) (h : j ≤ 1000) : dataV (j : Int) = (j : Int) + 6 := by unfold dataV; rw [if_pos (by simp [inR]; omega)]
theorem secsS_len (hs : 1 ≤ s ∧ s ≤ 8) : ∀ j, (secsS id n s m j).length = (6 + s).toNat
 | 0 => by simp [secsS, newV, inR]; rw [if_pos (by omega)]; simp
 | j + 1 => by rw [secsS, List.length_set, secsS_len hs j]
end
end ANewV
namespace ABox
open Go.RowKit RJ Go.Proofs.YtggmifnblcjdfaaGreatW.PrintWords Fp FpStep MInt MKinds MRead MMake MPut MHeld Go.Proofs.YtggmifnblcjdfaaGreat.Sep SepStep AKinds AMake AEnt ALaw AArr
theorem box13 {w0 w : World} {S : List Nat} {L : List Res} (h : Sep w0 S w L) (i : Nat) {g : Nat} {t : TypeId} {a0 a1 a2 a3 a4 a5 a6 a7 a8 a9 a10 a11 a12 : Value} (hi : L[i]? = some (bx g t #[a0, a1, a2, a3, a4, a5, a6, a7, a8, a9, a10, a11, a12])) (b0 b1 b2 b3 b4 b5 b6 b7 b8 b9 b10 b11 b12 : Value) :
  Sep w0 S (((((((((((((w.setCell ⟨g, 0, none⟩ b0).setCell ⟨g, 1, none⟩ b1).setCell ⟨g, 2, none⟩ b2).setCell ⟨g, 3, none⟩ b3).setCell ⟨g, 4, none⟩ b4).setCell ⟨g, 5, none⟩ b5).setCell ⟨g, 6, none⟩ b6).setCell ⟨g, 7, none⟩ b7).setCell ⟨g, 8, none⟩ b8).setCell ⟨g, 9, none⟩ b9).setCell ⟨g, 10, none⟩ b10).setCell ⟨g, 11, none⟩ b11).setCell ⟨g, 12, none⟩ b12) (L.set i (bx g t #[b0, b1, b2, b3, b4, b5, b6, b7, b8, b9, b10, b11, b12])) := by
 have hl : i < L.length := (List.getElem?_eq_some_iff.1 hi).1
 have h0 := h.setb i (g := g) (t := t) (cs := #[a0, a1, a2, a3, a4, a5, a6, a7, a8, a9, a10, a11, a12]) hi 0 b0 (cs' := #[b0, a1, a2, a3, a4, a5, a6, a7, a8, a9, a10, a11, a12]) rfl
 have h1 := h0.setb i (g := g) (t := t) (cs := #[b0, a1, a2, a3, a4, a5, a6, a7, a8, a9, a10, a11, a12]) (by simp [hl]) 1 b1 (cs' := #[b0, b1, a2, a3, a4, a5, a6, a7, a8, a9, a10, a11, a12]) rfl
 have h2 := h1.setb i (g := g) (t := t) (cs := #[b0, b1, a2, a3, a4, a5, a6, a7, a8, a9, a10, a11, a12]) (by simp [hl]) 2 b2 (cs' := #[b0, b1, b2, a3, a4, a5, a6, a7, a8, a9, a10, a11, a12]) rfl
 have h3 := h2.setb i (g := g) (t := t) (cs := #[b0, b1, b2, a3, a4, a5, a6, a7, a8, a9, a10, a11, a12]) (by simp [hl]) 3 b3 (cs' := #[b0, b1, b2, b3, a4, a5, a6, a7, a8, a9, a10, a11, a12]) rfl
 have h4 := h3.setb i (g := g) (t := t) (cs := #[b0, b1, b2, b3, a4, a5, a6, a7, a8, a9, a10, a11, a12]) (by simp [hl]) 4 b4 (cs' := #[b0, b1, b2, b3, b4, a5, a6, a7, a8, a9, a10, a11, a12]) rfl
 have h5 := h4.setb i (g := g) (t := t) (cs := #[b0, b1, b2, b3, b4, a5, a6, a7, a8, a9, a10, a11, a12]) (by simp [hl]) 5 b5 (cs' := #[b0, b1, b2, b3, b4, b5, a6, a7, a8, a9, a10, a11, a12]) rfl
 have h6 := h5.setb i (g := g) (t := t) (cs := #[b0, b1, b2, b3, b4, b5, a6, a7, a8, a9, a10, a11, a12]) (by simp [hl]) 6 b6 (cs' := #[b0, b1, b2, b3, b4, b5, b6, a7, a8, a9, a10, a11, a12]) rfl
 have h7 := h6.setb i (g := g) (t := t) (cs := #[b0, b1, b2, b3, b4, b5, b6, a7, a8, a9, a10, a11, a12]) (by simp [hl]) 7 b7 (cs' := #[b0, b1, b2, b3, b4, b5, b6, b7, a8, a9, a10, a11, a12]) rfl
 have h8 := h7.setb i (g := g) (t := t) (cs := #[b0, b1, b2, b3, b4, b5, b6, b7, a8, a9, a10, a11, a12]) (by simp [hl]) 8 b8 (cs' := #[b0, b1, b2, b3, b4, b5, b6, b7, b8, a9, a10, a11, a12]) rfl
 have h9 := h8.setb i (g := g) (t := t) (cs := #[b0, b1, b2, b3, b4, b5, b6, b7, b8, a9, a10, a11, a12]) (by simp [hl]) 9 b9 (cs' := #[b0, b1, b2, b3, b4, b5, b6, b7, b8, b9, a10, a11, a12]) rfl
 have h10 := h9.setb i (g := g) (t := t) (cs := #[b0, b1, b2, b3, b4, b5, b6, b7, b8, b9, a10, a11, a12]) (by simp [hl]) 10 b10 (cs' := #[b0, b1, b2, b3, b4, b5, b6, b7, b8, b9, b10, a11, a12]) rfl
 have h11 := h10.setb i (g := g) (t := t) (cs := #[b0, b1, b2, b3, b4, b5, b6, b7, b8, b9, b10, a11, a12]) (by simp [hl]) 11 b11 (cs' := #[b0, b1, b2, b3, b4, b5, b6, b7, b8, b9, b10, b11, a12]) rfl
 have h12 := h11.setb i (g := g) (t := t) (cs := #[b0, b1, b2, b3, b4, b5, b6, b7, b8, b9, b10, b11, a12]) (by simp [hl]) 12 b12 (cs' := #[b0, b1, b2, b3, b4, b5, b6, b7, b8, b9, b10, b11, b12]) rfl
 simpa using h12
theorem pair2 {w : World} {g : Nat} {t : TypeId} {a0 a1 : Value} (h : w.heap[g]? = some (.cells #[a0, a1] t (0, 0))) : w.cell? ⟨g, 0, none⟩ = some a0 ∧ w.cell? ⟨g, 1, none⟩ = some a1 := ⟨(blk_cell h 0).trans rfl, (blk_cell h 1).trans rfl⟩
end ABox
namespace ANewS
open Go.RowKit RJ RP Go.Proofs.YtggmifnblcjdfaaGreatW.PrintWords Fp FpStep MInt MKinds MRead MMake MPut MHeld MOk MSuper Go.Proofs.YtggmifnblcjdfaaGreat.Sep SepStep AKinds AMake AEnt ALaw AArr AOk RQ RPC MVal MWSuper MFail AXor AMark AHole ANewV ABox
set_option maxHeartbeats 8000000 in
set_option maxRecDepth 100000 in
theorem c_specArrNew (id n s : Int) (w : World) :
  Calls Tryz.prog 138 #[.int .i64 id, .agg #[.int .i64 n, .int .i64 s]] w fun e w' => ∃ u F, e = .returned u ∧ New w w' (ar F u (newR id n s)) := by
 have HI := Aside0.mk (((Sep.start w []).alloc (g := w.heap.size) rfl #[.int .i64 n, .int .i64 s] 30).alloc (g := w.heap.size + 1) (by simp) arrZ 34)
 simp only [arrZ] at *
 obtain ⟨b0, b1⟩ := pair2 (HI.out.get 1 rfl)
 obtain ⟨z0, z1, z2, z3, z4, z5, z6, z7, z8, z9, z10, z11, z12⟩ := thirteen (HI.out.get 0 rfl)
 have gz := blk_frozen (HI.out.get 0 rfl)
 by_cases hg : geoB n s = true
 ·by_cases hi : inR id 1 60000 = true
  ·obtain ⟨q1, q2, q3, q4⟩ := geoB_true hg
   have HG := Aside0.mk hg
   have HID := Aside0.mk hi
   clear hg hi
   obtain ⟨k, rfl⟩ : ∃ k : Nat, n = (k : Int) := ⟨n.toNat, by omega⟩
   obtain ⟨q, rfl⟩ : ∃ q : Nat, s = (q : Int) := ⟨s.toNat, by omega⟩
   have HR := Aside0.mk (show newR id k q = partN id k q k by unfold newR newOk; rw [HG.out, HID.out]; simp)
   have HK := Aside0.mk (show 3 ≤ k ∧ k ≤ 5 ∧ 1 ≤ q ∧ q ≤ 8 by omega)
   obtain ⟨L, hL⟩ : ∃ L, L = 6 + q := ⟨_, rfl⟩
   have HL := Aside0.mk hL
   have hL0 : 0 < L := by omega
   have hL1 : (0 : Int) < (L : Int) := by omega
   have HNV := Aside0.mk (show newV (6 + (q : Int)) = ⟨List.replicate L [], [], false, []⟩ by unfold newV; rw [if_pos (by simp [inR]; omega), show (6 + (q : Int)).toNat = L by omega])
   clear hL
   go_enter Tryz.func138, Tryz.ntmps138
   go_upto_region 4 with (first
    | (go_at_call 70; refine (c_l1In _ _ _ _).mono ?_; rw [HID.out]; rintro e w3 ⟨rfl, hb⟩; have HS3 := Aside0.mk (HS2.out.dr hb); clear hb gz b0 b1 z0 z1 z2 z3 z4 z5 z6 z7 z8 z9 z10 z11 z12; obtain ⟨b0, b1⟩ := pair2 (HS3.out.get 1 rfl); obtain ⟨z0, z1, z2, z3, z4, z5, z6, z7, z8, z9, z10, z11, z12⟩ := thirteen (HS3.out.get 0 rfl); have gz := blk_frozen (HS3.out.get 0 rfl))
    | (go_at_call 104; refine (c_specGeoOk _ _ _).mono ?_; rw [HG.out]; rintro e w2 ⟨rfl, hb⟩; have HS2 := Aside0.mk (HI.out.below hb); clear hb gz b0 b1 z0 z1 z2 z3 z4 z5 z6 z7 z8 z9 z10 z11 z12; obtain ⟨b0, b1⟩ := pair2 (HS2.out.get 1 rfl); obtain ⟨z0, z1, z2, z3, z4, z5, z6, z7, z8, z9, z10, z11, z12⟩ := thirteen (HS2.out.get 0 rfl); have gz := blk_frozen (HS2.out.get 0 rfl))
    | fail)
   have hB := (HS3.out.alloc (g := w3.heap.size) rfl #[.int .i64 id, .int .i64 (k : Int), .int .i64 (q : Int), .slice none 0 0, .int .i64 (-1), .int .i64 0, .int .i64 0, .int .i64 0, .int .i64 0, .slice none 0 0, .int .i64 (-1), .bool false, .bool false] 34).nil oMem 89
   have hC := hB.sel [1, 0, 2, 3] (by decide) (by simp)
   simp only [qqN] at hC
   generalize hgz : w3.heap.size = g5 at *
   generalize hww : w3.alloc (.cells #[.int .i64 id, .int .i64 (k : Int), .int .i64 (q : Int), .slice none 0 0, .int .i64 (-1), .int .i64 0, .int .i64 0, .int .i64 0, .int .i64 0, .slice none 0 0, .int .i64 (-1), .bool false, .bool false] 34 (0, 0)) = w4 at *
   have HS4 := Aside0.mk hC
   clear hB hC hgz hww HS3 HS2 gz b0 b1 z0 z1 z2 z3 z4 z5 z6 z7 z8 z9 z10 z11 z12
   go_wp2
   go_loopw [6] (fun v9 wr => ∃ (i : Nat) (A : Option Addr) (cA : Nat) (F : List Nat), i ≤ k ∧ v9 = .int .i64 i ∧ Aside0 (Sep w [] wr [bx g5 34 #[.int .i64 id, .int .i64 (k : Int), .int .i64 (q : Int), .slice A i cA, .int .i64 (-1), .int .i64 0, .int .i64 0, .int .i64 0, .int .i64 0, .slice none 0 0, .int .i64 (-1), .bool false, .bool false], rw_ oMem 89 F (.slice A i cA) (memsN id k q i), bx (w.heap.size + 1) 34 #[.int .i64 0, .int .i64 0, .int .i64 0, .slice none 0 0, .int .i64 0, .int .i64 0, .int .i64 0, .int .i64 0, .int .i64 0, .slice none 0 0, .int .i64 0, .bool false, .bool false], bx w.heap.size 30 #[.int .i64 (k : Int), .int .i64 (q : Int)]])) (fun v9 _ => k - (intOf v9).toNat)
   case atStart => exact ⟨0, none, 0, _, by omega, rfl, HS4⟩
   case round =>
    clear HS4
    obtain ⟨i, A, cA, F, hi, rfl, HRR⟩ := hrel
    obtain ⟨b0, b1⟩ := pair2 (HRR.out.get 3 rfl)
    by_cases hlt : i < k
    ·have i0 : (0 : Int) ≤ (i : Int) := by omega
     have il : (i : Int) < (k : Int) := by omega
     obtain ⟨sup, hsup⟩ : ∃ sup, putSup ⟨id, 0, (i : Int), (k : Int), (q : Int), 0, -1, 0⟩ = sup := ⟨_, rfl⟩
     have HSUP := Aside0.mk hsup
     clear hsup
     go_upto_region 8 with (first
      | (go_at_call 159; refine (c_specMemNew _ _).mono ?_; rw [HNV.out]; rintro e w6 ⟨u6, F6, rfl, hn6⟩; have hs6 := HS5.out.new hn6; obtain ⟨A1, c1, A2, c2, A3, c3, rfl⟩ := me_form hs6; simp only [List.length_nil, List.length_replicate] at hs6; have HS6 := Aside0.mk hs6; clear hs6 hn6)
      | (go_at_call 146; refine (c_specL6Secs _ _ (by omega) (by omega)).mono ?_; rintro e w5 ⟨rfl, hb⟩; have HS5 := Aside0.mk (HRR.out.below hb); clear hb b0 b1)
      | fail)
     skip
     have hB := HS6.out.alloc (g := w6.heap.size) rfl #[.slice A1 L c1, .slice A2 0 c2, .bool false, .slice A3 0 c3] 89
     have hC := hB.sel [1, 0, 2, 3, 4, 5] (by decide) (by simp)
     simp only [qqN] at hC
     obtain ⟨F1, F2, F3, hD⟩ := Sep.ofMemL hC
     simp only at hD
     obtain ⟨h1, cap9, hv9, _, _⟩ := O_form (show oSec.O 28 _ F1 (.slice A1 L c1) (List.replicate L []) from hD.get 0 rfl) (by simp; omega)
     obtain rfl := (Value.slice.inj hv9).1
     clear hv9 hB hC
     generalize hgz : w6.heap.size = g7 at *
     generalize hww : w6.alloc (.cells #[.slice (some ⟨h1, 0, none⟩) L c1, .slice A2 0 c2, .bool false, .slice A3 0 c3] 89 (0, 0)) = w7 at *
     have HS7 := Aside0.mk hD
     clear hD hgz hww HS6 HS5
     obtain ⟨b0, b1⟩ := pair2 (HS7.out.get 7 rfl)
     obtain ⟨m0, m1, m2, m3⟩ := four (HS7.out.get 3 rfl)
     have HALL : ∀ w' : World, Below w7.heap.size w7 w' → (w'.cell? ⟨g7, 0, none⟩ = some (.slice (some ⟨h1, 0, none⟩) L c1) ∧ w'.cell? ⟨w.heap.size, 0, none⟩ = some (.int .i64 (k : Int)) ∧ w'.cell? ⟨w.heap.size, 1, none⟩ = some (.int .i64 (q : Int))) := fun w' hb => ⟨(hb.cell (lt_of_cell m0)).trans m0, (hb.cell (lt_of_cell b0)).trans b0, (hb.cell (lt_of_cell b1)).trans b1⟩
     replace HALL := Aside0.mk HALL
     clear m0 m1 m2 m3 b0 b1
     refine wp_region_seqc (fun w' => Below w7.heap.size w7 w') [11] [(0, 2), (2, 2), (3, 2), (4, 2), (6, 2), (1, 1), (5, 1), (7, 1), (8, 2), (9, 0), (10, 2), (11, 0)] (by kernel_rfl) (by kernel_rfl) ?_
     have hS : Below w7.heap.size w7 w7.drew := Below.drew (Below.refl _ _)
     repeat ((first | (refine seqp_pure rfl (fun _ _ _ h => h) (by rfl) (fun w_ => by go_simp; first | done | with_reducible rfl) ?_) | (refine seqp_take hS rfl (fun _ _ _ h => h) (by rfl) (fun w_ hSw => by have hSc := HALL.out w_ hSw; clear hSw; go_simp; first | done | with_reducible rfl) ?_) | (refine seqp_skip2 rfl (fun _ _ _ h => h) (by rfl) ?_) | (refine seqp_skip1 hS rfl (fun _ _ _ h => h) (by rfl) ?_) | (refine seqp_skip0 rfl (by rfl) ?_)); (try simp only [Act.put, qqP]))
     refine seqp_step rfl (fun K hK => ?_)
     go_simp
     go_at_call 113; refine (c_specPutSuper _ _ _ _ _ _ _ _ _).mono ?_; rw [HSUP.out]; rintro e w8 ⟨u8, F8, rfl, hn8⟩; obtain ⟨A8, c8, rfl, hz8⟩ := O_reads (show oInt.O 3 w8 F8 u8 _ from hn8.lies.now); have hs8 := (HS7.out.below hS).new hn8; have hb := hn8.below; clear hn8 hz8; have HS8 := Aside0.mk hs8; clear hs8
     replace hS := hS.trans (hb.mono hS.size); clear hb; refine hK.out _ _ ⟨fun _ _ => hS, ?_⟩; clear hK K; (try simp only [Act.put, qqP])
     repeat ((first | (refine seqp_pure rfl (fun _ _ _ h => h) (by rfl) (fun w_ => by go_simp; first | done | with_reducible rfl) ?_) | (refine seqp_take hS rfl (fun _ _ _ h => h) (by rfl) (fun w_ hSw => by have hSc := HALL.out w_ hSw; clear hSw; go_simp; first | done | with_reducible rfl) ?_) | (refine seqp_skip2 rfl (fun _ _ _ h => h) (by rfl) ?_) | (refine seqp_skip1 hS rfl (fun _ _ _ h => h) (by rfl) ?_) | (refine seqp_skip0 rfl (by rfl) ?_)); (try simp only [Act.put, qqP]))
     obtain ⟨uu, cc1, cc2⟩ := O_cells (d := oSec) (t := 0) (HS8.out.get 1 rfl) (show 0 < (List.replicate L ([] : List Int)).length by have := HL.out; have := HK.out; simp; omega) (by decide)
     simp only [show oSec.sz = 1 from rfl, Nat.mul_one, Nat.add_zero] at cc1 cc2
     refine seqp_step rfl (fun K hK => ?_)
     go_simp
     refine hK.out _ _ ⟨(fun h => (by cases h)), ?_⟩; clear hK K; (try simp only [Act.put, qqP])
     clear hS HALL
     refine seqp_done ?_
     obtain ⟨F9, hput⟩ := Sep.put (d := oSec) (i := 0) (y := sup) (us := [.slice A8 sup.length c8]) (HS8.out.selT 2 [1, 0] (by decide) (by simp <;> omega)) (by simp; omega) ⟨_, rfl, HS8.out.get 0 rfl⟩
     simp only [qqN, qqT] at hput
     rw [show (List.replicate L ([] : List Int)).set 0 sup = secsS id k q i 0 by rw [secsS, HNV.out, ← HSUP.out]; rfl] at hput
     simp only [show oSec.sz = 1 from rfl, Nat.mul_one] at hput
     have HS9 := Aside0.mk hput
     clear hput cc1 cc2
     go_wp2
     go_loopw [8] (fun v9 wr => ∃ (j : Nat) (F' : List Nat), j ≤ q ∧ v9 = .int .i64 j ∧ Aside0 (Sep w [] wr [rw_ oSec 28 F' (.slice (some ⟨h1, 0, none⟩) L c1) (secsS id k q i j), rw_ oWr 126 F2 (.slice A2 0 c2) [], rw_ oInt 3 F3 (.slice A3 0 c3) [], bx g7 89 #[.slice (some ⟨h1, 0, none⟩) L c1, .slice A2 0 c2, .bool false, .slice A3 0 c3], bx g5 34 #[.int .i64 id, .int .i64 (k : Int), .int .i64 (q : Int), .slice A i cA, .int .i64 (-1), .int .i64 0, .int .i64 0, .int .i64 0, .int .i64 0, .slice none 0 0, .int .i64 (-1), .bool false, .bool false], rw_ oMem 89 F (.slice A i cA) (memsN id k q i), bx (w.heap.size + 1) 34 #[.int .i64 0, .int .i64 0, .int .i64 0, .slice none 0 0, .int .i64 0, .int .i64 0, .int .i64 0, .int .i64 0, .int .i64 0, .slice none 0 0, .int .i64 0, .bool false, .bool false], bx w.heap.size 30 #[.int .i64 (k : Int), .int .i64 (q : Int)]])) (fun v9 _ => q - (intOf v9).toNat)
     case atStart => exact ⟨0, _, by omega, rfl, HS9⟩
     case round =>
      clear HS9 HS8 HS7
      obtain ⟨j, F', hj, rfl, HRI⟩ := hrel
      obtain ⟨b0, b1⟩ := pair2 (HRI.out.get 7 rfl)
      by_cases hjl : j < q
      ·have j0 : (0 : Int) ≤ (j : Int) := by omega
       have jl : (j : Int) < (q : Int) := by omega
       obtain ⟨x, hx⟩ : ∃ x, x = 6 + j := ⟨_, rfl⟩
       have hx0 : (0 : Int) ≤ (x : Int) := by omega
       have hx1 : (x : Int) < (L : Int) := by have := HL.out; omega
       have HXJ := Aside0.mk hx
       obtain ⟨m0, m1, m2, m3⟩ := four (HRI.out.get 3 rfl)
       have HDV := Aside0.mk (show dataV (j : Int) = (x : Int) by rw [dataV_nat j (by omega)]; omega)
       clear hx
       go_upto_region 12 with fail
       refine wp_region_tr (fun w' => w'.cell? ⟨g7, 0, none⟩ = some (.slice (some ⟨h1, 0, none⟩) L c1)) [6] (Tr.p 0 (Tr.p 2 (Tr.t 1 (Tr.alt 3 (Tr.s 4 (Tr.p 5 (Tr.s 6 (Tr.nil)))) (Tr.s 4 (Tr.s 3 (Tr.p 5 (Tr.s 6 (Tr.nil))))))))) (by kernel_rfl) (by kernel_rfl) ?_
       have hS : (fun w' : World => w'.cell? ⟨g7, 0, none⟩ = some (.slice (some ⟨h1, 0, none⟩) L c1)) wr.drew := m0
       clear m0 m1 m2 m3 b0 b1
       have HRD := Aside0.mk HRI.out.drew
       generalize hwd : wr.drew = wd at *
       clear hwd
       iterate 2 (refine tr_pure rfl (fun _ _ _ h => h) (by rfl) (fun w_ => by go_simp; first | done | with_reducible rfl) ?_; (try simp only [Act.put, qqP]))
       iterate 1 (refine tr_take hS rfl (fun _ _ _ h => h) (by rfl) (fun w_ hSw => by (try dsimp only at hSw); go_simp; first | done | with_reducible rfl) ?_; (try simp only [Act.put, qqP]))
       refine tr_two ?_ ?_
       ·refine tr_step rfl (fun K hK => ?_)
        go_simp
        go_at_call 97; refine (c_specDataAt (j : Int) _).mono ?_; rw [HDV.out]; rintro e w5 ⟨rfl, hd5⟩
        have HS5 := Aside0.mk (HRD.out.dr hd5)
        clear hd5
        have hSn := (four (HS5.out.get 3 rfl)).1
        clear hS
        refine hK.out _ _ ⟨fun _ _ => hSn, ?_⟩; clear hK K; (try simp only [Act.put, qqP])
        have hS := hSn
        clear hSn
        refine tr_step rfl (fun K hK => ?_)
        go_simp
        have HS6 := Aside0.mk (new_lit HS5.out rfl 3 #[.int .i64 0] (l := [0]) (n := 1) rfl rfl (by decide))
        generalize hwl : World.alloc w5 (.cells #[.int .i64 0] 3 (0, 0)) = w6 at *
        clear hwl
        have hSn := (four (HS6.out.get 4 rfl)).1
        clear hS
        refine hK.out _ _ ⟨fun _ _ => hSn, ?_⟩; clear hK K; (try simp only [Act.put, qqP])
        have hS := hSn
        clear hSn
        iterate 1 (refine tr_pure rfl (fun _ _ _ h => h) (by rfl) (fun w_ => by go_simp; first | done | with_reducible rfl) ?_; (try simp only [Act.put, qqP]))
        obtain ⟨uu, cc1, cc2⟩ := O_cells (d := oSec) (t := 0) (HS6.out.get 1 rfl) (show x < (secsS id k q i j).length by rw [secsS_len (by have := HK.out; omega)]; have := HL.out; have := HXJ.out; omega) (by decide)
        simp only [show oSec.sz = 1 from rfl, Nat.mul_one, Nat.add_zero] at cc1 cc2
        refine tr_step rfl (fun K hK => ?_)
        go_simp
        refine hK.out _ _ ⟨(fun h => (by cases h)), ?_⟩; clear hK K; (try simp only [Act.put, qqP])
        refine tr_done ?_
        go_wp2
        go_roundw
        case rel =>
         obtain ⟨F9, hput⟩ := Sep.put (d := oSec) (i := x) (y := [0]) (us := [.slice (some ⟨_, 0, none⟩) 1 1]) (HS6.out.selT 2 [1, 0] (by decide) (by simp <;> omega)) (by rw [secsS_len (by have := HK.out; omega)]; have := HL.out; have := HXJ.out; omega) ⟨_, rfl, HS6.out.get 0 rfl⟩
         simp only [qqN, qqT] at hput
         simp only [show oSec.sz = 1 from rfl, Nat.mul_one] at hput
         rw [show (secsS id k q i j).set x [0] = secsS id k q i (j + 1) by rw [secsS, HDV.out]; rfl] at hput
         exact ⟨j + 1, F9, by omega, by go_num, ⟨hput⟩⟩
        case measure => simp [intOf]; omega
       ·refine tr_step rfl (fun K hK => ?_)
        go_simp
        have HS5 := Aside0.mk (new_lit HRD.out rfl 3 #[.int .i64 0] (l := [0]) (n := 1) rfl rfl (by decide))
        generalize hwl : World.alloc wd (.cells #[.int .i64 0] 3 (0, 0)) = w6 at *
        clear hwl
        have hSn := (four (HS5.out.get 4 rfl)).1
        clear hS
        refine hK.out _ _ ⟨fun _ _ => hSn, ?_⟩; clear hK K; (try simp only [Act.put, qqP])
        have hS := hSn
        clear hSn
        refine tr_step rfl (fun K hK => ?_)
        go_simp
        go_at_call 97; refine (c_specDataAt (j : Int) _).mono ?_; rw [HDV.out]; rintro e w5 ⟨rfl, hd5⟩
        have HS6 := Aside0.mk (HS5.out.dr hd5)
        clear hd5
        have hSn := (four (HS6.out.get 4 rfl)).1
        clear hS
        refine hK.out _ _ ⟨fun _ _ => hSn, ?_⟩; clear hK K; (try simp only [Act.put, qqP])
        have hS := hSn
        clear hSn
        iterate 1 (refine tr_pure rfl (fun _ _ _ h => h) (by rfl) (fun w_ => by go_simp; first | done | with_reducible rfl) ?_; (try simp only [Act.put, qqP]))
        obtain ⟨uu, cc1, cc2⟩ := O_cells (d := oSec) (t := 0) (HS6.out.get 1 rfl) (show x < (secsS id k q i j).length by rw [secsS_len (by have := HK.out; omega)]; have := HL.out; have := HXJ.out; omega) (by decide)
        simp only [show oSec.sz = 1 from rfl, Nat.mul_one, Nat.add_zero] at cc1 cc2
        refine tr_step rfl (fun K hK => ?_)
        go_simp
        refine hK.out _ _ ⟨(fun h => (by cases h)), ?_⟩; clear hK K; (try simp only [Act.put, qqP])
        refine tr_done ?_
        go_wp2
        go_roundw
        case rel =>
         obtain ⟨F9, hput⟩ := Sep.put (d := oSec) (i := x) (y := [0]) (us := [.slice (some ⟨_, 0, none⟩) 1 1]) (HS6.out.selT 2 [1, 0] (by decide) (by simp <;> omega)) (by rw [secsS_len (by have := HK.out; omega)]; have := HL.out; have := HXJ.out; omega) ⟨_, rfl, HS6.out.get 0 rfl⟩
         simp only [qqN, qqT] at hput
         simp only [show oSec.sz = 1 from rfl, Nat.mul_one] at hput
         rw [show (secsS id k q i j).set x [0] = secsS id k q i (j + 1) by rw [secsS, HDV.out]; rfl] at hput
         exact ⟨j + 1, F9, by omega, by go_num, ⟨hput⟩⟩
        case measure => simp [intOf]; omega
      ·obtain rfl : j = q := by omega
       have hM := Sep.toMem (m := dskN id k j i) HRI.out
       have hC := hM.sel [3, 0, 1, 2, 4, 5] (by decide) (by simp)
       simp only [qqN] at hC
       have HM := Aside0.mk hC
       clear hM hC HRI
       obtain ⟨m0, m1, m2, m3⟩ := four (HM.out.get 2 rfl)
       obtain ⟨a0_, a1_, a2_, a3_, a4_, a5_, a6_, a7_, a8_, a9_, a10_, a11_, a12_⟩ := thirteen (HM.out.get 3 rfl)
       go_wp2_with (first
        | (at_builtin; (refine app_one (d := oMem) (y := dskN id k j i) HM.out rfl _ _ 31 (.agg #[.slice none 0 0, .slice none 0 0, .bool false, .slice none 0 0]) 80 (by rfl) Tryz.underlying31 (by kernel_rfl) rfl (by decide) (by decide) [.slice (some ⟨h1, 0, none⟩) L c1, .slice A2 0 c2, .bool false, .slice A3 0 c3] (oMem_M.2 (HM.out.get 1 rfl)) (by rfl) (by rfl) rfl (n := i) (memsN_len _ _ _ _) (by have := HK.out; omega) ?_); intro A3' c3' w3' F3' hs3; have HN := Aside0.mk hs3; clear hs3 m0 m1 m2 m3 a0_ a1_ a2_ a3_ a4_ a5_ a6_ a7_ a8_ a9_ a10_ a11_ a12_; obtain ⟨a0_, a1_, a2_, a3_, a4_, a5_, a6_, a7_, a8_, a9_, a10_, a11_, a12_⟩ := thirteen (HN.out.get 2 rfl); have gz := blk_frozen (HN.out.get 2 rfl))
        | fail)
       go_roundw
       case rel =>
        have hB := HN.out.setb 2 rfl 3 (.slice A3' (i + 1) c3') (cs' := #[.int .i64 id, .int .i64 (k : Int), .int .i64 (j : Int), .slice A3' (i + 1) c3', .int .i64 (-1), .int .i64 0, .int .i64 0, .int .i64 0, .int .i64 0, .slice none 0 0, .int .i64 (-1), .bool false, .bool false]) rfl
        simp only [qqN] at hB
        have hC := hB.sel [2, 0, 3, 4] (by decide) (by simp)
        simp only [qqN] at hC
        rw [← memsN_succ] at hC
        exact ⟨i + 1, A3', c3', F3', by omega, by go_num, ⟨hC⟩⟩
       case measure => simp [intOf]; omega
    ·obtain rfl : i = k := by omega
     obtain ⟨a0_, a1_, a2_, a3_, a4_, a5_, a6_, a7_, a8_, a9_, a10_, a11_, a12_⟩ := thirteen (HRR.out.get 0 rfl)
     obtain ⟨z0, z1, z2, z3, z4, z5, z6, z7, z8, z9, z10, z11, z12⟩ := thirteen (HRR.out.get 2 rfl)
     have gz := blk_frozen (HRR.out.get 2 rfl)
     go_wp2
     have HE := box13 HRR.out 2 rfl (.int .i64 id) (.int .i64 (i : Int)) (.int .i64 (q : Int)) (.slice A i cA) (.int .i64 (-1)) (.int .i64 0) (.int .i64 0) (.int .i64 0) (.int .i64 0) (.slice none 0 0) (.int .i64 (-1)) (.bool false) (.bool false)
     simp only [qqN] at HE
     refine bodyPost_ret (results_cell_row rfl _ _ (w.heap.size + 1) 34 #[.int .i64 id, .int .i64 (i : Int), .int .i64 (q : Int), .slice A i cA, .int .i64 (-1), .int .i64 0, .int .i64 0, .int .i64 0, .int .i64 0, .slice none 0 0, .int .i64 (-1), .bool false, .bool false] (0, 0) _ rfl (HE.get 2 rfl) Tryz.underlying34 rfl (by kernel_rfl)) rfl ?_
     rw [HR.out]
     have hB := (HE.nil oWr 91).sel [2, 0] (by decide) (by simp)
     simp only [qqN] at hB
     exact ⟨_, _, rfl, (Sep.toArr (a := partN id i q i) hB).toNew 0 rfl⟩
  ·have HG := Aside0.mk hg
   clear hg
   have HID := Aside0.mk (show inR id 1 60000 = false by simpa using hi)
   clear hi
   have HR := Aside0.mk (show newR id n s = zeroA by unfold newR newOk; rw [HG.out, HID.out]; rfl)
   go_enter Tryz.func138, Tryz.ntmps138
   go_wp2_with (first
    | (go_at_call 70; refine (c_l1In _ _ _ _).mono ?_; rw [HID.out]; rintro e w3 ⟨rfl, hb⟩; have HS3 := Aside0.mk (HS2.out.dr hb); clear hb gz b0 b1 z0 z1 z2 z3 z4 z5 z6 z7 z8 z9 z10 z11 z12; obtain ⟨b0, b1⟩ := pair2 (HS3.out.get 1 rfl); obtain ⟨z0, z1, z2, z3, z4, z5, z6, z7, z8, z9, z10, z11, z12⟩ := thirteen (HS3.out.get 0 rfl); have gz := blk_frozen (HS3.out.get 0 rfl))
    | (go_at_call 104; refine (c_specGeoOk _ _ _).mono ?_; rw [HG.out]; rintro e w2 ⟨rfl, hb⟩; have HS2 := Aside0.mk (HI.out.below hb); clear hb gz b0 b1 z0 z1 z2 z3 z4 z5 z6 z7 z8 z9 z10 z11 z12; obtain ⟨b0, b1⟩ := pair2 (HS2.out.get 1 rfl); obtain ⟨z0, z1, z2, z3, z4, z5, z6, z7, z8, z9, z10, z11, z12⟩ := thirteen (HS2.out.get 0 rfl); have gz := blk_frozen (HS2.out.get 0 rfl))
    | fail)
   have HE := box13 HS3.out 0 rfl (.int .i64 0) (.int .i64 0) (.int .i64 0) (.slice none 0 0) (.int .i64 0) (.int .i64 0) (.int .i64 0) (.int .i64 0) (.int .i64 0) (.slice none 0 0) (.int .i64 0) (.bool false) (.bool false)
   simp only [qqN] at HE
   refine bodyPost_ret (results_cell_row rfl _ _ (w.heap.size + 1) 34 #[.int .i64 0, .int .i64 0, .int .i64 0, .slice none 0 0, .int .i64 0, .int .i64 0, .int .i64 0, .int .i64 0, .int .i64 0, .slice none 0 0, .int .i64 0, .bool false, .bool false] (0, 0) _ rfl (HE.get 0 rfl) Tryz.underlying34 rfl (by kernel_rfl)) rfl ?_
   rw [HR.out]
   exact ⟨_, _, rfl, (Sep.toArr (a := zeroA) (((HE.nil oWr 91).nil oMem 89).sel [0, 1] (by decide) (by simp))).toNew 0 rfl⟩
 ·have HG := Aside0.mk (show geoB n s = false by simpa using hg)
  clear hg
  have HR := Aside0.mk (show newR id n s = zeroA by unfold newR newOk; rw [HG.out]; rfl)
  go_enter Tryz.func138, Tryz.ntmps138
  go_wp2_with (first
   | (go_at_call 104; refine (c_specGeoOk _ _ _).mono ?_; rw [HG.out]; rintro e w2 ⟨rfl, hb⟩; have HS2 := Aside0.mk (HI.out.below hb); clear hb gz b0 b1 z0 z1 z2 z3 z4 z5 z6 z7 z8 z9 z10 z11 z12; obtain ⟨b0, b1⟩ := pair2 (HS2.out.get 1 rfl); obtain ⟨z0, z1, z2, z3, z4, z5, z6, z7, z8, z9, z10, z11, z12⟩ := thirteen (HS2.out.get 0 rfl); have gz := blk_frozen (HS2.out.get 0 rfl))
   | fail)
  have HE := box13 HS2.out 0 rfl (.int .i64 0) (.int .i64 0) (.int .i64 0) (.slice none 0 0) (.int .i64 0) (.int .i64 0) (.int .i64 0) (.int .i64 0) (.int .i64 0) (.slice none 0 0) (.int .i64 0) (.bool false) (.bool false)
  simp only [qqN] at HE
  refine bodyPost_ret (results_cell_row rfl _ _ (w.heap.size + 1) 34 #[.int .i64 0, .int .i64 0, .int .i64 0, .slice none 0 0, .int .i64 0, .int .i64 0, .int .i64 0, .int .i64 0, .int .i64 0, .slice none 0 0, .int .i64 0, .bool false, .bool false] (0, 0) _ rfl (HE.get 0 rfl) Tryz.underlying34 rfl (by kernel_rfl)) rfl ?_
  rw [HR.out]
  exact ⟨_, _, rfl, (Sep.toArr (a := zeroA) (((HE.nil oWr 91).nil oMem 89).sel [0, 1] (by decide) (by simp))).toNew 0 rfl⟩
end ANewS
end Go.Proofs.YtggmifnblcjdfaaGreat
