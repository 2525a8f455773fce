/- Own text: AOkD. -/
import Derived.Test.YtggmifnblcjdfaaGreatXB5
set_option linter.unusedVariables false
set_option linter.unusedSimpArgs false
namespace Go.Proofs.YtggmifnblcjdfaaGreat
namespace AOkD
open Go.RowKit RJ RP Go.Proofs.YtggmifnblcjdfaaGreatW.PrintWords Fp FpStep MInt MKinds MRead MMake MPut MHeld MOk MSuper Go.Proofs.YtggmifnblcjdfaaGreat.Sep SepStep AKinds AMake AEnt ALaw AArr AOk
def okE (a : ArrV) (j : Nat) (e : Int × List Int) : Bool := inR e.1 0 (a.gs - 1) && (decide ((e.2.length : Int) = a.gn - 1) && (e.2.all isW && (decide (j = 0) || decide ((a.dirty.getD (j - 1) (0, [])).1 < e.1))))
def dirtyB (a : ArrV) : Bool := allIx a.dirty (okE a)
theorem two_cells {w : World} {g : Nat} {t : TypeId} {a0 a1 : Value} (h : w.heap[g]? = some (.cells #[a0, a1] t (0, 0))) : w.cell? ⟨g, 0, none⟩ = some a0 ∧ w.cell? ⟨g, 1, none⟩ = some a1 := ⟨(blk_cell h 0).trans rfl, (blk_cell h 1).trans rfl⟩
set_option maxHeartbeats 8000000 in
set_option maxRecDepth 100000 in
theorem c_specL6Dirty {w : World} {v : Value} {a : ArrV} (h : ArrR w v a) (hs : 0 ≤ a.gs ∧ a.gs ≤ 1000) (hn : 0 ≤ a.gn ∧ a.gn ≤ 1000) :
  Calls Tryz.prog 106 #[v] w fun e w' => e = .returned (.bool (dirtyB a)) ∧ Below w.heap.size w w' := by
 obtain ⟨vm, vd, rfl, r1, r2⟩ := h
 have ld := RK_len r2
 obtain ⟨A1, c1, rfl, hl1, _⟩ := id r2
 have R2 := Aside0.mk r2
 have wgs : IntKind.i64.wrap (a.gs - 1) = a.gs - 1 := IntWalk.i64_in _ (by omega)
 have wgn : IntKind.i64.wrap (a.gn - 1) = a.gn - 1 := IntWalk.i64_in _ (by omega)
 clear r1 r2 hl1 hs hn
 have H0 := Aside0.mk ((Sep.start w []).alloc (g := w.heap.size) rfl (arrC a vm (.slice A1 a.dirty.length c1)) 34)
 obtain ⟨id, gn, gs, mems, lost, built, seq, tail, gen, dirty, fuse, down, broken⟩ := a
 simp only [arrC] at *
 go_enter Tryz.func106, Tryz.ntmps106
 go_wp2
 go_loopw [3] (fun v3 wr => ∃ i : Nat, i ≤ dirty.length ∧ v3 = .int .i64 i ∧ Aside0 (∀ j y, j < i → dirty[j]? = some y → okE (⟨id, gn, gs, mems, lost, built, seq, tail, gen, dirty, fuse, down, broken⟩ : ArrV) j y = true) ∧ Aside0 (Sep w [] wr [bx w.heap.size 34 #[.int .i64 id, .int .i64 gn, .int .i64 gs, vm, .int .i64 lost, .int .i64 built, .int .i64 seq, .int .i64 tail, .int .i64 gen, .slice A1 dirty.length c1, .int .i64 fuse, .bool down, .bool broken]])) (fun v3 _ => dirty.length - (intOf v3).toNat)
 case atStart => exact ⟨0, by omega, rfl, ⟨fun j y hj => by omega⟩, H0⟩
 case round =>
  clear H0
  obtain ⟨i, hi, rfl, ht, HR⟩ := hrel
  obtain ⟨k0, k1, k2, k3, k4, k5, k6, k7, k8, k9, k10, k11, k12⟩ := thirteen (HR.out.get 0 rfl)
  by_cases hlt : i < dirty.length
  ·obtain ⟨⟨n, xs⟩, hxi⟩ : ∃ x, dirty[i]? = some x := ⟨_, List.getElem?_eq_getElem hlt⟩
   obtain ⟨ad, cap, ha, hc⟩ := RK_wrs R2.out (by omega)
   obtain rfl := (Value.slice.inj ha).1
   obtain ⟨u, cn, cu, ru⟩ := hc i (n, xs) hxi
   have lu := RK_len ru
   have ru9 := ru
   obtain ⟨U, uc, rfl, hu1, _⟩ := ru9
   simp only at cn cu ru lu
   replace cn := HR.out.old cn
   replace cu := HR.out.old cu
   have RU := Aside0.mk ru
   have Hxi := Aside0.mk hxi
   have HC := Aside0.mk hc
   have i0 : (0 : Int) ≤ (i : Int) := by omega
   have i1 : (i : Int) < (dirty.length : Int) := by omega
   clear ha hc ru hxi hu1
   go_upto_region 5 with fail
   have hB := HR.out.alloc (g := wr.heap.size) rfl #[.int .i64 n, .slice U xs.length uc] 91
   generalize hgg : wr.heap.size = gm at *
   generalize hww : wr.alloc (.cells #[.int .i64 n, .slice U xs.length uc] 91 (0, 0)) = wm at *
   have Hm := Aside0.mk hB
   clear hB hgg hww cn cu HR k0 k1 k2 k3 k4 k5 k6 k7 k8 k9 k10 k11 k12
   obtain ⟨m0, m1⟩ := two_cells (Hm.out.get 0 rfl)
   obtain ⟨k0, k1, k2, k3, k4, k5, k6, k7, k8, k9, k10, k11, k12⟩ := thirteen (Hm.out.get 1 rfl)
   by_cases hin : inR n 0 (gs - 1) = true
   ·have HIN := Aside0.mk hin
    clear hin
    by_cases hln : (xs.length : Int) = gn - 1
    ·have HLN := Aside0.mk hln
     have hne : ((xs.length : Int) != gn - 1) = false := by simp [hln]
     clear hln
     by_cases hw : xs.all isW = true
     ·have HW := Aside0.mk hw
      clear hw
      by_cases h0 : i = 0
      ·have HZ := Aside0.mk h0
       have hz : decide (0 < i) = false := by rw [decide_eq_false_iff_not]; omega
       clear h0
       go_wp2
       refine wp_region_seqp (fun w' => w'.cell? ⟨gm, 0, none⟩ = some (.int .i64 n) ∧ w'.cell? ⟨gm, 1, none⟩ = some (.slice U xs.length uc) ∧ w'.cell? ⟨w.heap.size, 0, none⟩ = some (.int .i64 id) ∧ w'.cell? ⟨w.heap.size, 1, none⟩ = some (.int .i64 gn) ∧ w'.cell? ⟨w.heap.size, 2, none⟩ = some (.int .i64 gs) ∧ w'.cell? ⟨w.heap.size, 3, none⟩ = some (vm) ∧ w'.cell? ⟨w.heap.size, 4, none⟩ = some (.int .i64 lost) ∧ w'.cell? ⟨w.heap.size, 5, none⟩ = some (.int .i64 built) ∧ w'.cell? ⟨w.heap.size, 6, none⟩ = some (.int .i64 seq) ∧ w'.cell? ⟨w.heap.size, 7, none⟩ = some (.int .i64 tail) ∧ w'.cell? ⟨w.heap.size, 8, none⟩ = some (.int .i64 gen) ∧ w'.cell? ⟨w.heap.size, 9, none⟩ = some (.slice (some ad) dirty.length c1) ∧ w'.cell? ⟨w.heap.size, 10, none⟩ = some (.int .i64 fuse) ∧ w'.cell? ⟨w.heap.size, 11, none⟩ = some (.bool down) ∧ w'.cell? ⟨w.heap.size, 12, none⟩ = some (.bool broken)) [] [(0, 2), (2, 2), (3, 2), (1, 1), (4, 1), (5, 2), (6, 0), (7, 2), (8, 2), (9, 2), (12, 2), (13, 2), (10, 1), (11, 2), (14, 1), (15, 2), (16, 2), (17, 2), (18, 2), (19, 2), (20, 1), (21, 0), (22, 2), (23, 2), (24, 2), (25, 2), (26, 2), (27, 2), (28, 2), (30, 2), (31, 2), (35, 2), (29, 1), (32, 2), (33, 2), (34, 1), (36, 1), (37, 2), (38, 2), (39, 2)] (by kernel_rfl) (by kernel_rfl) ?_
       have hS : (fun w' : World => w'.cell? ⟨gm, 0, none⟩ = some (.int .i64 n) ∧ w'.cell? ⟨gm, 1, none⟩ = some (.slice U xs.length uc) ∧ w'.cell? ⟨w.heap.size, 0, none⟩ = some (.int .i64 id) ∧ w'.cell? ⟨w.heap.size, 1, none⟩ = some (.int .i64 gn) ∧ w'.cell? ⟨w.heap.size, 2, none⟩ = some (.int .i64 gs) ∧ w'.cell? ⟨w.heap.size, 3, none⟩ = some (vm) ∧ w'.cell? ⟨w.heap.size, 4, none⟩ = some (.int .i64 lost) ∧ w'.cell? ⟨w.heap.size, 5, none⟩ = some (.int .i64 built) ∧ w'.cell? ⟨w.heap.size, 6, none⟩ = some (.int .i64 seq) ∧ w'.cell? ⟨w.heap.size, 7, none⟩ = some (.int .i64 tail) ∧ w'.cell? ⟨w.heap.size, 8, none⟩ = some (.int .i64 gen) ∧ w'.cell? ⟨w.heap.size, 9, none⟩ = some (.slice (some ad) dirty.length c1) ∧ w'.cell? ⟨w.heap.size, 10, none⟩ = some (.int .i64 fuse) ∧ w'.cell? ⟨w.heap.size, 11, none⟩ = some (.bool down) ∧ w'.cell? ⟨w.heap.size, 12, none⟩ = some (.bool broken)) wm.drew := ⟨m0, m1, k0, k1, k2, k3, k4, k5, k6, k7, k8, k9, k10, k11, k12⟩
       repeat ((first | (refine seqp_pure rfl (fun _ _ _ h => h) (by rfl) (fun w_ => by go_simp; first | done | with_reducible rfl) ?_) | (refine seqp_take hS rfl (fun _ _ _ h => h) (by rfl) (fun w_ hSw => by (try dsimp only at hSw); go_simp; first | done | with_reducible rfl) ?_) | (refine seqp_skip2 rfl (fun _ _ _ h => h) (by rfl) ?_) | (refine seqp_skip1 hS rfl (fun _ _ _ h => h) (by rfl) ?_) | (refine seqp_skip0 rfl (by rfl) ?_)); (try simp only [Act.put, qqP]))
       refine seqp_step rfl (fun K hK => ?_)
       go_simp
       go_at_call 70; refine (c_l1In _ _ _ _).mono ?_; rw [HIN.out]; rintro e w3 ⟨rfl, hb⟩
       have H3 := Aside0.mk (Hm.out.drew.dr hb)
       clear hb
       clear hS m0 m1 k0 k1 k2 k3 k4 k5 k6 k7 k8 k9 k10 k11 k12
       obtain ⟨m0, m1⟩ := two_cells (H3.out.get 0 rfl)
       obtain ⟨k0, k1, k2, k3, k4, k5, k6, k7, k8, k9, k10, k11, k12⟩ := thirteen (H3.out.get 1 rfl)
       have hS : (fun w' : World => w'.cell? ⟨gm, 0, none⟩ = some (.int .i64 n) ∧ w'.cell? ⟨gm, 1, none⟩ = some (.slice U xs.length uc) ∧ w'.cell? ⟨w.heap.size, 0, none⟩ = some (.int .i64 id) ∧ w'.cell? ⟨w.heap.size, 1, none⟩ = some (.int .i64 gn) ∧ w'.cell? ⟨w.heap.size, 2, none⟩ = some (.int .i64 gs) ∧ w'.cell? ⟨w.heap.size, 3, none⟩ = some (vm) ∧ w'.cell? ⟨w.heap.size, 4, none⟩ = some (.int .i64 lost) ∧ w'.cell? ⟨w.heap.size, 5, none⟩ = some (.int .i64 built) ∧ w'.cell? ⟨w.heap.size, 6, none⟩ = some (.int .i64 seq) ∧ w'.cell? ⟨w.heap.size, 7, none⟩ = some (.int .i64 tail) ∧ w'.cell? ⟨w.heap.size, 8, none⟩ = some (.int .i64 gen) ∧ w'.cell? ⟨w.heap.size, 9, none⟩ = some (.slice (some ad) dirty.length c1) ∧ w'.cell? ⟨w.heap.size, 10, none⟩ = some (.int .i64 fuse) ∧ w'.cell? ⟨w.heap.size, 11, none⟩ = some (.bool down) ∧ w'.cell? ⟨w.heap.size, 12, none⟩ = some (.bool broken)) w3 := ⟨m0, m1, k0, k1, k2, k3, k4, k5, k6, k7, k8, k9, k10, k11, k12⟩
       refine hK.out _ _ ⟨fun _ _ => hS, ?_⟩; clear hK K; (try simp only [Act.put, qqP])
       repeat ((first | (refine seqp_pure rfl (fun _ _ _ h => h) (by rfl) (fun w_ => by go_simp; first | done | with_reducible rfl) ?_) | (refine seqp_take hS rfl (fun _ _ _ h => h) (by rfl) (fun w_ hSw => by (try dsimp only at hSw); go_simp; first | done | with_reducible rfl) ?_) | (refine seqp_skip2 rfl (fun _ _ _ h => h) (by rfl) ?_) | (refine seqp_skip1 hS rfl (fun _ _ _ h => h) (by rfl) ?_) | (refine seqp_skip0 rfl (by rfl) ?_)); (try simp only [Act.put, qqP]))
       refine seqp_step rfl (fun K hK => ?_)
       go_simp
       go_at_call 69; refine (c_l1Words (RK_below RU.out H3.out.toBelow)).mono ?_; rw [HW.out]; rintro e w4 ⟨rfl, hb⟩
       have H4 := Aside0.mk (H3.out.dr hb)
       clear hb
       clear hS m0 m1 k0 k1 k2 k3 k4 k5 k6 k7 k8 k9 k10 k11 k12
       obtain ⟨m0, m1⟩ := two_cells (H4.out.get 0 rfl)
       obtain ⟨k0, k1, k2, k3, k4, k5, k6, k7, k8, k9, k10, k11, k12⟩ := thirteen (H4.out.get 1 rfl)
       have hS : (fun w' : World => w'.cell? ⟨gm, 0, none⟩ = some (.int .i64 n) ∧ w'.cell? ⟨gm, 1, none⟩ = some (.slice U xs.length uc) ∧ w'.cell? ⟨w.heap.size, 0, none⟩ = some (.int .i64 id) ∧ w'.cell? ⟨w.heap.size, 1, none⟩ = some (.int .i64 gn) ∧ w'.cell? ⟨w.heap.size, 2, none⟩ = some (.int .i64 gs) ∧ w'.cell? ⟨w.heap.size, 3, none⟩ = some (vm) ∧ w'.cell? ⟨w.heap.size, 4, none⟩ = some (.int .i64 lost) ∧ w'.cell? ⟨w.heap.size, 5, none⟩ = some (.int .i64 built) ∧ w'.cell? ⟨w.heap.size, 6, none⟩ = some (.int .i64 seq) ∧ w'.cell? ⟨w.heap.size, 7, none⟩ = some (.int .i64 tail) ∧ w'.cell? ⟨w.heap.size, 8, none⟩ = some (.int .i64 gen) ∧ w'.cell? ⟨w.heap.size, 9, none⟩ = some (.slice (some ad) dirty.length c1) ∧ w'.cell? ⟨w.heap.size, 10, none⟩ = some (.int .i64 fuse) ∧ w'.cell? ⟨w.heap.size, 11, none⟩ = some (.bool down) ∧ w'.cell? ⟨w.heap.size, 12, none⟩ = some (.bool broken)) w4 := ⟨m0, m1, k0, k1, k2, k3, k4, k5, k6, k7, k8, k9, k10, k11, k12⟩
       refine hK.out _ _ ⟨fun _ _ => hS, ?_⟩; clear hK K; (try simp only [Act.put, qqP])
       repeat ((first | (refine seqp_pure rfl (fun _ _ _ h => h) (by rfl) (fun w_ => by go_simp; first | done | with_reducible rfl) ?_) | (refine seqp_take hS rfl (fun _ _ _ h => h) (by rfl) (fun w_ hSw => by (try dsimp only at hSw); go_simp; first | done | with_reducible rfl) ?_) | (refine seqp_skip2 rfl (fun _ _ _ h => h) (by rfl) ?_) | (refine seqp_skip1 hS rfl (fun _ _ _ h => h) (by rfl) ?_) | (refine seqp_skip0 rfl (by rfl) ?_)); (try simp only [Act.put, qqP]))
       clear hS
       refine seqp_done ?_
       go_simp
       go_wp2
       go_roundw
       case rel => exact ⟨i + 1, by omega, by go_num, ⟨ix_next ht.out Hxi.out (by unfold okE; simp only; rw [HIN.out, decide_eq_true HLN.out, HW.out, decide_eq_true HZ.out]; rfl)⟩, ⟨by have hB := H4.out.sel [1] (by decide) (by simp); simp only [qqN] at hB; exact hB⟩⟩
       case measure => simp [intOf]; omega
      ·obtain ⟨p, hp⟩ : ∃ p : Nat, i = p + 1 := ⟨i - 1, by omega⟩
       obtain ⟨⟨y, ys⟩, hyi⟩ : ∃ y, dirty[p]? = some y := ⟨_, List.getElem?_eq_getElem (by omega)⟩
       obtain ⟨u2, cy, _, _⟩ := HC.out p (y, ys) hyi
       have hgd : (dirty.getD (i - 1) (0, [])).1 = y := by rw [hp, Nat.add_sub_cancel, List.getD_eq_getElem?_getD, hyi]; rfl
       have CY := Aside0.mk (show ∀ {L : List Res} (W : World), Sep w [] W L → W.cell? (ad.add (p * 2)) = some (.int .i64 y) from fun W h => h.old cy)
       clear cy
       have cy := CY.out _ Hm.out
       have hz : decide (0 < i) = true := by rw [decide_eq_true_eq]; omega
       have p0 : (0 : Int) ≤ (p : Int) := Int.natCast_nonneg _
       have p1 : (p : Int) < (dirty.length : Int) := by omega
       have ws2 : IntKind.i64.wrap ((i : Int) - 1) = (p : Int) := by rw [IntWalk.i64_in _ (by omega)]; omega
       have HGD := Aside0.mk hgd
       clear hgd hyi
       by_cases hyx : y < n
       ·have hge : decide (n ≤ y) = false := by rw [decide_eq_false_iff_not]; omega
        have HYX := Aside0.mk hyx
        clear h0 hp hyx
        go_wp2
        refine wp_region_seqp (fun w' => w'.cell? ⟨gm, 0, none⟩ = some (.int .i64 n) ∧ w'.cell? ⟨gm, 1, none⟩ = some (.slice U xs.length uc) ∧ w'.cell? ⟨w.heap.size, 0, none⟩ = some (.int .i64 id) ∧ w'.cell? ⟨w.heap.size, 1, none⟩ = some (.int .i64 gn) ∧ w'.cell? ⟨w.heap.size, 2, none⟩ = some (.int .i64 gs) ∧ w'.cell? ⟨w.heap.size, 3, none⟩ = some (vm) ∧ w'.cell? ⟨w.heap.size, 4, none⟩ = some (.int .i64 lost) ∧ w'.cell? ⟨w.heap.size, 5, none⟩ = some (.int .i64 built) ∧ w'.cell? ⟨w.heap.size, 6, none⟩ = some (.int .i64 seq) ∧ w'.cell? ⟨w.heap.size, 7, none⟩ = some (.int .i64 tail) ∧ w'.cell? ⟨w.heap.size, 8, none⟩ = some (.int .i64 gen) ∧ w'.cell? ⟨w.heap.size, 9, none⟩ = some (.slice (some ad) dirty.length c1) ∧ w'.cell? ⟨w.heap.size, 10, none⟩ = some (.int .i64 fuse) ∧ w'.cell? ⟨w.heap.size, 11, none⟩ = some (.bool down) ∧ w'.cell? ⟨w.heap.size, 12, none⟩ = some (.bool broken) ∧ w'.cell? (ad.add (p * 2)) = some (.int .i64 y)) [] [(0, 2), (2, 2), (3, 2), (1, 1), (4, 1), (5, 2), (6, 0), (7, 2), (8, 2), (9, 2), (12, 2), (13, 2), (10, 1), (11, 2), (14, 1), (15, 2), (16, 2), (17, 2), (18, 2), (19, 2), (20, 1), (21, 0), (22, 2), (23, 2), (24, 2), (25, 2), (26, 2), (27, 2), (28, 2), (30, 2), (31, 2), (35, 2), (29, 1), (32, 2), (33, 2), (34, 1), (36, 1), (37, 2), (38, 2), (39, 2)] (by kernel_rfl) (by kernel_rfl) ?_
        have hS : (fun w' : World => w'.cell? ⟨gm, 0, none⟩ = some (.int .i64 n) ∧ w'.cell? ⟨gm, 1, none⟩ = some (.slice U xs.length uc) ∧ w'.cell? ⟨w.heap.size, 0, none⟩ = some (.int .i64 id) ∧ w'.cell? ⟨w.heap.size, 1, none⟩ = some (.int .i64 gn) ∧ w'.cell? ⟨w.heap.size, 2, none⟩ = some (.int .i64 gs) ∧ w'.cell? ⟨w.heap.size, 3, none⟩ = some (vm) ∧ w'.cell? ⟨w.heap.size, 4, none⟩ = some (.int .i64 lost) ∧ w'.cell? ⟨w.heap.size, 5, none⟩ = some (.int .i64 built) ∧ w'.cell? ⟨w.heap.size, 6, none⟩ = some (.int .i64 seq) ∧ w'.cell? ⟨w.heap.size, 7, none⟩ = some (.int .i64 tail) ∧ w'.cell? ⟨w.heap.size, 8, none⟩ = some (.int .i64 gen) ∧ w'.cell? ⟨w.heap.size, 9, none⟩ = some (.slice (some ad) dirty.length c1) ∧ w'.cell? ⟨w.heap.size, 10, none⟩ = some (.int .i64 fuse) ∧ w'.cell? ⟨w.heap.size, 11, none⟩ = some (.bool down) ∧ w'.cell? ⟨w.heap.size, 12, none⟩ = some (.bool broken) ∧ w'.cell? (ad.add (p * 2)) = some (.int .i64 y)) wm.drew := ⟨m0, m1, k0, k1, k2, k3, k4, k5, k6, k7, k8, k9, k10, k11, k12, cy⟩
        repeat ((first | (refine seqp_pure rfl (fun _ _ _ h => h) (by rfl) (fun w_ => by go_simp; first | done | with_reducible rfl) ?_) | (refine seqp_take hS rfl (fun _ _ _ h => h) (by rfl) (fun w_ hSw => by (try dsimp only at hSw); go_simp; first | done | with_reducible rfl) ?_) | (refine seqp_skip2 rfl (fun _ _ _ h => h) (by rfl) ?_) | (refine seqp_skip1 hS rfl (fun _ _ _ h => h) (by rfl) ?_) | (refine seqp_skip0 rfl (by rfl) ?_)); (try simp only [Act.put, qqP]))
        refine seqp_step rfl (fun K hK => ?_)
        go_simp
        go_at_call 70; refine (c_l1In _ _ _ _).mono ?_; rw [HIN.out]; rintro e w3 ⟨rfl, hb⟩
        have H3 := Aside0.mk (Hm.out.drew.dr hb)
        clear hb
        clear hS m0 m1 k0 k1 k2 k3 k4 k5 k6 k7 k8 k9 k10 k11 k12
        obtain ⟨m0, m1⟩ := two_cells (H3.out.get 0 rfl)
        obtain ⟨k0, k1, k2, k3, k4, k5, k6, k7, k8, k9, k10, k11, k12⟩ := thirteen (H3.out.get 1 rfl)
        replace cy := CY.out _ H3.out
        have hS : (fun w' : World => w'.cell? ⟨gm, 0, none⟩ = some (.int .i64 n) ∧ w'.cell? ⟨gm, 1, none⟩ = some (.slice U xs.length uc) ∧ w'.cell? ⟨w.heap.size, 0, none⟩ = some (.int .i64 id) ∧ w'.cell? ⟨w.heap.size, 1, none⟩ = some (.int .i64 gn) ∧ w'.cell? ⟨w.heap.size, 2, none⟩ = some (.int .i64 gs) ∧ w'.cell? ⟨w.heap.size, 3, none⟩ = some (vm) ∧ w'.cell? ⟨w.heap.size, 4, none⟩ = some (.int .i64 lost) ∧ w'.cell? ⟨w.heap.size, 5, none⟩ = some (.int .i64 built) ∧ w'.cell? ⟨w.heap.size, 6, none⟩ = some (.int .i64 seq) ∧ w'.cell? ⟨w.heap.size, 7, none⟩ = some (.int .i64 tail) ∧ w'.cell? ⟨w.heap.size, 8, none⟩ = some (.int .i64 gen) ∧ w'.cell? ⟨w.heap.size, 9, none⟩ = some (.slice (some ad) dirty.length c1) ∧ w'.cell? ⟨w.heap.size, 10, none⟩ = some (.int .i64 fuse) ∧ w'.cell? ⟨w.heap.size, 11, none⟩ = some (.bool down) ∧ w'.cell? ⟨w.heap.size, 12, none⟩ = some (.bool broken) ∧ w'.cell? (ad.add (p * 2)) = some (.int .i64 y)) w3 := ⟨m0, m1, k0, k1, k2, k3, k4, k5, k6, k7, k8, k9, k10, k11, k12, cy⟩
        refine hK.out _ _ ⟨fun _ _ => hS, ?_⟩; clear hK K; (try simp only [Act.put, qqP])
        repeat ((first | (refine seqp_pure rfl (fun _ _ _ h => h) (by rfl) (fun w_ => by go_simp; first | done | with_reducible rfl) ?_) | (refine seqp_take hS rfl (fun _ _ _ h => h) (by rfl) (fun w_ hSw => by (try dsimp only at hSw); go_simp; first | done | with_reducible rfl) ?_) | (refine seqp_skip2 rfl (fun _ _ _ h => h) (by rfl) ?_) | (refine seqp_skip1 hS rfl (fun _ _ _ h => h) (by rfl) ?_) | (refine seqp_skip0 rfl (by rfl) ?_)); (try simp only [Act.put, qqP]))
        refine seqp_step rfl (fun K hK => ?_)
        go_simp
        go_at_call 69; refine (c_l1Words (RK_below RU.out H3.out.toBelow)).mono ?_; rw [HW.out]; rintro e w4 ⟨rfl, hb⟩
        have H4 := Aside0.mk (H3.out.dr hb)
        clear hb
        clear hS m0 m1 k0 k1 k2 k3 k4 k5 k6 k7 k8 k9 k10 k11 k12
        obtain ⟨m0, m1⟩ := two_cells (H4.out.get 0 rfl)
        obtain ⟨k0, k1, k2, k3, k4, k5, k6, k7, k8, k9, k10, k11, k12⟩ := thirteen (H4.out.get 1 rfl)
        replace cy := CY.out _ H4.out
        have hS : (fun w' : World => w'.cell? ⟨gm, 0, none⟩ = some (.int .i64 n) ∧ w'.cell? ⟨gm, 1, none⟩ = some (.slice U xs.length uc) ∧ w'.cell? ⟨w.heap.size, 0, none⟩ = some (.int .i64 id) ∧ w'.cell? ⟨w.heap.size, 1, none⟩ = some (.int .i64 gn) ∧ w'.cell? ⟨w.heap.size, 2, none⟩ = some (.int .i64 gs) ∧ w'.cell? ⟨w.heap.size, 3, none⟩ = some (vm) ∧ w'.cell? ⟨w.heap.size, 4, none⟩ = some (.int .i64 lost) ∧ w'.cell? ⟨w.heap.size, 5, none⟩ = some (.int .i64 built) ∧ w'.cell? ⟨w.heap.size, 6, none⟩ = some (.int .i64 seq) ∧ w'.cell? ⟨w.heap.size, 7, none⟩ = some (.int .i64 tail) ∧ w'.cell? ⟨w.heap.size, 8, none⟩ = some (.int .i64 gen) ∧ w'.cell? ⟨w.heap.size, 9, none⟩ = some (.slice (some ad) dirty.length c1) ∧ w'.cell? ⟨w.heap.size, 10, none⟩ = some (.int .i64 fuse) ∧ w'.cell? ⟨w.heap.size, 11, none⟩ = some (.bool down) ∧ w'.cell? ⟨w.heap.size, 12, none⟩ = some (.bool broken) ∧ w'.cell? (ad.add (p * 2)) = some (.int .i64 y)) w4 := ⟨m0, m1, k0, k1, k2, k3, k4, k5, k6, k7, k8, k9, k10, k11, k12, cy⟩
        refine hK.out _ _ ⟨fun _ _ => hS, ?_⟩; clear hK K; (try simp only [Act.put, qqP])
        repeat ((first | (refine seqp_pure rfl (fun _ _ _ h => h) (by rfl) (fun w_ => by go_simp; first | done | with_reducible rfl) ?_) | (refine seqp_take hS rfl (fun _ _ _ h => h) (by rfl) (fun w_ hSw => by (try dsimp only at hSw); go_simp; first | done | with_reducible rfl) ?_) | (refine seqp_skip2 rfl (fun _ _ _ h => h) (by rfl) ?_) | (refine seqp_skip1 hS rfl (fun _ _ _ h => h) (by rfl) ?_) | (refine seqp_skip0 rfl (by rfl) ?_)); (try simp only [Act.put, qqP]))
        clear hS
        refine seqp_done ?_
        go_simp
        go_wp2
        go_roundw
        case rel => exact ⟨i + 1, by omega, by go_num, ⟨ix_next ht.out Hxi.out (by unfold okE; simp only; rw [HIN.out, decide_eq_true HLN.out, HW.out, HGD.out, decide_eq_true HYX.out]; simp)⟩, ⟨by have hB := H4.out.sel [1] (by decide) (by simp); simp only [qqN] at hB; exact hB⟩⟩
        case measure => simp [intOf]; omega
       ·have hge : decide (n ≤ y) = true := by rw [decide_eq_true_eq]; omega
        have HYX := Aside0.mk hyx
        have H00 := Aside0.mk h0
        clear h0 hp hyx
        go_wp2
        refine wp_region_seqp (fun w' => w'.cell? ⟨gm, 0, none⟩ = some (.int .i64 n) ∧ w'.cell? ⟨gm, 1, none⟩ = some (.slice U xs.length uc) ∧ w'.cell? ⟨w.heap.size, 0, none⟩ = some (.int .i64 id) ∧ w'.cell? ⟨w.heap.size, 1, none⟩ = some (.int .i64 gn) ∧ w'.cell? ⟨w.heap.size, 2, none⟩ = some (.int .i64 gs) ∧ w'.cell? ⟨w.heap.size, 3, none⟩ = some (vm) ∧ w'.cell? ⟨w.heap.size, 4, none⟩ = some (.int .i64 lost) ∧ w'.cell? ⟨w.heap.size, 5, none⟩ = some (.int .i64 built) ∧ w'.cell? ⟨w.heap.size, 6, none⟩ = some (.int .i64 seq) ∧ w'.cell? ⟨w.heap.size, 7, none⟩ = some (.int .i64 tail) ∧ w'.cell? ⟨w.heap.size, 8, none⟩ = some (.int .i64 gen) ∧ w'.cell? ⟨w.heap.size, 9, none⟩ = some (.slice (some ad) dirty.length c1) ∧ w'.cell? ⟨w.heap.size, 10, none⟩ = some (.int .i64 fuse) ∧ w'.cell? ⟨w.heap.size, 11, none⟩ = some (.bool down) ∧ w'.cell? ⟨w.heap.size, 12, none⟩ = some (.bool broken) ∧ w'.cell? (ad.add (p * 2)) = some (.int .i64 y)) [] [(0, 2), (2, 2), (3, 2), (1, 1), (4, 1), (5, 2), (6, 0), (7, 2), (8, 2), (9, 2), (12, 2), (13, 2), (10, 1), (11, 2), (14, 1), (15, 2), (16, 2), (17, 2), (18, 2), (19, 2), (20, 1), (21, 0), (22, 2), (23, 2), (24, 2), (25, 2), (26, 2), (27, 2), (28, 2), (30, 2), (31, 2), (35, 2), (29, 1), (32, 2), (33, 2), (34, 1), (36, 1), (37, 2), (38, 2), (39, 2)] (by kernel_rfl) (by kernel_rfl) ?_
        have hS : (fun w' : World => w'.cell? ⟨gm, 0, none⟩ = some (.int .i64 n) ∧ w'.cell? ⟨gm, 1, none⟩ = some (.slice U xs.length uc) ∧ w'.cell? ⟨w.heap.size, 0, none⟩ = some (.int .i64 id) ∧ w'.cell? ⟨w.heap.size, 1, none⟩ = some (.int .i64 gn) ∧ w'.cell? ⟨w.heap.size, 2, none⟩ = some (.int .i64 gs) ∧ w'.cell? ⟨w.heap.size, 3, none⟩ = some (vm) ∧ w'.cell? ⟨w.heap.size, 4, none⟩ = some (.int .i64 lost) ∧ w'.cell? ⟨w.heap.size, 5, none⟩ = some (.int .i64 built) ∧ w'.cell? ⟨w.heap.size, 6, none⟩ = some (.int .i64 seq) ∧ w'.cell? ⟨w.heap.size, 7, none⟩ = some (.int .i64 tail) ∧ w'.cell? ⟨w.heap.size, 8, none⟩ = some (.int .i64 gen) ∧ w'.cell? ⟨w.heap.size, 9, none⟩ = some (.slice (some ad) dirty.length c1) ∧ w'.cell? ⟨w.heap.size, 10, none⟩ = some (.int .i64 fuse) ∧ w'.cell? ⟨w.heap.size, 11, none⟩ = some (.bool down) ∧ w'.cell? ⟨w.heap.size, 12, none⟩ = some (.bool broken) ∧ w'.cell? (ad.add (p * 2)) = some (.int .i64 y)) wm.drew := ⟨m0, m1, k0, k1, k2, k3, k4, k5, k6, k7, k8, k9, k10, k11, k12, cy⟩
        repeat ((first | (refine seqp_pure rfl (fun _ _ _ h => h) (by rfl) (fun w_ => by go_simp; first | done | with_reducible rfl) ?_) | (refine seqp_take hS rfl (fun _ _ _ h => h) (by rfl) (fun w_ hSw => by (try dsimp only at hSw); go_simp; first | done | with_reducible rfl) ?_) | (refine seqp_skip2 rfl (fun _ _ _ h => h) (by rfl) ?_) | (refine seqp_skip1 hS rfl (fun _ _ _ h => h) (by rfl) ?_) | (refine seqp_skip0 rfl (by rfl) ?_)); (try simp only [Act.put, qqP]))
        refine seqp_step rfl (fun K hK => ?_)
        go_simp
        go_at_call 70; refine (c_l1In _ _ _ _).mono ?_; rw [HIN.out]; rintro e w3 ⟨rfl, hb⟩
        have H3 := Aside0.mk (Hm.out.drew.dr hb)
        clear hb
        clear hS m0 m1 k0 k1 k2 k3 k4 k5 k6 k7 k8 k9 k10 k11 k12
        obtain ⟨m0, m1⟩ := two_cells (H3.out.get 0 rfl)
        obtain ⟨k0, k1, k2, k3, k4, k5, k6, k7, k8, k9, k10, k11, k12⟩ := thirteen (H3.out.get 1 rfl)
        replace cy := CY.out _ H3.out
        have hS : (fun w' : World => w'.cell? ⟨gm, 0, none⟩ = some (.int .i64 n) ∧ w'.cell? ⟨gm, 1, none⟩ = some (.slice U xs.length uc) ∧ w'.cell? ⟨w.heap.size, 0, none⟩ = some (.int .i64 id) ∧ w'.cell? ⟨w.heap.size, 1, none⟩ = some (.int .i64 gn) ∧ w'.cell? ⟨w.heap.size, 2, none⟩ = some (.int .i64 gs) ∧ w'.cell? ⟨w.heap.size, 3, none⟩ = some (vm) ∧ w'.cell? ⟨w.heap.size, 4, none⟩ = some (.int .i64 lost) ∧ w'.cell? ⟨w.heap.size, 5, none⟩ = some (.int .i64 built) ∧ w'.cell? ⟨w.heap.size, 6, none⟩ = some (.int .i64 seq) ∧ w'.cell? ⟨w.heap.size, 7, none⟩ = some (.int .i64 tail) ∧ w'.cell? ⟨w.heap.size, 8, none⟩ = some (.int .i64 gen) ∧ w'.cell? ⟨w.heap.size, 9, none⟩ = some (.slice (some ad) dirty.length c1) ∧ w'.cell? ⟨w.heap.size, 10, none⟩ = some (.int .i64 fuse) ∧ w'.cell? ⟨w.heap.size, 11, none⟩ = some (.bool down) ∧ w'.cell? ⟨w.heap.size, 12, none⟩ = some (.bool broken) ∧ w'.cell? (ad.add (p * 2)) = some (.int .i64 y)) w3 := ⟨m0, m1, k0, k1, k2, k3, k4, k5, k6, k7, k8, k9, k10, k11, k12, cy⟩
        refine hK.out _ _ ⟨fun _ _ => hS, ?_⟩; clear hK K; (try simp only [Act.put, qqP])
        repeat ((first | (refine seqp_pure rfl (fun _ _ _ h => h) (by rfl) (fun w_ => by go_simp; first | done | with_reducible rfl) ?_) | (refine seqp_take hS rfl (fun _ _ _ h => h) (by rfl) (fun w_ hSw => by (try dsimp only at hSw); go_simp; first | done | with_reducible rfl) ?_) | (refine seqp_skip2 rfl (fun _ _ _ h => h) (by rfl) ?_) | (refine seqp_skip1 hS rfl (fun _ _ _ h => h) (by rfl) ?_) | (refine seqp_skip0 rfl (by rfl) ?_)); (try simp only [Act.put, qqP]))
        refine seqp_step rfl (fun K hK => ?_)
        go_simp
        go_at_call 69; refine (c_l1Words (RK_below RU.out H3.out.toBelow)).mono ?_; rw [HW.out]; rintro e w4 ⟨rfl, hb⟩
        have H4 := Aside0.mk (H3.out.dr hb)
        clear hb
        clear hS m0 m1 k0 k1 k2 k3 k4 k5 k6 k7 k8 k9 k10 k11 k12
        obtain ⟨m0, m1⟩ := two_cells (H4.out.get 0 rfl)
        obtain ⟨k0, k1, k2, k3, k4, k5, k6, k7, k8, k9, k10, k11, k12⟩ := thirteen (H4.out.get 1 rfl)
        replace cy := CY.out _ H4.out
        have hS : (fun w' : World => w'.cell? ⟨gm, 0, none⟩ = some (.int .i64 n) ∧ w'.cell? ⟨gm, 1, none⟩ = some (.slice U xs.length uc) ∧ w'.cell? ⟨w.heap.size, 0, none⟩ = some (.int .i64 id) ∧ w'.cell? ⟨w.heap.size, 1, none⟩ = some (.int .i64 gn) ∧ w'.cell? ⟨w.heap.size, 2, none⟩ = some (.int .i64 gs) ∧ w'.cell? ⟨w.heap.size, 3, none⟩ = some (vm) ∧ w'.cell? ⟨w.heap.size, 4, none⟩ = some (.int .i64 lost) ∧ w'.cell? ⟨w.heap.size, 5, none⟩ = some (.int .i64 built) ∧ w'.cell? ⟨w.heap.size, 6, none⟩ = some (.int .i64 seq) ∧ w'.cell? ⟨w.heap.size, 7, none⟩ = some (.int .i64 tail) ∧ w'.cell? ⟨w.heap.size, 8, none⟩ = some (.int .i64 gen) ∧ w'.cell? ⟨w.heap.size, 9, none⟩ = some (.slice (some ad) dirty.length c1) ∧ w'.cell? ⟨w.heap.size, 10, none⟩ = some (.int .i64 fuse) ∧ w'.cell? ⟨w.heap.size, 11, none⟩ = some (.bool down) ∧ w'.cell? ⟨w.heap.size, 12, none⟩ = some (.bool broken) ∧ w'.cell? (ad.add (p * 2)) = some (.int .i64 y)) w4 := ⟨m0, m1, k0, k1, k2, k3, k4, k5, k6, k7, k8, k9, k10, k11, k12, cy⟩
        refine hK.out _ _ ⟨fun _ _ => hS, ?_⟩; clear hK K; (try simp only [Act.put, qqP])
        repeat ((first | (refine seqp_pure rfl (fun _ _ _ h => h) (by rfl) (fun w_ => by go_simp; first | done | with_reducible rfl) ?_) | (refine seqp_take hS rfl (fun _ _ _ h => h) (by rfl) (fun w_ hSw => by (try dsimp only at hSw); go_simp; first | done | with_reducible rfl) ?_) | (refine seqp_skip2 rfl (fun _ _ _ h => h) (by rfl) ?_) | (refine seqp_skip1 hS rfl (fun _ _ _ h => h) (by rfl) ?_) | (refine seqp_skip0 rfl (by rfl) ?_)); (try simp only [Act.put, qqP]))
        clear hS
        refine seqp_done ?_
        go_simp
        go_wp2
        go_ret
        exact ⟨ret_bool (by rw [show dirtyB (⟨id, gn, gs, mems, lost, built, seq, tail, gen, dirty, fuse, down, broken⟩ : ArrV) = false from allIx_false Hxi.out (by unfold okE; simp only; rw [HIN.out, decide_eq_true HLN.out, HW.out, HGD.out, decide_eq_false (show ¬ y < n by have := HYX.out; omega), decide_eq_false H00.out]; rfl)]), H4.out.toBelow⟩
     ·simp only [Bool.not_eq_true] at hw
      have HW := Aside0.mk hw
      clear hw
      go_wp2
      refine wp_region_seqp (fun w' => w'.cell? ⟨gm, 0, none⟩ = some (.int .i64 n) ∧ w'.cell? ⟨gm, 1, none⟩ = some (.slice U xs.length uc) ∧ w'.cell? ⟨w.heap.size, 0, none⟩ = some (.int .i64 id) ∧ w'.cell? ⟨w.heap.size, 1, none⟩ = some (.int .i64 gn) ∧ w'.cell? ⟨w.heap.size, 2, none⟩ = some (.int .i64 gs) ∧ w'.cell? ⟨w.heap.size, 3, none⟩ = some (vm) ∧ w'.cell? ⟨w.heap.size, 4, none⟩ = some (.int .i64 lost) ∧ w'.cell? ⟨w.heap.size, 5, none⟩ = some (.int .i64 built) ∧ w'.cell? ⟨w.heap.size, 6, none⟩ = some (.int .i64 seq) ∧ w'.cell? ⟨w.heap.size, 7, none⟩ = some (.int .i64 tail) ∧ w'.cell? ⟨w.heap.size, 8, none⟩ = some (.int .i64 gen) ∧ w'.cell? ⟨w.heap.size, 9, none⟩ = some (.slice (some ad) dirty.length c1) ∧ w'.cell? ⟨w.heap.size, 10, none⟩ = some (.int .i64 fuse) ∧ w'.cell? ⟨w.heap.size, 11, none⟩ = some (.bool down) ∧ w'.cell? ⟨w.heap.size, 12, none⟩ = some (.bool broken)) [] [(0, 2), (2, 2), (3, 2), (1, 1), (4, 1), (5, 2), (6, 0), (7, 2), (8, 2), (9, 2), (12, 2), (13, 2), (10, 1), (11, 2), (14, 1), (15, 2), (16, 2), (17, 2), (18, 2), (19, 2), (20, 1), (21, 0), (22, 2), (23, 2), (24, 2), (25, 2), (26, 2), (27, 2), (28, 2), (30, 2), (31, 2), (35, 2), (29, 1), (32, 2), (33, 2), (34, 1), (36, 1), (37, 2), (38, 2), (39, 2)] (by kernel_rfl) (by kernel_rfl) ?_
      have hS : (fun w' : World => w'.cell? ⟨gm, 0, none⟩ = some (.int .i64 n) ∧ w'.cell? ⟨gm, 1, none⟩ = some (.slice U xs.length uc) ∧ w'.cell? ⟨w.heap.size, 0, none⟩ = some (.int .i64 id) ∧ w'.cell? ⟨w.heap.size, 1, none⟩ = some (.int .i64 gn) ∧ w'.cell? ⟨w.heap.size, 2, none⟩ = some (.int .i64 gs) ∧ w'.cell? ⟨w.heap.size, 3, none⟩ = some (vm) ∧ w'.cell? ⟨w.heap.size, 4, none⟩ = some (.int .i64 lost) ∧ w'.cell? ⟨w.heap.size, 5, none⟩ = some (.int .i64 built) ∧ w'.cell? ⟨w.heap.size, 6, none⟩ = some (.int .i64 seq) ∧ w'.cell? ⟨w.heap.size, 7, none⟩ = some (.int .i64 tail) ∧ w'.cell? ⟨w.heap.size, 8, none⟩ = some (.int .i64 gen) ∧ w'.cell? ⟨w.heap.size, 9, none⟩ = some (.slice (some ad) dirty.length c1) ∧ w'.cell? ⟨w.heap.size, 10, none⟩ = some (.int .i64 fuse) ∧ w'.cell? ⟨w.heap.size, 11, none⟩ = some (.bool down) ∧ w'.cell? ⟨w.heap.size, 12, none⟩ = some (.bool broken)) wm.drew := ⟨m0, m1, k0, k1, k2, k3, k4, k5, k6, k7, k8, k9, k10, k11, k12⟩
      repeat ((first | (refine seqp_pure rfl (fun _ _ _ h => h) (by rfl) (fun w_ => by go_simp; first | done | with_reducible rfl) ?_) | (refine seqp_take hS rfl (fun _ _ _ h => h) (by rfl) (fun w_ hSw => by (try dsimp only at hSw); go_simp; first | done | with_reducible rfl) ?_) | (refine seqp_skip2 rfl (fun _ _ _ h => h) (by rfl) ?_) | (refine seqp_skip1 hS rfl (fun _ _ _ h => h) (by rfl) ?_) | (refine seqp_skip0 rfl (by rfl) ?_)); (try simp only [Act.put, qqP]))
      refine seqp_step rfl (fun K hK => ?_)
      go_simp
      go_at_call 70; refine (c_l1In _ _ _ _).mono ?_; rw [HIN.out]; rintro e w3 ⟨rfl, hb⟩
      have H3 := Aside0.mk (Hm.out.drew.dr hb)
      clear hb
      clear hS m0 m1 k0 k1 k2 k3 k4 k5 k6 k7 k8 k9 k10 k11 k12
      obtain ⟨m0, m1⟩ := two_cells (H3.out.get 0 rfl)
      obtain ⟨k0, k1, k2, k3, k4, k5, k6, k7, k8, k9, k10, k11, k12⟩ := thirteen (H3.out.get 1 rfl)
      have hS : (fun w' : World => w'.cell? ⟨gm, 0, none⟩ = some (.int .i64 n) ∧ w'.cell? ⟨gm, 1, none⟩ = some (.slice U xs.length uc) ∧ w'.cell? ⟨w.heap.size, 0, none⟩ = some (.int .i64 id) ∧ w'.cell? ⟨w.heap.size, 1, none⟩ = some (.int .i64 gn) ∧ w'.cell? ⟨w.heap.size, 2, none⟩ = some (.int .i64 gs) ∧ w'.cell? ⟨w.heap.size, 3, none⟩ = some (vm) ∧ w'.cell? ⟨w.heap.size, 4, none⟩ = some (.int .i64 lost) ∧ w'.cell? ⟨w.heap.size, 5, none⟩ = some (.int .i64 built) ∧ w'.cell? ⟨w.heap.size, 6, none⟩ = some (.int .i64 seq) ∧ w'.cell? ⟨w.heap.size, 7, none⟩ = some (.int .i64 tail) ∧ w'.cell? ⟨w.heap.size, 8, none⟩ = some (.int .i64 gen) ∧ w'.cell? ⟨w.heap.size, 9, none⟩ = some (.slice (some ad) dirty.length c1) ∧ w'.cell? ⟨w.heap.size, 10, none⟩ = some (.int .i64 fuse) ∧ w'.cell? ⟨w.heap.size, 11, none⟩ = some (.bool down) ∧ w'.cell? ⟨w.heap.size, 12, none⟩ = some (.bool broken)) w3 := ⟨m0, m1, k0, k1, k2, k3, k4, k5, k6, k7, k8, k9, k10, k11, k12⟩
      refine hK.out _ _ ⟨fun _ _ => hS, ?_⟩; clear hK K; (try simp only [Act.put, qqP])
      repeat ((first | (refine seqp_pure rfl (fun _ _ _ h => h) (by rfl) (fun w_ => by go_simp; first | done | with_reducible rfl) ?_) | (refine seqp_take hS rfl (fun _ _ _ h => h) (by rfl) (fun w_ hSw => by (try dsimp only at hSw); go_simp; first | done | with_reducible rfl) ?_) | (refine seqp_skip2 rfl (fun _ _ _ h => h) (by rfl) ?_) | (refine seqp_skip1 hS rfl (fun _ _ _ h => h) (by rfl) ?_) | (refine seqp_skip0 rfl (by rfl) ?_)); (try simp only [Act.put, qqP]))
      refine seqp_step rfl (fun K hK => ?_)
      go_simp
      go_at_call 69; refine (c_l1Words (RK_below RU.out H3.out.toBelow)).mono ?_; rw [HW.out]; rintro e w4 ⟨rfl, hb⟩
      have H4 := Aside0.mk (H3.out.dr hb)
      clear hb
      clear hS m0 m1 k0 k1 k2 k3 k4 k5 k6 k7 k8 k9 k10 k11 k12
      obtain ⟨m0, m1⟩ := two_cells (H4.out.get 0 rfl)
      obtain ⟨k0, k1, k2, k3, k4, k5, k6, k7, k8, k9, k10, k11, k12⟩ := thirteen (H4.out.get 1 rfl)
      have hS : (fun w' : World => w'.cell? ⟨gm, 0, none⟩ = some (.int .i64 n) ∧ w'.cell? ⟨gm, 1, none⟩ = some (.slice U xs.length uc) ∧ w'.cell? ⟨w.heap.size, 0, none⟩ = some (.int .i64 id) ∧ w'.cell? ⟨w.heap.size, 1, none⟩ = some (.int .i64 gn) ∧ w'.cell? ⟨w.heap.size, 2, none⟩ = some (.int .i64 gs) ∧ w'.cell? ⟨w.heap.size, 3, none⟩ = some (vm) ∧ w'.cell? ⟨w.heap.size, 4, none⟩ = some (.int .i64 lost) ∧ w'.cell? ⟨w.heap.size, 5, none⟩ = some (.int .i64 built) ∧ w'.cell? ⟨w.heap.size, 6, none⟩ = some (.int .i64 seq) ∧ w'.cell? ⟨w.heap.size, 7, none⟩ = some (.int .i64 tail) ∧ w'.cell? ⟨w.heap.size, 8, none⟩ = some (.int .i64 gen) ∧ w'.cell? ⟨w.heap.size, 9, none⟩ = some (.slice (some ad) dirty.length c1) ∧ w'.cell? ⟨w.heap.size, 10, none⟩ = some (.int .i64 fuse) ∧ w'.cell? ⟨w.heap.size, 11, none⟩ = some (.bool down) ∧ w'.cell? ⟨w.heap.size, 12, none⟩ = some (.bool broken)) w4 := ⟨m0, m1, k0, k1, k2, k3, k4, k5, k6, k7, k8, k9, k10, k11, k12⟩
      refine hK.out _ _ ⟨fun _ _ => hS, ?_⟩; clear hK K; (try simp only [Act.put, qqP])
      repeat ((first | (refine seqp_pure rfl (fun _ _ _ h => h) (by rfl) (fun w_ => by go_simp; first | done | with_reducible rfl) ?_) | (refine seqp_take hS rfl (fun _ _ _ h => h) (by rfl) (fun w_ hSw => by (try dsimp only at hSw); go_simp; first | done | with_reducible rfl) ?_) | (refine seqp_skip2 rfl (fun _ _ _ h => h) (by rfl) ?_) | (refine seqp_skip1 hS rfl (fun _ _ _ h => h) (by rfl) ?_) | (refine seqp_skip0 rfl (by rfl) ?_)); (try simp only [Act.put, qqP]))
      clear hS
      refine seqp_done ?_
      go_simp
      go_wp2
      go_ret
      exact ⟨ret_bool (by rw [show dirtyB (⟨id, gn, gs, mems, lost, built, seq, tail, gen, dirty, fuse, down, broken⟩ : ArrV) = false from allIx_false Hxi.out (by unfold okE; simp only; rw [HIN.out, decide_eq_true HLN.out, HW.out]; rfl)]), H4.out.toBelow⟩
    ·have HLN := Aside0.mk hln
     have hne : ((xs.length : Int) != gn - 1) = true := by simp [hln]
     go_wp2
     refine wp_region_seqp (fun w' => w'.cell? ⟨gm, 0, none⟩ = some (.int .i64 n) ∧ w'.cell? ⟨gm, 1, none⟩ = some (.slice U xs.length uc) ∧ w'.cell? ⟨w.heap.size, 0, none⟩ = some (.int .i64 id) ∧ w'.cell? ⟨w.heap.size, 1, none⟩ = some (.int .i64 gn) ∧ w'.cell? ⟨w.heap.size, 2, none⟩ = some (.int .i64 gs) ∧ w'.cell? ⟨w.heap.size, 3, none⟩ = some (vm) ∧ w'.cell? ⟨w.heap.size, 4, none⟩ = some (.int .i64 lost) ∧ w'.cell? ⟨w.heap.size, 5, none⟩ = some (.int .i64 built) ∧ w'.cell? ⟨w.heap.size, 6, none⟩ = some (.int .i64 seq) ∧ w'.cell? ⟨w.heap.size, 7, none⟩ = some (.int .i64 tail) ∧ w'.cell? ⟨w.heap.size, 8, none⟩ = some (.int .i64 gen) ∧ w'.cell? ⟨w.heap.size, 9, none⟩ = some (.slice (some ad) dirty.length c1) ∧ w'.cell? ⟨w.heap.size, 10, none⟩ = some (.int .i64 fuse) ∧ w'.cell? ⟨w.heap.size, 11, none⟩ = some (.bool down) ∧ w'.cell? ⟨w.heap.size, 12, none⟩ = some (.bool broken)) [] [(0, 2), (2, 2), (3, 2), (1, 1), (4, 1), (5, 2), (6, 0), (7, 2), (8, 2), (9, 2), (12, 2), (13, 2), (10, 1), (11, 2), (14, 1), (15, 2), (16, 2), (17, 2), (18, 2), (19, 2), (20, 1), (21, 0), (22, 2), (23, 2), (24, 2), (25, 2), (26, 2), (27, 2), (28, 2), (30, 2), (31, 2), (35, 2), (29, 1), (32, 2), (33, 2), (34, 1), (36, 1), (37, 2), (38, 2), (39, 2)] (by kernel_rfl) (by kernel_rfl) ?_
     have hS : (fun w' : World => w'.cell? ⟨gm, 0, none⟩ = some (.int .i64 n) ∧ w'.cell? ⟨gm, 1, none⟩ = some (.slice U xs.length uc) ∧ w'.cell? ⟨w.heap.size, 0, none⟩ = some (.int .i64 id) ∧ w'.cell? ⟨w.heap.size, 1, none⟩ = some (.int .i64 gn) ∧ w'.cell? ⟨w.heap.size, 2, none⟩ = some (.int .i64 gs) ∧ w'.cell? ⟨w.heap.size, 3, none⟩ = some (vm) ∧ w'.cell? ⟨w.heap.size, 4, none⟩ = some (.int .i64 lost) ∧ w'.cell? ⟨w.heap.size, 5, none⟩ = some (.int .i64 built) ∧ w'.cell? ⟨w.heap.size, 6, none⟩ = some (.int .i64 seq) ∧ w'.cell? ⟨w.heap.size, 7, none⟩ = some (.int .i64 tail) ∧ w'.cell? ⟨w.heap.size, 8, none⟩ = some (.int .i64 gen) ∧ w'.cell? ⟨w.heap.size, 9, none⟩ = some (.slice (some ad) dirty.length c1) ∧ w'.cell? ⟨w.heap.size, 10, none⟩ = some (.int .i64 fuse) ∧ w'.cell? ⟨w.heap.size, 11, none⟩ = some (.bool down) ∧ w'.cell? ⟨w.heap.size, 12, none⟩ = some (.bool broken)) wm.drew := ⟨m0, m1, k0, k1, k2, k3, k4, k5, k6, k7, k8, k9, k10, k11, k12⟩
     repeat ((first | (refine seqp_pure rfl (fun _ _ _ h => h) (by rfl) (fun w_ => by go_simp; first | done | with_reducible rfl) ?_) | (refine seqp_take hS rfl (fun _ _ _ h => h) (by rfl) (fun w_ hSw => by (try dsimp only at hSw); go_simp; first | done | with_reducible rfl) ?_) | (refine seqp_skip2 rfl (fun _ _ _ h => h) (by rfl) ?_) | (refine seqp_skip1 hS rfl (fun _ _ _ h => h) (by rfl) ?_) | (refine seqp_skip0 rfl (by rfl) ?_)); (try simp only [Act.put, qqP]))
     refine seqp_step rfl (fun K hK => ?_)
     go_simp
     go_at_call 70; refine (c_l1In _ _ _ _).mono ?_; rw [HIN.out]; rintro e w3 ⟨rfl, hb⟩
     have H3 := Aside0.mk (Hm.out.drew.dr hb)
     clear hb
     clear hS m0 m1 k0 k1 k2 k3 k4 k5 k6 k7 k8 k9 k10 k11 k12
     obtain ⟨m0, m1⟩ := two_cells (H3.out.get 0 rfl)
     obtain ⟨k0, k1, k2, k3, k4, k5, k6, k7, k8, k9, k10, k11, k12⟩ := thirteen (H3.out.get 1 rfl)
     have hS : (fun w' : World => w'.cell? ⟨gm, 0, none⟩ = some (.int .i64 n) ∧ w'.cell? ⟨gm, 1, none⟩ = some (.slice U xs.length uc) ∧ w'.cell? ⟨w.heap.size, 0, none⟩ = some (.int .i64 id) ∧ w'.cell? ⟨w.heap.size, 1, none⟩ = some (.int .i64 gn) ∧ w'.cell? ⟨w.heap.size, 2, none⟩ = some (.int .i64 gs) ∧ w'.cell? ⟨w.heap.size, 3, none⟩ = some (vm) ∧ w'.cell? ⟨w.heap.size, 4, none⟩ = some (.int .i64 lost) ∧ w'.cell? ⟨w.heap.size, 5, none⟩ = some (.int .i64 built) ∧ w'.cell? ⟨w.heap.size, 6, none⟩ = some (.int .i64 seq) ∧ w'.cell? ⟨w.heap.size, 7, none⟩ = some (.int .i64 tail) ∧ w'.cell? ⟨w.heap.size, 8, none⟩ = some (.int .i64 gen) ∧ w'.cell? ⟨w.heap.size, 9, none⟩ = some (.slice (some ad) dirty.length c1) ∧ w'.cell? ⟨w.heap.size, 10, none⟩ = some (.int .i64 fuse) ∧ w'.cell? ⟨w.heap.size, 11, none⟩ = some (.bool down) ∧ w'.cell? ⟨w.heap.size, 12, none⟩ = some (.bool broken)) w3 := ⟨m0, m1, k0, k1, k2, k3, k4, k5, k6, k7, k8, k9, k10, k11, k12⟩
     refine hK.out _ _ ⟨fun _ _ => hS, ?_⟩; clear hK K; (try simp only [Act.put, qqP])
     repeat ((first | (refine seqp_pure rfl (fun _ _ _ h => h) (by rfl) (fun w_ => by go_simp; first | done | with_reducible rfl) ?_) | (refine seqp_take hS rfl (fun _ _ _ h => h) (by rfl) (fun w_ hSw => by (try dsimp only at hSw); go_simp; first | done | with_reducible rfl) ?_) | (refine seqp_skip2 rfl (fun _ _ _ h => h) (by rfl) ?_) | (refine seqp_skip1 hS rfl (fun _ _ _ h => h) (by rfl) ?_) | (refine seqp_skip0 rfl (by rfl) ?_)); (try simp only [Act.put, qqP]))
     clear hS
     refine seqp_done ?_
     go_simp
     go_wp2
     go_ret
     exact ⟨ret_bool (by rw [show dirtyB (⟨id, gn, gs, mems, lost, built, seq, tail, gen, dirty, fuse, down, broken⟩ : ArrV) = false from allIx_false Hxi.out (by unfold okE; simp only; rw [HIN.out, decide_eq_false HLN.out]; rfl)]), H3.out.toBelow⟩
   ·simp only [Bool.not_eq_true] at hin
    have HIN := Aside0.mk hin
    clear hin
    go_wp2
    refine wp_region_seqp (fun w' => w'.cell? ⟨gm, 0, none⟩ = some (.int .i64 n) ∧ w'.cell? ⟨gm, 1, none⟩ = some (.slice U xs.length uc) ∧ w'.cell? ⟨w.heap.size, 0, none⟩ = some (.int .i64 id) ∧ w'.cell? ⟨w.heap.size, 1, none⟩ = some (.int .i64 gn) ∧ w'.cell? ⟨w.heap.size, 2, none⟩ = some (.int .i64 gs) ∧ w'.cell? ⟨w.heap.size, 3, none⟩ = some (vm) ∧ w'.cell? ⟨w.heap.size, 4, none⟩ = some (.int .i64 lost) ∧ w'.cell? ⟨w.heap.size, 5, none⟩ = some (.int .i64 built) ∧ w'.cell? ⟨w.heap.size, 6, none⟩ = some (.int .i64 seq) ∧ w'.cell? ⟨w.heap.size, 7, none⟩ = some (.int .i64 tail) ∧ w'.cell? ⟨w.heap.size, 8, none⟩ = some (.int .i64 gen) ∧ w'.cell? ⟨w.heap.size, 9, none⟩ = some (.slice (some ad) dirty.length c1) ∧ w'.cell? ⟨w.heap.size, 10, none⟩ = some (.int .i64 fuse) ∧ w'.cell? ⟨w.heap.size, 11, none⟩ = some (.bool down) ∧ w'.cell? ⟨w.heap.size, 12, none⟩ = some (.bool broken)) [] [(0, 2), (2, 2), (3, 2), (1, 1), (4, 1), (5, 2), (6, 0), (7, 2), (8, 2), (9, 2), (12, 2), (13, 2), (10, 1), (11, 2), (14, 1), (15, 2), (16, 2), (17, 2), (18, 2), (19, 2), (20, 1), (21, 0), (22, 2), (23, 2), (24, 2), (25, 2), (26, 2), (27, 2), (28, 2), (30, 2), (31, 2), (35, 2), (29, 1), (32, 2), (33, 2), (34, 1), (36, 1), (37, 2), (38, 2), (39, 2)] (by kernel_rfl) (by kernel_rfl) ?_
    have hS : (fun w' : World => w'.cell? ⟨gm, 0, none⟩ = some (.int .i64 n) ∧ w'.cell? ⟨gm, 1, none⟩ = some (.slice U xs.length uc) ∧ w'.cell? ⟨w.heap.size, 0, none⟩ = some (.int .i64 id) ∧ w'.cell? ⟨w.heap.size, 1, none⟩ = some (.int .i64 gn) ∧ w'.cell? ⟨w.heap.size, 2, none⟩ = some (.int .i64 gs) ∧ w'.cell? ⟨w.heap.size, 3, none⟩ = some (vm) ∧ w'.cell? ⟨w.heap.size, 4, none⟩ = some (.int .i64 lost) ∧ w'.cell? ⟨w.heap.size, 5, none⟩ = some (.int .i64 built) ∧ w'.cell? ⟨w.heap.size, 6, none⟩ = some (.int .i64 seq) ∧ w'.cell? ⟨w.heap.size, 7, none⟩ = some (.int .i64 tail) ∧ w'.cell? ⟨w.heap.size, 8, none⟩ = some (.int .i64 gen) ∧ w'.cell? ⟨w.heap.size, 9, none⟩ = some (.slice (some ad) dirty.length c1) ∧ w'.cell? ⟨w.heap.size, 10, none⟩ = some (.int .i64 fuse) ∧ w'.cell? ⟨w.heap.size, 11, none⟩ = some (.bool down) ∧ w'.cell? ⟨w.heap.size, 12, none⟩ = some (.bool broken)) wm.drew := ⟨m0, m1, k0, k1, k2, k3, k4, k5, k6, k7, k8, k9, k10, k11, k12⟩
    repeat ((first | (refine seqp_pure rfl (fun _ _ _ h => h) (by rfl) (fun w_ => by go_simp; first | done | with_reducible rfl) ?_) | (refine seqp_take hS rfl (fun _ _ _ h => h) (by rfl) (fun w_ hSw => by (try dsimp only at hSw); go_simp; first | done | with_reducible rfl) ?_) | (refine seqp_skip2 rfl (fun _ _ _ h => h) (by rfl) ?_) | (refine seqp_skip1 hS rfl (fun _ _ _ h => h) (by rfl) ?_) | (refine seqp_skip0 rfl (by rfl) ?_)); (try simp only [Act.put, qqP]))
    refine seqp_step rfl (fun K hK => ?_)
    go_simp
    go_at_call 70; refine (c_l1In _ _ _ _).mono ?_; rw [HIN.out]; rintro e w3 ⟨rfl, hb⟩
    have H3 := Aside0.mk (Hm.out.drew.dr hb)
    clear hb
    clear hS m0 m1 k0 k1 k2 k3 k4 k5 k6 k7 k8 k9 k10 k11 k12
    obtain ⟨m0, m1⟩ := two_cells (H3.out.get 0 rfl)
    obtain ⟨k0, k1, k2, k3, k4, k5, k6, k7, k8, k9, k10, k11, k12⟩ := thirteen (H3.out.get 1 rfl)
    have hS : (fun w' : World => w'.cell? ⟨gm, 0, none⟩ = some (.int .i64 n) ∧ w'.cell? ⟨gm, 1, none⟩ = some (.slice U xs.length uc) ∧ w'.cell? ⟨w.heap.size, 0, none⟩ = some (.int .i64 id) ∧ w'.cell? ⟨w.heap.size, 1, none⟩ = some (.int .i64 gn) ∧ w'.cell? ⟨w.heap.size, 2, none⟩ = some (.int .i64 gs) ∧ w'.cell? ⟨w.heap.size, 3, none⟩ = some (vm) ∧ w'.cell? ⟨w.heap.size, 4, none⟩ = some (.int .i64 lost) ∧ w'.cell? ⟨w.heap.size, 5, none⟩ = some (.int .i64 built) ∧ w'.cell? ⟨w.heap.size, 6, none⟩ = some (.int .i64 seq) ∧ w'.cell? ⟨w.heap.size, 7, none⟩ = some (.int .i64 tail) ∧ w'.cell? ⟨w.heap.size, 8, none⟩ = some (.int .i64 gen) ∧ w'.cell? ⟨w.heap.size, 9, none⟩ = some (.slice (some ad) dirty.length c1) ∧ w'.cell? ⟨w.heap.size, 10, none⟩ = some (.int .i64 fuse) ∧ w'.cell? ⟨w.heap.size, 11, none⟩ = some (.bool down) ∧ w'.cell? ⟨w.heap.size, 12, none⟩ = some (.bool broken)) w3 := ⟨m0, m1, k0, k1, k2, k3, k4, k5, k6, k7, k8, k9, k10, k11, k12⟩
    refine hK.out _ _ ⟨fun _ _ => hS, ?_⟩; clear hK K; (try simp only [Act.put, qqP])
    repeat ((first | (refine seqp_pure rfl (fun _ _ _ h => h) (by rfl) (fun w_ => by go_simp; first | done | with_reducible rfl) ?_) | (refine seqp_take hS rfl (fun _ _ _ h => h) (by rfl) (fun w_ hSw => by (try dsimp only at hSw); go_simp; first | done | with_reducible rfl) ?_) | (refine seqp_skip2 rfl (fun _ _ _ h => h) (by rfl) ?_) | (refine seqp_skip1 hS rfl (fun _ _ _ h => h) (by rfl) ?_) | (refine seqp_skip0 rfl (by rfl) ?_)); (try simp only [Act.put, qqP]))
    clear hS
    refine seqp_done ?_
    go_simp
    go_wp2
    go_ret
    exact ⟨ret_bool (by rw [show dirtyB (⟨id, gn, gs, mems, lost, built, seq, tail, gen, dirty, fuse, down, broken⟩ : ArrV) = false from allIx_false Hxi.out (by unfold okE; simp only; rw [HIN.out]; rfl)]), H3.out.toBelow⟩
  ·obtain rfl : i = dirty.length := by omega
   have hmm : dirtyB (⟨id, gn, gs, mems, lost, built, seq, tail, gen, dirty, fuse, down, broken⟩ : ArrV) = true := allIx_true (fun j y hj hy => ht.out j y hj hy)
   have HMM := Aside0.mk hmm
   clear hmm
   go_wp2
   go_ret
   exact ⟨ret_bool HMM.out.symm, HR.out.toBelow⟩
end AOkD
end Go.Proofs.YtggmifnblcjdfaaGreat
