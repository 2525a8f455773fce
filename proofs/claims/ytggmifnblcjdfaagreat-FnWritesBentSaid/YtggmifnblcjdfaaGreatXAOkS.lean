/- Own text: AOkS. -/
import Derived.Test.YtggmifnblcjdfaaGreatXB5
set_option linter.unusedVariables false
set_option linter.unusedSimpArgs false
namespace Go.Proofs.YtggmifnblcjdfaaGreat
namespace AOkS
open Go.RowKit RJ RP Go.Proofs.YtggmifnblcjdfaaGreatW.PrintWords Fp FpStep MInt MKinds MRead MMake MPut MHeld MOk MSuper Go.Proofs.YtggmifnblcjdfaaGreat.Sep SepStep AKinds AMake AEnt ALaw AArr AOk
def memsB (a : ArrV) : Bool := allIx a.mems (okM a)
set_option maxHeartbeats 8000000 in
set_option maxRecDepth 100000 in
theorem c_specL6Mems {w : World} {v : Value} {a : ArrV} (h : ArrR w v a) (hs : 0 ≤ a.gs ∧ a.gs ≤ 1000) (hl : a.mems.length ≤ 16777216) (hsm : ∀ m ∈ a.mems, Small m) :
  Calls Tryz.prog 105 #[v] w fun e w' => e = .returned (.bool (memsB a && decide ((a.mems.length : Int) = a.gn))) ∧ Below w.heap.size w w' := by
 obtain ⟨vm, vd, rfl, r1, r2⟩ := h
 obtain ⟨A1, c1, rfl, hl1, _⟩ := id r1
 have R1 := Aside0.mk r1
 have HG := Aside0.mk hs
 have HSM := Aside0.mk hsm
 clear r1 r2 hl1 hs hsm
 have H0 := Aside0.mk ((Sep.start w []).alloc (g := w.heap.size) rfl (arrC a (.slice A1 a.mems.length c1) vd) 34)
 obtain ⟨id, gn, gs, mems, lost, built, seq, tail, gen, dirty, fuse, down, broken⟩ := a
 simp only [arrC] at *
 go_enter Tryz.func105, Tryz.ntmps105
 go_wp2
 go_loopw [3] (fun v3 wr => ∃ i : Nat, i ≤ mems.length ∧ v3 = .int .i64 i ∧ Aside0 (∀ j y, j < i → mems[j]? = some y → okM (⟨id, gn, gs, mems, lost, built, seq, tail, gen, dirty, fuse, down, broken⟩ : ArrV) j y = true) ∧ Aside0 (Sep w [] wr [bx w.heap.size 34 #[.int .i64 id, .int .i64 gn, .int .i64 gs, .slice A1 mems.length c1, .int .i64 lost, .int .i64 built, .int .i64 seq, .int .i64 tail, .int .i64 gen, vd, .int .i64 fuse, .bool down, .bool broken]])) (fun v3 _ => mems.length - (intOf v3).toNat)
 case atStart => exact ⟨0, by omega, rfl, ⟨fun j y hj => by omega⟩, H0⟩
 case round =>
  clear H0
  obtain ⟨i, hi, rfl, ht, HR⟩ := hrel
  obtain ⟨k0, k1, k2, k3, k4, k5, k6, k7, k8, k9, k10, k11, k12⟩ := thirteen (HR.out.get 0 rfl)
  by_cases hlt : i < mems.length
  ·obtain ⟨x, hxi⟩ : ∃ x, mems[i]? = some x := ⟨_, List.getElem?_eq_getElem hlt⟩
   obtain ⟨ad, cap, ha, hc⟩ := RK_mems R1.out (by omega)
   obtain rfl := (Value.slice.inj ha).1
   obtain ⟨B1, d1, B2, d2, B3, d3, x0, x1, x2, x3, hM⟩ := hc i x hxi
   replace x0 := HR.out.old x0
   replace x1 := HR.out.old x1
   replace x2 := HR.out.old x2
   replace x3 := HR.out.old x3
   have RM := Aside0.mk hM
   have Hxi := Aside0.mk hxi
   have i0 : (0 : Int) ≤ (i : Int) := by omega
   have il : (i : Int) < (mems.length : Int) := by omega
   have hsx := (HSM.out x (List.mem_of_getElem? hxi)).1
   generalize hxf : x.failed = xf at *
   have Hxf := Aside0.mk hxf
   clear ha hc hM hxi hxf
   go_upto_region 5 with fail
   have hB := HR.out.alloc (g := wr.heap.size) rfl #[.slice B1 x.secs.length d1, .slice B2 x.cache.length d2, .bool xf, .slice B3 x.bad.length d3] 89
   generalize hgg : wr.heap.size = gm at *
   generalize hww : wr.alloc (.cells #[.slice B1 x.secs.length d1, .slice B2 x.cache.length d2, .bool xf, .slice B3 x.bad.length d3] 89 (0, 0)) = wm at *
   have Hm := Aside0.mk hB
   clear hB hgg hww x0 x1 x2 x3 HR k0 k1 k2 k3 k4 k5 k6 k7 k8 k9 k10 k11 k12
   obtain ⟨m0, m1, m2, m3⟩ := four (Hm.out.get 0 rfl)
   obtain ⟨k0, k1, k2, k3, k4, k5, k6, k7, k8, k9, k10, k11, k12⟩ := thirteen (Hm.out.get 1 rfl)
   by_cases hmb : memB x = true
   ·have HMB := Aside0.mk hmb
    clear hmb
    by_cases hln : (x.secs.length : Int) = 6 + gs
    ·have HLN := Aside0.mk hln
     have hne : ((x.secs.length : Int) != 6 + gs) = false := by simp [hln]
     clear hln
     cases xf
     ·go_wp2
      refine wp_region_seqp (fun w' => w'.cell? ⟨gm, 0, none⟩ = some (.slice B1 x.secs.length d1) ∧ w'.cell? ⟨gm, 1, none⟩ = some (.slice B2 x.cache.length d2) ∧ w'.cell? ⟨gm, 2, none⟩ = some (.bool false) ∧ w'.cell? ⟨gm, 3, none⟩ = some (.slice B3 x.bad.length d3) ∧ w'.cell? ⟨w.heap.size, 0, none⟩ = some (.int .i64 id) ∧ w'.cell? ⟨w.heap.size, 1, none⟩ = some (.int .i64 gn) ∧ w'.cell? ⟨w.heap.size, 2, none⟩ = some (.int .i64 gs) ∧ w'.cell? ⟨w.heap.size, 3, none⟩ = some (.slice (some ad) mems.length c1) ∧ w'.cell? ⟨w.heap.size, 4, none⟩ = some (.int .i64 lost) ∧ w'.cell? ⟨w.heap.size, 5, none⟩ = some (.int .i64 built) ∧ w'.cell? ⟨w.heap.size, 6, none⟩ = some (.int .i64 seq) ∧ w'.cell? ⟨w.heap.size, 7, none⟩ = some (.int .i64 tail) ∧ w'.cell? ⟨w.heap.size, 8, none⟩ = some (.int .i64 gen) ∧ w'.cell? ⟨w.heap.size, 9, none⟩ = some (vd) ∧ w'.cell? ⟨w.heap.size, 10, none⟩ = some (.int .i64 fuse) ∧ w'.cell? ⟨w.heap.size, 11, none⟩ = some (.bool down) ∧ w'.cell? ⟨w.heap.size, 12, none⟩ = some (.bool broken)) [] [(0, 1), (1, 0), (2, 2), (3, 2), (4, 2), (7, 2), (5, 1), (6, 2), (8, 1), (9, 0), (10, 2), (11, 2), (12, 2), (13, 2), (14, 1), (15, 2), (16, 2), (17, 2), (18, 1), (19, 2), (20, 2), (21, 2), (22, 2), (23, 1), (24, 2), (25, 2), (26, 2)] (by kernel_rfl) (by kernel_rfl) ?_
      have hS : (fun w' : World => w'.cell? ⟨gm, 0, none⟩ = some (.slice B1 x.secs.length d1) ∧ w'.cell? ⟨gm, 1, none⟩ = some (.slice B2 x.cache.length d2) ∧ w'.cell? ⟨gm, 2, none⟩ = some (.bool false) ∧ w'.cell? ⟨gm, 3, none⟩ = some (.slice B3 x.bad.length d3) ∧ w'.cell? ⟨w.heap.size, 0, none⟩ = some (.int .i64 id) ∧ w'.cell? ⟨w.heap.size, 1, none⟩ = some (.int .i64 gn) ∧ w'.cell? ⟨w.heap.size, 2, none⟩ = some (.int .i64 gs) ∧ w'.cell? ⟨w.heap.size, 3, none⟩ = some (.slice (some ad) mems.length c1) ∧ w'.cell? ⟨w.heap.size, 4, none⟩ = some (.int .i64 lost) ∧ w'.cell? ⟨w.heap.size, 5, none⟩ = some (.int .i64 built) ∧ w'.cell? ⟨w.heap.size, 6, none⟩ = some (.int .i64 seq) ∧ w'.cell? ⟨w.heap.size, 7, none⟩ = some (.int .i64 tail) ∧ w'.cell? ⟨w.heap.size, 8, none⟩ = some (.int .i64 gen) ∧ w'.cell? ⟨w.heap.size, 9, none⟩ = some (vd) ∧ w'.cell? ⟨w.heap.size, 10, none⟩ = some (.int .i64 fuse) ∧ w'.cell? ⟨w.heap.size, 11, none⟩ = some (.bool down) ∧ w'.cell? ⟨w.heap.size, 12, none⟩ = some (.bool broken)) wm.drew := ⟨m0, m1, m2, m3, k0, k1, k2, k3, k4, k5, k6, k7, k8, k9, k10, k11, k12⟩
      repeat ((first | (refine seqp_pure rfl (fun _ _ _ h => h) (by rfl) (fun w_ => by go_simp; first | done | with_reducible rfl) ?_) | (refine seqp_take hS rfl (fun _ _ _ h => h) (by rfl) (fun w_ hSw => by (try dsimp only at hSw); go_simp; first | done | with_reducible rfl) ?_) | (refine seqp_skip2 rfl (fun _ _ _ h => h) (by rfl) ?_) | (refine seqp_skip1 hS rfl (fun _ _ _ h => h) (by rfl) ?_) | (refine seqp_skip0 rfl (by rfl) ?_)); (try simp only [Act.put, qqP]))
      refine seqp_step rfl (fun K hK => ?_)
      go_simp
      go_at_call 145; refine (c_specMemOk (MemR_below RM.out Hm.out.drew.toBelow)).mono ?_; rw [HMB.out]; rintro e w3 ⟨rfl, hb⟩
      have H3 := Aside0.mk (Hm.out.drew.below hb)
      clear hb hS m0 m1 m2 m3 k0 k1 k2 k3 k4 k5 k6 k7 k8 k9 k10 k11 k12
      obtain ⟨m0, m1, m2, m3⟩ := four (H3.out.get 0 rfl)
      obtain ⟨k0, k1, k2, k3, k4, k5, k6, k7, k8, k9, k10, k11, k12⟩ := thirteen (H3.out.get 1 rfl)
      have hS : (fun w' : World => w'.cell? ⟨gm, 0, none⟩ = some (.slice B1 x.secs.length d1) ∧ w'.cell? ⟨gm, 1, none⟩ = some (.slice B2 x.cache.length d2) ∧ w'.cell? ⟨gm, 2, none⟩ = some (.bool false) ∧ w'.cell? ⟨gm, 3, none⟩ = some (.slice B3 x.bad.length d3) ∧ w'.cell? ⟨w.heap.size, 0, none⟩ = some (.int .i64 id) ∧ w'.cell? ⟨w.heap.size, 1, none⟩ = some (.int .i64 gn) ∧ w'.cell? ⟨w.heap.size, 2, none⟩ = some (.int .i64 gs) ∧ w'.cell? ⟨w.heap.size, 3, none⟩ = some (.slice (some ad) mems.length c1) ∧ w'.cell? ⟨w.heap.size, 4, none⟩ = some (.int .i64 lost) ∧ w'.cell? ⟨w.heap.size, 5, none⟩ = some (.int .i64 built) ∧ w'.cell? ⟨w.heap.size, 6, none⟩ = some (.int .i64 seq) ∧ w'.cell? ⟨w.heap.size, 7, none⟩ = some (.int .i64 tail) ∧ w'.cell? ⟨w.heap.size, 8, none⟩ = some (.int .i64 gen) ∧ w'.cell? ⟨w.heap.size, 9, none⟩ = some (vd) ∧ w'.cell? ⟨w.heap.size, 10, none⟩ = some (.int .i64 fuse) ∧ w'.cell? ⟨w.heap.size, 11, none⟩ = some (.bool down) ∧ w'.cell? ⟨w.heap.size, 12, none⟩ = some (.bool broken)) w3 := ⟨m0, m1, m2, m3, k0, k1, k2, k3, k4, k5, k6, k7, k8, k9, k10, k11, k12⟩
      refine hK.out _ _ ⟨fun _ _ => hS, ?_⟩; clear hK K; (try simp only [Act.put, qqP])
      repeat ((first | (refine seqp_pure rfl (fun _ _ _ h => h) (by rfl) (fun w_ => by go_simp; first | done | with_reducible rfl) ?_) | (refine seqp_take hS rfl (fun _ _ _ h => h) (by rfl) (fun w_ hSw => by (try dsimp only at hSw); go_simp; first | done | with_reducible rfl) ?_) | (refine seqp_skip2 rfl (fun _ _ _ h => h) (by rfl) ?_) | (refine seqp_skip1 hS rfl (fun _ _ _ h => h) (by rfl) ?_) | (refine seqp_skip0 rfl (by rfl) ?_)); (try simp only [Act.put, qqP]))
      refine seqp_step rfl (fun K hK => ?_)
      go_simp
      go_at_call 146; refine (c_specL6Secs _ _ HG.out.1 HG.out.2).mono ?_; rintro e w4 ⟨rfl, hb⟩
      have H4 := Aside0.mk (H3.out.below hb)
      clear hb hS m0 m1 m2 m3 k0 k1 k2 k3 k4 k5 k6 k7 k8 k9 k10 k11 k12
      obtain ⟨m0, m1, m2, m3⟩ := four (H4.out.get 0 rfl)
      obtain ⟨k0, k1, k2, k3, k4, k5, k6, k7, k8, k9, k10, k11, k12⟩ := thirteen (H4.out.get 1 rfl)
      have hS : (fun w' : World => w'.cell? ⟨gm, 0, none⟩ = some (.slice B1 x.secs.length d1) ∧ w'.cell? ⟨gm, 1, none⟩ = some (.slice B2 x.cache.length d2) ∧ w'.cell? ⟨gm, 2, none⟩ = some (.bool false) ∧ w'.cell? ⟨gm, 3, none⟩ = some (.slice B3 x.bad.length d3) ∧ w'.cell? ⟨w.heap.size, 0, none⟩ = some (.int .i64 id) ∧ w'.cell? ⟨w.heap.size, 1, none⟩ = some (.int .i64 gn) ∧ w'.cell? ⟨w.heap.size, 2, none⟩ = some (.int .i64 gs) ∧ w'.cell? ⟨w.heap.size, 3, none⟩ = some (.slice (some ad) mems.length c1) ∧ w'.cell? ⟨w.heap.size, 4, none⟩ = some (.int .i64 lost) ∧ w'.cell? ⟨w.heap.size, 5, none⟩ = some (.int .i64 built) ∧ w'.cell? ⟨w.heap.size, 6, none⟩ = some (.int .i64 seq) ∧ w'.cell? ⟨w.heap.size, 7, none⟩ = some (.int .i64 tail) ∧ w'.cell? ⟨w.heap.size, 8, none⟩ = some (.int .i64 gen) ∧ w'.cell? ⟨w.heap.size, 9, none⟩ = some (vd) ∧ w'.cell? ⟨w.heap.size, 10, none⟩ = some (.int .i64 fuse) ∧ w'.cell? ⟨w.heap.size, 11, none⟩ = some (.bool down) ∧ w'.cell? ⟨w.heap.size, 12, none⟩ = some (.bool broken)) w4 := ⟨m0, m1, m2, m3, k0, k1, k2, k3, k4, k5, k6, k7, k8, k9, k10, k11, k12⟩
      refine hK.out _ _ ⟨fun _ _ => hS, ?_⟩; clear hK K; (try simp only [Act.put, qqP])
      repeat ((first | (refine seqp_pure rfl (fun _ _ _ h => h) (by rfl) (fun w_ => by go_simp; first | done | with_reducible rfl) ?_) | (refine seqp_take hS rfl (fun _ _ _ h => h) (by rfl) (fun w_ hSw => by (try dsimp only at hSw); go_simp; first | done | with_reducible rfl) ?_) | (refine seqp_skip2 rfl (fun _ _ _ h => h) (by rfl) ?_) | (refine seqp_skip1 hS rfl (fun _ _ _ h => h) (by rfl) ?_) | (refine seqp_skip0 rfl (by rfl) ?_)); (try simp only [Act.put, qqP]))
      clear hS
      refine seqp_done ?_
      go_simp
      go_wp2
      go_roundw
      case rel => exact ⟨i + 1, by omega, by go_num, ⟨ix_next ht.out Hxi.out (by unfold okM; rw [HMB.out, decide_eq_true HLN.out, Hxf.out]; rfl)⟩, ⟨by have hB := H4.out.sel [1] (by decide) (by simp); simp only [qqN] at hB; exact hB⟩⟩
      case measure => simp [intOf]; omega
     ·by_cases hlo : lost = (i : Int)
      ·have HLO := Aside0.mk hlo
       have hnl : ((i : Int) != lost) = false := by simp [hlo]
       clear hlo
       go_wp2
       refine wp_region_seqp (fun w' => w'.cell? ⟨gm, 0, none⟩ = some (.slice B1 x.secs.length d1) ∧ w'.cell? ⟨gm, 1, none⟩ = some (.slice B2 x.cache.length d2) ∧ w'.cell? ⟨gm, 2, none⟩ = some (.bool true) ∧ w'.cell? ⟨gm, 3, none⟩ = some (.slice B3 x.bad.length d3) ∧ w'.cell? ⟨w.heap.size, 0, none⟩ = some (.int .i64 id) ∧ w'.cell? ⟨w.heap.size, 1, none⟩ = some (.int .i64 gn) ∧ w'.cell? ⟨w.heap.size, 2, none⟩ = some (.int .i64 gs) ∧ w'.cell? ⟨w.heap.size, 3, none⟩ = some (.slice (some ad) mems.length c1) ∧ w'.cell? ⟨w.heap.size, 4, none⟩ = some (.int .i64 lost) ∧ w'.cell? ⟨w.heap.size, 5, none⟩ = some (.int .i64 built) ∧ w'.cell? ⟨w.heap.size, 6, none⟩ = some (.int .i64 seq) ∧ w'.cell? ⟨w.heap.size, 7, none⟩ = some (.int .i64 tail) ∧ w'.cell? ⟨w.heap.size, 8, none⟩ = some (.int .i64 gen) ∧ w'.cell? ⟨w.heap.size, 9, none⟩ = some (vd) ∧ w'.cell? ⟨w.heap.size, 10, none⟩ = some (.int .i64 fuse) ∧ w'.cell? ⟨w.heap.size, 11, none⟩ = some (.bool down) ∧ w'.cell? ⟨w.heap.size, 12, none⟩ = some (.bool broken)) [] [(0, 1), (1, 0), (2, 2), (3, 2), (4, 2), (7, 2), (5, 1), (6, 2), (8, 1), (9, 0), (10, 2), (11, 2), (12, 2), (13, 2), (14, 1), (15, 2), (16, 2), (17, 2), (18, 1), (19, 2), (20, 2), (21, 2), (22, 2), (23, 1), (24, 2), (25, 2), (26, 2)] (by kernel_rfl) (by kernel_rfl) ?_
       have hS : (fun w' : World => w'.cell? ⟨gm, 0, none⟩ = some (.slice B1 x.secs.length d1) ∧ w'.cell? ⟨gm, 1, none⟩ = some (.slice B2 x.cache.length d2) ∧ w'.cell? ⟨gm, 2, none⟩ = some (.bool true) ∧ w'.cell? ⟨gm, 3, none⟩ = some (.slice B3 x.bad.length d3) ∧ w'.cell? ⟨w.heap.size, 0, none⟩ = some (.int .i64 id) ∧ w'.cell? ⟨w.heap.size, 1, none⟩ = some (.int .i64 gn) ∧ w'.cell? ⟨w.heap.size, 2, none⟩ = some (.int .i64 gs) ∧ w'.cell? ⟨w.heap.size, 3, none⟩ = some (.slice (some ad) mems.length c1) ∧ w'.cell? ⟨w.heap.size, 4, none⟩ = some (.int .i64 lost) ∧ w'.cell? ⟨w.heap.size, 5, none⟩ = some (.int .i64 built) ∧ w'.cell? ⟨w.heap.size, 6, none⟩ = some (.int .i64 seq) ∧ w'.cell? ⟨w.heap.size, 7, none⟩ = some (.int .i64 tail) ∧ w'.cell? ⟨w.heap.size, 8, none⟩ = some (.int .i64 gen) ∧ w'.cell? ⟨w.heap.size, 9, none⟩ = some (vd) ∧ w'.cell? ⟨w.heap.size, 10, none⟩ = some (.int .i64 fuse) ∧ w'.cell? ⟨w.heap.size, 11, none⟩ = some (.bool down) ∧ w'.cell? ⟨w.heap.size, 12, none⟩ = some (.bool broken)) wm.drew := ⟨m0, m1, m2, m3, k0, k1, k2, k3, k4, k5, k6, k7, k8, k9, k10, k11, k12⟩
       repeat ((first | (refine seqp_pure rfl (fun _ _ _ h => h) (by rfl) (fun w_ => by go_simp; first | done | with_reducible rfl) ?_) | (refine seqp_take hS rfl (fun _ _ _ h => h) (by rfl) (fun w_ hSw => by (try dsimp only at hSw); go_simp; first | done | with_reducible rfl) ?_) | (refine seqp_skip2 rfl (fun _ _ _ h => h) (by rfl) ?_) | (refine seqp_skip1 hS rfl (fun _ _ _ h => h) (by rfl) ?_) | (refine seqp_skip0 rfl (by rfl) ?_)); (try simp only [Act.put, qqP]))
       refine seqp_step rfl (fun K hK => ?_)
       go_simp
       go_at_call 145; refine (c_specMemOk (MemR_below RM.out Hm.out.drew.toBelow)).mono ?_; rw [HMB.out]; rintro e w3 ⟨rfl, hb⟩
       have H3 := Aside0.mk (Hm.out.drew.below hb)
       clear hb hS m0 m1 m2 m3 k0 k1 k2 k3 k4 k5 k6 k7 k8 k9 k10 k11 k12
       obtain ⟨m0, m1, m2, m3⟩ := four (H3.out.get 0 rfl)
       obtain ⟨k0, k1, k2, k3, k4, k5, k6, k7, k8, k9, k10, k11, k12⟩ := thirteen (H3.out.get 1 rfl)
       have hS : (fun w' : World => w'.cell? ⟨gm, 0, none⟩ = some (.slice B1 x.secs.length d1) ∧ w'.cell? ⟨gm, 1, none⟩ = some (.slice B2 x.cache.length d2) ∧ w'.cell? ⟨gm, 2, none⟩ = some (.bool true) ∧ w'.cell? ⟨gm, 3, none⟩ = some (.slice B3 x.bad.length d3) ∧ w'.cell? ⟨w.heap.size, 0, none⟩ = some (.int .i64 id) ∧ w'.cell? ⟨w.heap.size, 1, none⟩ = some (.int .i64 gn) ∧ w'.cell? ⟨w.heap.size, 2, none⟩ = some (.int .i64 gs) ∧ w'.cell? ⟨w.heap.size, 3, none⟩ = some (.slice (some ad) mems.length c1) ∧ w'.cell? ⟨w.heap.size, 4, none⟩ = some (.int .i64 lost) ∧ w'.cell? ⟨w.heap.size, 5, none⟩ = some (.int .i64 built) ∧ w'.cell? ⟨w.heap.size, 6, none⟩ = some (.int .i64 seq) ∧ w'.cell? ⟨w.heap.size, 7, none⟩ = some (.int .i64 tail) ∧ w'.cell? ⟨w.heap.size, 8, none⟩ = some (.int .i64 gen) ∧ w'.cell? ⟨w.heap.size, 9, none⟩ = some (vd) ∧ w'.cell? ⟨w.heap.size, 10, none⟩ = some (.int .i64 fuse) ∧ w'.cell? ⟨w.heap.size, 11, none⟩ = some (.bool down) ∧ w'.cell? ⟨w.heap.size, 12, none⟩ = some (.bool broken)) w3 := ⟨m0, m1, m2, m3, k0, k1, k2, k3, k4, k5, k6, k7, k8, k9, k10, k11, k12⟩
       refine hK.out _ _ ⟨fun _ _ => hS, ?_⟩; clear hK K; (try simp only [Act.put, qqP])
       repeat ((first | (refine seqp_pure rfl (fun _ _ _ h => h) (by rfl) (fun w_ => by go_simp; first | done | with_reducible rfl) ?_) | (refine seqp_take hS rfl (fun _ _ _ h => h) (by rfl) (fun w_ hSw => by (try dsimp only at hSw); go_simp; first | done | with_reducible rfl) ?_) | (refine seqp_skip2 rfl (fun _ _ _ h => h) (by rfl) ?_) | (refine seqp_skip1 hS rfl (fun _ _ _ h => h) (by rfl) ?_) | (refine seqp_skip0 rfl (by rfl) ?_)); (try simp only [Act.put, qqP]))
       refine seqp_step rfl (fun K hK => ?_)
       go_simp
       go_at_call 146; refine (c_specL6Secs _ _ HG.out.1 HG.out.2).mono ?_; rintro e w4 ⟨rfl, hb⟩
       have H4 := Aside0.mk (H3.out.below hb)
       clear hb hS m0 m1 m2 m3 k0 k1 k2 k3 k4 k5 k6 k7 k8 k9 k10 k11 k12
       obtain ⟨m0, m1, m2, m3⟩ := four (H4.out.get 0 rfl)
       obtain ⟨k0, k1, k2, k3, k4, k5, k6, k7, k8, k9, k10, k11, k12⟩ := thirteen (H4.out.get 1 rfl)
       have hS : (fun w' : World => w'.cell? ⟨gm, 0, none⟩ = some (.slice B1 x.secs.length d1) ∧ w'.cell? ⟨gm, 1, none⟩ = some (.slice B2 x.cache.length d2) ∧ w'.cell? ⟨gm, 2, none⟩ = some (.bool true) ∧ w'.cell? ⟨gm, 3, none⟩ = some (.slice B3 x.bad.length d3) ∧ w'.cell? ⟨w.heap.size, 0, none⟩ = some (.int .i64 id) ∧ w'.cell? ⟨w.heap.size, 1, none⟩ = some (.int .i64 gn) ∧ w'.cell? ⟨w.heap.size, 2, none⟩ = some (.int .i64 gs) ∧ w'.cell? ⟨w.heap.size, 3, none⟩ = some (.slice (some ad) mems.length c1) ∧ w'.cell? ⟨w.heap.size, 4, none⟩ = some (.int .i64 lost) ∧ w'.cell? ⟨w.heap.size, 5, none⟩ = some (.int .i64 built) ∧ w'.cell? ⟨w.heap.size, 6, none⟩ = some (.int .i64 seq) ∧ w'.cell? ⟨w.heap.size, 7, none⟩ = some (.int .i64 tail) ∧ w'.cell? ⟨w.heap.size, 8, none⟩ = some (.int .i64 gen) ∧ w'.cell? ⟨w.heap.size, 9, none⟩ = some (vd) ∧ w'.cell? ⟨w.heap.size, 10, none⟩ = some (.int .i64 fuse) ∧ w'.cell? ⟨w.heap.size, 11, none⟩ = some (.bool down) ∧ w'.cell? ⟨w.heap.size, 12, none⟩ = some (.bool broken)) w4 := ⟨m0, m1, m2, m3, k0, k1, k2, k3, k4, k5, k6, k7, k8, k9, k10, k11, k12⟩
       refine hK.out _ _ ⟨fun _ _ => hS, ?_⟩; clear hK K; (try simp only [Act.put, qqP])
       repeat ((first | (refine seqp_pure rfl (fun _ _ _ h => h) (by rfl) (fun w_ => by go_simp; first | done | with_reducible rfl) ?_) | (refine seqp_take hS rfl (fun _ _ _ h => h) (by rfl) (fun w_ hSw => by (try dsimp only at hSw); go_simp; first | done | with_reducible rfl) ?_) | (refine seqp_skip2 rfl (fun _ _ _ h => h) (by rfl) ?_) | (refine seqp_skip1 hS rfl (fun _ _ _ h => h) (by rfl) ?_) | (refine seqp_skip0 rfl (by rfl) ?_)); (try simp only [Act.put, qqP]))
       clear hS
       refine seqp_done ?_
       go_simp
       go_wp2
       go_roundw
       case rel => exact ⟨i + 1, by omega, by go_num, ⟨ix_next ht.out Hxi.out (by unfold okM; rw [HMB.out, decide_eq_true HLN.out, Hxf.out, decide_eq_true HLO.out]; rfl)⟩, ⟨by have hB := H4.out.sel [1] (by decide) (by simp); simp only [qqN] at hB; exact hB⟩⟩
       case measure => simp [intOf]; omega
      ·have hlo2 : ¬ (i : Int) = lost := fun e => hlo e.symm
       have HLO := Aside0.mk hlo
       have hnl : ((i : Int) != lost) = true := by simp [hlo2]
       clear hlo hlo2
       cases broken
       ·go_wp2
        refine wp_region_seqp (fun w' => w'.cell? ⟨gm, 0, none⟩ = some (.slice B1 x.secs.length d1) ∧ w'.cell? ⟨gm, 1, none⟩ = some (.slice B2 x.cache.length d2) ∧ w'.cell? ⟨gm, 2, none⟩ = some (.bool true) ∧ w'.cell? ⟨gm, 3, none⟩ = some (.slice B3 x.bad.length d3) ∧ w'.cell? ⟨w.heap.size, 0, none⟩ = some (.int .i64 id) ∧ w'.cell? ⟨w.heap.size, 1, none⟩ = some (.int .i64 gn) ∧ w'.cell? ⟨w.heap.size, 2, none⟩ = some (.int .i64 gs) ∧ w'.cell? ⟨w.heap.size, 3, none⟩ = some (.slice (some ad) mems.length c1) ∧ w'.cell? ⟨w.heap.size, 4, none⟩ = some (.int .i64 lost) ∧ w'.cell? ⟨w.heap.size, 5, none⟩ = some (.int .i64 built) ∧ w'.cell? ⟨w.heap.size, 6, none⟩ = some (.int .i64 seq) ∧ w'.cell? ⟨w.heap.size, 7, none⟩ = some (.int .i64 tail) ∧ w'.cell? ⟨w.heap.size, 8, none⟩ = some (.int .i64 gen) ∧ w'.cell? ⟨w.heap.size, 9, none⟩ = some (vd) ∧ w'.cell? ⟨w.heap.size, 10, none⟩ = some (.int .i64 fuse) ∧ w'.cell? ⟨w.heap.size, 11, none⟩ = some (.bool down) ∧ w'.cell? ⟨w.heap.size, 12, none⟩ = some (.bool false)) [] [(0, 1), (1, 0), (2, 2), (3, 2), (4, 2), (7, 2), (5, 1), (6, 2), (8, 1), (9, 0), (10, 2), (11, 2), (12, 2), (13, 2), (14, 1), (15, 2), (16, 2), (17, 2), (18, 1), (19, 2), (20, 2), (21, 2), (22, 2), (23, 1), (24, 2), (25, 2), (26, 2)] (by kernel_rfl) (by kernel_rfl) ?_
        have hS : (fun w' : World => w'.cell? ⟨gm, 0, none⟩ = some (.slice B1 x.secs.length d1) ∧ w'.cell? ⟨gm, 1, none⟩ = some (.slice B2 x.cache.length d2) ∧ w'.cell? ⟨gm, 2, none⟩ = some (.bool true) ∧ w'.cell? ⟨gm, 3, none⟩ = some (.slice B3 x.bad.length d3) ∧ w'.cell? ⟨w.heap.size, 0, none⟩ = some (.int .i64 id) ∧ w'.cell? ⟨w.heap.size, 1, none⟩ = some (.int .i64 gn) ∧ w'.cell? ⟨w.heap.size, 2, none⟩ = some (.int .i64 gs) ∧ w'.cell? ⟨w.heap.size, 3, none⟩ = some (.slice (some ad) mems.length c1) ∧ w'.cell? ⟨w.heap.size, 4, none⟩ = some (.int .i64 lost) ∧ w'.cell? ⟨w.heap.size, 5, none⟩ = some (.int .i64 built) ∧ w'.cell? ⟨w.heap.size, 6, none⟩ = some (.int .i64 seq) ∧ w'.cell? ⟨w.heap.size, 7, none⟩ = some (.int .i64 tail) ∧ w'.cell? ⟨w.heap.size, 8, none⟩ = some (.int .i64 gen) ∧ w'.cell? ⟨w.heap.size, 9, none⟩ = some (vd) ∧ w'.cell? ⟨w.heap.size, 10, none⟩ = some (.int .i64 fuse) ∧ w'.cell? ⟨w.heap.size, 11, none⟩ = some (.bool down) ∧ w'.cell? ⟨w.heap.size, 12, none⟩ = some (.bool false)) wm.drew := ⟨m0, m1, m2, m3, k0, k1, k2, k3, k4, k5, k6, k7, k8, k9, k10, k11, k12⟩
        repeat ((first | (refine seqp_pure rfl (fun _ _ _ h => h) (by rfl) (fun w_ => by go_simp; first | done | with_reducible rfl) ?_) | (refine seqp_take hS rfl (fun _ _ _ h => h) (by rfl) (fun w_ hSw => by (try dsimp only at hSw); go_simp; first | done | with_reducible rfl) ?_) | (refine seqp_skip2 rfl (fun _ _ _ h => h) (by rfl) ?_) | (refine seqp_skip1 hS rfl (fun _ _ _ h => h) (by rfl) ?_) | (refine seqp_skip0 rfl (by rfl) ?_)); (try simp only [Act.put, qqP]))
        refine seqp_step rfl (fun K hK => ?_)
        go_simp
        go_at_call 145; refine (c_specMemOk (MemR_below RM.out Hm.out.drew.toBelow)).mono ?_; rw [HMB.out]; rintro e w3 ⟨rfl, hb⟩
        have H3 := Aside0.mk (Hm.out.drew.below hb)
        clear hb hS m0 m1 m2 m3 k0 k1 k2 k3 k4 k5 k6 k7 k8 k9 k10 k11 k12
        obtain ⟨m0, m1, m2, m3⟩ := four (H3.out.get 0 rfl)
        obtain ⟨k0, k1, k2, k3, k4, k5, k6, k7, k8, k9, k10, k11, k12⟩ := thirteen (H3.out.get 1 rfl)
        have hS : (fun w' : World => w'.cell? ⟨gm, 0, none⟩ = some (.slice B1 x.secs.length d1) ∧ w'.cell? ⟨gm, 1, none⟩ = some (.slice B2 x.cache.length d2) ∧ w'.cell? ⟨gm, 2, none⟩ = some (.bool true) ∧ w'.cell? ⟨gm, 3, none⟩ = some (.slice B3 x.bad.length d3) ∧ w'.cell? ⟨w.heap.size, 0, none⟩ = some (.int .i64 id) ∧ w'.cell? ⟨w.heap.size, 1, none⟩ = some (.int .i64 gn) ∧ w'.cell? ⟨w.heap.size, 2, none⟩ = some (.int .i64 gs) ∧ w'.cell? ⟨w.heap.size, 3, none⟩ = some (.slice (some ad) mems.length c1) ∧ w'.cell? ⟨w.heap.size, 4, none⟩ = some (.int .i64 lost) ∧ w'.cell? ⟨w.heap.size, 5, none⟩ = some (.int .i64 built) ∧ w'.cell? ⟨w.heap.size, 6, none⟩ = some (.int .i64 seq) ∧ w'.cell? ⟨w.heap.size, 7, none⟩ = some (.int .i64 tail) ∧ w'.cell? ⟨w.heap.size, 8, none⟩ = some (.int .i64 gen) ∧ w'.cell? ⟨w.heap.size, 9, none⟩ = some (vd) ∧ w'.cell? ⟨w.heap.size, 10, none⟩ = some (.int .i64 fuse) ∧ w'.cell? ⟨w.heap.size, 11, none⟩ = some (.bool down) ∧ w'.cell? ⟨w.heap.size, 12, none⟩ = some (.bool false)) w3 := ⟨m0, m1, m2, m3, k0, k1, k2, k3, k4, k5, k6, k7, k8, k9, k10, k11, k12⟩
        refine hK.out _ _ ⟨fun _ _ => hS, ?_⟩; clear hK K; (try simp only [Act.put, qqP])
        repeat ((first | (refine seqp_pure rfl (fun _ _ _ h => h) (by rfl) (fun w_ => by go_simp; first | done | with_reducible rfl) ?_) | (refine seqp_take hS rfl (fun _ _ _ h => h) (by rfl) (fun w_ hSw => by (try dsimp only at hSw); go_simp; first | done | with_reducible rfl) ?_) | (refine seqp_skip2 rfl (fun _ _ _ h => h) (by rfl) ?_) | (refine seqp_skip1 hS rfl (fun _ _ _ h => h) (by rfl) ?_) | (refine seqp_skip0 rfl (by rfl) ?_)); (try simp only [Act.put, qqP]))
        refine seqp_step rfl (fun K hK => ?_)
        go_simp
        go_at_call 146; refine (c_specL6Secs _ _ HG.out.1 HG.out.2).mono ?_; rintro e w4 ⟨rfl, hb⟩
        have H4 := Aside0.mk (H3.out.below hb)
        clear hb hS m0 m1 m2 m3 k0 k1 k2 k3 k4 k5 k6 k7 k8 k9 k10 k11 k12
        obtain ⟨m0, m1, m2, m3⟩ := four (H4.out.get 0 rfl)
        obtain ⟨k0, k1, k2, k3, k4, k5, k6, k7, k8, k9, k10, k11, k12⟩ := thirteen (H4.out.get 1 rfl)
        have hS : (fun w' : World => w'.cell? ⟨gm, 0, none⟩ = some (.slice B1 x.secs.length d1) ∧ w'.cell? ⟨gm, 1, none⟩ = some (.slice B2 x.cache.length d2) ∧ w'.cell? ⟨gm, 2, none⟩ = some (.bool true) ∧ w'.cell? ⟨gm, 3, none⟩ = some (.slice B3 x.bad.length d3) ∧ w'.cell? ⟨w.heap.size, 0, none⟩ = some (.int .i64 id) ∧ w'.cell? ⟨w.heap.size, 1, none⟩ = some (.int .i64 gn) ∧ w'.cell? ⟨w.heap.size, 2, none⟩ = some (.int .i64 gs) ∧ w'.cell? ⟨w.heap.size, 3, none⟩ = some (.slice (some ad) mems.length c1) ∧ w'.cell? ⟨w.heap.size, 4, none⟩ = some (.int .i64 lost) ∧ w'.cell? ⟨w.heap.size, 5, none⟩ = some (.int .i64 built) ∧ w'.cell? ⟨w.heap.size, 6, none⟩ = some (.int .i64 seq) ∧ w'.cell? ⟨w.heap.size, 7, none⟩ = some (.int .i64 tail) ∧ w'.cell? ⟨w.heap.size, 8, none⟩ = some (.int .i64 gen) ∧ w'.cell? ⟨w.heap.size, 9, none⟩ = some (vd) ∧ w'.cell? ⟨w.heap.size, 10, none⟩ = some (.int .i64 fuse) ∧ w'.cell? ⟨w.heap.size, 11, none⟩ = some (.bool down) ∧ w'.cell? ⟨w.heap.size, 12, none⟩ = some (.bool false)) w4 := ⟨m0, m1, m2, m3, k0, k1, k2, k3, k4, k5, k6, k7, k8, k9, k10, k11, k12⟩
        refine hK.out _ _ ⟨fun _ _ => hS, ?_⟩; clear hK K; (try simp only [Act.put, qqP])
        repeat ((first | (refine seqp_pure rfl (fun _ _ _ h => h) (by rfl) (fun w_ => by go_simp; first | done | with_reducible rfl) ?_) | (refine seqp_take hS rfl (fun _ _ _ h => h) (by rfl) (fun w_ hSw => by (try dsimp only at hSw); go_simp; first | done | with_reducible rfl) ?_) | (refine seqp_skip2 rfl (fun _ _ _ h => h) (by rfl) ?_) | (refine seqp_skip1 hS rfl (fun _ _ _ h => h) (by rfl) ?_) | (refine seqp_skip0 rfl (by rfl) ?_)); (try simp only [Act.put, qqP]))
        clear hS
        refine seqp_done ?_
        go_simp
        go_wp2
        go_ret
        exact ⟨ret_bool (by rw [show memsB (⟨id, gn, gs, mems, lost, built, seq, tail, gen, dirty, fuse, down, false⟩ : ArrV) = false from allIx_false Hxi.out (by unfold okM; rw [HMB.out, decide_eq_true HLN.out, Hxf.out, decide_eq_false HLO.out]; rfl)]; rfl), H4.out.toBelow⟩
       ·go_wp2
        refine wp_region_seqp (fun w' => w'.cell? ⟨gm, 0, none⟩ = some (.slice B1 x.secs.length d1) ∧ w'.cell? ⟨gm, 1, none⟩ = some (.slice B2 x.cache.length d2) ∧ w'.cell? ⟨gm, 2, none⟩ = some (.bool true) ∧ w'.cell? ⟨gm, 3, none⟩ = some (.slice B3 x.bad.length d3) ∧ w'.cell? ⟨w.heap.size, 0, none⟩ = some (.int .i64 id) ∧ w'.cell? ⟨w.heap.size, 1, none⟩ = some (.int .i64 gn) ∧ w'.cell? ⟨w.heap.size, 2, none⟩ = some (.int .i64 gs) ∧ w'.cell? ⟨w.heap.size, 3, none⟩ = some (.slice (some ad) mems.length c1) ∧ w'.cell? ⟨w.heap.size, 4, none⟩ = some (.int .i64 lost) ∧ w'.cell? ⟨w.heap.size, 5, none⟩ = some (.int .i64 built) ∧ w'.cell? ⟨w.heap.size, 6, none⟩ = some (.int .i64 seq) ∧ w'.cell? ⟨w.heap.size, 7, none⟩ = some (.int .i64 tail) ∧ w'.cell? ⟨w.heap.size, 8, none⟩ = some (.int .i64 gen) ∧ w'.cell? ⟨w.heap.size, 9, none⟩ = some (vd) ∧ w'.cell? ⟨w.heap.size, 10, none⟩ = some (.int .i64 fuse) ∧ w'.cell? ⟨w.heap.size, 11, none⟩ = some (.bool down) ∧ w'.cell? ⟨w.heap.size, 12, none⟩ = some (.bool true)) [] [(0, 1), (1, 0), (2, 2), (3, 2), (4, 2), (7, 2), (5, 1), (6, 2), (8, 1), (9, 0), (10, 2), (11, 2), (12, 2), (13, 2), (14, 1), (15, 2), (16, 2), (17, 2), (18, 1), (19, 2), (20, 2), (21, 2), (22, 2), (23, 1), (24, 2), (25, 2), (26, 2)] (by kernel_rfl) (by kernel_rfl) ?_
        have hS : (fun w' : World => w'.cell? ⟨gm, 0, none⟩ = some (.slice B1 x.secs.length d1) ∧ w'.cell? ⟨gm, 1, none⟩ = some (.slice B2 x.cache.length d2) ∧ w'.cell? ⟨gm, 2, none⟩ = some (.bool true) ∧ w'.cell? ⟨gm, 3, none⟩ = some (.slice B3 x.bad.length d3) ∧ w'.cell? ⟨w.heap.size, 0, none⟩ = some (.int .i64 id) ∧ w'.cell? ⟨w.heap.size, 1, none⟩ = some (.int .i64 gn) ∧ w'.cell? ⟨w.heap.size, 2, none⟩ = some (.int .i64 gs) ∧ w'.cell? ⟨w.heap.size, 3, none⟩ = some (.slice (some ad) mems.length c1) ∧ w'.cell? ⟨w.heap.size, 4, none⟩ = some (.int .i64 lost) ∧ w'.cell? ⟨w.heap.size, 5, none⟩ = some (.int .i64 built) ∧ w'.cell? ⟨w.heap.size, 6, none⟩ = some (.int .i64 seq) ∧ w'.cell? ⟨w.heap.size, 7, none⟩ = some (.int .i64 tail) ∧ w'.cell? ⟨w.heap.size, 8, none⟩ = some (.int .i64 gen) ∧ w'.cell? ⟨w.heap.size, 9, none⟩ = some (vd) ∧ w'.cell? ⟨w.heap.size, 10, none⟩ = some (.int .i64 fuse) ∧ w'.cell? ⟨w.heap.size, 11, none⟩ = some (.bool down) ∧ w'.cell? ⟨w.heap.size, 12, none⟩ = some (.bool true)) wm.drew := ⟨m0, m1, m2, m3, k0, k1, k2, k3, k4, k5, k6, k7, k8, k9, k10, k11, k12⟩
        repeat ((first | (refine seqp_pure rfl (fun _ _ _ h => h) (by rfl) (fun w_ => by go_simp; first | done | with_reducible rfl) ?_) | (refine seqp_take hS rfl (fun _ _ _ h => h) (by rfl) (fun w_ hSw => by (try dsimp only at hSw); go_simp; first | done | with_reducible rfl) ?_) | (refine seqp_skip2 rfl (fun _ _ _ h => h) (by rfl) ?_) | (refine seqp_skip1 hS rfl (fun _ _ _ h => h) (by rfl) ?_) | (refine seqp_skip0 rfl (by rfl) ?_)); (try simp only [Act.put, qqP]))
        refine seqp_step rfl (fun K hK => ?_)
        go_simp
        go_at_call 145; refine (c_specMemOk (MemR_below RM.out Hm.out.drew.toBelow)).mono ?_; rw [HMB.out]; rintro e w3 ⟨rfl, hb⟩
        have H3 := Aside0.mk (Hm.out.drew.below hb)
        clear hb hS m0 m1 m2 m3 k0 k1 k2 k3 k4 k5 k6 k7 k8 k9 k10 k11 k12
        obtain ⟨m0, m1, m2, m3⟩ := four (H3.out.get 0 rfl)
        obtain ⟨k0, k1, k2, k3, k4, k5, k6, k7, k8, k9, k10, k11, k12⟩ := thirteen (H3.out.get 1 rfl)
        have hS : (fun w' : World => w'.cell? ⟨gm, 0, none⟩ = some (.slice B1 x.secs.length d1) ∧ w'.cell? ⟨gm, 1, none⟩ = some (.slice B2 x.cache.length d2) ∧ w'.cell? ⟨gm, 2, none⟩ = some (.bool true) ∧ w'.cell? ⟨gm, 3, none⟩ = some (.slice B3 x.bad.length d3) ∧ w'.cell? ⟨w.heap.size, 0, none⟩ = some (.int .i64 id) ∧ w'.cell? ⟨w.heap.size, 1, none⟩ = some (.int .i64 gn) ∧ w'.cell? ⟨w.heap.size, 2, none⟩ = some (.int .i64 gs) ∧ w'.cell? ⟨w.heap.size, 3, none⟩ = some (.slice (some ad) mems.length c1) ∧ w'.cell? ⟨w.heap.size, 4, none⟩ = some (.int .i64 lost) ∧ w'.cell? ⟨w.heap.size, 5, none⟩ = some (.int .i64 built) ∧ w'.cell? ⟨w.heap.size, 6, none⟩ = some (.int .i64 seq) ∧ w'.cell? ⟨w.heap.size, 7, none⟩ = some (.int .i64 tail) ∧ w'.cell? ⟨w.heap.size, 8, none⟩ = some (.int .i64 gen) ∧ w'.cell? ⟨w.heap.size, 9, none⟩ = some (vd) ∧ w'.cell? ⟨w.heap.size, 10, none⟩ = some (.int .i64 fuse) ∧ w'.cell? ⟨w.heap.size, 11, none⟩ = some (.bool down) ∧ w'.cell? ⟨w.heap.size, 12, none⟩ = some (.bool true)) w3 := ⟨m0, m1, m2, m3, k0, k1, k2, k3, k4, k5, k6, k7, k8, k9, k10, k11, k12⟩
        refine hK.out _ _ ⟨fun _ _ => hS, ?_⟩; clear hK K; (try simp only [Act.put, qqP])
        repeat ((first | (refine seqp_pure rfl (fun _ _ _ h => h) (by rfl) (fun w_ => by go_simp; first | done | with_reducible rfl) ?_) | (refine seqp_take hS rfl (fun _ _ _ h => h) (by rfl) (fun w_ hSw => by (try dsimp only at hSw); go_simp; first | done | with_reducible rfl) ?_) | (refine seqp_skip2 rfl (fun _ _ _ h => h) (by rfl) ?_) | (refine seqp_skip1 hS rfl (fun _ _ _ h => h) (by rfl) ?_) | (refine seqp_skip0 rfl (by rfl) ?_)); (try simp only [Act.put, qqP]))
        refine seqp_step rfl (fun K hK => ?_)
        go_simp
        go_at_call 146; refine (c_specL6Secs _ _ HG.out.1 HG.out.2).mono ?_; rintro e w4 ⟨rfl, hb⟩
        have H4 := Aside0.mk (H3.out.below hb)
        clear hb hS m0 m1 m2 m3 k0 k1 k2 k3 k4 k5 k6 k7 k8 k9 k10 k11 k12
        obtain ⟨m0, m1, m2, m3⟩ := four (H4.out.get 0 rfl)
        obtain ⟨k0, k1, k2, k3, k4, k5, k6, k7, k8, k9, k10, k11, k12⟩ := thirteen (H4.out.get 1 rfl)
        have hS : (fun w' : World => w'.cell? ⟨gm, 0, none⟩ = some (.slice B1 x.secs.length d1) ∧ w'.cell? ⟨gm, 1, none⟩ = some (.slice B2 x.cache.length d2) ∧ w'.cell? ⟨gm, 2, none⟩ = some (.bool true) ∧ w'.cell? ⟨gm, 3, none⟩ = some (.slice B3 x.bad.length d3) ∧ w'.cell? ⟨w.heap.size, 0, none⟩ = some (.int .i64 id) ∧ w'.cell? ⟨w.heap.size, 1, none⟩ = some (.int .i64 gn) ∧ w'.cell? ⟨w.heap.size, 2, none⟩ = some (.int .i64 gs) ∧ w'.cell? ⟨w.heap.size, 3, none⟩ = some (.slice (some ad) mems.length c1) ∧ w'.cell? ⟨w.heap.size, 4, none⟩ = some (.int .i64 lost) ∧ w'.cell? ⟨w.heap.size, 5, none⟩ = some (.int .i64 built) ∧ w'.cell? ⟨w.heap.size, 6, none⟩ = some (.int .i64 seq) ∧ w'.cell? ⟨w.heap.size, 7, none⟩ = some (.int .i64 tail) ∧ w'.cell? ⟨w.heap.size, 8, none⟩ = some (.int .i64 gen) ∧ w'.cell? ⟨w.heap.size, 9, none⟩ = some (vd) ∧ w'.cell? ⟨w.heap.size, 10, none⟩ = some (.int .i64 fuse) ∧ w'.cell? ⟨w.heap.size, 11, none⟩ = some (.bool down) ∧ w'.cell? ⟨w.heap.size, 12, none⟩ = some (.bool true)) w4 := ⟨m0, m1, m2, m3, k0, k1, k2, k3, k4, k5, k6, k7, k8, k9, k10, k11, k12⟩
        refine hK.out _ _ ⟨fun _ _ => hS, ?_⟩; clear hK K; (try simp only [Act.put, qqP])
        repeat ((first | (refine seqp_pure rfl (fun _ _ _ h => h) (by rfl) (fun w_ => by go_simp; first | done | with_reducible rfl) ?_) | (refine seqp_take hS rfl (fun _ _ _ h => h) (by rfl) (fun w_ hSw => by (try dsimp only at hSw); go_simp; first | done | with_reducible rfl) ?_) | (refine seqp_skip2 rfl (fun _ _ _ h => h) (by rfl) ?_) | (refine seqp_skip1 hS rfl (fun _ _ _ h => h) (by rfl) ?_) | (refine seqp_skip0 rfl (by rfl) ?_)); (try simp only [Act.put, qqP]))
        clear hS
        refine seqp_done ?_
        go_simp
        go_wp2
        go_roundw
        case rel => exact ⟨i + 1, by omega, by go_num, ⟨ix_next ht.out Hxi.out (by unfold okM; rw [HMB.out, decide_eq_true HLN.out, Hxf.out, decide_eq_false HLO.out]; rfl)⟩, ⟨by have hB := H4.out.sel [1] (by decide) (by simp); simp only [qqN] at hB; exact hB⟩⟩
        case measure => simp [intOf]; omega
    ·have HLN := Aside0.mk hln
     have hne : ((x.secs.length : Int) != 6 + gs) = true := by simp [hln]
     go_wp2
     refine wp_region_seqp (fun w' => w'.cell? ⟨gm, 0, none⟩ = some (.slice B1 x.secs.length d1) ∧ w'.cell? ⟨gm, 1, none⟩ = some (.slice B2 x.cache.length d2) ∧ w'.cell? ⟨gm, 2, none⟩ = some (.bool xf) ∧ w'.cell? ⟨gm, 3, none⟩ = some (.slice B3 x.bad.length d3) ∧ w'.cell? ⟨w.heap.size, 0, none⟩ = some (.int .i64 id) ∧ w'.cell? ⟨w.heap.size, 1, none⟩ = some (.int .i64 gn) ∧ w'.cell? ⟨w.heap.size, 2, none⟩ = some (.int .i64 gs) ∧ w'.cell? ⟨w.heap.size, 3, none⟩ = some (.slice (some ad) mems.length c1) ∧ w'.cell? ⟨w.heap.size, 4, none⟩ = some (.int .i64 lost) ∧ w'.cell? ⟨w.heap.size, 5, none⟩ = some (.int .i64 built) ∧ w'.cell? ⟨w.heap.size, 6, none⟩ = some (.int .i64 seq) ∧ w'.cell? ⟨w.heap.size, 7, none⟩ = some (.int .i64 tail) ∧ w'.cell? ⟨w.heap.size, 8, none⟩ = some (.int .i64 gen) ∧ w'.cell? ⟨w.heap.size, 9, none⟩ = some (vd) ∧ w'.cell? ⟨w.heap.size, 10, none⟩ = some (.int .i64 fuse) ∧ w'.cell? ⟨w.heap.size, 11, none⟩ = some (.bool down) ∧ w'.cell? ⟨w.heap.size, 12, none⟩ = some (.bool broken)) [] [(0, 1), (1, 0), (2, 2), (3, 2), (4, 2), (7, 2), (5, 1), (6, 2), (8, 1), (9, 0), (10, 2), (11, 2), (12, 2), (13, 2), (14, 1), (15, 2), (16, 2), (17, 2), (18, 1), (19, 2), (20, 2), (21, 2), (22, 2), (23, 1), (24, 2), (25, 2), (26, 2)] (by kernel_rfl) (by kernel_rfl) ?_
     have hS : (fun w' : World => w'.cell? ⟨gm, 0, none⟩ = some (.slice B1 x.secs.length d1) ∧ w'.cell? ⟨gm, 1, none⟩ = some (.slice B2 x.cache.length d2) ∧ w'.cell? ⟨gm, 2, none⟩ = some (.bool xf) ∧ w'.cell? ⟨gm, 3, none⟩ = some (.slice B3 x.bad.length d3) ∧ w'.cell? ⟨w.heap.size, 0, none⟩ = some (.int .i64 id) ∧ w'.cell? ⟨w.heap.size, 1, none⟩ = some (.int .i64 gn) ∧ w'.cell? ⟨w.heap.size, 2, none⟩ = some (.int .i64 gs) ∧ w'.cell? ⟨w.heap.size, 3, none⟩ = some (.slice (some ad) mems.length c1) ∧ w'.cell? ⟨w.heap.size, 4, none⟩ = some (.int .i64 lost) ∧ w'.cell? ⟨w.heap.size, 5, none⟩ = some (.int .i64 built) ∧ w'.cell? ⟨w.heap.size, 6, none⟩ = some (.int .i64 seq) ∧ w'.cell? ⟨w.heap.size, 7, none⟩ = some (.int .i64 tail) ∧ w'.cell? ⟨w.heap.size, 8, none⟩ = some (.int .i64 gen) ∧ w'.cell? ⟨w.heap.size, 9, none⟩ = some (vd) ∧ w'.cell? ⟨w.heap.size, 10, none⟩ = some (.int .i64 fuse) ∧ w'.cell? ⟨w.heap.size, 11, none⟩ = some (.bool down) ∧ w'.cell? ⟨w.heap.size, 12, none⟩ = some (.bool broken)) wm.drew := ⟨m0, m1, m2, m3, k0, k1, k2, k3, k4, k5, k6, k7, k8, k9, k10, k11, k12⟩
     repeat ((first | (refine seqp_pure rfl (fun _ _ _ h => h) (by rfl) (fun w_ => by go_simp; first | done | with_reducible rfl) ?_) | (refine seqp_take hS rfl (fun _ _ _ h => h) (by rfl) (fun w_ hSw => by (try dsimp only at hSw); go_simp; first | done | with_reducible rfl) ?_) | (refine seqp_skip2 rfl (fun _ _ _ h => h) (by rfl) ?_) | (refine seqp_skip1 hS rfl (fun _ _ _ h => h) (by rfl) ?_) | (refine seqp_skip0 rfl (by rfl) ?_)); (try simp only [Act.put, qqP]))
     refine seqp_step rfl (fun K hK => ?_)
     go_simp
     go_at_call 145; refine (c_specMemOk (MemR_below RM.out Hm.out.drew.toBelow)).mono ?_; rw [HMB.out]; rintro e w3 ⟨rfl, hb⟩
     have H3 := Aside0.mk (Hm.out.drew.below hb)
     clear hb hS m0 m1 m2 m3 k0 k1 k2 k3 k4 k5 k6 k7 k8 k9 k10 k11 k12
     obtain ⟨m0, m1, m2, m3⟩ := four (H3.out.get 0 rfl)
     obtain ⟨k0, k1, k2, k3, k4, k5, k6, k7, k8, k9, k10, k11, k12⟩ := thirteen (H3.out.get 1 rfl)
     have hS : (fun w' : World => w'.cell? ⟨gm, 0, none⟩ = some (.slice B1 x.secs.length d1) ∧ w'.cell? ⟨gm, 1, none⟩ = some (.slice B2 x.cache.length d2) ∧ w'.cell? ⟨gm, 2, none⟩ = some (.bool xf) ∧ w'.cell? ⟨gm, 3, none⟩ = some (.slice B3 x.bad.length d3) ∧ w'.cell? ⟨w.heap.size, 0, none⟩ = some (.int .i64 id) ∧ w'.cell? ⟨w.heap.size, 1, none⟩ = some (.int .i64 gn) ∧ w'.cell? ⟨w.heap.size, 2, none⟩ = some (.int .i64 gs) ∧ w'.cell? ⟨w.heap.size, 3, none⟩ = some (.slice (some ad) mems.length c1) ∧ w'.cell? ⟨w.heap.size, 4, none⟩ = some (.int .i64 lost) ∧ w'.cell? ⟨w.heap.size, 5, none⟩ = some (.int .i64 built) ∧ w'.cell? ⟨w.heap.size, 6, none⟩ = some (.int .i64 seq) ∧ w'.cell? ⟨w.heap.size, 7, none⟩ = some (.int .i64 tail) ∧ w'.cell? ⟨w.heap.size, 8, none⟩ = some (.int .i64 gen) ∧ w'.cell? ⟨w.heap.size, 9, none⟩ = some (vd) ∧ w'.cell? ⟨w.heap.size, 10, none⟩ = some (.int .i64 fuse) ∧ w'.cell? ⟨w.heap.size, 11, none⟩ = some (.bool down) ∧ w'.cell? ⟨w.heap.size, 12, none⟩ = some (.bool broken)) w3 := ⟨m0, m1, m2, m3, k0, k1, k2, k3, k4, k5, k6, k7, k8, k9, k10, k11, k12⟩
     refine hK.out _ _ ⟨fun _ _ => hS, ?_⟩; clear hK K; (try simp only [Act.put, qqP])
     repeat ((first | (refine seqp_pure rfl (fun _ _ _ h => h) (by rfl) (fun w_ => by go_simp; first | done | with_reducible rfl) ?_) | (refine seqp_take hS rfl (fun _ _ _ h => h) (by rfl) (fun w_ hSw => by (try dsimp only at hSw); go_simp; first | done | with_reducible rfl) ?_) | (refine seqp_skip2 rfl (fun _ _ _ h => h) (by rfl) ?_) | (refine seqp_skip1 hS rfl (fun _ _ _ h => h) (by rfl) ?_) | (refine seqp_skip0 rfl (by rfl) ?_)); (try simp only [Act.put, qqP]))
     refine seqp_step rfl (fun K hK => ?_)
     go_simp
     go_at_call 146; refine (c_specL6Secs _ _ HG.out.1 HG.out.2).mono ?_; rintro e w4 ⟨rfl, hb⟩
     have H4 := Aside0.mk (H3.out.below hb)
     clear hb hS m0 m1 m2 m3 k0 k1 k2 k3 k4 k5 k6 k7 k8 k9 k10 k11 k12
     obtain ⟨m0, m1, m2, m3⟩ := four (H4.out.get 0 rfl)
     obtain ⟨k0, k1, k2, k3, k4, k5, k6, k7, k8, k9, k10, k11, k12⟩ := thirteen (H4.out.get 1 rfl)
     have hS : (fun w' : World => w'.cell? ⟨gm, 0, none⟩ = some (.slice B1 x.secs.length d1) ∧ w'.cell? ⟨gm, 1, none⟩ = some (.slice B2 x.cache.length d2) ∧ w'.cell? ⟨gm, 2, none⟩ = some (.bool xf) ∧ w'.cell? ⟨gm, 3, none⟩ = some (.slice B3 x.bad.length d3) ∧ w'.cell? ⟨w.heap.size, 0, none⟩ = some (.int .i64 id) ∧ w'.cell? ⟨w.heap.size, 1, none⟩ = some (.int .i64 gn) ∧ w'.cell? ⟨w.heap.size, 2, none⟩ = some (.int .i64 gs) ∧ w'.cell? ⟨w.heap.size, 3, none⟩ = some (.slice (some ad) mems.length c1) ∧ w'.cell? ⟨w.heap.size, 4, none⟩ = some (.int .i64 lost) ∧ w'.cell? ⟨w.heap.size, 5, none⟩ = some (.int .i64 built) ∧ w'.cell? ⟨w.heap.size, 6, none⟩ = some (.int .i64 seq) ∧ w'.cell? ⟨w.heap.size, 7, none⟩ = some (.int .i64 tail) ∧ w'.cell? ⟨w.heap.size, 8, none⟩ = some (.int .i64 gen) ∧ w'.cell? ⟨w.heap.size, 9, none⟩ = some (vd) ∧ w'.cell? ⟨w.heap.size, 10, none⟩ = some (.int .i64 fuse) ∧ w'.cell? ⟨w.heap.size, 11, none⟩ = some (.bool down) ∧ w'.cell? ⟨w.heap.size, 12, none⟩ = some (.bool broken)) w4 := ⟨m0, m1, m2, m3, k0, k1, k2, k3, k4, k5, k6, k7, k8, k9, k10, k11, k12⟩
     refine hK.out _ _ ⟨fun _ _ => hS, ?_⟩; clear hK K; (try simp only [Act.put, qqP])
     repeat ((first | (refine seqp_pure rfl (fun _ _ _ h => h) (by rfl) (fun w_ => by go_simp; first | done | with_reducible rfl) ?_) | (refine seqp_take hS rfl (fun _ _ _ h => h) (by rfl) (fun w_ hSw => by (try dsimp only at hSw); go_simp; first | done | with_reducible rfl) ?_) | (refine seqp_skip2 rfl (fun _ _ _ h => h) (by rfl) ?_) | (refine seqp_skip1 hS rfl (fun _ _ _ h => h) (by rfl) ?_) | (refine seqp_skip0 rfl (by rfl) ?_)); (try simp only [Act.put, qqP]))
     clear hS
     refine seqp_done ?_
     go_simp
     go_wp2
     go_ret
     exact ⟨ret_bool (by rw [show memsB (⟨id, gn, gs, mems, lost, built, seq, tail, gen, dirty, fuse, down, broken⟩ : ArrV) = false from allIx_false Hxi.out (by unfold okM; rw [HMB.out, decide_eq_false HLN.out]; rfl)]; rfl), H4.out.toBelow⟩
   ·simp only [Bool.not_eq_true] at hmb
    have HMB := Aside0.mk hmb
    clear hmb
    go_wp2
    refine wp_region_seqp (fun w' => w'.cell? ⟨gm, 0, none⟩ = some (.slice B1 x.secs.length d1) ∧ w'.cell? ⟨gm, 1, none⟩ = some (.slice B2 x.cache.length d2) ∧ w'.cell? ⟨gm, 2, none⟩ = some (.bool xf) ∧ w'.cell? ⟨gm, 3, none⟩ = some (.slice B3 x.bad.length d3) ∧ w'.cell? ⟨w.heap.size, 0, none⟩ = some (.int .i64 id) ∧ w'.cell? ⟨w.heap.size, 1, none⟩ = some (.int .i64 gn) ∧ w'.cell? ⟨w.heap.size, 2, none⟩ = some (.int .i64 gs) ∧ w'.cell? ⟨w.heap.size, 3, none⟩ = some (.slice (some ad) mems.length c1) ∧ w'.cell? ⟨w.heap.size, 4, none⟩ = some (.int .i64 lost) ∧ w'.cell? ⟨w.heap.size, 5, none⟩ = some (.int .i64 built) ∧ w'.cell? ⟨w.heap.size, 6, none⟩ = some (.int .i64 seq) ∧ w'.cell? ⟨w.heap.size, 7, none⟩ = some (.int .i64 tail) ∧ w'.cell? ⟨w.heap.size, 8, none⟩ = some (.int .i64 gen) ∧ w'.cell? ⟨w.heap.size, 9, none⟩ = some (vd) ∧ w'.cell? ⟨w.heap.size, 10, none⟩ = some (.int .i64 fuse) ∧ w'.cell? ⟨w.heap.size, 11, none⟩ = some (.bool down) ∧ w'.cell? ⟨w.heap.size, 12, none⟩ = some (.bool broken)) [] [(0, 1), (1, 0), (2, 2), (3, 2), (4, 2), (7, 2), (5, 1), (6, 2), (8, 1), (9, 0), (10, 2), (11, 2), (12, 2), (13, 2), (14, 1), (15, 2), (16, 2), (17, 2), (18, 1), (19, 2), (20, 2), (21, 2), (22, 2), (23, 1), (24, 2), (25, 2), (26, 2)] (by kernel_rfl) (by kernel_rfl) ?_
    have hS : (fun w' : World => w'.cell? ⟨gm, 0, none⟩ = some (.slice B1 x.secs.length d1) ∧ w'.cell? ⟨gm, 1, none⟩ = some (.slice B2 x.cache.length d2) ∧ w'.cell? ⟨gm, 2, none⟩ = some (.bool xf) ∧ w'.cell? ⟨gm, 3, none⟩ = some (.slice B3 x.bad.length d3) ∧ w'.cell? ⟨w.heap.size, 0, none⟩ = some (.int .i64 id) ∧ w'.cell? ⟨w.heap.size, 1, none⟩ = some (.int .i64 gn) ∧ w'.cell? ⟨w.heap.size, 2, none⟩ = some (.int .i64 gs) ∧ w'.cell? ⟨w.heap.size, 3, none⟩ = some (.slice (some ad) mems.length c1) ∧ w'.cell? ⟨w.heap.size, 4, none⟩ = some (.int .i64 lost) ∧ w'.cell? ⟨w.heap.size, 5, none⟩ = some (.int .i64 built) ∧ w'.cell? ⟨w.heap.size, 6, none⟩ = some (.int .i64 seq) ∧ w'.cell? ⟨w.heap.size, 7, none⟩ = some (.int .i64 tail) ∧ w'.cell? ⟨w.heap.size, 8, none⟩ = some (.int .i64 gen) ∧ w'.cell? ⟨w.heap.size, 9, none⟩ = some (vd) ∧ w'.cell? ⟨w.heap.size, 10, none⟩ = some (.int .i64 fuse) ∧ w'.cell? ⟨w.heap.size, 11, none⟩ = some (.bool down) ∧ w'.cell? ⟨w.heap.size, 12, none⟩ = some (.bool broken)) wm.drew := ⟨m0, m1, m2, m3, k0, k1, k2, k3, k4, k5, k6, k7, k8, k9, k10, k11, k12⟩
    repeat ((first | (refine seqp_pure rfl (fun _ _ _ h => h) (by rfl) (fun w_ => by go_simp; first | done | with_reducible rfl) ?_) | (refine seqp_take hS rfl (fun _ _ _ h => h) (by rfl) (fun w_ hSw => by (try dsimp only at hSw); go_simp; first | done | with_reducible rfl) ?_) | (refine seqp_skip2 rfl (fun _ _ _ h => h) (by rfl) ?_) | (refine seqp_skip1 hS rfl (fun _ _ _ h => h) (by rfl) ?_) | (refine seqp_skip0 rfl (by rfl) ?_)); (try simp only [Act.put, qqP]))
    refine seqp_step rfl (fun K hK => ?_)
    go_simp
    go_at_call 145; refine (c_specMemOk (MemR_below RM.out Hm.out.drew.toBelow)).mono ?_; rw [HMB.out]; rintro e w3 ⟨rfl, hb⟩
    have H3 := Aside0.mk (Hm.out.drew.below hb)
    clear hb hS m0 m1 m2 m3 k0 k1 k2 k3 k4 k5 k6 k7 k8 k9 k10 k11 k12
    obtain ⟨m0, m1, m2, m3⟩ := four (H3.out.get 0 rfl)
    obtain ⟨k0, k1, k2, k3, k4, k5, k6, k7, k8, k9, k10, k11, k12⟩ := thirteen (H3.out.get 1 rfl)
    have hS : (fun w' : World => w'.cell? ⟨gm, 0, none⟩ = some (.slice B1 x.secs.length d1) ∧ w'.cell? ⟨gm, 1, none⟩ = some (.slice B2 x.cache.length d2) ∧ w'.cell? ⟨gm, 2, none⟩ = some (.bool xf) ∧ w'.cell? ⟨gm, 3, none⟩ = some (.slice B3 x.bad.length d3) ∧ w'.cell? ⟨w.heap.size, 0, none⟩ = some (.int .i64 id) ∧ w'.cell? ⟨w.heap.size, 1, none⟩ = some (.int .i64 gn) ∧ w'.cell? ⟨w.heap.size, 2, none⟩ = some (.int .i64 gs) ∧ w'.cell? ⟨w.heap.size, 3, none⟩ = some (.slice (some ad) mems.length c1) ∧ w'.cell? ⟨w.heap.size, 4, none⟩ = some (.int .i64 lost) ∧ w'.cell? ⟨w.heap.size, 5, none⟩ = some (.int .i64 built) ∧ w'.cell? ⟨w.heap.size, 6, none⟩ = some (.int .i64 seq) ∧ w'.cell? ⟨w.heap.size, 7, none⟩ = some (.int .i64 tail) ∧ w'.cell? ⟨w.heap.size, 8, none⟩ = some (.int .i64 gen) ∧ w'.cell? ⟨w.heap.size, 9, none⟩ = some (vd) ∧ w'.cell? ⟨w.heap.size, 10, none⟩ = some (.int .i64 fuse) ∧ w'.cell? ⟨w.heap.size, 11, none⟩ = some (.bool down) ∧ w'.cell? ⟨w.heap.size, 12, none⟩ = some (.bool broken)) w3 := ⟨m0, m1, m2, m3, k0, k1, k2, k3, k4, k5, k6, k7, k8, k9, k10, k11, k12⟩
    refine hK.out _ _ ⟨fun _ _ => hS, ?_⟩; clear hK K; (try simp only [Act.put, qqP])
    repeat ((first | (refine seqp_pure rfl (fun _ _ _ h => h) (by rfl) (fun w_ => by go_simp; first | done | with_reducible rfl) ?_) | (refine seqp_take hS rfl (fun _ _ _ h => h) (by rfl) (fun w_ hSw => by (try dsimp only at hSw); go_simp; first | done | with_reducible rfl) ?_) | (refine seqp_skip2 rfl (fun _ _ _ h => h) (by rfl) ?_) | (refine seqp_skip1 hS rfl (fun _ _ _ h => h) (by rfl) ?_) | (refine seqp_skip0 rfl (by rfl) ?_)); (try simp only [Act.put, qqP]))
    clear hS
    refine seqp_done ?_
    go_simp
    go_wp2
    go_ret
    exact ⟨ret_bool (by rw [show memsB (⟨id, gn, gs, mems, lost, built, seq, tail, gen, dirty, fuse, down, broken⟩ : ArrV) = false from allIx_false Hxi.out (by unfold okM; rw [HMB.out]; rfl)]; rfl), H3.out.toBelow⟩
  ·obtain rfl : i = mems.length := by omega
   have hmm : memsB (⟨id, gn, gs, mems, lost, built, seq, tail, gen, dirty, fuse, down, broken⟩ : ArrV) = true := allIx_true (fun j y hj hy => ht.out j y hj hy)
   have HMM := Aside0.mk hmm
   clear hmm
   go_wp2
   go_ret
   exact ⟨ret_bool (by rw [HMM.out]; rfl), HR.out.toBelow⟩
end AOkS
end Go.Proofs.YtggmifnblcjdfaaGreat
