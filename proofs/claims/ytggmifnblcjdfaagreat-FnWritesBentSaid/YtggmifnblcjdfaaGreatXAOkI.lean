/- Own text: AOkI. -/
import Derived.Test.YtggmifnblcjdfaaGreatXAOkD
set_option linter.unusedVariables false
set_option linter.unusedSimpArgs false
namespace Go.Proofs.YtggmifnblcjdfaaGreat
namespace AOkI
open Go.RowKit RJ RP Go.Proofs.YtggmifnblcjdfaaGreatW.PrintWords Fp FpStep MInt MKinds MRead MMake MPut MHeld MOk MSuper Go.Proofs.YtggmifnblcjdfaaGreat.Sep SepStep AKinds AMake AEnt ALaw AArr AOk AOkD
set_option maxHeartbeats 1000000 in
theorem c_hasStripe (n s st : Int) (w : World) (hg : geoB n s = true) :
  Calls Tryz.prog 38 #[.agg #[.int .i64 n, .int .i64 s], .int .i64 st] w fun e w' => e = .returned (.bool (inR st 0 (s - 1))) ∧ Below w.heap.size w w' := by
 have hs : 1 ≤ s ∧ s ≤ 8 := by simp [geoB, inR] at hg; omega
 have ws : IntKind.i64.wrap (s - 1) = s - 1 := IntWalk.i64_in _ (by omega)
 have HG := Aside0.mk hg
 clear hs hg
 have H0 := Aside0.mk ((Sep.start w []).alloc (g := w.heap.size) rfl #[.int .i64 n, .int .i64 s] 30)
 go_enter Tryz.func38, Tryz.ntmps38
 go_wp2_with (first
  | (go_at_call 78; refine (c_within _ _ _ _).mono ?_; rintro e w2 ⟨rfl, hb⟩; have HS2 := Aside0.mk (HS1.out.dr hb); clear hb)
  | (go_at_call 77; refine (c_implGeoOk _ _ _).mono ?_; rw [HG.out]; rintro e w1 ⟨rfl, hb⟩; have HS1 := Aside0.mk (H0.out.below hb); clear hb; obtain ⟨k0, k1⟩ := two_cells (HS1.out.get 0 rfl))
  | fail)
 go_ret
 exact ⟨rfl, HS2.out.toBelow⟩
set_option maxHeartbeats 1000000 in
theorem c_dataOk {w : World} {n s : Int} {v : Value} {xs : List Int} (h : RK kInt w v xs) (hn : 0 ≤ n ∧ n ≤ 1000) :
  Calls Tryz.prog 37 #[.agg #[.int .i64 n, .int .i64 s], v] w fun e w' => e = .returned (.bool (decide ((xs.length : Int) = n - 1) && xs.all isW)) ∧ Below w.heap.size w w' := by
 have lx := RK_len h
 have wn : IntKind.i64.wrap (n - 1) = n - 1 := IntWalk.i64_in _ (by omega)
 obtain ⟨A, c, rfl, _⟩ := id h
 have H := Aside0.mk h
 clear h hn
 have H0 := Aside0.mk ((Sep.start w []).alloc (g := w.heap.size) rfl #[.int .i64 n, .int .i64 s] 30)
 by_cases hl : (xs.length : Int) = n - 1
 ·have hl2 : ((xs.length : Int) == n - 1) = true := by simp [hl]
  have HD := Aside0.mk (decide_eq_true hl)
  clear hl
  go_enter Tryz.func37, Tryz.ntmps37
  go_wp2_with (first
   | (go_at_call 83; refine (c_wordsOk (RK_below H.out (below_alloc (Below.refl _ _) _))).mono ?_; rintro e w1 ⟨rfl, hb⟩; have HS1 := Aside0.mk (H0.out.dr hb); clear hb)
   | fail)
  go_ret
  exact ⟨ret_bool (by rw [HD.out]; rfl), HS1.out.toBelow⟩
 ·have hl2 : ((xs.length : Int) == n - 1) = false := by simp [hl]
  have HD := Aside0.mk (decide_eq_false hl)
  clear hl
  go_enter Tryz.func37, Tryz.ntmps37
  go_wp2
  go_ret
  exact ⟨ret_bool (by rw [HD.out]; rfl), H0.out.toBelow⟩
set_option maxHeartbeats 8000000 in
set_option maxRecDepth 100000 in
theorem c_dirtyOk {w : World} {v : Value} {a : ArrV} (h : ArrR w v a) (hg : geoB a.gn a.gs = true) :
  Calls Tryz.prog 80 #[v] w fun e w' => e = .returned (.bool (dirtyB a)) ∧ Below w.heap.size w w' := by
 have hgn : 0 ≤ a.gn ∧ a.gn ≤ 1000 := by simp [geoB, inR] at hg; omega
 have HG := Aside0.mk hg
 have HN := Aside0.mk hgn
 clear hg hgn
 obtain ⟨vm, vd, rfl, r1, r2⟩ := h
 have ld := RK_len r2
 obtain ⟨A1, c1, rfl, hl1, _⟩ := id r2
 have R2 := Aside0.mk r2
 clear r1 r2 hl1
 have H0 := Aside0.mk ((Sep.start w []).alloc (g := w.heap.size) rfl (arrC a vm (.slice A1 a.dirty.length c1)) 34)
 obtain ⟨id, gn, gs, mems, lost, built, seq, tail, gen, dirty, fuse, down, broken⟩ := a
 simp only [arrC] at *
 go_enter Tryz.func80, Tryz.ntmps80
 go_wp2
 go_loopw [8] (fun v8 wr => ∃ i : Nat, i ≤ dirty.length ∧ v8 = .int .i64 i ∧ Aside0 (∀ j y, j < i → dirty[j]? = some y → okE (⟨id, gn, gs, mems, lost, built, seq, tail, gen, dirty, fuse, down, broken⟩ : ArrV) j y = true) ∧ Aside0 (Sep w [] wr [bx w.heap.size 34 #[.int .i64 id, .int .i64 gn, .int .i64 gs, vm, .int .i64 lost, .int .i64 built, .int .i64 seq, .int .i64 tail, .int .i64 gen, .slice A1 dirty.length c1, .int .i64 fuse, .bool down, .bool broken]])) (fun v8 _ => dirty.length - (intOf v8).toNat)
 case atStart => exact ⟨0, by omega, rfl, ⟨fun j y hj => by omega⟩, H0⟩
 case round =>
  clear H0
  obtain ⟨i, hi, rfl, ht, HR⟩ := hrel
  obtain ⟨k0, k1, k2, k3, k4, k5, k6, k7, k8, k9, k10, k11, k12⟩ := thirteen (HR.out.get 0 rfl)
  by_cases hlt : i < dirty.length
  ·obtain ⟨⟨n, xs⟩, hxi⟩ : ∃ x, dirty[i]? = some x := ⟨_, List.getElem?_eq_getElem hlt⟩
   obtain ⟨ad, cap, ha, hc⟩ := RK_wrs R2.out (by omega)
   obtain rfl := (Value.slice.inj ha).1
   obtain ⟨u, cn, cu, ru⟩ := hc i (n, xs) hxi
   have lu := RK_len ru
   have ru9 := ru
   obtain ⟨U, uc, rfl, hu1, _⟩ := ru9
   simp only at cn cu ru lu
   replace cn := HR.out.old cn
   replace cu := HR.out.old cu
   have RU0 := Aside0.mk (RK_below ru HR.out.toBelow)
   have Hxi := Aside0.mk hxi
   have HC := Aside0.mk hc
   have i0 : (0 : Int) ≤ (i : Int) := by omega
   have i1 : (i : Int) < (dirty.length : Int) := by omega
   clear ha hc ru hxi hu1
   go_upto_region 4 with fail
   have hB := HR.out.alloc (g := wr.heap.size) rfl #[.int .i64 n, .slice U xs.length uc] 91
   have RU := Aside0.mk (RK_below RU0.out (below_alloc (Below.refl _ _) (.cells #[.int .i64 n, .slice U xs.length uc] 91 (0, 0))))
   generalize hgg : wr.heap.size = gm at *
   generalize hww : wr.alloc (.cells #[.int .i64 n, .slice U xs.length uc] 91 (0, 0)) = wm at *
   have Hm := Aside0.mk hB
   clear hB hgg hww cn cu HR RU0 k0 k1 k2 k3 k4 k5 k6 k7 k8 k9 k10 k11 k12
   obtain ⟨m0, m1⟩ := two_cells (Hm.out.get 0 rfl)
   obtain ⟨k0, k1, k2, k3, k4, k5, k6, k7, k8, k9, k10, k11, k12⟩ := thirteen (Hm.out.get 1 rfl)
   by_cases hin : inR n 0 (gs - 1) = true
   ·have HIN := Aside0.mk hin
    clear hin
    by_cases h0 : i = 0
    ·have HZ := Aside0.mk h0
     have hz : decide (0 < i) = false := by rw [decide_eq_false_iff_not]; omega
     clear h0
     by_cases hd : (decide ((xs.length : Int) = gn - 1) && xs.all isW) = true
     ·have HD := Aside0.mk hd
      obtain ⟨hd1, hd2⟩ := Bool.and_eq_true_iff.1 hd
      have HD1 := Aside0.mk hd1
      have HD2 := Aside0.mk hd2
      clear hd hd1 hd2
      have HALL : ∀ w' : World, Below wm.heap.size wm w' → (w'.cell? ⟨gm, 0, none⟩ = some (.int .i64 n) ∧ w'.cell? ⟨gm, 1, none⟩ = some (.slice U xs.length uc) ∧ w'.cell? ⟨w.heap.size, 0, none⟩ = some (.int .i64 id) ∧ w'.cell? ⟨w.heap.size, 1, none⟩ = some (.int .i64 gn) ∧ w'.cell? ⟨w.heap.size, 2, none⟩ = some (.int .i64 gs) ∧ w'.cell? ⟨w.heap.size, 3, none⟩ = some (vm) ∧ w'.cell? ⟨w.heap.size, 4, none⟩ = some (.int .i64 lost) ∧ w'.cell? ⟨w.heap.size, 5, none⟩ = some (.int .i64 built) ∧ w'.cell? ⟨w.heap.size, 6, none⟩ = some (.int .i64 seq) ∧ w'.cell? ⟨w.heap.size, 7, none⟩ = some (.int .i64 tail) ∧ w'.cell? ⟨w.heap.size, 8, none⟩ = some (.int .i64 gen) ∧ w'.cell? ⟨w.heap.size, 9, none⟩ = some (.slice (some ad) dirty.length c1) ∧ w'.cell? ⟨w.heap.size, 10, none⟩ = some (.int .i64 fuse) ∧ w'.cell? ⟨w.heap.size, 11, none⟩ = some (.bool down) ∧ w'.cell? ⟨w.heap.size, 12, none⟩ = some (.bool broken)) := fun w' hb => ⟨(hb.cell (lt_of_cell m0)).trans m0, (hb.cell (lt_of_cell m1)).trans m1, (hb.cell (lt_of_cell k0)).trans k0, (hb.cell (lt_of_cell k1)).trans k1, (hb.cell (lt_of_cell k2)).trans k2, (hb.cell (lt_of_cell k3)).trans k3, (hb.cell (lt_of_cell k4)).trans k4, (hb.cell (lt_of_cell k5)).trans k5, (hb.cell (lt_of_cell k6)).trans k6, (hb.cell (lt_of_cell k7)).trans k7, (hb.cell (lt_of_cell k8)).trans k8, (hb.cell (lt_of_cell k9)).trans k9, (hb.cell (lt_of_cell k10)).trans k10, (hb.cell (lt_of_cell k11)).trans k11, (hb.cell (lt_of_cell k12)).trans k12⟩
      replace HALL := Aside0.mk HALL
      clear m0 m1 k0 k1 k2 k3 k4 k5 k6 k7 k8 k9 k10 k11 k12
      refine wp_region_seqp (fun w' => Below wm.heap.size wm w') [] [(0, 2), (2, 2), (1, 1), (3, 1), (4, 0), (5, 2), (6, 2), (7, 2), (8, 2), (9, 2), (10, 2), (12, 2), (13, 2), (17, 2), (11, 1), (14, 2), (15, 2), (16, 1), (18, 1), (19, 2), (20, 2), (21, 2), (22, 2), (23, 2), (25, 2), (24, 1), (26, 1), (27, 0), (28, 2), (29, 2)] (by kernel_rfl) (by kernel_rfl) ?_
      have hS : Below wm.heap.size wm wm.drew := Below.drew (Below.refl _ _)
      repeat ((first | (refine seqp_pure rfl (fun _ _ _ h => h) (by rfl) (fun w_ => by go_simp; first | done | with_reducible rfl) ?_) | (refine seqp_take hS rfl (fun _ _ _ h => h) (by rfl) (fun w_ hSw => by have hSc := HALL.out w_ hSw; clear hSw; go_simp; first | done | with_reducible rfl) ?_) | (refine seqp_skip2 rfl (fun _ _ _ h => h) (by rfl) ?_) | (refine seqp_skip1 hS rfl (fun _ _ _ h => h) (by rfl) ?_) | (refine seqp_skip0 rfl (by rfl) ?_)); (try simp only [Act.put, qqP]))
      refine seqp_step rfl (fun K hK => ?_)
      go_simp
      go_at_call 38; refine (c_hasStripe _ _ _ _ HG.out).mono ?_; rw [HIN.out]; rintro e w3 ⟨rfl, hb⟩
      replace hS := hS.trans (hb.mono hS.size); clear hb; refine hK.out _ _ ⟨fun _ _ => hS, ?_⟩; clear hK K; (try simp only [Act.put, qqP])
      repeat ((first | (refine seqp_pure rfl (fun _ _ _ h => h) (by rfl) (fun w_ => by go_simp; first | done | with_reducible rfl) ?_) | (refine seqp_take hS rfl (fun _ _ _ h => h) (by rfl) (fun w_ hSw => by have hSc := HALL.out w_ hSw; clear hSw; go_simp; first | done | with_reducible rfl) ?_) | (refine seqp_skip2 rfl (fun _ _ _ h => h) (by rfl) ?_) | (refine seqp_skip1 hS rfl (fun _ _ _ h => h) (by rfl) ?_) | (refine seqp_skip0 rfl (by rfl) ?_)); (try simp only [Act.put, qqP]))
      refine seqp_step rfl (fun K hK => ?_)
      go_simp
      go_at_call 37; refine (c_dataOk (RK_below RU.out hS) HN.out).mono ?_; rw [HD.out]; rintro e w4 ⟨rfl, hb⟩
      replace hS := hS.trans (hb.mono hS.size); clear hb; refine hK.out _ _ ⟨fun _ _ => hS, ?_⟩; clear hK K; (try simp only [Act.put, qqP])
      repeat ((first | (refine seqp_pure rfl (fun _ _ _ h => h) (by rfl) (fun w_ => by go_simp; first | done | with_reducible rfl) ?_) | (refine seqp_take hS rfl (fun _ _ _ h => h) (by rfl) (fun w_ hSw => by have hSc := HALL.out w_ hSw; clear hSw; go_simp; first | done | with_reducible rfl) ?_) | (refine seqp_skip2 rfl (fun _ _ _ h => h) (by rfl) ?_) | (refine seqp_skip1 hS rfl (fun _ _ _ h => h) (by rfl) ?_) | (refine seqp_skip0 rfl (by rfl) ?_)); (try simp only [Act.put, qqP]))
      have HE := Aside0.mk (Hm.out.below hS)
      clear hS HALL
      refine seqp_done ?_
      go_simp
      go_wp2
      go_roundw
      case rel => exact ⟨i + 1, by omega, by go_num, ⟨ix_next ht.out Hxi.out (by unfold okE; simp only; rw [HIN.out, HD1.out, HD2.out, decide_eq_true HZ.out]; rfl)⟩, ⟨by have hB := HE.out.sel [1] (by decide) (by simp); simp only [qqN] at hB; exact hB⟩⟩
      case measure => simp [intOf]; omega
     ·have HD := Aside0.mk (Bool.eq_false_iff.2 hd)
      have HD2 := Aside0.mk HD.out
      clear hd
      have HALL : ∀ w' : World, Below wm.heap.size wm w' → (w'.cell? ⟨gm, 0, none⟩ = some (.int .i64 n) ∧ w'.cell? ⟨gm, 1, none⟩ = some (.slice U xs.length uc) ∧ w'.cell? ⟨w.heap.size, 0, none⟩ = some (.int .i64 id) ∧ w'.cell? ⟨w.heap.size, 1, none⟩ = some (.int .i64 gn) ∧ w'.cell? ⟨w.heap.size, 2, none⟩ = some (.int .i64 gs) ∧ w'.cell? ⟨w.heap.size, 3, none⟩ = some (vm) ∧ w'.cell? ⟨w.heap.size, 4, none⟩ = some (.int .i64 lost) ∧ w'.cell? ⟨w.heap.size, 5, none⟩ = some (.int .i64 built) ∧ w'.cell? ⟨w.heap.size, 6, none⟩ = some (.int .i64 seq) ∧ w'.cell? ⟨w.heap.size, 7, none⟩ = some (.int .i64 tail) ∧ w'.cell? ⟨w.heap.size, 8, none⟩ = some (.int .i64 gen) ∧ w'.cell? ⟨w.heap.size, 9, none⟩ = some (.slice (some ad) dirty.length c1) ∧ w'.cell? ⟨w.heap.size, 10, none⟩ = some (.int .i64 fuse) ∧ w'.cell? ⟨w.heap.size, 11, none⟩ = some (.bool down) ∧ w'.cell? ⟨w.heap.size, 12, none⟩ = some (.bool broken)) := fun w' hb => ⟨(hb.cell (lt_of_cell m0)).trans m0, (hb.cell (lt_of_cell m1)).trans m1, (hb.cell (lt_of_cell k0)).trans k0, (hb.cell (lt_of_cell k1)).trans k1, (hb.cell (lt_of_cell k2)).trans k2, (hb.cell (lt_of_cell k3)).trans k3, (hb.cell (lt_of_cell k4)).trans k4, (hb.cell (lt_of_cell k5)).trans k5, (hb.cell (lt_of_cell k6)).trans k6, (hb.cell (lt_of_cell k7)).trans k7, (hb.cell (lt_of_cell k8)).trans k8, (hb.cell (lt_of_cell k9)).trans k9, (hb.cell (lt_of_cell k10)).trans k10, (hb.cell (lt_of_cell k11)).trans k11, (hb.cell (lt_of_cell k12)).trans k12⟩
      replace HALL := Aside0.mk HALL
      clear m0 m1 k0 k1 k2 k3 k4 k5 k6 k7 k8 k9 k10 k11 k12
      refine wp_region_seqp (fun w' => Below wm.heap.size wm w') [] [(0, 2), (2, 2), (1, 1), (3, 1), (4, 0), (5, 2), (6, 2), (7, 2), (8, 2), (9, 2), (10, 2), (12, 2), (13, 2), (17, 2), (11, 1), (14, 2), (15, 2), (16, 1), (18, 1), (19, 2), (20, 2), (21, 2), (22, 2), (23, 2), (25, 2), (24, 1), (26, 1), (27, 0), (28, 2), (29, 2)] (by kernel_rfl) (by kernel_rfl) ?_
      have hS : Below wm.heap.size wm wm.drew := Below.drew (Below.refl _ _)
      repeat ((first | (refine seqp_pure rfl (fun _ _ _ h => h) (by rfl) (fun w_ => by go_simp; first | done | with_reducible rfl) ?_) | (refine seqp_take hS rfl (fun _ _ _ h => h) (by rfl) (fun w_ hSw => by have hSc := HALL.out w_ hSw; clear hSw; go_simp; first | done | with_reducible rfl) ?_) | (refine seqp_skip2 rfl (fun _ _ _ h => h) (by rfl) ?_) | (refine seqp_skip1 hS rfl (fun _ _ _ h => h) (by rfl) ?_) | (refine seqp_skip0 rfl (by rfl) ?_)); (try simp only [Act.put, qqP]))
      refine seqp_step rfl (fun K hK => ?_)
      go_simp
      go_at_call 38; refine (c_hasStripe _ _ _ _ HG.out).mono ?_; rw [HIN.out]; rintro e w3 ⟨rfl, hb⟩
      replace hS := hS.trans (hb.mono hS.size); clear hb; refine hK.out _ _ ⟨fun _ _ => hS, ?_⟩; clear hK K; (try simp only [Act.put, qqP])
      repeat ((first | (refine seqp_pure rfl (fun _ _ _ h => h) (by rfl) (fun w_ => by go_simp; first | done | with_reducible rfl) ?_) | (refine seqp_take hS rfl (fun _ _ _ h => h) (by rfl) (fun w_ hSw => by have hSc := HALL.out w_ hSw; clear hSw; go_simp; first | done | with_reducible rfl) ?_) | (refine seqp_skip2 rfl (fun _ _ _ h => h) (by rfl) ?_) | (refine seqp_skip1 hS rfl (fun _ _ _ h => h) (by rfl) ?_) | (refine seqp_skip0 rfl (by rfl) ?_)); (try simp only [Act.put, qqP]))
      refine seqp_step rfl (fun K hK => ?_)
      go_simp
      go_at_call 37; refine (c_dataOk (RK_below RU.out hS) HN.out).mono ?_; rw [HD.out]; rintro e w4 ⟨rfl, hb⟩
      replace hS := hS.trans (hb.mono hS.size); clear hb; refine hK.out _ _ ⟨fun _ _ => hS, ?_⟩; clear hK K; (try simp only [Act.put, qqP])
      repeat ((first | (refine seqp_pure rfl (fun _ _ _ h => h) (by rfl) (fun w_ => by go_simp; first | done | with_reducible rfl) ?_) | (refine seqp_take hS rfl (fun _ _ _ h => h) (by rfl) (fun w_ hSw => by have hSc := HALL.out w_ hSw; clear hSw; go_simp; first | done | with_reducible rfl) ?_) | (refine seqp_skip2 rfl (fun _ _ _ h => h) (by rfl) ?_) | (refine seqp_skip1 hS rfl (fun _ _ _ h => h) (by rfl) ?_) | (refine seqp_skip0 rfl (by rfl) ?_)); (try simp only [Act.put, qqP]))
      have HE := Aside0.mk (Hm.out.below hS)
      clear hS HALL
      refine seqp_done ?_
      go_simp
      go_wp2
      go_ret
      exact ⟨ret_bool (by rw [show dirtyB (⟨id, gn, gs, mems, lost, built, seq, tail, gen, dirty, fuse, down, broken⟩ : ArrV) = false from allIx_false Hxi.out (by unfold okE; simp only; rw [HIN.out, Bool.true_and, ← Bool.and_assoc, HD2.out]; rfl)]), HE.out.toBelow⟩
    ·obtain ⟨p, hp⟩ : ∃ p : Nat, i = p + 1 := ⟨i - 1, by omega⟩
     obtain ⟨⟨y, ys⟩, hyi⟩ : ∃ y, dirty[p]? = some y := ⟨_, List.getElem?_eq_getElem (by omega)⟩
     obtain ⟨u2, cy, _, _⟩ := HC.out p (y, ys) hyi
     have hgd : (dirty.getD (i - 1) (0, [])).1 = y := by rw [hp, Nat.add_sub_cancel, List.getD_eq_getElem?_getD, hyi]; rfl
     replace cy := Hm.out.old cy
     have hz : decide (0 < i) = true := by rw [decide_eq_true_eq]; omega
     have p0 : (0 : Int) ≤ (p : Int) := Int.natCast_nonneg _
     have p1 : (p : Int) < (dirty.length : Int) := by omega
     have ws2 : IntKind.i64.wrap ((i : Int) - 1) = (p : Int) := by rw [IntWalk.i64_in _ (by omega)]; omega
     have HGD := Aside0.mk hgd
     clear hgd hyi
     by_cases hyx : y < n
     ·have hge : decide (n ≤ y) = false := by rw [decide_eq_false_iff_not]; omega
      have HYX := Aside0.mk hyx
      clear h0 hp hyx
      by_cases hd : (decide ((xs.length : Int) = gn - 1) && xs.all isW) = true
      ·have HD := Aside0.mk hd
       obtain ⟨hd1, hd2⟩ := Bool.and_eq_true_iff.1 hd
       have HD1 := Aside0.mk hd1
       have HD2 := Aside0.mk hd2
       clear hd hd1 hd2
       have HALL : ∀ w' : World, Below wm.heap.size wm w' → (w'.cell? ⟨gm, 0, none⟩ = some (.int .i64 n) ∧ w'.cell? ⟨gm, 1, none⟩ = some (.slice U xs.length uc) ∧ w'.cell? ⟨w.heap.size, 0, none⟩ = some (.int .i64 id) ∧ w'.cell? ⟨w.heap.size, 1, none⟩ = some (.int .i64 gn) ∧ w'.cell? ⟨w.heap.size, 2, none⟩ = some (.int .i64 gs) ∧ w'.cell? ⟨w.heap.size, 3, none⟩ = some (vm) ∧ w'.cell? ⟨w.heap.size, 4, none⟩ = some (.int .i64 lost) ∧ w'.cell? ⟨w.heap.size, 5, none⟩ = some (.int .i64 built) ∧ w'.cell? ⟨w.heap.size, 6, none⟩ = some (.int .i64 seq) ∧ w'.cell? ⟨w.heap.size, 7, none⟩ = some (.int .i64 tail) ∧ w'.cell? ⟨w.heap.size, 8, none⟩ = some (.int .i64 gen) ∧ w'.cell? ⟨w.heap.size, 9, none⟩ = some (.slice (some ad) dirty.length c1) ∧ w'.cell? ⟨w.heap.size, 10, none⟩ = some (.int .i64 fuse) ∧ w'.cell? ⟨w.heap.size, 11, none⟩ = some (.bool down) ∧ w'.cell? ⟨w.heap.size, 12, none⟩ = some (.bool broken) ∧ w'.cell? (ad.add (p * 2)) = some (.int .i64 y)) := fun w' hb => ⟨(hb.cell (lt_of_cell m0)).trans m0, (hb.cell (lt_of_cell m1)).trans m1, (hb.cell (lt_of_cell k0)).trans k0, (hb.cell (lt_of_cell k1)).trans k1, (hb.cell (lt_of_cell k2)).trans k2, (hb.cell (lt_of_cell k3)).trans k3, (hb.cell (lt_of_cell k4)).trans k4, (hb.cell (lt_of_cell k5)).trans k5, (hb.cell (lt_of_cell k6)).trans k6, (hb.cell (lt_of_cell k7)).trans k7, (hb.cell (lt_of_cell k8)).trans k8, (hb.cell (lt_of_cell k9)).trans k9, (hb.cell (lt_of_cell k10)).trans k10, (hb.cell (lt_of_cell k11)).trans k11, (hb.cell (lt_of_cell k12)).trans k12, (hb.cell (lt_of_cell cy)).trans cy⟩
       replace HALL := Aside0.mk HALL
       clear m0 m1 k0 k1 k2 k3 k4 k5 k6 k7 k8 k9 k10 k11 k12 cy
       refine wp_region_seqp (fun w' => Below wm.heap.size wm w') [] [(0, 2), (2, 2), (1, 1), (3, 1), (4, 0), (5, 2), (6, 2), (7, 2), (8, 2), (9, 2), (10, 2), (12, 2), (13, 2), (17, 2), (11, 1), (14, 2), (15, 2), (16, 1), (18, 1), (19, 2), (20, 2), (21, 2), (22, 2), (23, 2), (25, 2), (24, 1), (26, 1), (27, 0), (28, 2), (29, 2)] (by kernel_rfl) (by kernel_rfl) ?_
       have hS : Below wm.heap.size wm wm.drew := Below.drew (Below.refl _ _)
       repeat ((first | (refine seqp_pure rfl (fun _ _ _ h => h) (by rfl) (fun w_ => by go_simp; first | done | with_reducible rfl) ?_) | (refine seqp_take hS rfl (fun _ _ _ h => h) (by rfl) (fun w_ hSw => by have hSc := HALL.out w_ hSw; clear hSw; go_simp; first | done | with_reducible rfl) ?_) | (refine seqp_skip2 rfl (fun _ _ _ h => h) (by rfl) ?_) | (refine seqp_skip1 hS rfl (fun _ _ _ h => h) (by rfl) ?_) | (refine seqp_skip0 rfl (by rfl) ?_)); (try simp only [Act.put, qqP]))
       refine seqp_step rfl (fun K hK => ?_)
       go_simp
       go_at_call 38; refine (c_hasStripe _ _ _ _ HG.out).mono ?_; rw [HIN.out]; rintro e w3 ⟨rfl, hb⟩
       replace hS := hS.trans (hb.mono hS.size); clear hb; refine hK.out _ _ ⟨fun _ _ => hS, ?_⟩; clear hK K; (try simp only [Act.put, qqP])
       repeat ((first | (refine seqp_pure rfl (fun _ _ _ h => h) (by rfl) (fun w_ => by go_simp; first | done | with_reducible rfl) ?_) | (refine seqp_take hS rfl (fun _ _ _ h => h) (by rfl) (fun w_ hSw => by have hSc := HALL.out w_ hSw; clear hSw; go_simp; first | done | with_reducible rfl) ?_) | (refine seqp_skip2 rfl (fun _ _ _ h => h) (by rfl) ?_) | (refine seqp_skip1 hS rfl (fun _ _ _ h => h) (by rfl) ?_) | (refine seqp_skip0 rfl (by rfl) ?_)); (try simp only [Act.put, qqP]))
       refine seqp_step rfl (fun K hK => ?_)
       go_simp
       go_at_call 37; refine (c_dataOk (RK_below RU.out hS) HN.out).mono ?_; rw [HD.out]; rintro e w4 ⟨rfl, hb⟩
       replace hS := hS.trans (hb.mono hS.size); clear hb; refine hK.out _ _ ⟨fun _ _ => hS, ?_⟩; clear hK K; (try simp only [Act.put, qqP])
       repeat ((first | (refine seqp_pure rfl (fun _ _ _ h => h) (by rfl) (fun w_ => by go_simp; first | done | with_reducible rfl) ?_) | (refine seqp_take hS rfl (fun _ _ _ h => h) (by rfl) (fun w_ hSw => by have hSc := HALL.out w_ hSw; clear hSw; go_simp; first | done | with_reducible rfl) ?_) | (refine seqp_skip2 rfl (fun _ _ _ h => h) (by rfl) ?_) | (refine seqp_skip1 hS rfl (fun _ _ _ h => h) (by rfl) ?_) | (refine seqp_skip0 rfl (by rfl) ?_)); (try simp only [Act.put, qqP]))
       have HE := Aside0.mk (Hm.out.below hS)
       clear hS HALL
       refine seqp_done ?_
       go_simp
       go_wp2
       go_roundw
       case rel => exact ⟨i + 1, by omega, by go_num, ⟨ix_next ht.out Hxi.out (by unfold okE; simp only; rw [HIN.out, HD1.out, HD2.out, HGD.out, decide_eq_true HYX.out]; simp)⟩, ⟨by have hB := HE.out.sel [1] (by decide) (by simp); simp only [qqN] at hB; exact hB⟩⟩
       case measure => simp [intOf]; omega
      ·have HD := Aside0.mk (Bool.eq_false_iff.2 hd)
       have HD2 := Aside0.mk HD.out
       clear hd
       have HALL : ∀ w' : World, Below wm.heap.size wm w' → (w'.cell? ⟨gm, 0, none⟩ = some (.int .i64 n) ∧ w'.cell? ⟨gm, 1, none⟩ = some (.slice U xs.length uc) ∧ w'.cell? ⟨w.heap.size, 0, none⟩ = some (.int .i64 id) ∧ w'.cell? ⟨w.heap.size, 1, none⟩ = some (.int .i64 gn) ∧ w'.cell? ⟨w.heap.size, 2, none⟩ = some (.int .i64 gs) ∧ w'.cell? ⟨w.heap.size, 3, none⟩ = some (vm) ∧ w'.cell? ⟨w.heap.size, 4, none⟩ = some (.int .i64 lost) ∧ w'.cell? ⟨w.heap.size, 5, none⟩ = some (.int .i64 built) ∧ w'.cell? ⟨w.heap.size, 6, none⟩ = some (.int .i64 seq) ∧ w'.cell? ⟨w.heap.size, 7, none⟩ = some (.int .i64 tail) ∧ w'.cell? ⟨w.heap.size, 8, none⟩ = some (.int .i64 gen) ∧ w'.cell? ⟨w.heap.size, 9, none⟩ = some (.slice (some ad) dirty.length c1) ∧ w'.cell? ⟨w.heap.size, 10, none⟩ = some (.int .i64 fuse) ∧ w'.cell? ⟨w.heap.size, 11, none⟩ = some (.bool down) ∧ w'.cell? ⟨w.heap.size, 12, none⟩ = some (.bool broken) ∧ w'.cell? (ad.add (p * 2)) = some (.int .i64 y)) := fun w' hb => ⟨(hb.cell (lt_of_cell m0)).trans m0, (hb.cell (lt_of_cell m1)).trans m1, (hb.cell (lt_of_cell k0)).trans k0, (hb.cell (lt_of_cell k1)).trans k1, (hb.cell (lt_of_cell k2)).trans k2, (hb.cell (lt_of_cell k3)).trans k3, (hb.cell (lt_of_cell k4)).trans k4, (hb.cell (lt_of_cell k5)).trans k5, (hb.cell (lt_of_cell k6)).trans k6, (hb.cell (lt_of_cell k7)).trans k7, (hb.cell (lt_of_cell k8)).trans k8, (hb.cell (lt_of_cell k9)).trans k9, (hb.cell (lt_of_cell k10)).trans k10, (hb.cell (lt_of_cell k11)).trans k11, (hb.cell (lt_of_cell k12)).trans k12, (hb.cell (lt_of_cell cy)).trans cy⟩
       replace HALL := Aside0.mk HALL
       clear m0 m1 k0 k1 k2 k3 k4 k5 k6 k7 k8 k9 k10 k11 k12 cy
       refine wp_region_seqp (fun w' => Below wm.heap.size wm w') [] [(0, 2), (2, 2), (1, 1), (3, 1), (4, 0), (5, 2), (6, 2), (7, 2), (8, 2), (9, 2), (10, 2), (12, 2), (13, 2), (17, 2), (11, 1), (14, 2), (15, 2), (16, 1), (18, 1), (19, 2), (20, 2), (21, 2), (22, 2), (23, 2), (25, 2), (24, 1), (26, 1), (27, 0), (28, 2), (29, 2)] (by kernel_rfl) (by kernel_rfl) ?_
       have hS : Below wm.heap.size wm wm.drew := Below.drew (Below.refl _ _)
       repeat ((first | (refine seqp_pure rfl (fun _ _ _ h => h) (by rfl) (fun w_ => by go_simp; first | done | with_reducible rfl) ?_) | (refine seqp_take hS rfl (fun _ _ _ h => h) (by rfl) (fun w_ hSw => by have hSc := HALL.out w_ hSw; clear hSw; go_simp; first | done | with_reducible rfl) ?_) | (refine seqp_skip2 rfl (fun _ _ _ h => h) (by rfl) ?_) | (refine seqp_skip1 hS rfl (fun _ _ _ h => h) (by rfl) ?_) | (refine seqp_skip0 rfl (by rfl) ?_)); (try simp only [Act.put, qqP]))
       refine seqp_step rfl (fun K hK => ?_)
       go_simp
       go_at_call 38; refine (c_hasStripe _ _ _ _ HG.out).mono ?_; rw [HIN.out]; rintro e w3 ⟨rfl, hb⟩
       replace hS := hS.trans (hb.mono hS.size); clear hb; refine hK.out _ _ ⟨fun _ _ => hS, ?_⟩; clear hK K; (try simp only [Act.put, qqP])
       repeat ((first | (refine seqp_pure rfl (fun _ _ _ h => h) (by rfl) (fun w_ => by go_simp; first | done | with_reducible rfl) ?_) | (refine seqp_take hS rfl (fun _ _ _ h => h) (by rfl) (fun w_ hSw => by have hSc := HALL.out w_ hSw; clear hSw; go_simp; first | done | with_reducible rfl) ?_) | (refine seqp_skip2 rfl (fun _ _ _ h => h) (by rfl) ?_) | (refine seqp_skip1 hS rfl (fun _ _ _ h => h) (by rfl) ?_) | (refine seqp_skip0 rfl (by rfl) ?_)); (try simp only [Act.put, qqP]))
       refine seqp_step rfl (fun K hK => ?_)
       go_simp
       go_at_call 37; refine (c_dataOk (RK_below RU.out hS) HN.out).mono ?_; rw [HD.out]; rintro e w4 ⟨rfl, hb⟩
       replace hS := hS.trans (hb.mono hS.size); clear hb; refine hK.out _ _ ⟨fun _ _ => hS, ?_⟩; clear hK K; (try simp only [Act.put, qqP])
       repeat ((first | (refine seqp_pure rfl (fun _ _ _ h => h) (by rfl) (fun w_ => by go_simp; first | done | with_reducible rfl) ?_) | (refine seqp_take hS rfl (fun _ _ _ h => h) (by rfl) (fun w_ hSw => by have hSc := HALL.out w_ hSw; clear hSw; go_simp; first | done | with_reducible rfl) ?_) | (refine seqp_skip2 rfl (fun _ _ _ h => h) (by rfl) ?_) | (refine seqp_skip1 hS rfl (fun _ _ _ h => h) (by rfl) ?_) | (refine seqp_skip0 rfl (by rfl) ?_)); (try simp only [Act.put, qqP]))
       have HE := Aside0.mk (Hm.out.below hS)
       clear hS HALL
       refine seqp_done ?_
       go_simp
       go_wp2
       go_ret
       exact ⟨ret_bool (by rw [show dirtyB (⟨id, gn, gs, mems, lost, built, seq, tail, gen, dirty, fuse, down, broken⟩ : ArrV) = false from allIx_false Hxi.out (by unfold okE; simp only; rw [HIN.out, Bool.true_and, ← Bool.and_assoc, HD2.out]; rfl)]), HE.out.toBelow⟩
     ·have hge : decide (n ≤ y) = true := by rw [decide_eq_true_eq]; omega
      have HYX := Aside0.mk hyx
      have H00 := Aside0.mk h0
      clear h0 hp hyx
      have HALL : ∀ w' : World, Below wm.heap.size wm w' → (w'.cell? ⟨gm, 0, none⟩ = some (.int .i64 n) ∧ w'.cell? ⟨gm, 1, none⟩ = some (.slice U xs.length uc) ∧ w'.cell? ⟨w.heap.size, 0, none⟩ = some (.int .i64 id) ∧ w'.cell? ⟨w.heap.size, 1, none⟩ = some (.int .i64 gn) ∧ w'.cell? ⟨w.heap.size, 2, none⟩ = some (.int .i64 gs) ∧ w'.cell? ⟨w.heap.size, 3, none⟩ = some (vm) ∧ w'.cell? ⟨w.heap.size, 4, none⟩ = some (.int .i64 lost) ∧ w'.cell? ⟨w.heap.size, 5, none⟩ = some (.int .i64 built) ∧ w'.cell? ⟨w.heap.size, 6, none⟩ = some (.int .i64 seq) ∧ w'.cell? ⟨w.heap.size, 7, none⟩ = some (.int .i64 tail) ∧ w'.cell? ⟨w.heap.size, 8, none⟩ = some (.int .i64 gen) ∧ w'.cell? ⟨w.heap.size, 9, none⟩ = some (.slice (some ad) dirty.length c1) ∧ w'.cell? ⟨w.heap.size, 10, none⟩ = some (.int .i64 fuse) ∧ w'.cell? ⟨w.heap.size, 11, none⟩ = some (.bool down) ∧ w'.cell? ⟨w.heap.size, 12, none⟩ = some (.bool broken) ∧ w'.cell? (ad.add (p * 2)) = some (.int .i64 y)) := fun w' hb => ⟨(hb.cell (lt_of_cell m0)).trans m0, (hb.cell (lt_of_cell m1)).trans m1, (hb.cell (lt_of_cell k0)).trans k0, (hb.cell (lt_of_cell k1)).trans k1, (hb.cell (lt_of_cell k2)).trans k2, (hb.cell (lt_of_cell k3)).trans k3, (hb.cell (lt_of_cell k4)).trans k4, (hb.cell (lt_of_cell k5)).trans k5, (hb.cell (lt_of_cell k6)).trans k6, (hb.cell (lt_of_cell k7)).trans k7, (hb.cell (lt_of_cell k8)).trans k8, (hb.cell (lt_of_cell k9)).trans k9, (hb.cell (lt_of_cell k10)).trans k10, (hb.cell (lt_of_cell k11)).trans k11, (hb.cell (lt_of_cell k12)).trans k12, (hb.cell (lt_of_cell cy)).trans cy⟩
      replace HALL := Aside0.mk HALL
      clear m0 m1 k0 k1 k2 k3 k4 k5 k6 k7 k8 k9 k10 k11 k12 cy
      refine wp_region_seqp (fun w' => Below wm.heap.size wm w') [] [(0, 2), (2, 2), (1, 1), (3, 1), (4, 0), (5, 2), (6, 2), (7, 2), (8, 2), (9, 2), (10, 2), (12, 2), (13, 2), (17, 2), (11, 1), (14, 2), (15, 2), (16, 1), (18, 1), (19, 2), (20, 2), (21, 2), (22, 2), (23, 2), (25, 2), (24, 1), (26, 1), (27, 0), (28, 2), (29, 2)] (by kernel_rfl) (by kernel_rfl) ?_
      have hS : Below wm.heap.size wm wm.drew := Below.drew (Below.refl _ _)
      repeat ((first | (refine seqp_pure rfl (fun _ _ _ h => h) (by rfl) (fun w_ => by go_simp; first | done | with_reducible rfl) ?_) | (refine seqp_take hS rfl (fun _ _ _ h => h) (by rfl) (fun w_ hSw => by have hSc := HALL.out w_ hSw; clear hSw; go_simp; first | done | with_reducible rfl) ?_) | (refine seqp_skip2 rfl (fun _ _ _ h => h) (by rfl) ?_) | (refine seqp_skip1 hS rfl (fun _ _ _ h => h) (by rfl) ?_) | (refine seqp_skip0 rfl (by rfl) ?_)); (try simp only [Act.put, qqP]))
      refine seqp_step rfl (fun K hK => ?_)
      go_simp
      go_at_call 38; refine (c_hasStripe _ _ _ _ HG.out).mono ?_; rw [HIN.out]; rintro e w3 ⟨rfl, hb⟩
      replace hS := hS.trans (hb.mono hS.size); clear hb; refine hK.out _ _ ⟨fun _ _ => hS, ?_⟩; clear hK K; (try simp only [Act.put, qqP])
      repeat ((first | (refine seqp_pure rfl (fun _ _ _ h => h) (by rfl) (fun w_ => by go_simp; first | done | with_reducible rfl) ?_) | (refine seqp_take hS rfl (fun _ _ _ h => h) (by rfl) (fun w_ hSw => by have hSc := HALL.out w_ hSw; clear hSw; go_simp; first | done | with_reducible rfl) ?_) | (refine seqp_skip2 rfl (fun _ _ _ h => h) (by rfl) ?_) | (refine seqp_skip1 hS rfl (fun _ _ _ h => h) (by rfl) ?_) | (refine seqp_skip0 rfl (by rfl) ?_)); (try simp only [Act.put, qqP]))
      have HE := Aside0.mk (Hm.out.below hS)
      clear hS HALL
      refine seqp_done ?_
      go_simp
      go_wp2
      go_ret
      exact ⟨ret_bool (by rw [show dirtyB (⟨id, gn, gs, mems, lost, built, seq, tail, gen, dirty, fuse, down, broken⟩ : ArrV) = false from allIx_false Hxi.out (by unfold okE; simp only; rw [HIN.out, HGD.out, decide_eq_false (show ¬ y < n by have := HYX.out; omega), decide_eq_false H00.out]; simp)]), HE.out.toBelow⟩
   ·simp only [Bool.not_eq_true] at hin
    have HIN := Aside0.mk hin
    clear hin
    have HALL : ∀ w' : World, Below wm.heap.size wm w' → (w'.cell? ⟨gm, 0, none⟩ = some (.int .i64 n) ∧ w'.cell? ⟨gm, 1, none⟩ = some (.slice U xs.length uc) ∧ w'.cell? ⟨w.heap.size, 0, none⟩ = some (.int .i64 id) ∧ w'.cell? ⟨w.heap.size, 1, none⟩ = some (.int .i64 gn) ∧ w'.cell? ⟨w.heap.size, 2, none⟩ = some (.int .i64 gs) ∧ w'.cell? ⟨w.heap.size, 3, none⟩ = some (vm) ∧ w'.cell? ⟨w.heap.size, 4, none⟩ = some (.int .i64 lost) ∧ w'.cell? ⟨w.heap.size, 5, none⟩ = some (.int .i64 built) ∧ w'.cell? ⟨w.heap.size, 6, none⟩ = some (.int .i64 seq) ∧ w'.cell? ⟨w.heap.size, 7, none⟩ = some (.int .i64 tail) ∧ w'.cell? ⟨w.heap.size, 8, none⟩ = some (.int .i64 gen) ∧ w'.cell? ⟨w.heap.size, 9, none⟩ = some (.slice (some ad) dirty.length c1) ∧ w'.cell? ⟨w.heap.size, 10, none⟩ = some (.int .i64 fuse) ∧ w'.cell? ⟨w.heap.size, 11, none⟩ = some (.bool down) ∧ w'.cell? ⟨w.heap.size, 12, none⟩ = some (.bool broken)) := fun w' hb => ⟨(hb.cell (lt_of_cell m0)).trans m0, (hb.cell (lt_of_cell m1)).trans m1, (hb.cell (lt_of_cell k0)).trans k0, (hb.cell (lt_of_cell k1)).trans k1, (hb.cell (lt_of_cell k2)).trans k2, (hb.cell (lt_of_cell k3)).trans k3, (hb.cell (lt_of_cell k4)).trans k4, (hb.cell (lt_of_cell k5)).trans k5, (hb.cell (lt_of_cell k6)).trans k6, (hb.cell (lt_of_cell k7)).trans k7, (hb.cell (lt_of_cell k8)).trans k8, (hb.cell (lt_of_cell k9)).trans k9, (hb.cell (lt_of_cell k10)).trans k10, (hb.cell (lt_of_cell k11)).trans k11, (hb.cell (lt_of_cell k12)).trans k12⟩
    replace HALL := Aside0.mk HALL
    clear m0 m1 k0 k1 k2 k3 k4 k5 k6 k7 k8 k9 k10 k11 k12
    refine wp_region_seqp (fun w' => Below wm.heap.size wm w') [] [(0, 2), (2, 2), (1, 1), (3, 1), (4, 0), (5, 2), (6, 2), (7, 2), (8, 2), (9, 2), (10, 2), (12, 2), (13, 2), (17, 2), (11, 1), (14, 2), (15, 2), (16, 1), (18, 1), (19, 2), (20, 2), (21, 2), (22, 2), (23, 2), (25, 2), (24, 1), (26, 1), (27, 0), (28, 2), (29, 2)] (by kernel_rfl) (by kernel_rfl) ?_
    have hS : Below wm.heap.size wm wm.drew := Below.drew (Below.refl _ _)
    repeat ((first | (refine seqp_pure rfl (fun _ _ _ h => h) (by rfl) (fun w_ => by go_simp; first | done | with_reducible rfl) ?_) | (refine seqp_take hS rfl (fun _ _ _ h => h) (by rfl) (fun w_ hSw => by have hSc := HALL.out w_ hSw; clear hSw; go_simp; first | done | with_reducible rfl) ?_) | (refine seqp_skip2 rfl (fun _ _ _ h => h) (by rfl) ?_) | (refine seqp_skip1 hS rfl (fun _ _ _ h => h) (by rfl) ?_) | (refine seqp_skip0 rfl (by rfl) ?_)); (try simp only [Act.put, qqP]))
    refine seqp_step rfl (fun K hK => ?_)
    go_simp
    go_at_call 38; refine (c_hasStripe _ _ _ _ HG.out).mono ?_; rw [HIN.out]; rintro e w3 ⟨rfl, hb⟩
    replace hS := hS.trans (hb.mono hS.size); clear hb; refine hK.out _ _ ⟨fun _ _ => hS, ?_⟩; clear hK K; (try simp only [Act.put, qqP])
    repeat ((first | (refine seqp_pure rfl (fun _ _ _ h => h) (by rfl) (fun w_ => by go_simp; first | done | with_reducible rfl) ?_) | (refine seqp_take hS rfl (fun _ _ _ h => h) (by rfl) (fun w_ hSw => by have hSc := HALL.out w_ hSw; clear hSw; go_simp; first | done | with_reducible rfl) ?_) | (refine seqp_skip2 rfl (fun _ _ _ h => h) (by rfl) ?_) | (refine seqp_skip1 hS rfl (fun _ _ _ h => h) (by rfl) ?_) | (refine seqp_skip0 rfl (by rfl) ?_)); (try simp only [Act.put, qqP]))
    have HE := Aside0.mk (Hm.out.below hS)
    clear hS HALL
    refine seqp_done ?_
    go_simp
    go_wp2
    go_ret
    exact ⟨ret_bool (by rw [show dirtyB (⟨id, gn, gs, mems, lost, built, seq, tail, gen, dirty, fuse, down, broken⟩ : ArrV) = false from allIx_false Hxi.out (by unfold okE; simp only; rw [HIN.out]; rfl)]), HE.out.toBelow⟩
  ·obtain rfl : i = dirty.length := by omega
   have hmm : dirtyB (⟨id, gn, gs, mems, lost, built, seq, tail, gen, dirty, fuse, down, broken⟩ : ArrV) = true := allIx_true (fun j y hj hy => ht.out j y hj hy)
   have HMM := Aside0.mk hmm
   clear hmm
   go_wp2
   go_ret
   exact ⟨ret_bool HMM.out.symm, HR.out.toBelow⟩
end AOkI
end Go.Proofs.YtggmifnblcjdfaaGreat
